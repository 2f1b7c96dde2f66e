/- Part 6 of the proof of TextSplits: the functions that it calls return what their plain descriptions say. -/
import Derived.Test.YtlekfhnlhdmekaaGreatDoorCTextSplits3
import Derived.StillTailTactics
import Derived.Test.YtlekfhnlhdmekaaGreatDoorCTextSplits2
import Derived.Test.YtlekfhnlhdmekaaGreatDoorCTextSplits4
import Derived.Test.YtlekfhnlhdmekaaGreatDoorCTextSplits5

/- text.Reverse returns what text_Reverse.f says: slices.Reverse turns a buffer of bytes round. -/
namespace Go.Proofs.YtlekfhnlhdmekaaGreatDoor.T
set_option linter.unusedSimpArgs false
set_option linter.unusedVariables false
open Go.RowKit Go.Proofs.YtlekfhnlhdmekaaGreatDoorW.PrintWords Go.Proofs.YtlekfhnlhdmekaaGreatDoorW.PrintLast Go.Proofs.YtlekfhnlhdmekaaGreatDoorW.PrintMore

/-- The list after k swaps from both ends. -/
def revK (xs : List Int) (k : Nat) : List Int := (List.range xs.length).map fun i => if i < k ∨ xs.length - k ≤ i then xs.getD (xs.length - 1 - i) 0 else xs.getD i 0
theorem revK_length (xs : List Int) (k : Nat) : (revK xs k).length = xs.length := by simp [revK]
theorem revK_at (xs : List Int) (k i : Nat) (hi : i < xs.length) : (revK xs k)[i]? = some (if i < k ∨ xs.length - k ≤ i then xs.getD (xs.length - 1 - i) 0 else xs.getD i 0) := by
  simp [revK, List.getElem?_map, List.getElem?_range hi]
theorem revK_getD (xs : List Int) (k i : Nat) (hi : i < xs.length) (h1 : ¬ i < k) (h2 : ¬ xs.length - k ≤ i) : (revK xs k).getD i 0 = xs.getD i 0 := by
  rw [List.getD_eq_getElem?_getD, revK_at xs k i hi, if_neg (by omega)]
  rfl
theorem revK_zero (xs : List Int) : revK xs 0 = xs := by
  apply List.ext_getElem?
  intro i
  by_cases hi : i < xs.length
  · rw [revK_at xs 0 i hi, if_neg (by omega), List.getD_eq_getElem?_getD, List.getElem?_eq_getElem hi]
    rfl
  · rw [List.getElem?_eq_none (by rw [revK_length]; omega), List.getElem?_eq_none (by omega)]
theorem revK_all (xs : List Int) (k : Nat) (hk : xs.length ≤ 2 * k + 1) : revK xs k = xs.reverse := by
  apply List.ext_getElem?
  intro i
  by_cases hi : i < xs.length
  · rw [revK_at xs k i hi, List.getElem?_reverse hi]
    have e : xs.length - 1 - i < xs.length := by omega
    by_cases h : i < k ∨ xs.length - k ≤ i
    · rw [if_pos h, List.getD_eq_getElem?_getD, List.getElem?_eq_getElem e]
      rfl
    · rw [if_neg h, show xs.length - 1 - i = i by omega, List.getD_eq_getElem?_getD, List.getElem?_eq_getElem hi]
      rfl
  · rw [List.getElem?_eq_none (by rw [revK_length]; omega), List.getElem?_eq_none (by simp; omega)]
theorem revK_step (xs : List Int) (k j : Nat) (hkj : k < j) (hj : k + j + 1 = xs.length) : ((revK xs k).set k (xs.getD j 0)).set j (xs.getD k 0) = revK xs (k + 1) := by
  apply List.ext_getElem?
  intro i
  by_cases hi : i < xs.length
  · rw [List.getElem?_set, List.getElem?_set, revK_at xs (k + 1) i hi, List.length_set, revK_length, revK_at xs k i hi]
    by_cases e1 : j = i
    · subst e1
      rw [if_pos rfl, if_pos hi, if_pos (by omega), show xs.length - 1 - j = k by omega]
    · rw [if_neg e1]
      by_cases e2 : k = i
      · subst e2
        rw [if_pos rfl, if_pos hi, if_pos (by omega), show xs.length - 1 - k = j by omega]
      · rw [if_neg e2]
        by_cases h : i < k ∨ xs.length - k ≤ i
        · rw [if_pos h, if_pos (by omega)]
        · rw [if_neg h, if_neg (by omega)]
  · rw [List.getElem?_eq_none (by simp [revK_length]; omega), List.getElem?_eq_none (by rw [revK_length]; omega)]

set_option maxRecDepth 100000 in
set_option maxHeartbeats 4000000 in
theorem reverse125.calls (g c : Nat) (xs : List Int) (w w0 : World) (hl : xs.length ≤ 100000) (hB : Buf g xs w) (hb : Below w0.heap.size w0 w) (hg : w0.heap.size ≤ g) :
    Calls Tryz.prog 125 #[.slice (some ⟨g, 0, none⟩) xs.length c] w fun e w' => e = .returned (.tuple #[]) ∧ Buf g xs.reverse w' ∧ Below w0.heap.size w0 w' := by
  obtain ⟨n, hn⟩ : ∃ n, xs.length = n := ⟨_, rfl⟩
  have HN := Aside0.mk hn
  have HB0 := Aside0.mk hB
  have HL0 := Aside0.mk hb
  rw [hn] at hl ⊢
  clear hB hb hn
  go_enter Tryz.func125, Tryz.ntmps125
  go_wp2
  go_loopg [2, 3] n (fun gg s2 s3 wr => ∃ (kk : Nat) (jz : Int), kk ≤ n ∧ n - kk ≤ gg ∧ s2 = .int .i64 kk ∧ s3 = .int .i64 jz ∧ (kk : Int) + jz + 1 = n ∧ Aside0 (Below w0.heap.size w0 wr) ∧ Aside0 (Buf g (revK xs kk) wr))
  case atStart => exact ⟨0, (n : Int) - 1, Nat.zero_le _, by omega, rfl, rfl, by omega, HL0, ⟨by rw [revK_zero]; exact HB0.out⟩⟩
  case round =>
    obtain ⟨kk, jz, hkk, hgg, rfl, rfl, hj, HB, HF⟩ := hrel
    by_cases hlt : (kk : Int) < jz
    · obtain ⟨jj, rfl⟩ := Int.eq_ofNat_of_zero_le (show 0 ≤ jz by omega)
      have d1 : decide ((kk : Int) < (jj : Int)) = true := decide_eq_true hlt
      have d2 : decide (kk < jj) = true := decide_eq_true (by omega)
      have hk0 : (kk : Int) < (n : Int) := by omega
      have hj0 : (jj : Int) < (n : Int) := by omega
      have hx1 := HF.out.cell kk (by rw [revK_length]; have := HN.out; omega)
      have hx2 := HF.out.cell jj (by rw [revK_length]; have := HN.out; omega)
      rw [revK_getD xs kk kk (by have := HN.out; omega) (by omega) (by have := HN.out; omega)] at hx1
      rw [revK_getD xs kk jj (by have := HN.out; omega) (by omega) (by have := HN.out; omega)] at hx2
      have f1 := HF.out.free kk (by rw [revK_length]; have := HN.out; omega)
      have f2 := HF.out.free jj (by rw [revK_length]; have := HN.out; omega)
      have HS := Aside0.mk ((HF.out.set kk (xs.getD jj 0) (by rw [revK_length]; have := HN.out; omega)).set jj (xs.getD kk 0) (by rw [List.length_set, revK_length]; have := HN.out; omega))
      rw [revK_step xs kk jj (by omega) (by have := HN.out; omega)] at HS
      generalize xs.getD kk 0 = y1 at hx1 HS
      generalize xs.getD jj 0 = y2 at hx2 HS
      go_upto_region 3 with fail
      go_region
      go_wp2
      go_roundg (n - (kk + 1))
      case measure => omega
      case rel =>
        exact ⟨kk + 1, (jj : Int) - 1, by omega, by omega, by go_num, rfl, by omega, ⟨pw_below_drewN (below_set (below_set HB.out hg) hg) 1⟩, HS⟩
    · have d1 : decide ((kk : Int) < jz) = false := decide_eq_false hlt
      have HR : Aside0 (Buf g xs.reverse wr) := ⟨by rw [← revK_all xs kk (by have := HN.out; omega)]; exact HF.out⟩
      go_wp2
      go_end0
      exact ⟨rfl, HR.out, HB.out⟩

def text_Reverse.f (a0 : ByteArray) : Option (ByteArray × Int) :=
  if a0.size ≤ 100000 then (if vld a0 = true then some (strOfNums (bytesOf a0).reverse, 0) else some (⟨#[]⟩, 1)) else none
set_option maxRecDepth 100000 in
set_option maxHeartbeats 4000000 in
theorem text_Reverse.calls (a0 : ByteArray) (r1 : ByteArray) (r2 : Int) (w : World) (h : text_Reverse.f a0 = some (r1, r2)) :
    Calls Tryz.prog 67 #[.string a0] w fun e w' => e = .returned (.tuple #[.string r1, .int .i64 r2]) ∧ Below w.heap.size w w' := by
  unfold text_Reverse.f at h
  by_cases hz : a0.size ≤ 100000
  · rw [if_pos hz] at h
    have H1 := fun W0 => pre93 [a0] W0
    by_cases hv : vld a0 = true
    · rw [if_pos hv] at h
      rw [if_pos (show ([a0] : List ByteArray).all vld = true by simpa using hv)] at H1
      have H1 := Lib.hid H1
      simp only [Option.some.injEq, Prod.mk.injEq] at h
      obtain ⟨rfl, rfl⟩ := h
      obtain ⟨n, hn⟩ : ∃ n, a0.size = n := ⟨_, rfl⟩
      have HN : Aside0 ((bytesOf a0).length = n) := ⟨by rw [bytesOf_length]; exact hn⟩
      have kb := fun W => print_bytes (P := Tryz.prog) 9 83 5 Tryz.underlying9 Tryz.underlying83 Tryz.underlying5 a0 W
      have HR := Lib.hid (fun (W : World) (c : Nat) (hb : Below w.heap.size w W) => reverse125.calls W.heap.size c (bytesOf a0) (Lib.bytesWorld W 5 a0) w (by rw [HN.out]; omega) (Buf.new W a0) (bytes_below hb hb.size 5 a0) hb.size)
      simp only [HN.out] at HR
      have hcv := Lib.hid (fun (W : World) (g c : Nat) (hB : Buf g (bytesOf a0).reverse W) => string_of_reads (P := Tryz.prog) (w := W) (src := 83) (dst := 9) (e := 5) (A := some ⟨g, 0, none⟩) (n := n) (c := c) (xs := (bytesOf a0).reverse) Tryz.underlying83 Tryz.underlying5 Tryz.underlying9 (by
        have := hB.reads (by rw [List.length_reverse]; have := HN.out; omega); rw [List.length_reverse, HN.out] at this; exact this))
      rw [hn] at kb hz
      clear hv hn
      go_enter Tryz.func67, Tryz.ntmps67
      go_upto_region 5 with (go_at_call 93; refine (H1.out _).mono ?_; rintro e w1 ⟨rfl, hb1⟩)
      have HRR := Lib.hid (HR.out _ (grownCap w1 n 0 5) hb1)
      go_upto_region 6 with (go_at_call 125; refine HRR.out.mono ?_; rintro e w2 ⟨rfl, hB2, hb2⟩)
      have hconv := fun c => hcv.out w2 _ c hB2
      go_wp2
      go_ret2
      exact ⟨rfl, hb2⟩
    · rw [if_neg hv] at h
      rw [if_neg (show ¬ ([a0] : List ByteArray).all vld = true by simpa using hv)] at H1
      have H1 := Lib.hid H1
      simp only [Option.some.injEq, Prod.mk.injEq] at h
      obtain ⟨rfl, rfl⟩ := h
      go_enter Tryz.func67, Tryz.ntmps67
      go_wp2_with (go_at_call 93; refine (H1.out _).mono ?_; rintro e w1 ⟨rfl, hb1⟩)
      go_ret2
      exact ⟨rfl, hb1⟩
  · rw [if_neg hz] at h
    cases h
end Go.Proofs.YtlekfhnlhdmekaaGreatDoor.T

-- Written by a program of this session (mp.py over the kit's print.py), out of the translation.
namespace Go.Proofs.YtlekfhnlhdmekaaGreatDoor.T
set_option linter.unusedSimpArgs false
open Go.RowKit Go.Proofs.YtlekfhnlhdmekaaGreatDoorW.PrintWords Go.Proofs.YtlekfhnlhdmekaaGreatDoorW.PrintLast Go.Proofs.YtlekfhnlhdmekaaGreatDoorW.PrintMore
attribute [local go_sem] max2_int min2_int max_two min_two max_three min_three max_four min_four   -- for this text's walks alone
set_option linter.unusedVariables false
set_option linter.unusedSimpArgs false

/-! ### qanatlaw02_TextSplits: function 10 -/
mutual
def qanatlaw02_TextSplits.j0 : Nat → ByteArray → Int → Int → Bool → Int → Option (Bool)
  | 0, _, _, _, _, _ => none
  | k + 1, x0, x1, x2, x7, x8 => (text_Left.f x0 x8 42).bind fun bt721 => ((text_Substr.f x0 (wrap64 (x8 + 1)) (-1) 42).bind fun bt723 => ((text_Reverse.f x0).bind fun bt725 => ((text_Reverse.f bt725.1).bind fun bt727 => (if bt721.2 = 0 then (if bt723.2 = 0 then (if bt725.2 = 0 then (if bt727.2 = 0 then (if bt721.1.size + bt723.1.size ≤ 9223372036854775807 then (if (bt721.1 ++ bt723.1).toList = x0.toList then (qanatlaw02_TextSplits.j1 k x0 x1 x2 x7 bt725.1 (bt727.1.toList != x0.toList)) else (qanatlaw02_TextSplits.j1 k x0 x1 x2 x7 bt725.1 true)) else (none)) else (qanatlaw02_TextSplits.j1 k x0 x1 x2 x7 bt725.1 true)) else (qanatlaw02_TextSplits.j1 k x0 x1 x2 x7 bt725.1 true)) else (qanatlaw02_TextSplits.j1 k x0 x1 x2 x7 bt725.1 true)) else (qanatlaw02_TextSplits.j1 k x0 x1 x2 x7 bt725.1 true)))))
def qanatlaw02_TextSplits.j1 : Nat → ByteArray → Int → Int → Bool → ByteArray → Bool → Option (Bool)
  | 0, _, _, _, _, _, _ => none
  | k + 1, x0, x1, x2, x7, x13, x88 => if x88 = true then (some false) else ((text_Left.f x13 (wrap64 (x2)) 42).bind fun bt729 => ((text_Right.f x0 (wrap64 (x2)) 42).bind fun bt731 => ((text_Reverse.f bt731.1).bind fun bt733 => (if bt729.2 = 0 then (if bt731.2 = 0 then (if bt733.2 = 0 then (qanatlaw02_TextSplits.j2 k x0 x1 x2 x7 (bt729.1.toList != bt733.1.toList)) else (qanatlaw02_TextSplits.j2 k x0 x1 x2 x7 true)) else (qanatlaw02_TextSplits.j2 k x0 x1 x2 x7 true)) else (qanatlaw02_TextSplits.j2 k x0 x1 x2 x7 true)))))
def qanatlaw02_TextSplits.j2 : Nat → ByteArray → Int → Int → Bool → Bool → Option (Bool)
  | 0, _, _, _, _, _ => none
  | k + 1, x0, x1, x2, x7, x122 => if x122 = true then (some false) else (if (wrap64 ((wrap64 ((wrap64 ((wrap64 (x1)) + 1)) - 1)) + (wrap64 (x2)))) > (x0.size : Int) then (some x7) else ((text_DelStr.f x0 (wrap64 ((wrap64 (x1)) + 1)) (wrap64 (x2))).bind fun bt735 => ((text_Substr.f x0 (wrap64 ((wrap64 (x1)) + 1)) (wrap64 (x2)) 42).bind fun bt737 => ((text_Insert.f bt737.1 bt735.1 (wrap64 ((wrap64 ((wrap64 (x1)) + 1)) - 1)) (-1) 42).bind fun bt739 => (if x7 = true then (if bt735.2 = 0 then (if bt737.2 = 0 then (if bt739.2 = 0 then (if bt739.1.toList = x0.toList then (if (bt737.1.size : Int) = (wrap64 (x2)) then (some ((bt735.1.size : Int) == (wrap64 ((x0.size : Int) - (wrap64 (x2)))))) else (some false)) else (some false)) else (some false)) else (some false)) else (some false)) else (some false))))))
end
def qanatlaw02_TextSplits.f (k : Nat) (a0 : ByteArray) (a1 : Int) (a2 : Int) : Option (Bool) := (qanatlaw02_head.f k).bind fun t719 => ((text_Valid.f a0).bind fun t720 => (if t720 = true then (if (wrap64 (a1)) > (a0.size : Int) then (qanatlaw02_TextSplits.j0 k a0 a1 a2 t719 (a0.size : Int)) else (qanatlaw02_TextSplits.j0 k a0 a1 a2 t719 (wrap64 (a1)))) else (some t719)))
theorem qanatlaw02_TextSplits.mono_l : ∀ k, (∀ y0 y1 y2 y3 y4, LeO (qanatlaw02_TextSplits.j0 k y0 y1 y2 y3 y4) (qanatlaw02_TextSplits.j0 (k + 1) y0 y1 y2 y3 y4)) ∧ (∀ y0 y1 y2 y3 y4 y5, LeO (qanatlaw02_TextSplits.j1 k y0 y1 y2 y3 y4 y5) (qanatlaw02_TextSplits.j1 (k + 1) y0 y1 y2 y3 y4 y5)) ∧ (∀ y0 y1 y2 y3 y4, LeO (qanatlaw02_TextSplits.j2 k y0 y1 y2 y3 y4) (qanatlaw02_TextSplits.j2 (k + 1) y0 y1 y2 y3 y4))
  | 0 => ⟨fun _ _ _ _ _ r h => by simp [qanatlaw02_TextSplits.j0] at h, fun _ _ _ _ _ _ r h => by simp [qanatlaw02_TextSplits.j1] at h, fun _ _ _ _ _ r h => by simp [qanatlaw02_TextSplits.j2] at h⟩
  | k + 1 => by
    obtain ⟨ih0, ih1, ih2⟩ := qanatlaw02_TextSplits.mono_l k
    refine ⟨?_, ?_, ?_⟩
    · intro y0 y1 y2 y3 y4
      unfold qanatlaw02_TextSplits.j0
      repeat' first
      | (with_reducible exact ih0 _ _ _ _ _)
      | (with_reducible exact ih1 _ _ _ _ _ _)
      | (with_reducible exact ih2 _ _ _ _ _)
      | (with_reducible exact qanatlaw02_head.mono _)
      | (with_reducible exact LeO.refl _)
      | (with_reducible exact LeO.none _)
      | (with_reducible refine LeO.ite ?_ ?_)
      | (with_reducible refine LeO.bind ?_ (fun _ => ?_))
      | exact ih0 _ _ _ _ _
      | exact ih1 _ _ _ _ _ _
      | exact ih2 _ _ _ _ _
      | exact qanatlaw02_head.mono _
      | exact LeO.none _
      | refine LeO.ite ?_ ?_
      | refine LeO.bind ?_ (fun _ => ?_)
    · intro y0 y1 y2 y3 y4 y5
      unfold qanatlaw02_TextSplits.j1
      repeat' first
      | (with_reducible exact ih0 _ _ _ _ _)
      | (with_reducible exact ih1 _ _ _ _ _ _)
      | (with_reducible exact ih2 _ _ _ _ _)
      | (with_reducible exact qanatlaw02_head.mono _)
      | (with_reducible exact LeO.refl _)
      | (with_reducible exact LeO.none _)
      | (with_reducible refine LeO.ite ?_ ?_)
      | (with_reducible refine LeO.bind ?_ (fun _ => ?_))
      | exact ih0 _ _ _ _ _
      | exact ih1 _ _ _ _ _ _
      | exact ih2 _ _ _ _ _
      | exact qanatlaw02_head.mono _
      | exact LeO.none _
      | refine LeO.ite ?_ ?_
      | refine LeO.bind ?_ (fun _ => ?_)
    · intro y0 y1 y2 y3 y4
      unfold qanatlaw02_TextSplits.j2
      repeat' first
      | (with_reducible exact ih0 _ _ _ _ _)
      | (with_reducible exact ih1 _ _ _ _ _ _)
      | (with_reducible exact ih2 _ _ _ _ _)
      | (with_reducible exact qanatlaw02_head.mono _)
      | (with_reducible exact LeO.refl _)
      | (with_reducible exact LeO.none _)
      | (with_reducible refine LeO.ite ?_ ?_)
      | (with_reducible refine LeO.bind ?_ (fun _ => ?_))
      | exact ih0 _ _ _ _ _
      | exact ih1 _ _ _ _ _ _
      | exact ih2 _ _ _ _ _
      | exact qanatlaw02_head.mono _
      | exact LeO.none _
      | refine LeO.ite ?_ ?_
      | refine LeO.bind ?_ (fun _ => ?_)
theorem qanatlaw02_TextSplits.mono : ∀ a0 a1 a2 k, LeO (qanatlaw02_TextSplits.f k a0 a1 a2) (qanatlaw02_TextSplits.f (k + 1) a0 a1 a2) := by
  intro a0 a1 a2 k
  obtain ⟨ih0, ih1, ih2⟩ := qanatlaw02_TextSplits.mono_l k
  unfold qanatlaw02_TextSplits.f
  repeat' first
      | (with_reducible exact ih0 _ _ _ _ _)
      | (with_reducible exact ih1 _ _ _ _ _ _)
      | (with_reducible exact ih2 _ _ _ _ _)
      | (with_reducible exact qanatlaw02_head.mono _)
      | (with_reducible exact LeO.refl _)
      | (with_reducible exact LeO.none _)
      | (with_reducible refine LeO.ite ?_ ?_)
      | (with_reducible refine LeO.bind ?_ (fun _ => ?_))
      | exact ih0 _ _ _ _ _
      | exact ih1 _ _ _ _ _ _
      | exact ih2 _ _ _ _ _
      | exact qanatlaw02_head.mono _
      | exact LeO.none _
      | refine LeO.ite ?_ ?_
      | refine LeO.bind ?_ (fun _ => ?_)
set_option maxHeartbeats 8000000 in
set_option maxRecDepth 100000 in
theorem qanatlaw02_TextSplits.calls (k : Nat) (a0 : ByteArray) (a1 : Int) (a2 : Int) (r : Bool) (w : World) (hT : TabOK w) (h : qanatlaw02_TextSplits.f k a0 a1 a2 = some r) :
    Calls Tryz.prog 10 #[.string a0, .int .u8 a1, .int .u8 a2] w fun e w' => e = .returned (.bool r) ∧ Below w.heap.size w w' := by
  have HB := Aside0.mk (Below.refl w.heap.size w)
  have H : ((qanatlaw02_head.f k).bind fun t719 => ((text_Valid.f a0).bind fun t720 => (if t720 = true then (if (wrap64 (a1)) > (a0.size : Int) then (qanatlaw02_TextSplits.j0 k a0 a1 a2 t719 (a0.size : Int)) else (qanatlaw02_TextSplits.j0 k a0 a1 a2 t719 (wrap64 (a1)))) else (some t719)))) = some r := h
  clear h
  replace H := Option.bind_eq_some_iff.mp H
  obtain ⟨t719, A40, H⟩ := H
  replace H : ((text_Valid.f a0).bind fun t720 => (if t720 = true then (if (wrap64 (a1)) > (a0.size : Int) then (qanatlaw02_TextSplits.j0 k a0 a1 a2 t719 (a0.size : Int)) else (qanatlaw02_TextSplits.j0 k a0 a1 a2 t719 (wrap64 (a1)))) else (some t719))) = some r := H
  have A4 := Aside0.mk A40
  clear A40
  replace H := Option.bind_eq_some_iff.mp H
  obtain ⟨t720, A50, H⟩ := H
  replace H : (if t720 = true then (if (wrap64 (a1)) > (a0.size : Int) then (qanatlaw02_TextSplits.j0 k a0 a1 a2 t719 (a0.size : Int)) else (qanatlaw02_TextSplits.j0 k a0 a1 a2 t719 (wrap64 (a1)))) else (some t719)) = some r := H
  have A5 := Aside0.mk A50
  clear A50
  by_cases c6 : t720 = true
  · subst c6
    have H1 : (if (wrap64 (a1)) > (a0.size : Int) then (qanatlaw02_TextSplits.j0 k a0 a1 a2 t719 (a0.size : Int)) else (qanatlaw02_TextSplits.j0 k a0 a1 a2 t719 (wrap64 (a1)))) = some r := by rw [if_pos rfl] at H; exact H
    clear H
    have H := H1
    clear H1
    have HC7 := Aside0.mk H
    clear H
    go_enter Tryz.func10, Tryz.ntmps10
    go_upto_if 37 with (first | ((with_reducible refine gate_callee (f := 15) rfl ?_); refine goesL_ (some 27) rfl rfl Tryz.func15 (by kernel_rfl) rfl #[] rfl (by (try simp only [List.map_toArray, List.map_cons, List.map_nil]); first | done | rfl | (simp only [List.length_drop, List.length_take]; rfl)) ?_; (with_reducible refine (qanatlaw02_head.calls k  t719 _ (TabOK.of_below hT (by repeat (first | (with_reducible first | exact HB.out | apply below_alloc | apply pw_below_drewN | apply below_drew1) | exact HB.out))) A4.out).mono ?_); rintro e w8 ⟨rfl, hb⟩; refine ⟨_, rfl, ?_⟩; have n0_ := Aside0.mk (below_step (by repeat (first | (with_reducible first | exact HB.out | apply below_alloc | apply pw_below_drewN | apply below_drew1) | exact HB.out)) hb); clear HB; have HB := n0_; clear n0_; (try clear hb); (try clear hb2); (try clear hk); (try clear hi)) | ((with_reducible refine gate_callee (f := 65) rfl ?_); refine goesL_ (some 29) rfl rfl Tryz.func65 (by kernel_rfl) rfl #[.string a0] rfl (by (try simp only [List.map_toArray, List.map_cons, List.map_nil]); first | done | rfl | (simp only [List.length_drop, List.length_take]; rfl)) ?_; (with_reducible refine (text_Valid.calls a0 true _ A5.out).mono ?_); rintro e w9 ⟨rfl, hb⟩; refine ⟨_, rfl, ?_⟩; have n0_ := Aside0.mk (below_step (by repeat (first | (with_reducible first | exact HB.out | apply below_alloc | apply pw_below_drewN | apply below_drew1) | exact HB.out)) hb); clear HB; have HB := n0_; clear n0_; (try clear hb); (try clear hb2); (try clear hk); (try clear hi)))
    (try simp only [Act.put, List.setIfInBounds_toArray, List.set_cons_zero, List.set_cons_succ])
    go_cut [8] (fun v8 wc => ∃ (kq : Nat) (x8_6 : Int), v8 = .int .i64 x8_6 ∧ Aside0 (qanatlaw02_TextSplits.j0 kq a0 a1 a2 t719 x8_6 = some r) ∧ Aside0 (kq ≤ k) ∧ Aside0 (Below w.heap.size w wc))
    case first =>
      have H := HC7.out
      clear HC7
      by_cases c10 : (wrap64 (a1)) > (a0.size : Int)
      · rw [if_pos c10] at H
        have c10b0 : decide ((a0.size : Int) < (wrap64 (a1))) = true := decide_eq_true c10
        clear c10
        (first | rw [c10b0] | (simp only [i64_w, i32_w]; rw [c10b0]) | skip)
        have H' := Aside0.mk H
        clear H
        go_wp2
        go_meet
        case rel => exact ⟨_, ((a0.size : Int)), (by first | rfl | (simp; done) | (simp [*]; done)), H', ⟨by first | omega | exact Nat.le_refl _⟩, ⟨by repeat (first | (with_reducible first | exact HB.out | apply below_alloc | apply pw_below_drewN | apply below_drew1) | exact HB.out)⟩⟩
      · rw [if_neg c10] at H
        have c10b0 : decide ((a0.size : Int) < (wrap64 (a1))) = false := decide_eq_false c10
        clear c10
        (first | rw [c10b0] | (simp only [i64_w, i32_w]; rw [c10b0]) | skip)
        have H' := Aside0.mk H
        clear H
        go_wp2
        go_meet
        case rel => exact ⟨_, (wrap64 (a1)), (by first | rfl | (simp; done) | (simp [*]; done)), H', ⟨by first | omega | exact Nat.le_refl _⟩, ⟨by repeat (first | (with_reducible first | exact HB.out | apply below_alloc | apply pw_below_drewN | apply below_drew1) | exact HB.out)⟩⟩
    case rest =>
      clear HC7
      try clear c1
      try clear p2
      try clear c6
      try clear p6
      try clear c10
      try clear c10b0
      obtain ⟨kq, x8_6, rfl, HA, HJ6, HB⟩ := hcut
      cases kq with
      | zero => exact absurd HA.out (by simp [qanatlaw02_TextSplits.j0])
      | succ kj6 =>
        have H := HA.out
        clear HA
        simp only [qanatlaw02_TextSplits.j0] at H
        replace H := Option.bind_eq_some_iff.mp H
        obtain ⟨⟨t721, t722⟩, A110, H⟩ := H
        replace H : ((text_Substr.f a0 (wrap64 (x8_6 + 1)) (-1) 42).bind fun bt723 => ((text_Reverse.f a0).bind fun bt725 => ((text_Reverse.f bt725.1).bind fun bt727 => (if t722 = 0 then (if bt723.2 = 0 then (if bt725.2 = 0 then (if bt727.2 = 0 then (if t721.size + bt723.1.size ≤ 9223372036854775807 then (if (t721 ++ bt723.1).toList = a0.toList then (qanatlaw02_TextSplits.j1 kj6 a0 a1 a2 t719 bt725.1 (bt727.1.toList != a0.toList)) else (qanatlaw02_TextSplits.j1 kj6 a0 a1 a2 t719 bt725.1 true)) else (none)) else (qanatlaw02_TextSplits.j1 kj6 a0 a1 a2 t719 bt725.1 true)) else (qanatlaw02_TextSplits.j1 kj6 a0 a1 a2 t719 bt725.1 true)) else (qanatlaw02_TextSplits.j1 kj6 a0 a1 a2 t719 bt725.1 true)) else (qanatlaw02_TextSplits.j1 kj6 a0 a1 a2 t719 bt725.1 true))))) = some r := H
        have A11 := Aside0.mk A110
        clear A110
        replace H := Option.bind_eq_some_iff.mp H
        obtain ⟨⟨t723, t724⟩, A120, H⟩ := H
        replace H : ((text_Reverse.f a0).bind fun bt725 => ((text_Reverse.f bt725.1).bind fun bt727 => (if t722 = 0 then (if t724 = 0 then (if bt725.2 = 0 then (if bt727.2 = 0 then (if t721.size + t723.size ≤ 9223372036854775807 then (if (t721 ++ t723).toList = a0.toList then (qanatlaw02_TextSplits.j1 kj6 a0 a1 a2 t719 bt725.1 (bt727.1.toList != a0.toList)) else (qanatlaw02_TextSplits.j1 kj6 a0 a1 a2 t719 bt725.1 true)) else (none)) else (qanatlaw02_TextSplits.j1 kj6 a0 a1 a2 t719 bt725.1 true)) else (qanatlaw02_TextSplits.j1 kj6 a0 a1 a2 t719 bt725.1 true)) else (qanatlaw02_TextSplits.j1 kj6 a0 a1 a2 t719 bt725.1 true)) else (qanatlaw02_TextSplits.j1 kj6 a0 a1 a2 t719 bt725.1 true)))) = some r := H
        have A12 := Aside0.mk A120
        clear A120
        replace H := Option.bind_eq_some_iff.mp H
        obtain ⟨⟨t725, t726⟩, A130, H⟩ := H
        replace H : ((text_Reverse.f t725).bind fun bt727 => (if t722 = 0 then (if t724 = 0 then (if t726 = 0 then (if bt727.2 = 0 then (if t721.size + t723.size ≤ 9223372036854775807 then (if (t721 ++ t723).toList = a0.toList then (qanatlaw02_TextSplits.j1 kj6 a0 a1 a2 t719 t725 (bt727.1.toList != a0.toList)) else (qanatlaw02_TextSplits.j1 kj6 a0 a1 a2 t719 t725 true)) else (none)) else (qanatlaw02_TextSplits.j1 kj6 a0 a1 a2 t719 t725 true)) else (qanatlaw02_TextSplits.j1 kj6 a0 a1 a2 t719 t725 true)) else (qanatlaw02_TextSplits.j1 kj6 a0 a1 a2 t719 t725 true)) else (qanatlaw02_TextSplits.j1 kj6 a0 a1 a2 t719 t725 true))) = some r := H
        have A13 := Aside0.mk A130
        clear A130
        replace H := Option.bind_eq_some_iff.mp H
        obtain ⟨⟨t727, t728⟩, A140, H⟩ := H
        replace H : (if t722 = 0 then (if t724 = 0 then (if t726 = 0 then (if t728 = 0 then (if t721.size + t723.size ≤ 9223372036854775807 then (if (t721 ++ t723).toList = a0.toList then (qanatlaw02_TextSplits.j1 kj6 a0 a1 a2 t719 t725 (t727.toList != a0.toList)) else (qanatlaw02_TextSplits.j1 kj6 a0 a1 a2 t719 t725 true)) else (none)) else (qanatlaw02_TextSplits.j1 kj6 a0 a1 a2 t719 t725 true)) else (qanatlaw02_TextSplits.j1 kj6 a0 a1 a2 t719 t725 true)) else (qanatlaw02_TextSplits.j1 kj6 a0 a1 a2 t719 t725 true)) else (qanatlaw02_TextSplits.j1 kj6 a0 a1 a2 t719 t725 true)) = some r := H
        have A14 := Aside0.mk A140
        clear A140
        have HC15 := Aside0.mk H
        clear H
        go_upto_region 11 with (first | ((with_reducible refine gate_callee (f := 68) rfl ?_); refine goesL_ (some 43) rfl rfl Tryz.func68 (by kernel_rfl) rfl #[.string a0, .int .i64 x8_6, .int .u8 42] rfl (by (try simp only [List.map_toArray, List.map_cons, List.map_nil]); first | done | rfl | (simp only [List.length_drop, List.length_take]; rfl)) ?_; (with_reducible refine (text_Left.calls a0 x8_6 42 t721 t722 _ A11.out).mono ?_); rintro e w16 ⟨rfl, hb⟩; refine ⟨_, rfl, ?_⟩; have n0_ := Aside0.mk (below_step (by repeat (first | (with_reducible first | exact HB.out | apply below_alloc | apply pw_below_drewN | apply below_drew1) | exact HB.out)) hb); clear HB; have HB := n0_; clear n0_; (try clear hb); (try clear hb2); (try clear hk); (try clear hi)) | ((with_reducible refine gate_callee (f := 49) rfl ?_); refine goesL_ (some 50) rfl rfl Tryz.func49 (by kernel_rfl) rfl #[.string a0, .int .i64 (wrap64 (x8_6 + 1)), .int .i64 (-1), .int .u8 42] rfl (by (try simp only [List.map_toArray, List.map_cons, List.map_nil]); first | done | rfl | (simp only [List.length_drop, List.length_take]; rfl)) ?_; (with_reducible refine (text_Substr.calls a0 (wrap64 (x8_6 + 1)) (-1) 42 t723 t724 _ A12.out).mono ?_); rintro e w17 ⟨rfl, hb⟩; refine ⟨_, rfl, ?_⟩; have n0_ := Aside0.mk (below_step (by repeat (first | (with_reducible first | exact HB.out | apply below_alloc | apply pw_below_drewN | apply below_drew1) | exact HB.out)) hb); clear HB; have HB := n0_; clear n0_; (try clear hb); (try clear hb2); (try clear hk); (try clear hi)) | ((with_reducible refine gate_callee (f := 67) rfl ?_); refine goesL_ (some 55) rfl rfl Tryz.func67 (by kernel_rfl) rfl #[.string a0] rfl (by (try simp only [List.map_toArray, List.map_cons, List.map_nil]); first | done | rfl | (simp only [List.length_drop, List.length_take]; rfl)) ?_; (with_reducible refine (text_Reverse.calls a0 t725 t726 _ A13.out).mono ?_); rintro e w18 ⟨rfl, hb⟩; refine ⟨_, rfl, ?_⟩; have n0_ := Aside0.mk (below_step (by repeat (first | (with_reducible first | exact HB.out | apply below_alloc | apply pw_below_drewN | apply below_drew1) | exact HB.out)) hb); clear HB; have HB := n0_; clear n0_; (try clear hb); (try clear hb2); (try clear hk); (try clear hi)) | ((with_reducible refine gate_callee (f := 67) rfl ?_); refine goesL_ (some 60) rfl rfl Tryz.func67 (by kernel_rfl) rfl #[.string t725] rfl (by (try simp only [List.map_toArray, List.map_cons, List.map_nil]); first | done | rfl | (simp only [List.length_drop, List.length_take]; rfl)) ?_; (with_reducible refine (text_Reverse.calls t725 t727 t728 _ A14.out).mono ?_); rintro e w19 ⟨rfl, hb⟩; refine ⟨_, rfl, ?_⟩; have n0_ := Aside0.mk (below_step (by repeat (first | (with_reducible first | exact HB.out | apply below_alloc | apply pw_below_drewN | apply below_drew1) | exact HB.out)) hb); clear HB; have HB := n0_; clear n0_; (try clear hb); (try clear hb2); (try clear hk); (try clear hi)))
        (try simp only [Act.put, List.setIfInBounds_toArray, List.set_cons_zero, List.set_cons_succ])
        go_cut [88] (fun v88 wc => ∃ (kq : Nat) (x88_14 : Bool), v88 = .bool x88_14 ∧ Aside0 (qanatlaw02_TextSplits.j1 kq a0 a1 a2 t719 t725 x88_14 = some r) ∧ Aside0 (kq ≤ kj6) ∧ Aside0 (Below w.heap.size w wc))
        case first =>
          have H := HC15.out
          clear HC15
          by_cases c20 : t722 = 0
          · rw [if_pos c20] at H
            have c20b0 : (t722 == 0) = true := beq_iff_eq.mpr c20
            have c20b1 : (t722 != 0) = false := bne_eq_false_iff_eq.mpr c20
            clear c20
            (first | rw [c20b0] | (simp only [i64_w, i32_w]; rw [c20b0]) | skip)
            by_cases c21 : t724 = 0
            · rw [if_pos c21] at H
              have c21b0 : (t724 == 0) = true := beq_iff_eq.mpr c21
              have c21b1 : (t724 != 0) = false := bne_eq_false_iff_eq.mpr c21
              clear c21
              by_cases c22 : t726 = 0
              · rw [if_pos c22] at H
                have c22b0 : (t726 == 0) = true := beq_iff_eq.mpr c22
                have c22b1 : (t726 != 0) = false := bne_eq_false_iff_eq.mpr c22
                clear c22
                by_cases c23 : t728 = 0
                · rw [if_pos c23] at H
                  have c23b0 : (t728 == 0) = true := beq_iff_eq.mpr c23
                  have c23b1 : (t728 != 0) = false := bne_eq_false_iff_eq.mpr c23
                  clear c23
                  by_cases c24 : t721.size + t723.size ≤ 9223372036854775807
                  · rw [if_pos c24] at H
                    have c24b0 := eq_true c24
                    have c24b1 : decide (t721.size + t723.size ≤ 9223372036854775807) = true := decide_eq_true c24
                    try have c24b2 : (9223372036854775807 < t721.size + t723.size) = False := eq_false (Nat.not_lt.2 c24)
                    by_cases c25 : (t721 ++ t723).toList = a0.toList
                    · rw [if_pos c25] at H
                      have c25b0 : ((t721 ++ t723).toList == a0.toList) = true := beq_iff_eq.mpr c25
                      have c25b1 : ((t721 ++ t723).toList != a0.toList) = false := bne_eq_false_iff_eq.mpr c25
                      clear c25
                      have H' := Aside0.mk H
                      clear H
                      go_wp2
                      go_meet
                      case rel => exact ⟨_, ((t727.toList != a0.toList)), (by first | rfl | (simp; done) | (simp [*]; done)), H', ⟨by have := HJ6.out; first | omega | exact Nat.le_refl _⟩, ⟨by repeat (first | (with_reducible first | exact HB.out | apply below_alloc | apply pw_below_drewN | apply below_drew1) | exact HB.out)⟩⟩
                    · rw [if_neg c25] at H
                      have c25b0 : ((t721 ++ t723).toList == a0.toList) = false := beq_eq_false_iff_ne.mpr c25
                      have c25b1 : ((t721 ++ t723).toList != a0.toList) = true := bne_iff_ne.mpr c25
                      have H' := Aside0.mk H
                      clear H
                      go_wp2
                      go_meet
                      case rel => exact ⟨_, (true), (by first | rfl | (simp; done) | (simp [*]; done)), H', ⟨by have := HJ6.out; first | omega | exact Nat.le_refl _⟩, ⟨by repeat (first | (with_reducible first | exact HB.out | apply below_alloc | apply pw_below_drewN | apply below_drew1) | exact HB.out)⟩⟩
                  · rw [if_neg c24] at H
                    exact absurd H (by simp)
                · rw [if_neg c23] at H
                  have c23b0 : (t728 == 0) = false := beq_eq_false_iff_ne.mpr c23
                  have c23b1 : (t728 != 0) = true := bne_iff_ne.mpr c23
                  have H' := Aside0.mk H
                  clear H
                  go_wp2
                  go_meet
                  case rel => exact ⟨_, (true), (by first | rfl | (simp; done) | (simp [*]; done)), H', ⟨by have := HJ6.out; first | omega | exact Nat.le_refl _⟩, ⟨by repeat (first | (with_reducible first | exact HB.out | apply below_alloc | apply pw_below_drewN | apply below_drew1) | exact HB.out)⟩⟩
              · rw [if_neg c22] at H
                have c22b0 : (t726 == 0) = false := beq_eq_false_iff_ne.mpr c22
                have c22b1 : (t726 != 0) = true := bne_iff_ne.mpr c22
                have H' := Aside0.mk H
                clear H
                go_wp2
                go_meet
                case rel => exact ⟨_, (true), (by first | rfl | (simp; done) | (simp [*]; done)), H', ⟨by have := HJ6.out; first | omega | exact Nat.le_refl _⟩, ⟨by repeat (first | (with_reducible first | exact HB.out | apply below_alloc | apply pw_below_drewN | apply below_drew1) | exact HB.out)⟩⟩
            · rw [if_neg c21] at H
              have c21b0 : (t724 == 0) = false := beq_eq_false_iff_ne.mpr c21
              have c21b1 : (t724 != 0) = true := bne_iff_ne.mpr c21
              have H' := Aside0.mk H
              clear H
              go_wp2
              go_meet
              case rel => exact ⟨_, (true), (by first | rfl | (simp; done) | (simp [*]; done)), H', ⟨by have := HJ6.out; first | omega | exact Nat.le_refl _⟩, ⟨by repeat (first | (with_reducible first | exact HB.out | apply below_alloc | apply pw_below_drewN | apply below_drew1) | exact HB.out)⟩⟩
          · rw [if_neg c20] at H
            have c20b0 : (t722 == 0) = false := beq_eq_false_iff_ne.mpr c20
            have c20b1 : (t722 != 0) = true := bne_iff_ne.mpr c20
            (first | rw [c20b0] | (simp only [i64_w, i32_w]; rw [c20b0]) | skip)
            have H' := Aside0.mk H
            clear H
            go_wp2
            go_meet
            case rel => exact ⟨_, (true), (by first | rfl | (simp; done) | (simp [*]; done)), H', ⟨by have := HJ6.out; first | omega | exact Nat.le_refl _⟩, ⟨by repeat (first | (with_reducible first | exact HB.out | apply below_alloc | apply pw_below_drewN | apply below_drew1) | exact HB.out)⟩⟩
        case rest =>
          clear HC15
          try clear c1
          try clear c2
          try clear p2
          try clear c4
          try clear c6
          try clear p6
          try clear c10
          try clear c10b0
          try clear c15
          try clear c20
          try clear c20b0
          try clear c20b1
          try clear c21
          try clear c21b0
          try clear c21b1
          try clear c22
          try clear c22b0
          try clear c22b1
          try clear c23
          try clear c23b0
          try clear c23b1
          try clear c24
          try clear c24b0
          try clear c24b1
          try clear c24b2
          try clear c25
          try clear c25b0
          try clear c25b1
          try clear p2
          try clear p6
          obtain ⟨kq, x88_14, rfl, HA, HJ14, HB⟩ := hcut
          cases kq with
          | zero => exact absurd HA.out (by simp [qanatlaw02_TextSplits.j1])
          | succ kj14 =>
            have H := HA.out
            clear HA
            simp only [qanatlaw02_TextSplits.j1] at H
            by_cases c26 : x88_14 = true
            · subst c26
              have H1 : (some false) = some r := by rw [if_pos rfl] at H; exact H
              clear H
              have H := H1
              clear H1
              obtain rfl := Option.some.inj H
              go_wp2
              go_ret
              exact ⟨by first | rfl | (simp [errW_none, errW_some] <;> rfl) | (simp [*, errW_none, errW_some] <;> rfl), by repeat (first | (with_reducible first | exact HB.out | apply below_alloc | apply pw_below_drewN | apply below_drew1) | exact HB.out)⟩
            · replace c26 := Bool.eq_false_iff.mpr c26
              subst c26
              have H1 : ((text_Left.f t725 (wrap64 (a2)) 42).bind fun bt729 => ((text_Right.f a0 (wrap64 (a2)) 42).bind fun bt731 => ((text_Reverse.f bt731.1).bind fun bt733 => (if bt729.2 = 0 then (if bt731.2 = 0 then (if bt733.2 = 0 then (qanatlaw02_TextSplits.j2 kj14 a0 a1 a2 t719 (bt729.1.toList != bt733.1.toList)) else (qanatlaw02_TextSplits.j2 kj14 a0 a1 a2 t719 true)) else (qanatlaw02_TextSplits.j2 kj14 a0 a1 a2 t719 true)) else (qanatlaw02_TextSplits.j2 kj14 a0 a1 a2 t719 true))))) = some r := by rw [if_neg (show ¬ (false = true) by decide)] at H; exact H
              clear H
              have H := H1
              clear H1
              replace H := Option.bind_eq_some_iff.mp H
              obtain ⟨⟨t729, t730⟩, A270, H⟩ := H
              replace H : ((text_Right.f a0 (wrap64 (a2)) 42).bind fun bt731 => ((text_Reverse.f bt731.1).bind fun bt733 => (if t730 = 0 then (if bt731.2 = 0 then (if bt733.2 = 0 then (qanatlaw02_TextSplits.j2 kj14 a0 a1 a2 t719 (t729.toList != bt733.1.toList)) else (qanatlaw02_TextSplits.j2 kj14 a0 a1 a2 t719 true)) else (qanatlaw02_TextSplits.j2 kj14 a0 a1 a2 t719 true)) else (qanatlaw02_TextSplits.j2 kj14 a0 a1 a2 t719 true)))) = some r := H
              have A27 := Aside0.mk A270
              clear A270
              replace H := Option.bind_eq_some_iff.mp H
              obtain ⟨⟨t731, t732⟩, A280, H⟩ := H
              replace H : ((text_Reverse.f t731).bind fun bt733 => (if t730 = 0 then (if t732 = 0 then (if bt733.2 = 0 then (qanatlaw02_TextSplits.j2 kj14 a0 a1 a2 t719 (t729.toList != bt733.1.toList)) else (qanatlaw02_TextSplits.j2 kj14 a0 a1 a2 t719 true)) else (qanatlaw02_TextSplits.j2 kj14 a0 a1 a2 t719 true)) else (qanatlaw02_TextSplits.j2 kj14 a0 a1 a2 t719 true))) = some r := H
              have A28 := Aside0.mk A280
              clear A280
              replace H := Option.bind_eq_some_iff.mp H
              obtain ⟨⟨t733, t734⟩, A290, H⟩ := H
              replace H : (if t730 = 0 then (if t732 = 0 then (if t734 = 0 then (qanatlaw02_TextSplits.j2 kj14 a0 a1 a2 t719 (t729.toList != t733.toList)) else (qanatlaw02_TextSplits.j2 kj14 a0 a1 a2 t719 true)) else (qanatlaw02_TextSplits.j2 kj14 a0 a1 a2 t719 true)) else (qanatlaw02_TextSplits.j2 kj14 a0 a1 a2 t719 true)) = some r := H
              have A29 := Aside0.mk A290
              clear A290
              have HC30 := Aside0.mk H
              clear H
              go_upto_region 16 with (first | ((with_reducible refine gate_callee (f := 68) rfl ?_); refine goesL_ (some 93) rfl rfl Tryz.func68 (by kernel_rfl) rfl #[.string t725, .int .i64 (wrap64 (a2)), .int .u8 42] rfl (by (try simp only [List.map_toArray, List.map_cons, List.map_nil]); first | done | rfl | (simp only [List.length_drop, List.length_take]; rfl)) ?_; (with_reducible refine (text_Left.calls t725 (wrap64 (a2)) 42 t729 t730 _ A27.out).mono ?_); rintro e w31 ⟨rfl, hb⟩; refine ⟨_, rfl, ?_⟩; have n0_ := Aside0.mk (below_step (by repeat (first | (with_reducible first | exact HB.out | apply below_alloc | apply pw_below_drewN | apply below_drew1) | exact HB.out)) hb); clear HB; have HB := n0_; clear n0_; (try clear hb); (try clear hb2); (try clear hk); (try clear hi)) | ((with_reducible refine gate_callee (f := 69) rfl ?_); refine goesL_ (some 100) rfl rfl Tryz.func69 (by kernel_rfl) rfl #[.string a0, .int .i64 (wrap64 (a2)), .int .u8 42] rfl (by (try simp only [List.map_toArray, List.map_cons, List.map_nil]); first | done | rfl | (simp only [List.length_drop, List.length_take]; rfl)) ?_; (with_reducible refine (text_Right.calls a0 (wrap64 (a2)) 42 t731 t732 _ A28.out).mono ?_); rintro e w32 ⟨rfl, hb⟩; refine ⟨_, rfl, ?_⟩; have n0_ := Aside0.mk (below_step (by repeat (first | (with_reducible first | exact HB.out | apply below_alloc | apply pw_below_drewN | apply below_drew1) | exact HB.out)) hb); clear HB; have HB := n0_; clear n0_; (try clear hb); (try clear hb2); (try clear hk); (try clear hi)) | ((with_reducible refine gate_callee (f := 67) rfl ?_); refine goesL_ (some 105) rfl rfl Tryz.func67 (by kernel_rfl) rfl #[.string t731] rfl (by (try simp only [List.map_toArray, List.map_cons, List.map_nil]); first | done | rfl | (simp only [List.length_drop, List.length_take]; rfl)) ?_; (with_reducible refine (text_Reverse.calls t731 t733 t734 _ A29.out).mono ?_); rintro e w33 ⟨rfl, hb⟩; refine ⟨_, rfl, ?_⟩; have n0_ := Aside0.mk (below_step (by repeat (first | (with_reducible first | exact HB.out | apply below_alloc | apply pw_below_drewN | apply below_drew1) | exact HB.out)) hb); clear HB; have HB := n0_; clear n0_; (try clear hb); (try clear hb2); (try clear hk); (try clear hi)))
              (try simp only [Act.put, List.setIfInBounds_toArray, List.set_cons_zero, List.set_cons_succ])
              go_cut [122] (fun v122 wc => ∃ (kq : Nat) (x122_29 : Bool), v122 = .bool x122_29 ∧ Aside0 (qanatlaw02_TextSplits.j2 kq a0 a1 a2 t719 x122_29 = some r) ∧ Aside0 (kq ≤ kj14) ∧ Aside0 (Below w.heap.size w wc))
              case first =>
                have H := HC30.out
                clear HC30
                by_cases c34 : t730 = 0
                · rw [if_pos c34] at H
                  have c34b0 : (t730 == 0) = true := beq_iff_eq.mpr c34
                  have c34b1 : (t730 != 0) = false := bne_eq_false_iff_eq.mpr c34
                  clear c34
                  (first | rw [c34b0] | (simp only [i64_w, i32_w]; rw [c34b0]) | skip)
                  by_cases c35 : t732 = 0
                  · rw [if_pos c35] at H
                    have c35b0 : (t732 == 0) = true := beq_iff_eq.mpr c35
                    have c35b1 : (t732 != 0) = false := bne_eq_false_iff_eq.mpr c35
                    clear c35
                    by_cases c36 : t734 = 0
                    · rw [if_pos c36] at H
                      have c36b0 : (t734 == 0) = true := beq_iff_eq.mpr c36
                      have c36b1 : (t734 != 0) = false := bne_eq_false_iff_eq.mpr c36
                      clear c36
                      have H' := Aside0.mk H
                      clear H
                      go_wp2
                      go_meet
                      case rel => exact ⟨_, ((t729.toList != t733.toList)), (by first | rfl | (simp; done) | (simp [*]; done)), H', ⟨by have := HJ6.out; have := HJ14.out; first | omega | exact Nat.le_refl _⟩, ⟨by repeat (first | (with_reducible first | exact HB.out | apply below_alloc | apply pw_below_drewN | apply below_drew1) | exact HB.out)⟩⟩
                    · rw [if_neg c36] at H
                      have c36b0 : (t734 == 0) = false := beq_eq_false_iff_ne.mpr c36
                      have c36b1 : (t734 != 0) = true := bne_iff_ne.mpr c36
                      have H' := Aside0.mk H
                      clear H
                      go_wp2
                      go_meet
                      case rel => exact ⟨_, (true), (by first | rfl | (simp; done) | (simp [*]; done)), H', ⟨by have := HJ6.out; have := HJ14.out; first | omega | exact Nat.le_refl _⟩, ⟨by repeat (first | (with_reducible first | exact HB.out | apply below_alloc | apply pw_below_drewN | apply below_drew1) | exact HB.out)⟩⟩
                  · rw [if_neg c35] at H
                    have c35b0 : (t732 == 0) = false := beq_eq_false_iff_ne.mpr c35
                    have c35b1 : (t732 != 0) = true := bne_iff_ne.mpr c35
                    have H' := Aside0.mk H
                    clear H
                    go_wp2
                    go_meet
                    case rel => exact ⟨_, (true), (by first | rfl | (simp; done) | (simp [*]; done)), H', ⟨by have := HJ6.out; have := HJ14.out; first | omega | exact Nat.le_refl _⟩, ⟨by repeat (first | (with_reducible first | exact HB.out | apply below_alloc | apply pw_below_drewN | apply below_drew1) | exact HB.out)⟩⟩
                · rw [if_neg c34] at H
                  have c34b0 : (t730 == 0) = false := beq_eq_false_iff_ne.mpr c34
                  have c34b1 : (t730 != 0) = true := bne_iff_ne.mpr c34
                  (first | rw [c34b0] | (simp only [i64_w, i32_w]; rw [c34b0]) | skip)
                  have H' := Aside0.mk H
                  clear H
                  go_wp2
                  go_meet
                  case rel => exact ⟨_, (true), (by first | rfl | (simp; done) | (simp [*]; done)), H', ⟨by have := HJ6.out; have := HJ14.out; first | omega | exact Nat.le_refl _⟩, ⟨by repeat (first | (with_reducible first | exact HB.out | apply below_alloc | apply pw_below_drewN | apply below_drew1) | exact HB.out)⟩⟩
              case rest =>
                clear HC30
                try clear c1
                try clear c2
                try clear p2
                try clear c3
                try clear c4
                try clear c6
                try clear p6
                try clear c10
                try clear c10b0
                try clear c15
                try clear c20
                try clear c20b0
                try clear c20b1
                try clear c21
                try clear c21b0
                try clear c21b1
                try clear c22
                try clear c22b0
                try clear c22b1
                try clear c23
                try clear c23b0
                try clear c23b1
                try clear c24
                try clear c24b0
                try clear c24b1
                try clear c24b2
                try clear c25
                try clear c25b0
                try clear c25b1
                try clear c26
                try clear c34
                try clear c34b0
                try clear c34b1
                try clear c35
                try clear c35b0
                try clear c35b1
                try clear c36
                try clear c36b0
                try clear c36b1
                try clear p2
                try clear p6
                obtain ⟨kq, x122_29, rfl, HA, HJ29, HB⟩ := hcut
                cases kq with
                | zero => exact absurd HA.out (by simp [qanatlaw02_TextSplits.j2])
                | succ kj29 =>
                  have H := HA.out
                  clear HA
                  simp only [qanatlaw02_TextSplits.j2] at H
                  by_cases c37 : x122_29 = true
                  · subst c37
                    have H1 : (some false) = some r := by rw [if_pos rfl] at H; exact H
                    clear H
                    have H := H1
                    clear H1
                    obtain rfl := Option.some.inj H
                    go_wp2
                    go_ret
                    exact ⟨by first | rfl | (simp [errW_none, errW_some] <;> rfl) | (simp [*, errW_none, errW_some] <;> rfl), by repeat (first | (with_reducible first | exact HB.out | apply below_alloc | apply pw_below_drewN | apply below_drew1) | exact HB.out)⟩
                  · replace c37 := Bool.eq_false_iff.mpr c37
                    subst c37
                    have H1 : (if (wrap64 ((wrap64 ((wrap64 ((wrap64 (a1)) + 1)) - 1)) + (wrap64 (a2)))) > (a0.size : Int) then (some t719) else ((text_DelStr.f a0 (wrap64 ((wrap64 (a1)) + 1)) (wrap64 (a2))).bind fun bt735 => ((text_Substr.f a0 (wrap64 ((wrap64 (a1)) + 1)) (wrap64 (a2)) 42).bind fun bt737 => ((text_Insert.f bt737.1 bt735.1 (wrap64 ((wrap64 ((wrap64 (a1)) + 1)) - 1)) (-1) 42).bind fun bt739 => (if t719 = true then (if bt735.2 = 0 then (if bt737.2 = 0 then (if bt739.2 = 0 then (if bt739.1.toList = a0.toList then (if (bt737.1.size : Int) = (wrap64 (a2)) then (some ((bt735.1.size : Int) == (wrap64 ((a0.size : Int) - (wrap64 (a2)))))) else (some false)) else (some false)) else (some false)) else (some false)) else (some false)) else (some false)))))) = some r := by rw [if_neg (show ¬ (false = true) by decide)] at H; exact H
                    clear H
                    have H := H1
                    clear H1
                    by_cases c38 : (wrap64 ((wrap64 ((wrap64 ((wrap64 (a1)) + 1)) - 1)) + (wrap64 (a2)))) > (a0.size : Int)
                    · rw [if_pos c38] at H
                      have c38b0 : decide ((a0.size : Int) < (wrap64 ((wrap64 ((wrap64 ((wrap64 (a1)) + 1)) - 1)) + (wrap64 (a2))))) = true := decide_eq_true c38
                      clear c38
                      obtain rfl := Option.some.inj H
                      go_wp2
                      go_ret
                      exact ⟨by first | rfl | (simp [errW_none, errW_some] <;> rfl) | (simp [*, errW_none, errW_some] <;> rfl), by repeat (first | (with_reducible first | exact HB.out | apply below_alloc | apply pw_below_drewN | apply below_drew1) | exact HB.out)⟩
                    · rw [if_neg c38] at H
                      have c38b0 : decide ((a0.size : Int) < (wrap64 ((wrap64 ((wrap64 ((wrap64 (a1)) + 1)) - 1)) + (wrap64 (a2))))) = false := decide_eq_false c38
                      clear c38
                      replace H := Option.bind_eq_some_iff.mp H
                      obtain ⟨⟨t735, t736⟩, A390, H⟩ := H
                      replace H : ((text_Substr.f a0 (wrap64 ((wrap64 (a1)) + 1)) (wrap64 (a2)) 42).bind fun bt737 => ((text_Insert.f bt737.1 t735 (wrap64 ((wrap64 ((wrap64 (a1)) + 1)) - 1)) (-1) 42).bind fun bt739 => (if t719 = true then (if t736 = 0 then (if bt737.2 = 0 then (if bt739.2 = 0 then (if bt739.1.toList = a0.toList then (if (bt737.1.size : Int) = (wrap64 (a2)) then (some ((t735.size : Int) == (wrap64 ((a0.size : Int) - (wrap64 (a2)))))) else (some false)) else (some false)) else (some false)) else (some false)) else (some false)) else (some false)))) = some r := H
                      have A39 := Aside0.mk A390
                      clear A390
                      replace H := Option.bind_eq_some_iff.mp H
                      obtain ⟨⟨t737, t738⟩, A400, H⟩ := H
                      replace H : ((text_Insert.f t737 t735 (wrap64 ((wrap64 ((wrap64 (a1)) + 1)) - 1)) (-1) 42).bind fun bt739 => (if t719 = true then (if t736 = 0 then (if t738 = 0 then (if bt739.2 = 0 then (if bt739.1.toList = a0.toList then (if (t737.size : Int) = (wrap64 (a2)) then (some ((t735.size : Int) == (wrap64 ((a0.size : Int) - (wrap64 (a2)))))) else (some false)) else (some false)) else (some false)) else (some false)) else (some false)) else (some false))) = some r := H
                      have A40 := Aside0.mk A400
                      clear A400
                      replace H := Option.bind_eq_some_iff.mp H
                      obtain ⟨⟨t739, t740⟩, A410, H⟩ := H
                      replace H : (if t719 = true then (if t736 = 0 then (if t738 = 0 then (if t740 = 0 then (if t739.toList = a0.toList then (if (t737.size : Int) = (wrap64 (a2)) then (some ((t735.size : Int) == (wrap64 ((a0.size : Int) - (wrap64 (a2)))))) else (some false)) else (some false)) else (some false)) else (some false)) else (some false)) else (some false)) = some r := H
                      have A41 := Aside0.mk A410
                      clear A410
                      by_cases c42 : t719 = true
                      · subst c42
                        have H1 : (if t736 = 0 then (if t738 = 0 then (if t740 = 0 then (if t739.toList = a0.toList then (if (t737.size : Int) = (wrap64 (a2)) then (some ((t735.size : Int) == (wrap64 ((a0.size : Int) - (wrap64 (a2)))))) else (some false)) else (some false)) else (some false)) else (some false)) else (some false)) = some r := by rw [if_pos rfl] at H; exact H
                        clear H
                        have H := H1
                        clear H1
                        by_cases c43 : t736 = 0
                        · rw [if_pos c43] at H
                          have c43b0 : (t736 == 0) = true := beq_iff_eq.mpr c43
                          have c43b1 : (t736 != 0) = false := bne_eq_false_iff_eq.mpr c43
                          clear c43
                          by_cases c44 : t738 = 0
                          · rw [if_pos c44] at H
                            have c44b0 : (t738 == 0) = true := beq_iff_eq.mpr c44
                            have c44b1 : (t738 != 0) = false := bne_eq_false_iff_eq.mpr c44
                            clear c44
                            by_cases c45 : t740 = 0
                            · rw [if_pos c45] at H
                              have c45b0 : (t740 == 0) = true := beq_iff_eq.mpr c45
                              have c45b1 : (t740 != 0) = false := bne_eq_false_iff_eq.mpr c45
                              clear c45
                              by_cases c46 : t739.toList = a0.toList
                              · rw [if_pos c46] at H
                                have c46b0 : (t739.toList == a0.toList) = true := beq_iff_eq.mpr c46
                                have c46b1 : (t739.toList != a0.toList) = false := bne_eq_false_iff_eq.mpr c46
                                clear c46
                                by_cases c47 : (t737.size : Int) = (wrap64 (a2))
                                · rw [if_pos c47] at H
                                  have c47b0 : ((t737.size : Int) == (wrap64 (a2))) = true := beq_iff_eq.mpr c47
                                  have c47b1 : ((t737.size : Int) != (wrap64 (a2))) = false := bne_eq_false_iff_eq.mpr c47
                                  clear c47
                                  obtain rfl := Option.some.inj H
                                  go_wp2_with (first | ((with_reducible refine gate_callee (f := 50) rfl ?_); refine goesL_ (some 140) rfl rfl Tryz.func50 (by kernel_rfl) rfl #[.string a0, .int .i64 (wrap64 ((wrap64 (a1)) + 1)), .int .i64 (wrap64 (a2))] rfl (by (try simp only [List.map_toArray, List.map_cons, List.map_nil]); first | done | rfl | (simp only [List.length_drop, List.length_take]; rfl)) ?_; (with_reducible refine (text_DelStr.calls a0 (wrap64 ((wrap64 (a1)) + 1)) (wrap64 (a2)) t735 t736 _ A39.out).mono ?_); rintro e w48 ⟨rfl, hb⟩; refine ⟨_, rfl, ?_⟩; have n0_ := Aside0.mk (below_step (by repeat (first | (with_reducible first | exact HB.out | apply below_alloc | apply pw_below_drewN | apply below_drew1) | exact HB.out)) hb); clear HB; have HB := n0_; clear n0_; (try clear hb); (try clear hb2); (try clear hk); (try clear hi)) | ((with_reducible refine gate_callee (f := 49) rfl ?_); refine goesL_ (some 148) rfl rfl Tryz.func49 (by kernel_rfl) rfl #[.string a0, .int .i64 (wrap64 ((wrap64 (a1)) + 1)), .int .i64 (wrap64 (a2)), .int .u8 42] rfl (by (try simp only [List.map_toArray, List.map_cons, List.map_nil]); first | done | rfl | (simp only [List.length_drop, List.length_take]; rfl)) ?_; (with_reducible refine (text_Substr.calls a0 (wrap64 ((wrap64 (a1)) + 1)) (wrap64 (a2)) 42 t737 t738 _ A40.out).mono ?_); rintro e w49 ⟨rfl, hb⟩; refine ⟨_, rfl, ?_⟩; have n0_ := Aside0.mk (below_step (by repeat (first | (with_reducible first | exact HB.out | apply below_alloc | apply pw_below_drewN | apply below_drew1) | exact HB.out)) hb); clear HB; have HB := n0_; clear n0_; (try clear hb); (try clear hb2); (try clear hk); (try clear hi)) | ((with_reducible refine gate_callee (f := 51) rfl ?_); refine goesL_ (some 156) rfl rfl Tryz.func51 (by kernel_rfl) rfl #[.string t737, .string t735, .int .i64 (wrap64 ((wrap64 ((wrap64 (a1)) + 1)) - 1)), .int .i64 (-1), .int .u8 42] rfl (by (try simp only [List.map_toArray, List.map_cons, List.map_nil]); first | done | rfl | (simp only [List.length_drop, List.length_take]; rfl)) ?_; (with_reducible refine (text_Insert.calls t737 t735 (wrap64 ((wrap64 ((wrap64 (a1)) + 1)) - 1)) (-1) 42 t739 t740 _ A41.out).mono ?_); rintro e w50 ⟨rfl, hb⟩; refine ⟨_, rfl, ?_⟩; have n0_ := Aside0.mk (below_step (by repeat (first | (with_reducible first | exact HB.out | apply below_alloc | apply pw_below_drewN | apply below_drew1) | exact HB.out)) hb); clear HB; have HB := n0_; clear n0_; (try clear hb); (try clear hb2); (try clear hk); (try clear hi)))
                                  go_ret
                                  exact ⟨by first | rfl | (simp [errW_none, errW_some] <;> rfl) | (simp [*, errW_none, errW_some] <;> rfl), by repeat (first | (with_reducible first | exact HB.out | apply below_alloc | apply pw_below_drewN | apply below_drew1) | exact HB.out)⟩
                                · rw [if_neg c47] at H
                                  have c47b0 : ((t737.size : Int) == (wrap64 (a2))) = false := beq_eq_false_iff_ne.mpr c47
                                  have c47b1 : ((t737.size : Int) != (wrap64 (a2))) = true := bne_iff_ne.mpr c47
                                  obtain rfl := Option.some.inj H
                                  go_wp2_with (first | ((with_reducible refine gate_callee (f := 50) rfl ?_); refine goesL_ (some 140) rfl rfl Tryz.func50 (by kernel_rfl) rfl #[.string a0, .int .i64 (wrap64 ((wrap64 (a1)) + 1)), .int .i64 (wrap64 (a2))] rfl (by (try simp only [List.map_toArray, List.map_cons, List.map_nil]); first | done | rfl | (simp only [List.length_drop, List.length_take]; rfl)) ?_; (with_reducible refine (text_DelStr.calls a0 (wrap64 ((wrap64 (a1)) + 1)) (wrap64 (a2)) t735 t736 _ A39.out).mono ?_); rintro e w51 ⟨rfl, hb⟩; refine ⟨_, rfl, ?_⟩; have n0_ := Aside0.mk (below_step (by repeat (first | (with_reducible first | exact HB.out | apply below_alloc | apply pw_below_drewN | apply below_drew1) | exact HB.out)) hb); clear HB; have HB := n0_; clear n0_; (try clear hb); (try clear hb2); (try clear hk); (try clear hi)) | ((with_reducible refine gate_callee (f := 49) rfl ?_); refine goesL_ (some 148) rfl rfl Tryz.func49 (by kernel_rfl) rfl #[.string a0, .int .i64 (wrap64 ((wrap64 (a1)) + 1)), .int .i64 (wrap64 (a2)), .int .u8 42] rfl (by (try simp only [List.map_toArray, List.map_cons, List.map_nil]); first | done | rfl | (simp only [List.length_drop, List.length_take]; rfl)) ?_; (with_reducible refine (text_Substr.calls a0 (wrap64 ((wrap64 (a1)) + 1)) (wrap64 (a2)) 42 t737 t738 _ A40.out).mono ?_); rintro e w52 ⟨rfl, hb⟩; refine ⟨_, rfl, ?_⟩; have n0_ := Aside0.mk (below_step (by repeat (first | (with_reducible first | exact HB.out | apply below_alloc | apply pw_below_drewN | apply below_drew1) | exact HB.out)) hb); clear HB; have HB := n0_; clear n0_; (try clear hb); (try clear hb2); (try clear hk); (try clear hi)) | ((with_reducible refine gate_callee (f := 51) rfl ?_); refine goesL_ (some 156) rfl rfl Tryz.func51 (by kernel_rfl) rfl #[.string t737, .string t735, .int .i64 (wrap64 ((wrap64 ((wrap64 (a1)) + 1)) - 1)), .int .i64 (-1), .int .u8 42] rfl (by (try simp only [List.map_toArray, List.map_cons, List.map_nil]); first | done | rfl | (simp only [List.length_drop, List.length_take]; rfl)) ?_; (with_reducible refine (text_Insert.calls t737 t735 (wrap64 ((wrap64 ((wrap64 (a1)) + 1)) - 1)) (-1) 42 t739 t740 _ A41.out).mono ?_); rintro e w53 ⟨rfl, hb⟩; refine ⟨_, rfl, ?_⟩; have n0_ := Aside0.mk (below_step (by repeat (first | (with_reducible first | exact HB.out | apply below_alloc | apply pw_below_drewN | apply below_drew1) | exact HB.out)) hb); clear HB; have HB := n0_; clear n0_; (try clear hb); (try clear hb2); (try clear hk); (try clear hi)))
                                  go_ret
                                  exact ⟨by first | rfl | (simp [errW_none, errW_some] <;> rfl) | (simp [*, errW_none, errW_some] <;> rfl), by repeat (first | (with_reducible first | exact HB.out | apply below_alloc | apply pw_below_drewN | apply below_drew1) | exact HB.out)⟩
                              · rw [if_neg c46] at H
                                have c46b0 : (t739.toList == a0.toList) = false := beq_eq_false_iff_ne.mpr c46
                                have c46b1 : (t739.toList != a0.toList) = true := bne_iff_ne.mpr c46
                                obtain rfl := Option.some.inj H
                                go_wp2_with (first | ((with_reducible refine gate_callee (f := 50) rfl ?_); refine goesL_ (some 140) rfl rfl Tryz.func50 (by kernel_rfl) rfl #[.string a0, .int .i64 (wrap64 ((wrap64 (a1)) + 1)), .int .i64 (wrap64 (a2))] rfl (by (try simp only [List.map_toArray, List.map_cons, List.map_nil]); first | done | rfl | (simp only [List.length_drop, List.length_take]; rfl)) ?_; (with_reducible refine (text_DelStr.calls a0 (wrap64 ((wrap64 (a1)) + 1)) (wrap64 (a2)) t735 t736 _ A39.out).mono ?_); rintro e w54 ⟨rfl, hb⟩; refine ⟨_, rfl, ?_⟩; have n0_ := Aside0.mk (below_step (by repeat (first | (with_reducible first | exact HB.out | apply below_alloc | apply pw_below_drewN | apply below_drew1) | exact HB.out)) hb); clear HB; have HB := n0_; clear n0_; (try clear hb); (try clear hb2); (try clear hk); (try clear hi)) | ((with_reducible refine gate_callee (f := 49) rfl ?_); refine goesL_ (some 148) rfl rfl Tryz.func49 (by kernel_rfl) rfl #[.string a0, .int .i64 (wrap64 ((wrap64 (a1)) + 1)), .int .i64 (wrap64 (a2)), .int .u8 42] rfl (by (try simp only [List.map_toArray, List.map_cons, List.map_nil]); first | done | rfl | (simp only [List.length_drop, List.length_take]; rfl)) ?_; (with_reducible refine (text_Substr.calls a0 (wrap64 ((wrap64 (a1)) + 1)) (wrap64 (a2)) 42 t737 t738 _ A40.out).mono ?_); rintro e w55 ⟨rfl, hb⟩; refine ⟨_, rfl, ?_⟩; have n0_ := Aside0.mk (below_step (by repeat (first | (with_reducible first | exact HB.out | apply below_alloc | apply pw_below_drewN | apply below_drew1) | exact HB.out)) hb); clear HB; have HB := n0_; clear n0_; (try clear hb); (try clear hb2); (try clear hk); (try clear hi)) | ((with_reducible refine gate_callee (f := 51) rfl ?_); refine goesL_ (some 156) rfl rfl Tryz.func51 (by kernel_rfl) rfl #[.string t737, .string t735, .int .i64 (wrap64 ((wrap64 ((wrap64 (a1)) + 1)) - 1)), .int .i64 (-1), .int .u8 42] rfl (by (try simp only [List.map_toArray, List.map_cons, List.map_nil]); first | done | rfl | (simp only [List.length_drop, List.length_take]; rfl)) ?_; (with_reducible refine (text_Insert.calls t737 t735 (wrap64 ((wrap64 ((wrap64 (a1)) + 1)) - 1)) (-1) 42 t739 t740 _ A41.out).mono ?_); rintro e w56 ⟨rfl, hb⟩; refine ⟨_, rfl, ?_⟩; have n0_ := Aside0.mk (below_step (by repeat (first | (with_reducible first | exact HB.out | apply below_alloc | apply pw_below_drewN | apply below_drew1) | exact HB.out)) hb); clear HB; have HB := n0_; clear n0_; (try clear hb); (try clear hb2); (try clear hk); (try clear hi)))
                                go_ret
                                exact ⟨by first | rfl | (simp [errW_none, errW_some] <;> rfl) | (simp [*, errW_none, errW_some] <;> rfl), by repeat (first | (with_reducible first | exact HB.out | apply below_alloc | apply pw_below_drewN | apply below_drew1) | exact HB.out)⟩
                            · rw [if_neg c45] at H
                              have c45b0 : (t740 == 0) = false := beq_eq_false_iff_ne.mpr c45
                              have c45b1 : (t740 != 0) = true := bne_iff_ne.mpr c45
                              obtain rfl := Option.some.inj H
                              go_wp2_with (first | ((with_reducible refine gate_callee (f := 50) rfl ?_); refine goesL_ (some 140) rfl rfl Tryz.func50 (by kernel_rfl) rfl #[.string a0, .int .i64 (wrap64 ((wrap64 (a1)) + 1)), .int .i64 (wrap64 (a2))] rfl (by (try simp only [List.map_toArray, List.map_cons, List.map_nil]); first | done | rfl | (simp only [List.length_drop, List.length_take]; rfl)) ?_; (with_reducible refine (text_DelStr.calls a0 (wrap64 ((wrap64 (a1)) + 1)) (wrap64 (a2)) t735 t736 _ A39.out).mono ?_); rintro e w57 ⟨rfl, hb⟩; refine ⟨_, rfl, ?_⟩; have n0_ := Aside0.mk (below_step (by repeat (first | (with_reducible first | exact HB.out | apply below_alloc | apply pw_below_drewN | apply below_drew1) | exact HB.out)) hb); clear HB; have HB := n0_; clear n0_; (try clear hb); (try clear hb2); (try clear hk); (try clear hi)) | ((with_reducible refine gate_callee (f := 49) rfl ?_); refine goesL_ (some 148) rfl rfl Tryz.func49 (by kernel_rfl) rfl #[.string a0, .int .i64 (wrap64 ((wrap64 (a1)) + 1)), .int .i64 (wrap64 (a2)), .int .u8 42] rfl (by (try simp only [List.map_toArray, List.map_cons, List.map_nil]); first | done | rfl | (simp only [List.length_drop, List.length_take]; rfl)) ?_; (with_reducible refine (text_Substr.calls a0 (wrap64 ((wrap64 (a1)) + 1)) (wrap64 (a2)) 42 t737 t738 _ A40.out).mono ?_); rintro e w58 ⟨rfl, hb⟩; refine ⟨_, rfl, ?_⟩; have n0_ := Aside0.mk (below_step (by repeat (first | (with_reducible first | exact HB.out | apply below_alloc | apply pw_below_drewN | apply below_drew1) | exact HB.out)) hb); clear HB; have HB := n0_; clear n0_; (try clear hb); (try clear hb2); (try clear hk); (try clear hi)) | ((with_reducible refine gate_callee (f := 51) rfl ?_); refine goesL_ (some 156) rfl rfl Tryz.func51 (by kernel_rfl) rfl #[.string t737, .string t735, .int .i64 (wrap64 ((wrap64 ((wrap64 (a1)) + 1)) - 1)), .int .i64 (-1), .int .u8 42] rfl (by (try simp only [List.map_toArray, List.map_cons, List.map_nil]); first | done | rfl | (simp only [List.length_drop, List.length_take]; rfl)) ?_; (with_reducible refine (text_Insert.calls t737 t735 (wrap64 ((wrap64 ((wrap64 (a1)) + 1)) - 1)) (-1) 42 t739 t740 _ A41.out).mono ?_); rintro e w59 ⟨rfl, hb⟩; refine ⟨_, rfl, ?_⟩; have n0_ := Aside0.mk (below_step (by repeat (first | (with_reducible first | exact HB.out | apply below_alloc | apply pw_below_drewN | apply below_drew1) | exact HB.out)) hb); clear HB; have HB := n0_; clear n0_; (try clear hb); (try clear hb2); (try clear hk); (try clear hi)))
                              go_ret
                              exact ⟨by first | rfl | (simp [errW_none, errW_some] <;> rfl) | (simp [*, errW_none, errW_some] <;> rfl), by repeat (first | (with_reducible first | exact HB.out | apply below_alloc | apply pw_below_drewN | apply below_drew1) | exact HB.out)⟩
                          · rw [if_neg c44] at H
                            have c44b0 : (t738 == 0) = false := beq_eq_false_iff_ne.mpr c44
                            have c44b1 : (t738 != 0) = true := bne_iff_ne.mpr c44
                            obtain rfl := Option.some.inj H
                            go_wp2_with (first | ((with_reducible refine gate_callee (f := 50) rfl ?_); refine goesL_ (some 140) rfl rfl Tryz.func50 (by kernel_rfl) rfl #[.string a0, .int .i64 (wrap64 ((wrap64 (a1)) + 1)), .int .i64 (wrap64 (a2))] rfl (by (try simp only [List.map_toArray, List.map_cons, List.map_nil]); first | done | rfl | (simp only [List.length_drop, List.length_take]; rfl)) ?_; (with_reducible refine (text_DelStr.calls a0 (wrap64 ((wrap64 (a1)) + 1)) (wrap64 (a2)) t735 t736 _ A39.out).mono ?_); rintro e w60 ⟨rfl, hb⟩; refine ⟨_, rfl, ?_⟩; have n0_ := Aside0.mk (below_step (by repeat (first | (with_reducible first | exact HB.out | apply below_alloc | apply pw_below_drewN | apply below_drew1) | exact HB.out)) hb); clear HB; have HB := n0_; clear n0_; (try clear hb); (try clear hb2); (try clear hk); (try clear hi)) | ((with_reducible refine gate_callee (f := 49) rfl ?_); refine goesL_ (some 148) rfl rfl Tryz.func49 (by kernel_rfl) rfl #[.string a0, .int .i64 (wrap64 ((wrap64 (a1)) + 1)), .int .i64 (wrap64 (a2)), .int .u8 42] rfl (by (try simp only [List.map_toArray, List.map_cons, List.map_nil]); first | done | rfl | (simp only [List.length_drop, List.length_take]; rfl)) ?_; (with_reducible refine (text_Substr.calls a0 (wrap64 ((wrap64 (a1)) + 1)) (wrap64 (a2)) 42 t737 t738 _ A40.out).mono ?_); rintro e w61 ⟨rfl, hb⟩; refine ⟨_, rfl, ?_⟩; have n0_ := Aside0.mk (below_step (by repeat (first | (with_reducible first | exact HB.out | apply below_alloc | apply pw_below_drewN | apply below_drew1) | exact HB.out)) hb); clear HB; have HB := n0_; clear n0_; (try clear hb); (try clear hb2); (try clear hk); (try clear hi)) | ((with_reducible refine gate_callee (f := 51) rfl ?_); refine goesL_ (some 156) rfl rfl Tryz.func51 (by kernel_rfl) rfl #[.string t737, .string t735, .int .i64 (wrap64 ((wrap64 ((wrap64 (a1)) + 1)) - 1)), .int .i64 (-1), .int .u8 42] rfl (by (try simp only [List.map_toArray, List.map_cons, List.map_nil]); first | done | rfl | (simp only [List.length_drop, List.length_take]; rfl)) ?_; (with_reducible refine (text_Insert.calls t737 t735 (wrap64 ((wrap64 ((wrap64 (a1)) + 1)) - 1)) (-1) 42 t739 t740 _ A41.out).mono ?_); rintro e w62 ⟨rfl, hb⟩; refine ⟨_, rfl, ?_⟩; have n0_ := Aside0.mk (below_step (by repeat (first | (with_reducible first | exact HB.out | apply below_alloc | apply pw_below_drewN | apply below_drew1) | exact HB.out)) hb); clear HB; have HB := n0_; clear n0_; (try clear hb); (try clear hb2); (try clear hk); (try clear hi)))
                            go_ret
                            exact ⟨by first | rfl | (simp [errW_none, errW_some] <;> rfl) | (simp [*, errW_none, errW_some] <;> rfl), by repeat (first | (with_reducible first | exact HB.out | apply below_alloc | apply pw_below_drewN | apply below_drew1) | exact HB.out)⟩
                        · rw [if_neg c43] at H
                          have c43b0 : (t736 == 0) = false := beq_eq_false_iff_ne.mpr c43
                          have c43b1 : (t736 != 0) = true := bne_iff_ne.mpr c43
                          obtain rfl := Option.some.inj H
                          go_wp2_with (first | ((with_reducible refine gate_callee (f := 50) rfl ?_); refine goesL_ (some 140) rfl rfl Tryz.func50 (by kernel_rfl) rfl #[.string a0, .int .i64 (wrap64 ((wrap64 (a1)) + 1)), .int .i64 (wrap64 (a2))] rfl (by (try simp only [List.map_toArray, List.map_cons, List.map_nil]); first | done | rfl | (simp only [List.length_drop, List.length_take]; rfl)) ?_; (with_reducible refine (text_DelStr.calls a0 (wrap64 ((wrap64 (a1)) + 1)) (wrap64 (a2)) t735 t736 _ A39.out).mono ?_); rintro e w63 ⟨rfl, hb⟩; refine ⟨_, rfl, ?_⟩; have n0_ := Aside0.mk (below_step (by repeat (first | (with_reducible first | exact HB.out | apply below_alloc | apply pw_below_drewN | apply below_drew1) | exact HB.out)) hb); clear HB; have HB := n0_; clear n0_; (try clear hb); (try clear hb2); (try clear hk); (try clear hi)) | ((with_reducible refine gate_callee (f := 49) rfl ?_); refine goesL_ (some 148) rfl rfl Tryz.func49 (by kernel_rfl) rfl #[.string a0, .int .i64 (wrap64 ((wrap64 (a1)) + 1)), .int .i64 (wrap64 (a2)), .int .u8 42] rfl (by (try simp only [List.map_toArray, List.map_cons, List.map_nil]); first | done | rfl | (simp only [List.length_drop, List.length_take]; rfl)) ?_; (with_reducible refine (text_Substr.calls a0 (wrap64 ((wrap64 (a1)) + 1)) (wrap64 (a2)) 42 t737 t738 _ A40.out).mono ?_); rintro e w64 ⟨rfl, hb⟩; refine ⟨_, rfl, ?_⟩; have n0_ := Aside0.mk (below_step (by repeat (first | (with_reducible first | exact HB.out | apply below_alloc | apply pw_below_drewN | apply below_drew1) | exact HB.out)) hb); clear HB; have HB := n0_; clear n0_; (try clear hb); (try clear hb2); (try clear hk); (try clear hi)) | ((with_reducible refine gate_callee (f := 51) rfl ?_); refine goesL_ (some 156) rfl rfl Tryz.func51 (by kernel_rfl) rfl #[.string t737, .string t735, .int .i64 (wrap64 ((wrap64 ((wrap64 (a1)) + 1)) - 1)), .int .i64 (-1), .int .u8 42] rfl (by (try simp only [List.map_toArray, List.map_cons, List.map_nil]); first | done | rfl | (simp only [List.length_drop, List.length_take]; rfl)) ?_; (with_reducible refine (text_Insert.calls t737 t735 (wrap64 ((wrap64 ((wrap64 (a1)) + 1)) - 1)) (-1) 42 t739 t740 _ A41.out).mono ?_); rintro e w65 ⟨rfl, hb⟩; refine ⟨_, rfl, ?_⟩; have n0_ := Aside0.mk (below_step (by repeat (first | (with_reducible first | exact HB.out | apply below_alloc | apply pw_below_drewN | apply below_drew1) | exact HB.out)) hb); clear HB; have HB := n0_; clear n0_; (try clear hb); (try clear hb2); (try clear hk); (try clear hi)))
                          go_ret
                          exact ⟨by first | rfl | (simp [errW_none, errW_some] <;> rfl) | (simp [*, errW_none, errW_some] <;> rfl), by repeat (first | (with_reducible first | exact HB.out | apply below_alloc | apply pw_below_drewN | apply below_drew1) | exact HB.out)⟩
                      · replace c42 := Bool.eq_false_iff.mpr c42
                        subst c42
                        have H1 : (some false) = some r := by rw [if_neg (show ¬ (false = true) by decide)] at H; exact H
                        clear H
                        have H := H1
                        clear H1
                        obtain rfl := Option.some.inj H
                        go_wp2_with (first | ((with_reducible refine gate_callee (f := 50) rfl ?_); refine goesL_ (some 140) rfl rfl Tryz.func50 (by kernel_rfl) rfl #[.string a0, .int .i64 (wrap64 ((wrap64 (a1)) + 1)), .int .i64 (wrap64 (a2))] rfl (by (try simp only [List.map_toArray, List.map_cons, List.map_nil]); first | done | rfl | (simp only [List.length_drop, List.length_take]; rfl)) ?_; (with_reducible refine (text_DelStr.calls a0 (wrap64 ((wrap64 (a1)) + 1)) (wrap64 (a2)) t735 t736 _ A39.out).mono ?_); rintro e w66 ⟨rfl, hb⟩; refine ⟨_, rfl, ?_⟩; have n0_ := Aside0.mk (below_step (by repeat (first | (with_reducible first | exact HB.out | apply below_alloc | apply pw_below_drewN | apply below_drew1) | exact HB.out)) hb); clear HB; have HB := n0_; clear n0_; (try clear hb); (try clear hb2); (try clear hk); (try clear hi)) | ((with_reducible refine gate_callee (f := 49) rfl ?_); refine goesL_ (some 148) rfl rfl Tryz.func49 (by kernel_rfl) rfl #[.string a0, .int .i64 (wrap64 ((wrap64 (a1)) + 1)), .int .i64 (wrap64 (a2)), .int .u8 42] rfl (by (try simp only [List.map_toArray, List.map_cons, List.map_nil]); first | done | rfl | (simp only [List.length_drop, List.length_take]; rfl)) ?_; (with_reducible refine (text_Substr.calls a0 (wrap64 ((wrap64 (a1)) + 1)) (wrap64 (a2)) 42 t737 t738 _ A40.out).mono ?_); rintro e w67 ⟨rfl, hb⟩; refine ⟨_, rfl, ?_⟩; have n0_ := Aside0.mk (below_step (by repeat (first | (with_reducible first | exact HB.out | apply below_alloc | apply pw_below_drewN | apply below_drew1) | exact HB.out)) hb); clear HB; have HB := n0_; clear n0_; (try clear hb); (try clear hb2); (try clear hk); (try clear hi)) | ((with_reducible refine gate_callee (f := 51) rfl ?_); refine goesL_ (some 156) rfl rfl Tryz.func51 (by kernel_rfl) rfl #[.string t737, .string t735, .int .i64 (wrap64 ((wrap64 ((wrap64 (a1)) + 1)) - 1)), .int .i64 (-1), .int .u8 42] rfl (by (try simp only [List.map_toArray, List.map_cons, List.map_nil]); first | done | rfl | (simp only [List.length_drop, List.length_take]; rfl)) ?_; (with_reducible refine (text_Insert.calls t737 t735 (wrap64 ((wrap64 ((wrap64 (a1)) + 1)) - 1)) (-1) 42 t739 t740 _ A41.out).mono ?_); rintro e w68 ⟨rfl, hb⟩; refine ⟨_, rfl, ?_⟩; have n0_ := Aside0.mk (below_step (by repeat (first | (with_reducible first | exact HB.out | apply below_alloc | apply pw_below_drewN | apply below_drew1) | exact HB.out)) hb); clear HB; have HB := n0_; clear n0_; (try clear hb); (try clear hb2); (try clear hk); (try clear hi)))
                        go_ret
                        exact ⟨by first | rfl | (simp [errW_none, errW_some] <;> rfl) | (simp [*, errW_none, errW_some] <;> rfl), by repeat (first | (with_reducible first | exact HB.out | apply below_alloc | apply pw_below_drewN | apply below_drew1) | exact HB.out)⟩
  · replace c6 := Bool.eq_false_iff.mpr c6
    subst c6
    have H1 : (some t719) = some r := by rw [if_neg (show ¬ (false = true) by decide)] at H; exact H
    clear H
    have H := H1
    clear H1
    obtain rfl := Option.some.inj H
    go_enter Tryz.func10, Tryz.ntmps10
    go_wp2_with (first | ((with_reducible refine gate_callee (f := 15) rfl ?_); refine goesL_ (some 27) rfl rfl Tryz.func15 (by kernel_rfl) rfl #[] rfl (by (try simp only [List.map_toArray, List.map_cons, List.map_nil]); first | done | rfl | (simp only [List.length_drop, List.length_take]; rfl)) ?_; (with_reducible refine (qanatlaw02_head.calls k  t719 _ (TabOK.of_below hT (by repeat (first | (with_reducible first | exact HB.out | apply below_alloc | apply pw_below_drewN | apply below_drew1) | exact HB.out))) A4.out).mono ?_); rintro e w69 ⟨rfl, hb⟩; refine ⟨_, rfl, ?_⟩; have n0_ := Aside0.mk (below_step (by repeat (first | (with_reducible first | exact HB.out | apply below_alloc | apply pw_below_drewN | apply below_drew1) | exact HB.out)) hb); clear HB; have HB := n0_; clear n0_; (try clear hb); (try clear hb2); (try clear hk); (try clear hi)) | ((with_reducible refine gate_callee (f := 65) rfl ?_); refine goesL_ (some 29) rfl rfl Tryz.func65 (by kernel_rfl) rfl #[.string a0] rfl (by (try simp only [List.map_toArray, List.map_cons, List.map_nil]); first | done | rfl | (simp only [List.length_drop, List.length_take]; rfl)) ?_; (with_reducible refine (text_Valid.calls a0 false _ A5.out).mono ?_); rintro e w70 ⟨rfl, hb⟩; refine ⟨_, rfl, ?_⟩; have n0_ := Aside0.mk (below_step (by repeat (first | (with_reducible first | exact HB.out | apply below_alloc | apply pw_below_drewN | apply below_drew1) | exact HB.out)) hb); clear HB; have HB := n0_; clear n0_; (try clear hb); (try clear hb2); (try clear hk); (try clear hi)))
    go_ret
    exact ⟨by first | rfl | (simp [errW_none, errW_some] <;> rfl) | (simp [*, errW_none, errW_some] <;> rfl), by repeat (first | (with_reducible first | exact HB.out | apply below_alloc | apply pw_below_drewN | apply below_drew1) | exact HB.out)⟩

/-- THE ONE PURE STATEMENT of qanatlaw02_TextSplits: yours. -/
def qanatlaw02_TextSplits.Pure : Prop := ∀ (a0 : ByteArray) (a1 : Int) (a2 : Int), a0.size ≤ 140737488351232 → (Lit.int .u8 a1).wf = true → (Lit.int .u8 a2).wf = true → ∃ k, qanatlaw02_TextSplits.f k a0 a1 a2 = some true
theorem qanatlaw02_TextSplits.walk (P : qanatlaw02_TextSplits.Pure) (a0 : ByteArray) (a1 : Int) (a2 : Int) (w : World) (hT : TabOK w) (w0 : a0.size ≤ 140737488351232) (w1 : (Lit.int .u8 a1).wf = true) (w2 : (Lit.int .u8 a2).wf = true) :
    Calls Tryz.prog 10 #[.string a0, .int .u8 a1, .int .u8 a2] w fun e w' => e = .returned (.bool true) ∧ Below w.heap.size w w' := by
  obtain ⟨k, h⟩ := P a0 a1 a2 w0 w1 w2
  refine (qanatlaw02_TextSplits.calls k a0 a1 a2 true w hT h).mono ?_
  rintro e w' ⟨rfl, hd⟩
  exact ⟨rfl, hd⟩

end Go.Proofs.YtlekfhnlhdmekaaGreatDoor.T

/- The reference's Valid and out: the walks (written by mp.py over the kit's print.py), and what they compute. -/
namespace Go.Proofs.YtlekfhnlhdmekaaGreatDoor.TP
set_option linter.unusedSimpArgs false
open Go.RowKit Go.Proofs.YtlekfhnlhdmekaaGreatDoorW.PrintWords Go.Proofs.YtlekfhnlhdmekaaGreatDoorW.PrintLast Go.Proofs.YtlekfhnlhdmekaaGreatDoorW.PrintMore Go.Proofs.YtlekfhnlhdmekaaGreatDoor.T
attribute [local go_sem] max2_int min2_int max_two min_two max_three min_three max_four min_four
set_option linter.unusedVariables false
set_option linter.unusedSimpArgs false

/-! ### qanatref02_Pad: function 98 -/
def qanatref02_Pad.f (a0 : Int) : Option (Bool) := if a0 ≥ 32 then (some (decide (a0 ≤ 126))) else (some false)
set_option maxHeartbeats 8000000 in
set_option maxRecDepth 100000 in
theorem qanatref02_Pad.calls (a0 : Int) (r : Bool) (w : World) (h : qanatref02_Pad.f a0 = some r) :
    Calls Tryz.prog 98 #[.int .u8 a0] w fun e w' => e = .returned (.bool r) ∧ Drawn0 w w' := by
  have H : (if a0 ≥ 32 then (some (decide (a0 ≤ 126))) else (some false)) = some r := h
  clear h
  by_cases c2 : a0 ≥ 32
  · rw [if_pos c2] at H
    have c2b0 : decide (32 ≤ a0) = true := decide_eq_true c2
    clear c2
    obtain rfl := Option.some.inj H
    go_enter Tryz.func98, Tryz.ntmps98
    go_wp2
    go_ret
    exact ⟨by first | rfl | (simp; done) | (simp [*]; done), by repeat (first | exact Drawn0.refl _ | apply Drawn0.step)⟩
  · rw [if_neg c2] at H
    have c2b0 : decide (32 ≤ a0) = false := decide_eq_false c2
    clear c2
    obtain rfl := Option.some.inj H
    go_enter Tryz.func98, Tryz.ntmps98
    go_wp2
    go_ret
    exact ⟨by first | rfl | (simp; done) | (simp [*]; done), by repeat (first | exact Drawn0.refl _ | apply Drawn0.step)⟩

/-! ### qanatref02_Valid: function 89 -/
def qanatref02_Valid.l0 : Nat → ByteArray → Int → Option (Bool)
  | 0, _, _ => none
  | k + 1, x0, x3 => if x3 < (x0.size : Int) then (if 0 ≤ x3 then ((qanatref02_Pad.f (bt x0 x3)).bind fun t186 => (if t186 = true then (qanatref02_Valid.l0 k x0 (wrap64 (x3 + 1))) else (some false))) else (none)) else (some true)
def qanatref02_Valid.f (k : Nat) (a0 : ByteArray) : Option (Bool) := if (a0.size : Int) > 1000 then (some false) else (qanatref02_Valid.l0 k a0 0)
theorem qanatref02_Valid.mono_l : ∀ k, (∀ y0 y1, LeO (qanatref02_Valid.l0 k y0 y1) (qanatref02_Valid.l0 (k + 1) y0 y1))
  | 0 => fun _ _ r h => by simp [qanatref02_Valid.l0] at h
  | k + 1 => by
    have ih0 := qanatref02_Valid.mono_l k
    · intro y0 y1
      unfold qanatref02_Valid.l0
      repeat' first
      | (with_reducible exact ih0 _ _)
      | (with_reducible exact LeO.refl _)
      | (with_reducible exact LeO.none _)
      | (with_reducible refine LeO.ite ?_ ?_)
      | (with_reducible refine LeO.bind ?_ (fun _ => ?_))
      | exact ih0 _ _
      | exact LeO.none _
      | refine LeO.ite ?_ ?_
      | refine LeO.bind ?_ (fun _ => ?_)
theorem qanatref02_Valid.mono : ∀ a0 k, LeO (qanatref02_Valid.f k a0) (qanatref02_Valid.f (k + 1) a0) := by
  intro a0 k
  have ih0 := qanatref02_Valid.mono_l k
  unfold qanatref02_Valid.f
  repeat' first
      | (with_reducible exact ih0 _ _)
      | (with_reducible exact LeO.refl _)
      | (with_reducible exact LeO.none _)
      | (with_reducible refine LeO.ite ?_ ?_)
      | (with_reducible refine LeO.bind ?_ (fun _ => ?_))
      | exact ih0 _ _
      | exact LeO.none _
      | refine LeO.ite ?_ ?_
      | refine LeO.bind ?_ (fun _ => ?_)
set_option maxHeartbeats 8000000 in
set_option maxRecDepth 100000 in
theorem qanatref02_Valid.calls (k : Nat) (a0 : ByteArray) (r : Bool) (w : World) (h : qanatref02_Valid.f k a0 = some r) :
    Calls Tryz.prog 89 #[.string a0] w fun e w' => e = .returned (.bool r) ∧ Drawn0 w w' := by
  have H : (if (a0.size : Int) > 1000 then (some false) else (qanatref02_Valid.l0 k a0 0)) = some r := h
  clear h
  by_cases c2 : (a0.size : Int) > 1000
  · rw [if_pos c2] at H
    have c2b0 : decide (1000 < (a0.size : Int)) = true := decide_eq_true c2
    have c2b1 : decide (1000 < a0.size) = true := decide_eq_true (by omega)
    clear c2
    obtain rfl := Option.some.inj H
    go_enter Tryz.func89, Tryz.ntmps89
    go_wp2
    go_ret
    exact ⟨by first | rfl | (simp; done) | (simp [*]; done), by repeat (first | exact Drawn0.refl _ | apply Drawn0.step)⟩
  · rw [if_neg c2] at H
    have c2b0 : decide (1000 < (a0.size : Int)) = false := decide_eq_false c2
    have c2b1 : decide (1000 < a0.size) = false := decide_eq_false (by omega)
    clear c2
    have H' := Aside0.mk H
    clear H
    go_enter Tryz.func89, Tryz.ntmps89
    go_wp2
    go_loopg [3] k (fun kq v3 w' => ∃ (x3_1 : Int), v3 = .int .i64 x3_1 ∧ Aside0 (qanatref02_Valid.l0 kq a0 x3_1 = some r) ∧ Aside0 (kq ≤ k) ∧ Drawn0 w w')
    case atStart => exact ⟨(0), (by first | rfl | (simp; done) | (simp [*]; done)), H', ⟨Nat.le_refl _⟩, by repeat (first | exact Drawn0.refl _ | apply Drawn0.step)⟩
    case round =>
      clear H'
      try clear c2
      try clear c2b0
      try clear c2b1
      try clear p2
      obtain ⟨x3_1, rfl, HA, HK1, ⟨m1, rfl⟩⟩ := hrel
      cases gk with
      | zero => exact absurd HA.out (by simp [qanatref02_Valid.l0])
      | succ k1 =>
        have H := HA.out
        clear HA
        simp only [qanatref02_Valid.l0] at H
        by_cases c3 : x3_1 < (a0.size : Int)
        · rw [if_pos c3] at H
          have c3b0 : decide (x3_1 < (a0.size : Int)) = true := decide_eq_true c3
          clear c3
          by_cases c4 : 0 ≤ x3_1
          · rw [if_pos c4] at H
            have c4b0 : decide (0 ≤ x3_1) = true := decide_eq_true c4
            clear c4
            replace H := Option.bind_eq_some_iff.mp H
            obtain ⟨t186, A60, H⟩ := H
            replace H : (if t186 = true then (qanatref02_Valid.l0 k1 a0 (wrap64 (x3_1 + 1))) else (some false)) = some r := H
            have A6 := Aside0.mk A60
            clear A60
            by_cases c7 : t186 = true
            · subst c7
              have H1 : (qanatref02_Valid.l0 k1 a0 (wrap64 (x3_1 + 1))) = some r := by rw [if_pos rfl] at H; exact H
              clear H
              have H := H1
              clear H1
              have H' := Aside0.mk H
              clear H
              have p5 : 0 ≤ (x3_1 : Int) := of_decide_eq_true (by first | (with_reducible assumption) | assumption)
              have q5 : x3_1 < (a0.size : Int) := of_decide_eq_true (by first | (with_reducible assumption) | assumption)
              have hx5 := bt_at a0 x3_1
              replace p5 := eq_true p5
              replace q5 := eq_true q5
              go_wp2_with (first | ((with_reducible refine gate_callee (f := 98) rfl ?_); refine goesL_ (some 16) rfl rfl Tryz.func98 (by kernel_rfl) rfl #[.int .u8 (bt a0 x3_1)] rfl (by (try simp only [List.map_toArray, List.map_cons, List.map_nil]); first | done | rfl | (simp only [List.length_drop, List.length_take]; rfl)) ?_; (with_reducible refine (qanatref02_Pad.calls (bt a0 x3_1) true _ A6.out).mono ?_); rintro e w' ⟨rfl, ⟨nd, rfl⟩⟩; refine ⟨_, rfl, ?_⟩))
              go_roundg k1
              case measure => have := HK1.out; omega
              case rel => exact ⟨(wrap64 (x3_1 + 1)), (by first | rfl | (simp; done) | (simp [*]; done)), H', ⟨by have := HK1.out; omega⟩, by repeat (first | exact Drawn0.refl _ | apply Drawn0.step)⟩
            · replace c7 := Bool.eq_false_iff.mpr c7
              subst c7
              have H1 : (some false) = some r := by rw [if_neg (show ¬ (false = true) by decide)] at H; exact H
              clear H
              have H := H1
              clear H1
              obtain rfl := Option.some.inj H
              have p5 : 0 ≤ (x3_1 : Int) := of_decide_eq_true (by first | (with_reducible assumption) | assumption)
              have q5 : x3_1 < (a0.size : Int) := of_decide_eq_true (by first | (with_reducible assumption) | assumption)
              have hx5 := bt_at a0 x3_1
              replace p5 := eq_true p5
              replace q5 := eq_true q5
              go_wp2_with (first | ((with_reducible refine gate_callee (f := 98) rfl ?_); refine goesL_ (some 16) rfl rfl Tryz.func98 (by kernel_rfl) rfl #[.int .u8 (bt a0 x3_1)] rfl (by (try simp only [List.map_toArray, List.map_cons, List.map_nil]); first | done | rfl | (simp only [List.length_drop, List.length_take]; rfl)) ?_; (with_reducible refine (qanatref02_Pad.calls (bt a0 x3_1) false _ A6.out).mono ?_); rintro e w' ⟨rfl, ⟨nd, rfl⟩⟩; refine ⟨_, rfl, ?_⟩))
              go_ret
              exact ⟨by first | rfl | (simp; done) | (simp [*]; done), by repeat (first | exact Drawn0.refl _ | apply Drawn0.step)⟩
          · rw [if_neg c4] at H
            exact absurd H (by simp)
        · rw [if_neg c3] at H
          have c3b0 : decide (x3_1 < (a0.size : Int)) = false := decide_eq_false c3
          clear c3
          obtain rfl := Option.some.inj H
          go_wp2
          go_ret
          exact ⟨by first | rfl | (simp; done) | (simp [*]; done), by repeat (first | exact Drawn0.refl _ | apply Drawn0.step)⟩

/-! ### qanatref02_out: function 90 -/
def qanatref02_out.l0 : Nat → List Int → Int → Option (ByteArray × Int)
  | 0, _, _ => none
  | k + 1, x0, x3 => if x3 < (x0.length : Int) then (if 0 ≤ x3 then ((qanatref02_Pad.f (rd x0 x3)).bind fun t189 => (if t189 = true then (qanatref02_out.l0 k x0 (wrap64 (x3 + 1))) else (some ((⟨#[]⟩ : ByteArray), 8)))) else (none)) else (some (strOfNums x0, 0))
def qanatref02_out.f (k : Nat) (l0 : List Int) : Option (ByteArray × Int) := if (l0.length : Int) > 1000 then (some ((⟨#[]⟩ : ByteArray), 3)) else (qanatref02_out.l0 k l0 0)
theorem qanatref02_out.mono_l : ∀ k, (∀ y0 y1, LeO (qanatref02_out.l0 k y0 y1) (qanatref02_out.l0 (k + 1) y0 y1))
  | 0 => fun _ _ r h => by simp [qanatref02_out.l0] at h
  | k + 1 => by
    have ih0 := qanatref02_out.mono_l k
    · intro y0 y1
      unfold qanatref02_out.l0
      repeat' first
      | (with_reducible exact ih0 _ _)
      | (with_reducible exact LeO.refl _)
      | (with_reducible exact LeO.none _)
      | (with_reducible refine LeO.ite ?_ ?_)
      | (with_reducible refine LeO.bind ?_ (fun _ => ?_))
      | exact ih0 _ _
      | exact LeO.none _
      | refine LeO.ite ?_ ?_
      | refine LeO.bind ?_ (fun _ => ?_)
theorem qanatref02_out.mono : ∀ a0 k, LeO (qanatref02_out.f k a0) (qanatref02_out.f (k + 1) a0) := by
  intro a0 k
  have ih0 := qanatref02_out.mono_l k
  unfold qanatref02_out.f
  repeat' first
      | (with_reducible exact ih0 _ _)
      | (with_reducible exact LeO.refl _)
      | (with_reducible exact LeO.none _)
      | (with_reducible refine LeO.ite ?_ ?_)
      | (with_reducible refine LeO.bind ?_ (fun _ => ?_))
      | exact ih0 _ _
      | exact LeO.none _
      | refine LeO.ite ?_ ?_
      | refine LeO.bind ?_ (fun _ => ?_)
set_option maxHeartbeats 8000000 in
set_option maxRecDepth 100000 in
theorem qanatref02_out.calls (k : Nat) (A0 : Option Addr) (c0 : Nat) (l0 : List Int) (r1 : ByteArray) (r2 : Int) (w : World) (hr0 : Kd.C (Kd.int .u8) w A0 l0.length l0) (hc0 : l0.length ≤ c0) (h : qanatref02_out.f k l0 = some (r1, r2)) :
    Calls Tryz.prog 90 #[.slice A0 l0.length c0] w fun e w' => e = .returned (.agg #[.string r1, .int .i64 r2]) ∧ Below w.heap.size w w' := by
  have hu29 := Tryz.underlying29
  have HR0 := Aside0.mk hr0
  have HC0 := Aside0.mk hc0
  clear hr0 hc0
  have HB := Aside0.mk (Below.refl w.heap.size w)
  have H : (if (l0.length : Int) > 1000 then (some ((⟨#[]⟩ : ByteArray), 3)) else (qanatref02_out.l0 k l0 0)) = some (r1, r2) := h
  clear h
  by_cases c2 : (l0.length : Int) > 1000
  · rw [if_pos c2] at H
    have c2b0 : decide (1000 < (l0.length : Int)) = true := decide_eq_true c2
    have c2b1 : decide (1000 < l0.length) = true := decide_eq_true (by omega)
    clear c2
    simp only [Option.some.injEq, Prod.mk.injEq] at H
    obtain ⟨rfl, rfl⟩ := H
    go_enter Tryz.func90, Tryz.ntmps90
    go_wp2_with (first | ((with_reducible refine gate_dst (N := 2) rfl ?_); refine box_event ?hg (N := 2) ?hd (cs := #[.string (⟨#[]⟩ : ByteArray), .int .i64 0]) (t := 29) ?hr ?_; (case hd => rfl); (case hg => rfl); (case hr => first | (go_simp; done) | (go_simp; rfl)); intro gb187 hg w3 hbox hb; have n0_ := Aside0.mk (below_step (by repeat (first | (with_reducible first | exact HB.out | apply below_alloc | apply pw_below_drewN | apply below_drew1) | exact HB.out)) hb); have n1_ := Aside0.mk (hbox); have n2_ := Aside0.mk ((by rw [hg]; exact (below_size (by repeat (first | (with_reducible first | exact HB.out | apply below_alloc | apply pw_below_drewN | apply below_drew1) | exact HB.out))) : w.heap.size ≤ gb187)); have n3_ := Aside0.mk ((by rw [hg]; exact (below_size (by repeat (first | (with_reducible first | exact HB.out | apply below_alloc | apply pw_below_drewN | apply below_drew1) | exact HB.out))) : w.heap.size ≤ gb187)); clear HB; have HB := n0_; have BK187 := n1_; have GW187 := n2_; have GE187 := n3_; clear n0_ n1_ n2_ n3_; clear hb hbox hg; have hcz4_0 : w3.cell? ⟨gb187, 0, none⟩ = some (.string (⟨#[]⟩ : ByteArray)) := (blk_cell BK187.out 0).trans rfl; have hcz4_1 : w3.cell? ⟨gb187, 1, none⟩ = some (.int .i64 0) := (blk_cell BK187.out 1).trans rfl; have hfz4_0 := blk_frozen BK187.out 0; have hfz4_1 := blk_frozen BK187.out 1))
    refine bodyPost_ret (results_cell_row rfl _ _ gb187 29 #[.string (⟨#[]⟩ : ByteArray), .int .i64 3] (0, 0) _ rfl (by (with_reducible repeat (first | refine blk_drewN ?_ _ | refine blk_drew ?_ | refine blk_alloc ?_ _)); refine blk_put (cs := #[.string (⟨#[]⟩ : ByteArray), .int .i64 0]) ?_ 1 _ rfl; (with_reducible repeat (first | refine blk_drewN ?_ _ | refine blk_drew ?_ | refine blk_alloc ?_ _)); refine blk_put (cs := #[.string (⟨#[]⟩ : ByteArray), .int .i64 0]) ?_ 0 _ rfl; (with_reducible repeat (first | refine blk_drewN ?_ _ | refine blk_drew ?_ | refine blk_alloc ?_ _)); exact BK187.out) Tryz.underlying29 rfl (by kernel_rfl)) rfl ?_
    exact ⟨by first | rfl | (simp [errW_none, errW_some] <;> rfl) | (simp [*, errW_none, errW_some] <;> rfl), by repeat (first | (with_reducible first | exact HB.out | apply below_alloc | apply pw_below_drewN | apply below_drew1 | refine below_set ?_ GE187.out) | exact HB.out)⟩
  · rw [if_neg c2] at H
    have c2b0 : decide (1000 < (l0.length : Int)) = false := decide_eq_false c2
    have c2b1 : decide (1000 < l0.length) = false := decide_eq_false (by omega)
    clear c2
    have H' := Aside0.mk H
    clear H
    go_enter Tryz.func90, Tryz.ntmps90
    go_wp2_with (first | ((with_reducible refine gate_dst (N := 2) rfl ?_); refine box_event ?hg (N := 2) ?hd (cs := #[.string (⟨#[]⟩ : ByteArray), .int .i64 0]) (t := 29) ?hr ?_; (case hd => rfl); (case hg => rfl); (case hr => first | (go_simp; done) | (go_simp; rfl)); intro gb187 hg w5 hbox hb; have n0_ := Aside0.mk (below_step (by repeat (first | (with_reducible first | exact HB.out | apply below_alloc | apply pw_below_drewN | apply below_drew1) | exact HB.out)) hb); have n1_ := Aside0.mk (hbox); have n2_ := Aside0.mk ((by rw [hg]; exact (below_size (by repeat (first | (with_reducible first | exact HB.out | apply below_alloc | apply pw_below_drewN | apply below_drew1) | exact HB.out))) : w.heap.size ≤ gb187)); have n3_ := Aside0.mk ((by rw [hg]; exact (below_size (by repeat (first | (with_reducible first | exact HB.out | apply below_alloc | apply pw_below_drewN | apply below_drew1) | exact HB.out))) : w.heap.size ≤ gb187)); clear HB; have HB := n0_; have BK187 := n1_; have GW187 := n2_; have GE187 := n3_; clear n0_ n1_ n2_ n3_; clear hb hbox hg))
    go_loopg [3] k (fun kq v3 w' => ∃ (x3_1 : Int) (x188000_1 : ByteArray) (x188001_1 : Int), v3 = .int .i64 x3_1 ∧ Aside0 (qanatref02_out.l0 kq l0 x3_1 = some (r1, r2)) ∧ Aside0 (kq ≤ k) ∧ Aside0 (w'.heap[gb187]? = some (.cells #[.string x188000_1, .int .i64 x188001_1] 29 (0, 0))) ∧ Aside0 (Below w.heap.size w w'))
    case atStart => exact ⟨(0), ((⟨#[]⟩ : ByteArray)), (0), (by first | rfl | (simp; done) | (simp [*]; done)), H', ⟨Nat.le_refl _⟩, ⟨by (with_reducible repeat (first | refine blk_drewN ?_ _ | refine blk_drew ?_ | refine blk_alloc ?_ _)); exact BK187.out⟩, ⟨by repeat (first | (with_reducible first | exact HB.out | apply below_alloc | apply pw_below_drewN | apply below_drew1 | refine below_set ?_ GE187.out) | exact HB.out)⟩⟩
    case round =>
      clear H'
      try clear c2
      try clear c2b0
      try clear c2b1
      try clear p2
      try clear hcz4_0
      try clear hcz4_1
      try clear hfz4_0
      try clear hfz4_1
      obtain ⟨x3_1, x188000_1, x188001_1, rfl, HA, HK1, BK187, HB⟩ := hrel
      cases gk with
      | zero => exact absurd HA.out (by simp [qanatref02_out.l0])
      | succ k1 =>
        have H := HA.out
        clear HA
        simp only [qanatref02_out.l0] at H
        by_cases c6 : x3_1 < (l0.length : Int)
        · rw [if_pos c6] at H
          have c6b0 : decide (x3_1 < (l0.length : Int)) = true := decide_eq_true c6
          clear c6
          by_cases c7 : 0 ≤ x3_1
          · rw [if_pos c7] at H
            have c7b0 : decide (0 ≤ x3_1) = true := decide_eq_true c7
            clear c7
            replace H := Option.bind_eq_some_iff.mp H
            obtain ⟨t189, A80, H⟩ := H
            replace H : (if t189 = true then (qanatref02_out.l0 k1 l0 (wrap64 (x3_1 + 1))) else (some ((⟨#[]⟩ : ByteArray), 8))) = some (r1, r2) := H
            have A8 := Aside0.mk A80
            clear A80
            by_cases c9 : t189 = true
            · subst c9
              have H1 : (qanatref02_out.l0 k1 l0 (wrap64 (x3_1 + 1))) = some (r1, r2) := by rw [if_pos rfl] at H; exact H
              clear H
              have H := H1
              clear H1
              have H' := Aside0.mk H
              clear H
              have p188 : 0 ≤ (x3_1 : Int) := of_decide_eq_true (by first | (with_reducible assumption) | assumption)
              have q188 : x3_1 < (l0.length : Int) := of_decide_eq_true (by first | (with_reducible assumption) | assumption)
              obtain ⟨ad188, e188, hx188_0⟩ := Kd.at_int HR0.out x3_1 p188 q188
              cases e188
              replace hx188_0 := (HB.out.cell (World.block_lt_of_cell? w _ hx188_0)).trans hx188_0
              replace p188 := eq_true p188
              replace q188 := eq_true q188
              go_wp2_with (first | ((with_reducible refine gate_callee (f := 98) rfl ?_); refine goesL_ (some 18) rfl rfl Tryz.func98 (by kernel_rfl) rfl #[.int .u8 (rd l0 x3_1)] rfl (by (try simp only [List.map_toArray, List.map_cons, List.map_nil]); first | done | rfl | (simp only [List.length_drop, List.length_take]; rfl)) ?_; (with_reducible refine (qanatref02_Pad.calls (rd l0 x3_1) true _ A8.out).mono ?_); rintro e w' ⟨rfl, ⟨nd, rfl⟩⟩; refine ⟨_, rfl, ?_⟩))
              go_roundg k1
              case measure => have := HK1.out; omega
              case rel => exact ⟨(wrap64 (x3_1 + 1)), (x188000_1), (x188001_1), (by first | rfl | (simp; done) | (simp [*]; done)), H', ⟨by have := HK1.out; omega⟩, ⟨by (with_reducible repeat (first | refine blk_drewN ?_ _ | refine blk_drew ?_ | refine blk_alloc ?_ _)); exact BK187.out⟩, ⟨by repeat (first | (with_reducible first | exact HB.out | apply below_alloc | apply pw_below_drewN | apply below_drew1 | refine below_set ?_ GE187.out) | exact HB.out)⟩⟩
            · replace c9 := Bool.eq_false_iff.mpr c9
              subst c9
              have H1 : (some ((⟨#[]⟩ : ByteArray), 8)) = some (r1, r2) := by rw [if_neg (show ¬ (false = true) by decide)] at H; exact H
              clear H
              have H := H1
              clear H1
              simp only [Option.some.injEq, Prod.mk.injEq] at H
              obtain ⟨rfl, rfl⟩ := H
              have p188 : 0 ≤ (x3_1 : Int) := of_decide_eq_true (by first | (with_reducible assumption) | assumption)
              have q188 : x3_1 < (l0.length : Int) := of_decide_eq_true (by first | (with_reducible assumption) | assumption)
              obtain ⟨ad188, e188, hx188_0⟩ := Kd.at_int HR0.out x3_1 p188 q188
              cases e188
              replace hx188_0 := (HB.out.cell (World.block_lt_of_cell? w _ hx188_0)).trans hx188_0
              replace p188 := eq_true p188
              replace q188 := eq_true q188
              go_wp2_with (first | ((with_reducible refine gate_callee (f := 98) rfl ?_); refine goesL_ (some 18) rfl rfl Tryz.func98 (by kernel_rfl) rfl #[.int .u8 (rd l0 x3_1)] rfl (by (try simp only [List.map_toArray, List.map_cons, List.map_nil]); first | done | rfl | (simp only [List.length_drop, List.length_take]; rfl)) ?_; (with_reducible refine (qanatref02_Pad.calls (rd l0 x3_1) false _ A8.out).mono ?_); rintro e w' ⟨rfl, ⟨nd, rfl⟩⟩; refine ⟨_, rfl, ?_⟩; (try (rw [drewN_self wr]; generalize hq_ : World.drewN wr _ = wr; have n0_ : Aside0 (wr.heap[gb187]? = some (.cells #[.string x188000_1, .int .i64 x188001_1] 29 (0, 0))) := ⟨by rw [← hq_]; exact (by (with_reducible repeat (first | refine blk_drewN ?_ _ | refine blk_drew ?_ | refine blk_alloc ?_ _)); exact BK187.out)⟩; have n1_ : Aside0 (Below w.heap.size w wr) := ⟨by rw [← hq_]; exact (by repeat (first | (with_reducible first | exact HB.out | apply below_alloc | apply pw_below_drewN | apply below_drew1 | refine below_set ?_ GE187.out) | exact HB.out))⟩; clear BK187 HB hq_; have BK187 := n0_; have HB := n1_; clear n0_ n1_)); have hcz10_0 : wr.cell? ⟨gb187, 0, none⟩ = some (.string x188000_1) := (blk_cell BK187.out 0).trans rfl; have hcz10_1 : wr.cell? ⟨gb187, 1, none⟩ = some (.int .i64 x188001_1) := (blk_cell BK187.out 1).trans rfl; have hfz10_0 := blk_frozen BK187.out 0; have hfz10_1 := blk_frozen BK187.out 1))
              refine bodyPost_ret (results_cell_row rfl _ _ gb187 29 #[.string (⟨#[]⟩ : ByteArray), .int .i64 8] (0, 0) _ rfl (by (with_reducible repeat (first | refine blk_drewN ?_ _ | refine blk_drew ?_ | refine blk_alloc ?_ _)); refine blk_put (cs := #[.string (⟨#[]⟩ : ByteArray), .int .i64 x188001_1]) ?_ 1 _ rfl; (with_reducible repeat (first | refine blk_drewN ?_ _ | refine blk_drew ?_ | refine blk_alloc ?_ _)); refine blk_put (cs := #[.string x188000_1, .int .i64 x188001_1]) ?_ 0 _ rfl; (with_reducible repeat (first | refine blk_drewN ?_ _ | refine blk_drew ?_ | refine blk_alloc ?_ _)); exact BK187.out) Tryz.underlying29 rfl (by kernel_rfl)) rfl ?_
              exact ⟨by first | rfl | (simp [errW_none, errW_some] <;> rfl) | (simp [*, errW_none, errW_some] <;> rfl), by repeat (first | (with_reducible first | exact HB.out | apply below_alloc | apply pw_below_drewN | apply below_drew1 | refine below_set ?_ GE187.out) | exact HB.out)⟩
          · rw [if_neg c7] at H
            exact absurd H (by simp)
        · rw [if_neg c6] at H
          have c6b0 : decide (x3_1 < (l0.length : Int)) = false := decide_eq_false c6
          clear c6
          simp only [Option.some.injEq, Prod.mk.injEq] at H
          obtain ⟨rfl, rfl⟩ := H
          have hcv11 := Kd.C_string (P := Tryz.prog) (A := A0) (c := c0) Tryz.underlying83 Tryz.underlying5 Tryz.underlying9 (Kd.C_below HR0.out HB.out)
          have hcz12_0 : wr.cell? ⟨gb187, 0, none⟩ = some (.string x188000_1) := (blk_cell BK187.out 0).trans rfl
          have hcz12_1 : wr.cell? ⟨gb187, 1, none⟩ = some (.int .i64 x188001_1) := (blk_cell BK187.out 1).trans rfl
          have hfz12_0 := blk_frozen BK187.out 0
          have hfz12_1 := blk_frozen BK187.out 1
          go_wp2
          refine bodyPost_ret (results_cell_row rfl _ _ gb187 29 #[.string (strOfNums l0), .int .i64 0] (0, 0) _ rfl (by (with_reducible repeat (first | refine blk_drewN ?_ _ | refine blk_drew ?_ | refine blk_alloc ?_ _)); refine blk_put (cs := #[.string (strOfNums l0), .int .i64 x188001_1]) ?_ 1 _ rfl; (with_reducible repeat (first | refine blk_drewN ?_ _ | refine blk_drew ?_ | refine blk_alloc ?_ _)); refine blk_put (cs := #[.string x188000_1, .int .i64 x188001_1]) ?_ 0 _ rfl; (with_reducible repeat (first | refine blk_drewN ?_ _ | refine blk_drew ?_ | refine blk_alloc ?_ _)); exact BK187.out) Tryz.underlying29 rfl (by kernel_rfl)) rfl ?_
          exact ⟨by first | rfl | (simp [errW_none, errW_some] <;> rfl) | (simp [*, errW_none, errW_some] <;> rfl), by repeat (first | (with_reducible first | exact HB.out | apply below_alloc | apply pw_below_drewN | apply below_drew1 | refine below_set ?_ GE187.out) | exact HB.out)⟩

end Go.Proofs.YtlekfhnlhdmekaaGreatDoor.TP
namespace Go.Proofs.YtlekfhnlhdmekaaGreatDoor.T
set_option linter.unusedSimpArgs false
set_option linter.unusedVariables false
open Go.RowKit Go.Proofs.YtlekfhnlhdmekaaGreatDoorW.PrintWords Go.Proofs.YtlekfhnlhdmekaaGreatDoorW.PrintLast Go.Proofs.YtlekfhnlhdmekaaGreatDoorW.PrintMore

theorem pad_good (b : Int) : TP.qanatref02_Pad.f b = some (goodI b) := by
  unfold TP.qanatref02_Pad.f goodI
  by_cases h : b ≥ 32
  · rw [if_pos h]; simp [show (32 : Int) ≤ b from h]
  · rw [if_neg h]; simp [show ¬ (32 : Int) ≤ b from h]
theorem wrap64_id (x : Int) (h0 : -9223372036854775808 ≤ x) (h1 : x ≤ 9223372036854775807) : wrap64 x = x := by unfold wrap64; omega
theorem rd_nat (xs : List Int) (i : Nat) (hi : i < xs.length) : rd xs (i : Int) = xs[i] := by
  simp [rd, List.getD_eq_getElem?_getD, List.getElem?_eq_getElem hi]
theorem bt_nat (s : ByteArray) (i : Nat) (hi : i < (bytesOf s).length) : bt s (i : Int) = (bytesOf s)[i] := by
  rw [← rd_bytesOf, rd_nat]
theorem refValid_l0 (s : ByteArray) (hs : s.size ≤ 1000) : ∀ (k i : Nat), s.size - i < k → i ≤ s.size → TP.qanatref02_Valid.l0 k s i = some (((bytesOf s).drop i).all goodI)
  | 0, i, h, _ => absurd h (by omega)
  | k + 1, i, h, hi => by
    rw [TP.qanatref02_Valid.l0]
    by_cases hlt : i < s.size
    · have hl : i < (bytesOf s).length := by rw [bytesOf_length]; exact hlt
      rw [if_pos (by omega), if_pos (by omega), pad_good, bt_nat s i hl, List.drop_eq_getElem_cons hl]
      simp only [Option.bind_some, List.all_cons]
      by_cases hg : goodI (bytesOf s)[i] = true
      · rw [if_pos hg, hg, wrap64_id _ (by omega) (by omega)]
        have := refValid_l0 s hs k (i + 1) (by omega) (by omega)
        simpa using this
      · rw [if_neg hg]; simp at hg; simp [hg]
    · have hl : (bytesOf s).length ≤ i := by rw [bytesOf_length]; omega
      rw [if_neg (by omega), List.drop_eq_nil_of_le hl]
      rfl
theorem refOut_l0 (l : List Int) (hs : l.length ≤ 1000) : ∀ (k i : Nat), l.length - i < k → i ≤ l.length → TP.qanatref02_out.l0 k l i = some (if (l.drop i).all goodI = true then (strOfNums l, 0) else (⟨#[]⟩, 8))
  | 0, i, h, _ => absurd h (by omega)
  | k + 1, i, h, hi => by
    rw [TP.qanatref02_out.l0]
    by_cases hlt : i < l.length
    · rw [if_pos (by omega), if_pos (by omega), pad_good, rd_nat l i hlt, List.drop_eq_getElem_cons hlt]
      simp only [Option.bind_some]
      by_cases hg : goodI l[i] = true
      · have := refOut_l0 l hs k (i + 1) (by omega) (by omega)
        rw [if_pos hg, wrap64_id _ (by omega) (by omega), show ((i : Int) + 1) = ((i + 1 : Nat) : Int) by omega, this]
        simp only [List.all_cons, hg, Bool.true_and]
      · rw [if_neg hg, if_neg (fun hh => hg (by rw [List.all_cons, Bool.and_eq_true] at hh; exact hh.1))]
    · rw [if_neg (by omega), List.drop_eq_nil_of_le (by omega)]
      rfl
def qanatref02_Pad.f (a0 : Int) : Option Bool := some (goodI a0)
theorem qanatref02_Pad.calls (a0 : Int) (r : Bool) (w : World) (h : qanatref02_Pad.f a0 = some r) :
    Calls Tryz.prog 98 #[.int .u8 a0] w fun e w' => e = .returned (.bool r) ∧ Drawn0 w w' :=
  TP.qanatref02_Pad.calls a0 r w (by rw [pad_good]; exact h)
def qanatref02_Valid.f (a0 : ByteArray) : Option Bool := some (vld a0)
theorem qanatref02_Valid.calls (a0 : ByteArray) (r : Bool) (w : World) (h : qanatref02_Valid.f a0 = some r) :
    Calls Tryz.prog 89 #[.string a0] w fun e w' => e = .returned (.bool r) ∧ Drawn0 w w' := by
  obtain rfl := Option.some.inj h
  refine TP.qanatref02_Valid.calls 1002 a0 _ w ?_
  unfold TP.qanatref02_Valid.f vld
  by_cases hs : a0.size ≤ 1000
  · rw [if_neg (by omega)]
    have := refValid_l0 a0 hs 1002 0 (by omega) (by omega)
    simp only [List.drop_zero] at this
    rw [show ((0 : Nat) : Int) = 0 from rfl] at this
    rw [this]; simp [hs]
  · rw [if_pos (by omega)]; simp [hs]
def qanatref02_out.f (l0 : List Int) : Option (ByteArray × Int) := some (if l0.length > 1000 then (⟨#[]⟩, 3) else if l0.all goodI = true then (strOfNums l0, 0) else (⟨#[]⟩, 8))
theorem qanatref02_out.calls (A0 : Option Addr) (c0 : Nat) (l0 : List Int) (r1 : ByteArray) (r2 : Int) (w : World) (hr0 : Kd.C (Kd.int .u8) w A0 l0.length l0) (hc0 : l0.length ≤ c0) (h : qanatref02_out.f l0 = some (r1, r2)) :
    Calls Tryz.prog 90 #[.slice A0 l0.length c0] w fun e w' => e = .returned (.agg #[.string r1, .int .i64 r2]) ∧ Below w.heap.size w w' := by
  refine TP.qanatref02_out.calls 1002 A0 c0 l0 r1 r2 w hr0 hc0 ?_
  rw [← h]
  unfold TP.qanatref02_out.f qanatref02_out.f
  by_cases hs : l0.length ≤ 1000
  · rw [if_neg (by omega), if_neg (by omega)]
    have := refOut_l0 l0 hs 1002 0 (by omega) (by omega)
    simp only [List.drop_zero] at this
    exact this
  · rw [if_pos (by omega), if_pos (by omega)]
end Go.Proofs.YtlekfhnlhdmekaaGreatDoor.T

/- The examples that each law checks first are as they should be. And the reference's out is made. -/
namespace Go.Proofs.YtlekfhnlhdmekaaGreatDoor.T
set_option linter.unusedSimpArgs false
set_option linter.unusedVariables false
open Go.RowKit Go.Proofs.YtlekfhnlhdmekaaGreatDoorW.PrintWords Go.Proofs.YtlekfhnlhdmekaaGreatDoorW.PrintLast Go.Proofs.YtlekfhnlhdmekaaGreatDoorW.PrintMore
theorem head_60 : qanatlaw02_head.f 60 = some true := by kernel_rfl
theorem head_ok : ∀ d, qanatlaw02_head.f (60 + d) = some true
  | 0 => head_60
  | d + 1 => qanatlaw02_head.mono (60 + d) _ (head_ok d)
theorem strOfNums_size (L : List Int) : (strOfNums L).size = L.length := by
  rw [← data_length]
  simp [strOfNums]
theorem bytesOf_str (L : List Int) (h : ∀ x ∈ L, 0 ≤ x ∧ x < 256) : bytesOf (strOfNums L) = L := by
  unfold bytesOf strOfNums
  simp only [List.map_map]
  conv => rhs; rw [← List.map_id L]
  apply List.map_congr_left
  intro x hx
  obtain ⟨h0, h1⟩ := h x hx
  simp only [Function.comp_apply, id_eq, UInt8.toNat_ofNat']
  omega
theorem strOfNums_bytes (s : ByteArray) : strOfNums (bytesOf s) = s := by
  have e : ((bytesOf s).map fun n : Int => UInt8.ofNat n.toNat) = s.data.toList := by
    unfold bytesOf
    rw [List.map_map]
    conv => rhs; rw [← List.map_id s.data.toList]
    apply List.map_congr_left
    intro x hx
    simp
  unfold strOfNums
  rw [e]
theorem made_eq (s : ByteArray) : text_made.f s = some (if s.size > 1000 then (⟨#[]⟩, 3) else if vld s = true then (s, 0) else (⟨#[]⟩, 8)) := by
  unfold text_made.f text_Valid.f
  by_cases h : s.size > 1000
  · rw [if_pos (by omega), if_pos h]
  · rw [if_neg (by omega), if_neg h]
    simp only [Option.bind_some]
    split <;> rfl
theorem made_out (L : List Int) (h : ∀ x ∈ L, 0 ≤ x ∧ x < 256) : text_made.f (strOfNums L) = qanatref02_out.f L := by
  rw [made_eq, qanatref02_out.f, strOfNums_size]
  by_cases hl : L.length > 1000
  · rw [if_pos hl, if_pos hl]
  · rw [if_neg hl, if_neg hl]
    have e : vld (strOfNums L) = L.all goodI := by
      unfold vld
      rw [strOfNums_size, bytesOf_str L h, decide_eq_true (show L.length ≤ 1000 by omega), Bool.true_and]
    rw [e]
theorem u8_rng (z : Int) : 0 ≤ IntKind.u8.wrap z ∧ IntKind.u8.wrap z < 256 := by
  simp only [IntKind.wrap, IntKind.bits, IntKind.signed]
  simp
  omega
end Go.Proofs.YtlekfhnlhdmekaaGreatDoor.T

-- Written by a program of this session (mp.py over the kit's print.py), out of the translation.
namespace Go.Proofs.YtlekfhnlhdmekaaGreatDoor.T
set_option linter.unusedSimpArgs false
open Go.RowKit Go.Proofs.YtlekfhnlhdmekaaGreatDoorW.PrintWords Go.Proofs.YtlekfhnlhdmekaaGreatDoorW.PrintLast Go.Proofs.YtlekfhnlhdmekaaGreatDoorW.PrintMore
attribute [local go_sem] max2_int min2_int max_two min_two max_three min_three max_four min_four   -- for this text's walks alone
set_option linter.unusedVariables false
set_option linter.unusedSimpArgs false

/-! ### qanatref02_whole: function 102 -/
def qanatref02_whole.f (a0 : Int) (a1 : Int) (a2 : Bool) : Option (Bool) := if a0 ≥ a1 then (some true) else (if a2 = true then (some (a0 == (-1))) else (some false))
set_option maxHeartbeats 8000000 in
set_option maxRecDepth 100000 in
theorem qanatref02_whole.calls (a0 : Int) (a1 : Int) (a2 : Bool) (r : Bool) (w : World) (h : qanatref02_whole.f a0 a1 a2 = some r) :
    Calls Tryz.prog 102 #[.int .i64 a0, .int .i64 a1, .bool a2] w fun e w' => e = .returned (.bool r) ∧ Drawn0 w w' := by
  have H : (if a0 ≥ a1 then (some true) else (if a2 = true then (some (a0 == (-1))) else (some false))) = some r := h
  clear h
  by_cases c4 : a0 ≥ a1
  · rw [if_pos c4] at H
    have c4b0 : decide (a1 ≤ a0) = true := decide_eq_true c4
    clear c4
    obtain rfl := Option.some.inj H
    go_enter Tryz.func102, Tryz.ntmps102
    go_wp2
    go_ret
    exact ⟨by first | rfl | (simp; done) | (simp [*]; done), by repeat (first | exact Drawn0.refl _ | apply Drawn0.step)⟩
  · rw [if_neg c4] at H
    have c4b0 : decide (a1 ≤ a0) = false := decide_eq_false c4
    clear c4
    by_cases c5 : a2 = true
    · subst c5
      have H1 : (some (a0 == (-1))) = some r := by rw [if_pos rfl] at H; exact H
      clear H
      have H := H1
      clear H1
      obtain rfl := Option.some.inj H
      go_enter Tryz.func102, Tryz.ntmps102
      go_wp2
      go_ret
      exact ⟨by first | rfl | (simp; done) | (simp [*]; done), by repeat (first | exact Drawn0.refl _ | apply Drawn0.step)⟩
    · replace c5 := Bool.eq_false_iff.mpr c5
      subst c5
      have H1 : (some false) = some r := by rw [if_neg (show ¬ (false = true) by decide)] at H; exact H
      clear H
      have H := H1
      clear H1
      obtain rfl := Option.some.inj H
      go_enter Tryz.func102, Tryz.ntmps102
      go_wp2
      go_ret
      exact ⟨by first | rfl | (simp; done) | (simp [*]; done), by repeat (first | exact Drawn0.refl _ | apply Drawn0.step)⟩

end Go.Proofs.YtlekfhnlhdmekaaGreatDoor.T

-- Written by a program of this session (mp.py over the kit's print.py), out of the translation.
namespace Go.Proofs.YtlekfhnlhdmekaaGreatDoor.T
set_option linter.unusedSimpArgs false
open Go.RowKit Go.Proofs.YtlekfhnlhdmekaaGreatDoorW.PrintWords Go.Proofs.YtlekfhnlhdmekaaGreatDoorW.PrintLast Go.Proofs.YtlekfhnlhdmekaaGreatDoorW.PrintMore
attribute [local go_sem] max2_int min2_int max_two min_two max_three min_three max_four min_four   -- for this text's walks alone
set_option linter.unusedVariables false
set_option linter.unusedSimpArgs false

/-! ### qanatlaw02_num: function 34 -/
def qanatlaw02_num.f (a0 : Int) (a1 : Int) (a2_0 : Int) (a2_1 : Int) : Option (Bool) := if a0 = a2_0 then (some (a1 == a2_1)) else (some false)
set_option maxHeartbeats 8000000 in
set_option maxRecDepth 100000 in
theorem qanatlaw02_num.calls (a0 : Int) (a1 : Int) (a2_0 : Int) (a2_1 : Int) (r : Bool) (w : World) (h : qanatlaw02_num.f a0 a1 a2_0 a2_1 = some r) :
    Calls Tryz.prog 34 #[.int .i64 a0, .int .i64 a1, .agg #[.int .i64 a2_0, .int .i64 a2_1]] w fun e w' => e = .returned (.bool r) ∧ Below w.heap.size w w' := by
  have hu49 := Tryz.underlying49
  have HB := Aside0.mk (Below.refl w.heap.size w)
  have H : (if a0 = a2_0 then (some (a1 == a2_1)) else (some false)) = some r := h
  clear h
  by_cases c4 : a0 = a2_0
  · rw [if_pos c4] at H
    have c4b0 : (a0 == a2_0) = true := beq_iff_eq.mpr c4
    have c4b1 : (a0 != a2_0) = false := bne_eq_false_iff_eq.mpr c4
    clear c4
    obtain rfl := Option.some.inj H
    go_enter Tryz.func34, Tryz.ntmps34
    go_wp2_with (first | ((with_reducible refine gate_dst (N := 5) rfl ?_); refine box_event ?hg (N := 5) ?hd (cs := #[.int .i64 a2_0, .int .i64 a2_1]) (t := 49) ?hr ?_; (case hd => rfl); (case hg => rfl); (case hr => first | (go_simp; done) | (go_simp; rfl)); intro gb277 hg w5 hbox hb; have n0_ := Aside0.mk (below_step (by repeat (first | (with_reducible first | exact HB.out | apply below_alloc | apply pw_below_drewN | apply below_drew1) | exact HB.out)) hb); have n1_ := Aside0.mk (hbox); have n2_ := Aside0.mk ((by rw [hg]; exact (below_size (by repeat (first | (with_reducible first | exact HB.out | apply below_alloc | apply pw_below_drewN | apply below_drew1) | exact HB.out))) : w.heap.size ≤ gb277)); have n3_ := Aside0.mk ((by rw [hg]; exact (below_size (by repeat (first | (with_reducible first | exact HB.out | apply below_alloc | apply pw_below_drewN | apply below_drew1) | exact HB.out))) : w.heap.size ≤ gb277)); clear HB; have HB := n0_; have BK277 := n1_; have GW277 := n2_; have GE277 := n3_; clear n0_ n1_ n2_ n3_; clear hb hbox hg; have hcz6_0 : w5.cell? ⟨gb277, 0, none⟩ = some (.int .i64 a2_0) := (blk_cell BK277.out 0).trans rfl; have hcz6_1 : w5.cell? ⟨gb277, 1, none⟩ = some (.int .i64 a2_1) := (blk_cell BK277.out 1).trans rfl; have hfz6_0 := blk_frozen BK277.out 0; have hfz6_1 := blk_frozen BK277.out 1))
    go_ret
    exact ⟨by first | rfl | (simp [errW_none, errW_some] <;> rfl) | (simp [*, errW_none, errW_some] <;> rfl), by repeat (first | (with_reducible first | exact HB.out | apply below_alloc | apply pw_below_drewN | apply below_drew1 | refine below_set ?_ GE277.out) | exact HB.out)⟩
  · rw [if_neg c4] at H
    have c4b0 : (a0 == a2_0) = false := beq_eq_false_iff_ne.mpr c4
    have c4b1 : (a0 != a2_0) = true := bne_iff_ne.mpr c4
    obtain rfl := Option.some.inj H
    go_enter Tryz.func34, Tryz.ntmps34
    go_wp2_with (first | ((with_reducible refine gate_dst (N := 5) rfl ?_); refine box_event ?hg (N := 5) ?hd (cs := #[.int .i64 a2_0, .int .i64 a2_1]) (t := 49) ?hr ?_; (case hd => rfl); (case hg => rfl); (case hr => first | (go_simp; done) | (go_simp; rfl)); intro gb277 hg w7 hbox hb; have n0_ := Aside0.mk (below_step (by repeat (first | (with_reducible first | exact HB.out | apply below_alloc | apply pw_below_drewN | apply below_drew1) | exact HB.out)) hb); have n1_ := Aside0.mk (hbox); have n2_ := Aside0.mk ((by rw [hg]; exact (below_size (by repeat (first | (with_reducible first | exact HB.out | apply below_alloc | apply pw_below_drewN | apply below_drew1) | exact HB.out))) : w.heap.size ≤ gb277)); have n3_ := Aside0.mk ((by rw [hg]; exact (below_size (by repeat (first | (with_reducible first | exact HB.out | apply below_alloc | apply pw_below_drewN | apply below_drew1) | exact HB.out))) : w.heap.size ≤ gb277)); clear HB; have HB := n0_; have BK277 := n1_; have GW277 := n2_; have GE277 := n3_; clear n0_ n1_ n2_ n3_; clear hb hbox hg; have hcz8_0 : w7.cell? ⟨gb277, 0, none⟩ = some (.int .i64 a2_0) := (blk_cell BK277.out 0).trans rfl; have hcz8_1 : w7.cell? ⟨gb277, 1, none⟩ = some (.int .i64 a2_1) := (blk_cell BK277.out 1).trans rfl; have hfz8_0 := blk_frozen BK277.out 0; have hfz8_1 := blk_frozen BK277.out 1))
    go_ret
    exact ⟨by first | rfl | (simp [errW_none, errW_some] <;> rfl) | (simp [*, errW_none, errW_some] <;> rfl), by repeat (first | (with_reducible first | exact HB.out | apply below_alloc | apply pw_below_drewN | apply below_drew1 | refine below_set ?_ GE277.out) | exact HB.out)⟩

end Go.Proofs.YtlekfhnlhdmekaaGreatDoor.T

-- Written by a program of this session (mp.py over the kit's print.py), out of the translation.
namespace Go.Proofs.YtlekfhnlhdmekaaGreatDoor.T
set_option linter.unusedSimpArgs false
open Go.RowKit Go.Proofs.YtlekfhnlhdmekaaGreatDoorW.PrintWords Go.Proofs.YtlekfhnlhdmekaaGreatDoorW.PrintLast Go.Proofs.YtlekfhnlhdmekaaGreatDoorW.PrintMore
attribute [local go_sem] max2_int min2_int max_two min_two max_three min_three max_four min_four   -- for this text's walks alone
set_option linter.unusedVariables false
set_option linter.unusedSimpArgs false

/-! ### qanatlaw02_str: function 20 -/
def qanatlaw02_str.f (a0 : ByteArray) (a1 : Int) (a2_0 : ByteArray) (a2_1 : Int) : Option (Bool) := if a0.toList = a2_0.toList then (some (a1 == a2_1)) else (some false)
set_option maxHeartbeats 8000000 in
set_option maxRecDepth 100000 in
theorem qanatlaw02_str.calls (a0 : ByteArray) (a1 : Int) (a2_0 : ByteArray) (a2_1 : Int) (r : Bool) (w : World) (h : qanatlaw02_str.f a0 a1 a2_0 a2_1 = some r) :
    Calls Tryz.prog 20 #[.string a0, .int .i64 a1, .agg #[.string a2_0, .int .i64 a2_1]] w fun e w' => e = .returned (.bool r) ∧ Below w.heap.size w w' := by
  have hu29 := Tryz.underlying29
  have HB := Aside0.mk (Below.refl w.heap.size w)
  have H : (if a0.toList = a2_0.toList then (some (a1 == a2_1)) else (some false)) = some r := h
  clear h
  by_cases c4 : a0.toList = a2_0.toList
  · rw [if_pos c4] at H
    have c4b0 : (a0.toList == a2_0.toList) = true := beq_iff_eq.mpr c4
    have c4b1 : (a0.toList != a2_0.toList) = false := bne_eq_false_iff_eq.mpr c4
    clear c4
    obtain rfl := Option.some.inj H
    go_enter Tryz.func20, Tryz.ntmps20
    go_wp2_with (first | ((with_reducible refine gate_dst (N := 5) rfl ?_); refine box_event ?hg (N := 5) ?hd (cs := #[.string a2_0, .int .i64 a2_1]) (t := 29) ?hr ?_; (case hd => rfl); (case hg => rfl); (case hr => first | (go_simp; done) | (go_simp; rfl)); intro gb185 hg w5 hbox hb; have n0_ := Aside0.mk (below_step (by repeat (first | (with_reducible first | exact HB.out | apply below_alloc | apply pw_below_drewN | apply below_drew1) | exact HB.out)) hb); have n1_ := Aside0.mk (hbox); have n2_ := Aside0.mk ((by rw [hg]; exact (below_size (by repeat (first | (with_reducible first | exact HB.out | apply below_alloc | apply pw_below_drewN | apply below_drew1) | exact HB.out))) : w.heap.size ≤ gb185)); have n3_ := Aside0.mk ((by rw [hg]; exact (below_size (by repeat (first | (with_reducible first | exact HB.out | apply below_alloc | apply pw_below_drewN | apply below_drew1) | exact HB.out))) : w.heap.size ≤ gb185)); clear HB; have HB := n0_; have BK185 := n1_; have GW185 := n2_; have GE185 := n3_; clear n0_ n1_ n2_ n3_; clear hb hbox hg; have hcz6_0 : w5.cell? ⟨gb185, 0, none⟩ = some (.string a2_0) := (blk_cell BK185.out 0).trans rfl; have hcz6_1 : w5.cell? ⟨gb185, 1, none⟩ = some (.int .i64 a2_1) := (blk_cell BK185.out 1).trans rfl; have hfz6_0 := blk_frozen BK185.out 0; have hfz6_1 := blk_frozen BK185.out 1))
    go_ret
    exact ⟨by first | rfl | (simp [errW_none, errW_some] <;> rfl) | (simp [*, errW_none, errW_some] <;> rfl), by repeat (first | (with_reducible first | exact HB.out | apply below_alloc | apply pw_below_drewN | apply below_drew1 | refine below_set ?_ GE185.out) | exact HB.out)⟩
  · rw [if_neg c4] at H
    have c4b0 : (a0.toList == a2_0.toList) = false := beq_eq_false_iff_ne.mpr c4
    have c4b1 : (a0.toList != a2_0.toList) = true := bne_iff_ne.mpr c4
    obtain rfl := Option.some.inj H
    go_enter Tryz.func20, Tryz.ntmps20
    go_wp2_with (first | ((with_reducible refine gate_dst (N := 5) rfl ?_); refine box_event ?hg (N := 5) ?hd (cs := #[.string a2_0, .int .i64 a2_1]) (t := 29) ?hr ?_; (case hd => rfl); (case hg => rfl); (case hr => first | (go_simp; done) | (go_simp; rfl)); intro gb185 hg w7 hbox hb; have n0_ := Aside0.mk (below_step (by repeat (first | (with_reducible first | exact HB.out | apply below_alloc | apply pw_below_drewN | apply below_drew1) | exact HB.out)) hb); have n1_ := Aside0.mk (hbox); have n2_ := Aside0.mk ((by rw [hg]; exact (below_size (by repeat (first | (with_reducible first | exact HB.out | apply below_alloc | apply pw_below_drewN | apply below_drew1) | exact HB.out))) : w.heap.size ≤ gb185)); have n3_ := Aside0.mk ((by rw [hg]; exact (below_size (by repeat (first | (with_reducible first | exact HB.out | apply below_alloc | apply pw_below_drewN | apply below_drew1) | exact HB.out))) : w.heap.size ≤ gb185)); clear HB; have HB := n0_; have BK185 := n1_; have GW185 := n2_; have GE185 := n3_; clear n0_ n1_ n2_ n3_; clear hb hbox hg; have hcz8_0 : w7.cell? ⟨gb185, 0, none⟩ = some (.string a2_0) := (blk_cell BK185.out 0).trans rfl; have hcz8_1 : w7.cell? ⟨gb185, 1, none⟩ = some (.int .i64 a2_1) := (blk_cell BK185.out 1).trans rfl; have hfz8_0 := blk_frozen BK185.out 0; have hfz8_1 := blk_frozen BK185.out 1))
    go_ret
    exact ⟨by first | rfl | (simp [errW_none, errW_some] <;> rfl) | (simp [*, errW_none, errW_some] <;> rfl), by repeat (first | (with_reducible first | exact HB.out | apply below_alloc | apply pw_below_drewN | apply below_drew1 | refine below_set ?_ GE185.out) | exact HB.out)⟩

end Go.Proofs.YtlekfhnlhdmekaaGreatDoor.T

/- Small laws that the pure laws share. -/
namespace Go.Proofs.YtlekfhnlhdmekaaGreatDoor.T
set_option linter.unusedSimpArgs false
set_option linter.unusedVariables false
open Go.RowKit Go.Proofs.YtlekfhnlhdmekaaGreatDoorW.PrintWords Go.Proofs.YtlekfhnlhdmekaaGreatDoorW.PrintLast Go.Proofs.YtlekfhnlhdmekaaGreatDoorW.PrintMore
namespace B
theorem str_eq (s : ByteArray) (e : Int) : qanatlaw02_str.f s e s e = some true := by
  unfold qanatlaw02_str.f
  rw [if_pos rfl]
  simp
theorem num_eq (n e : Int) : qanatlaw02_num.f n e n e = some true := by
  unfold qanatlaw02_num.f
  rw [if_pos rfl]
  simp
theorem i64 {x : Int} (h : (Lit.int .i64 x).wf = true) : -9223372036854775808 ≤ x ∧ x ≤ 9223372036854775807 := by
  simp [Lit.wf, IntKind.min, IntKind.max, IntKind.bits, IntKind.signed] at h
  omega
theorem size {s : ByteArray} (h : vld s = true) : s.size ≤ 1000 := by
  simp [vld] at h; exact h.1
theorem all {s : ByteArray} (h : vld s = true) : ∀ x ∈ bytesOf s, goodI x = true := by
  simp only [vld, Bool.and_eq_true, List.all_eq_true] at h
  exact h.2
theorem mk {s : ByteArray} (h1 : s.size ≤ 1000) (h2 : ∀ x ∈ bytesOf s, goodI x = true) : vld s = true := by
  simp only [vld, Bool.and_eq_true, List.all_eq_true, decide_eq_true_eq]
  exact ⟨h1, h2⟩
theorem good (x : Int) : goodI x = true ↔ 32 ≤ x ∧ x ≤ 126 := by simp [goodI]
theorem valid1 (s : ByteArray) : text_valid.f [s] = some (if vld s = true then 0 else 1) := by
  unfold text_valid.f
  by_cases h : vld s = true <;> simp [h]
theorem valid2 (s t : ByteArray) : text_valid.f [s, t] = some (if vld s = true ∧ vld t = true then 0 else 1) := by
  unfold text_valid.f
  by_cases h : vld s = true <;> by_cases h' : vld t = true <;> simp [h, h']
theorem valid3 (s t u : ByteArray) : text_valid.f [s, t, u] = some (if vld s = true ∧ vld t = true ∧ vld u = true then 0 else 1) := by
  unfold text_valid.f
  by_cases h : vld s = true <;> by_cases h' : vld t = true <;> by_cases h'' : vld u = true <;> simp [h, h', h'']
theorem pads1 (p : Int) : text_pads.f [p] = some (if goodI p = true then 0 else 1) := by
  unfold text_pads.f
  by_cases h : goodI p = true <;> simp [h]
theorem least1 (n x : Int) : text_least.f n [x] = some (if n ≤ x then 0 else 1) := by
  unfold text_least.f
  by_cases h : n ≤ x <;> simp [h]
theorem first2 (b c : Prop) [Decidable b] [Decidable c] : text_first.f [if b then 0 else 1, if c then 0 else 1] = some (if b ∧ c then 0 else 1) := by
  by_cases h1 : b <;> by_cases h2 : c <;> simp [h1, h2] <;> rfl
theorem first3 (b c d : Prop) [Decidable b] [Decidable c] [Decidable d] : text_first.f [if b then 0 else 1, if c then 0 else 1, if d then 0 else 1] = some (if b ∧ c ∧ d then 0 else 1) := by
  by_cases h1 : b <;> by_cases h2 : c <;> by_cases h3 : d <;> simp [h1, h2, h3] <;> rfl
theorem first4 (b c d e : Prop) [Decidable b] [Decidable c] [Decidable d] [Decidable e] : text_first.f [if b then 0 else 1, if c then 0 else 1, if d then 0 else 1, if e then 0 else 1] = some (if b ∧ c ∧ d ∧ e then 0 else 1) := by
  by_cases h1 : b <;> by_cases h2 : c <;> by_cases h3 : d <;> by_cases h4 : e <;> simp [h1, h2, h3, h4] <;> rfl
theorem whole (n lo : Int) : qanatref02_whole.f n lo false = some (decide (lo ≤ n)) := by
  unfold qanatref02_whole.f
  by_cases h : lo ≤ n
  · rw [if_pos (by omega)]; simp [h]
  · rw [if_neg (by omega)]; simp [h]
theorem wholeM (n : Int) : qanatref02_whole.f n 0 true = some (decide (-1 ≤ n)) := by
  unfold qanatref02_whole.f
  by_cases h : 0 ≤ n
  · rw [if_pos (by omega)]; simp; omega
  · rw [if_neg (by omega), if_pos rfl]
    by_cases e : n = -1
    · subst e; rfl
    · rw [show (n == -1) = false from beq_eq_false_iff_ne.mpr e, show decide (-1 ≤ n) = false from decide_eq_false (by omega)]
theorem toL (s : ByteArray) : s.toList = s.data.toList := Lib.toList_data s
theorem ext {a b : ByteArray} (h : a.data.toList = b.data.toList) : a = b := by
  apply ByteArray.ext
  exact Array.toList_inj.1 h
theorem sz (s : ByteArray) : s.size = s.data.toList.length := (data_length s).symm
theorem extract (s : ByteArray) (i j : Nat) : (s.extract i j).data.toList = (s.data.toList.drop i).take (j - i) := by
  rw [ByteArray.data_extract, Array.toList_extract, List.extract_eq_take_drop]
theorem append (a b : ByteArray) : (a ++ b).data.toList = a.data.toList ++ b.data.toList := by
  rw [ByteArray.data_append, Array.toList_append]
theorem vldA {a b : ByteArray} (ha : ∀ x ∈ bytesOf a, goodI x = true) (hb : ∀ x ∈ bytesOf b, goodI x = true) (h : (a ++ b).size ≤ 1000) : vld (a ++ b) = true := by
  refine mk h (fun x hx => ?_)
  unfold bytesOf at hx
  rw [append, List.map_append] at hx
  exact (List.mem_append.1 hx).elim (ha x) (hb x)
theorem vldE {a : ByteArray} (i j : Nat) (h : vld a = true) : vld (a.extract i j) = true := by
  refine mk ?_ (fun x hx => ?_)
  · have := size h; rw [ByteArray.size_extract]; omega
  · refine all h x ?_
    unfold bytesOf at hx ⊢
    rw [extract] at hx
    obtain ⟨b, hb, rfl⟩ := List.mem_map.1 hx
    exact List.mem_map.2 ⟨b, List.mem_of_mem_drop (List.mem_of_mem_take hb), rfl⟩
theorem made (s : ByteArray) (h : vld s = true) : text_made.f s = some (s, 0) := by
  rw [made_eq, if_neg (by have := size h; omega), if_pos h]
end B
end Go.Proofs.YtlekfhnlhdmekaaGreatDoor.T

/- What text.fit makes of a valid string: its beginning, or the string and pads. -/
namespace Go.Proofs.YtlekfhnlhdmekaaGreatDoor.T
set_option linter.unusedSimpArgs false
set_option linter.unusedVariables false
open Go.RowKit Go.Proofs.YtlekfhnlhdmekaaGreatDoorW.PrintWords Go.Proofs.YtlekfhnlhdmekaaGreatDoorW.PrintLast Go.Proofs.YtlekfhnlhdmekaaGreatDoorW.PrintMore
theorem repeat_one (b : UInt8) : ∀ n, Lib.repeatL [b] n = List.replicate n b
  | 0 => rfl
  | n + 1 => by rw [Lib.repeatL, repeat_one b n]; rfl
theorem many_one (p : Int) (m : Nat) (hm : m ≤ 1000) : text_many.f (strOfNums [p]) (m : Int) = some ⟨(List.replicate m (UInt8.ofNat p.toNat)).toArray⟩ := by
  have hs : (strOfNums [p]).size = 1 := by rw [strOfNums_size]; rfl
  unfold text_many.f
  rw [if_neg (by omega), hs]
  rw [if_neg (by simp; omega)]
  unfold strings_Repeat.f
  have c : 0 ≤ (m : Int) ∧ (strOfNums [p]).size * (m : Int).toNat ≤ 100000 ∧ (m : Int) ≤ 100000 := by rw [hs]; simp; omega
  rw [if_pos c]
  simp only [Int.toNat_natCast]
  rw [show (strOfNums [p]).data.toList = [UInt8.ofNat p.toNat] by simp [strOfNums], repeat_one]
theorem fit_short (s : ByteArray) (n p : Int) (h0 : 0 ≤ n) (h1 : n ≤ s.size) : text_fit.f s n p = some (s.extract 0 n.toNat) := by
  unfold text_fit.f
  rw [if_pos h1, if_pos h0]
theorem fit_long (s : ByteArray) (m : Nat) (p : Int) (hs : s.size ≤ 1000) (h1 : s.size < m) (h2 : m - s.size ≤ 1000) :
    text_fit.f s (m : Int) p = some (s ++ ⟨(List.replicate (m - s.size) (UInt8.ofNat p.toNat)).toArray⟩) := by
  unfold text_fit.f
  rw [if_neg (by omega)]
  have e : wrap64 ((m : Int) - (s.size : Int)) = ((m - s.size : Nat) : Int) := by unfold wrap64; omega
  rw [e, many_one p (m - s.size) h2]
  simp only [Option.bind_some]
  have hz : (⟨(List.replicate (m - s.size) (UInt8.ofNat p.toNat)).toArray⟩ : ByteArray).size = m - s.size := by
    rw [← data_length]; simp
  rw [if_pos (by rw [hz]; omega)]
end Go.Proofs.YtlekfhnlhdmekaaGreatDoor.T

/- The law TextSplits: parts of a string, put together again, are the string; reversing. -/
namespace Go.Proofs.YtlekfhnlhdmekaaGreatDoor.T
set_option linter.unusedSimpArgs false
set_option linter.unusedVariables false
open Go.RowKit Go.Proofs.YtlekfhnlhdmekaaGreatDoorW.PrintWords Go.Proofs.YtlekfhnlhdmekaaGreatDoorW.PrintLast Go.Proofs.YtlekfhnlhdmekaaGreatDoorW.PrintMore
namespace Sp
/-- n stars. -/
def stars (n : Nat) : ByteArray := ⟨(List.replicate n (42 : UInt8)).toArray⟩
theorem stars_list (n : Nat) : (stars n).data.toList = List.replicate n 42 := rfl
theorem stars_size (n : Nat) : (stars n).size = n := by rw [B.sz, stars_list]; simp
theorem good42 : goodI 42 = true := by decide
theorem stars_good (n : Nat) : ∀ x ∈ bytesOf (stars n), goodI x = true := by
  intro x hx
  unfold bytesOf at hx
  rw [stars_list] at hx
  simp only [List.map_replicate] at hx
  rw [List.eq_of_mem_replicate hx]
  decide
theorem from_eq (s : ByteArray) (n : Nat) : text_from.f s (n : Int) = some (s.extract (min n s.size) s.size) := by
  unfold text_from.f
  have e : mn (n : Int) (s.size : Int) = ((min n s.size : Nat) : Int) := by unfold mn; omega
  rw [e, if_pos (by omega), if_pos (by omega), Int.toNat_natCast]
theorem fit_long' (s : ByteArray) (m : Nat) (hs : s.size ≤ 1000) (h1 : s.size < m) (h2 : m - s.size ≤ 1000) : text_fit.f s (m : Int) 42 = some (s ++ stars (m - s.size)) :=
  fit_long s m 42 hs h1 h2
theorem pre3 (s : ByteArray) (p : Int) (lo n : Int) : (text_valid.f [s]).bind (fun t1 => (text_pads.f [p]).bind fun t2 => (text_least.f lo [n]).bind fun t3 => text_first.f [t1, t2, t3]) = some (if vld s = true ∧ goodI p = true ∧ lo ≤ n then 0 else 1) := by
  simp only [B.valid1, B.pads1, B.least1, Option.bind_some, B.first3]
theorem left_short (s : ByteArray) (n : Nat) (hv : vld s = true) (h : n ≤ s.size) : text_Left.f s (n : Int) 42 = some (s.extract 0 n, 0) := by
  unfold text_Left.f
  simp only [B.valid1, B.pads1, B.least1, Option.bind_some, B.first3]
  have c : vld s = true ∧ goodI 42 = true ∧ (0 : Int) ≤ (n : Int) := ⟨hv, good42, by omega⟩
  rw [if_pos c, if_pos rfl, fit_short s n 42 (by omega) (by omega)]
  simp only [Option.bind_some, Int.toNat_natCast, B.made _ (B.vldE 0 n hv)]
theorem left_long (s : ByteArray) (n : Nat) (hv : vld s = true) (h : s.size < n) (hn : n ≤ 1000) : text_Left.f s (n : Int) 42 = some (s ++ stars (n - s.size), 0) := by
  unfold text_Left.f
  have hs := B.size hv
  simp only [B.valid1, B.pads1, B.least1, Option.bind_some, B.first3]
  have c : vld s = true ∧ goodI 42 = true ∧ (0 : Int) ≤ (n : Int) := ⟨hv, good42, by omega⟩
  rw [if_pos c, if_pos rfl, fit_long' s n hs h (by omega)]
  simp only [Option.bind_some]
  rw [B.made (s ++ stars (n - s.size)) (B.vldA (B.all hv) (stars_good _) (by rw [ByteArray.size_append, stars_size]; omega))]
  rfl
theorem right_short (s : ByteArray) (n : Nat) (hv : vld s = true) (h : n ≤ s.size) : text_Right.f s (n : Int) 42 = some (s.extract (s.size - n) s.size, 0) := by
  unfold text_Right.f
  have hs := B.size hv
  simp only [B.valid1, B.pads1, B.least1, Option.bind_some, B.first3]
  have c : vld s = true ∧ goodI 42 = true ∧ (0 : Int) ≤ (n : Int) := ⟨hv, good42, by omega⟩
  have e : wrap64 ((s.size : Int) - (n : Int)) = ((s.size - n : Nat) : Int) := by unfold wrap64; omega
  rw [if_pos c, if_pos rfl, if_pos (by omega), e, if_pos (by omega), if_pos (by omega), Int.toNat_natCast, B.made _ (B.vldE _ _ hv)]
  rfl
theorem right_long (s : ByteArray) (n : Nat) (hv : vld s = true) (h : s.size < n) (hn : n ≤ 1000) : text_Right.f s (n : Int) 42 = some (stars (n - s.size) ++ s, 0) := by
  unfold text_Right.f
  have hs := B.size hv
  simp only [B.valid1, B.pads1, B.least1, Option.bind_some, B.first3]
  have c : vld s = true ∧ goodI 42 = true ∧ (0 : Int) ≤ (n : Int) := ⟨hv, good42, by omega⟩
  have e : wrap64 ((n : Int) - (s.size : Int)) = ((n - s.size : Nat) : Int) := by unfold wrap64; omega
  have hm : text_many.f (strOfNums [42]) ((n - s.size : Nat) : Int) = some (stars (n - s.size)) := many_one 42 (n - s.size) (by omega)
  rw [if_pos c, if_pos rfl, if_neg (by omega), e, hm]
  simp only [Option.bind_some]
  rw [if_pos (by rw [stars_size]; omega), B.made _ (B.vldA (stars_good _) (B.all hv) (by rw [ByteArray.size_append, stars_size]; omega))]
  rfl
theorem subst_all (s : ByteArray) (k : Nat) (hv : vld s = true) (hk : k ≤ s.size) : text_Substr.f s ((k : Int) + 1) (-1) 42 = some (s.extract k s.size, 0) := by
  unfold text_Substr.f
  have hs := B.size hv
  simp only [B.valid1, B.pads1, B.least1, Option.bind_some, B.first4]
  have c : vld s = true ∧ goodI 42 = true ∧ (1 : Int) ≤ (k : Int) + 1 ∧ (-1 : Int) ≤ -1 := ⟨hv, good42, by omega, by omega⟩
  rw [if_pos c, if_pos rfl, wrap64_id _ (by omega) (by omega), show (k : Int) + 1 - 1 = (k : Int) by omega, from_eq]
  simp only [Option.bind_some, text_part.f, if_true, show min k s.size = k by omega, B.made _ (B.vldE k s.size hv)]
theorem subst_part (s : ByteArray) (k m : Nat) (hv : vld s = true) (hk : k + m ≤ s.size) : text_Substr.f s ((k : Int) + 1) (m : Int) 42 = some (s.extract k (k + m), 0) := by
  unfold text_Substr.f
  have hs := B.size hv
  simp only [B.valid1, B.pads1, B.least1, Option.bind_some, B.first4]
  have c : vld s = true ∧ goodI 42 = true ∧ (1 : Int) ≤ (k : Int) + 1 ∧ (-1 : Int) ≤ (m : Int) := ⟨hv, good42, by omega, by omega⟩
  have hz : (s.extract k s.size).size = s.size - k := by rw [ByteArray.size_extract]; omega
  have e : (s.extract k s.size).extract 0 m = s.extract k (k + m) := by
    apply B.ext
    rw [B.extract, B.extract, B.extract, B.sz]
    simp only [List.drop_zero, Nat.sub_zero]
    rw [List.take_take, show k + m - k = m by omega, show min m (s.data.toList.length - k) = m by rw [← B.sz]; omega]
  rw [if_pos c, if_pos rfl, wrap64_id _ (by omega) (by omega), show (k : Int) + 1 - 1 = (k : Int) by omega, from_eq]
  simp only [Option.bind_some, text_part.f, show min k s.size = k by omega]
  rw [if_neg (by omega), fit_short _ m 42 (by omega) (by omega)]
  simp only [Option.bind_some, Int.toNat_natCast, e, B.made _ (B.vldE k (k + m) hv)]
/-- The string without m bytes from k on. -/
def cut (s : ByteArray) (k m : Nat) : ByteArray := s.extract 0 k ++ s.extract (k + m) s.size
theorem cut_size (s : ByteArray) (k m : Nat) (h : k + m ≤ s.size) : (cut s k m).size = s.size - m := by
  unfold cut
  rw [ByteArray.size_append, ByteArray.size_extract, ByteArray.size_extract]
  omega
theorem cut_vld (s : ByteArray) (k m : Nat) (hv : vld s = true) (h : k + m ≤ s.size) : vld (cut s k m) = true := by
  have := B.size hv
  exact B.vldA (B.all (B.vldE _ _ hv)) (B.all (B.vldE _ _ hv)) (by have := cut_size s k m h; unfold cut at this; omega)
theorem whole_extract (s : ByteArray) : s.extract 0 s.size = s := by
  apply B.ext
  rw [B.extract, List.drop_zero, Nat.sub_zero, B.sz, List.take_length]
theorem empty_extract (s : ByteArray) (n : Nat) (h : s.size ≤ n) : s.extract n s.size = ⟨#[]⟩ := by
  apply B.ext
  rw [B.extract, show s.size - n = 0 by omega]
  simp
theorem del_eq (s : ByteArray) (k m : Nat) (hv : vld s = true) (hk : k + m ≤ s.size) : text_DelStr.f s ((k : Int) + 1) (m : Int) = some (cut s k m, 0) := by
  unfold text_DelStr.f
  have hs := B.size hv
  simp only [B.valid1, B.least1, Option.bind_some, B.first3]
  have c : vld s = true ∧ (1 : Int) ≤ (k : Int) + 1 ∧ (-1 : Int) ≤ (m : Int) := ⟨hv, by omega, by omega⟩
  have hz : (s.extract k s.size).size = s.size - k := by rw [ByteArray.size_extract]; omega
  rw [if_pos c, if_pos rfl]
  by_cases hb : (k : Int) + 1 > s.size
  · rw [if_pos hb]
    have : m = 0 := by omega
    subst this
    have : k = s.size := by omega
    subst this
    unfold cut
    rw [whole_extract, Nat.add_zero, empty_extract _ _ (Nat.le_refl _)]
    congr 2
    apply B.ext
    rw [B.append]
    simp
  · have e : (s.extract k s.size).extract m (s.extract k s.size).size = s.extract (k + m) s.size := by
      apply B.ext
      rw [hz, B.extract, B.extract, B.extract, List.drop_take, List.drop_drop, List.take_take]
      congr 1
      omega
    rw [if_neg hb, wrap64_id _ (by omega) (by omega), show (k : Int) + 1 - 1 = (k : Int) by omega, if_pos (by omega), if_pos (by omega), if_neg (by omega), show mx (m : Int) 0 = (m : Int) by unfold mx; split <;> omega,
      Int.toNat_natCast, from_eq, hz, show min m (s.size - k) = m by omega]
    rw [← hz, e]
    simp only [Option.bind_some]
    rw [if_pos (by rw [ByteArray.size_extract, ByteArray.size_extract]; omega)]
    rfl
theorem cut_back (s : ByteArray) (k m : Nat) (hk : k + m ≤ s.size) : (cut s k m).extract 0 k ++ s.extract k (k + m) ++ (cut s k m).extract k (cut s k m).size = s := by
  have l1 : (List.take k s.data.toList).length = k := by rw [List.length_take, ← B.sz]; omega
  apply B.ext
  rw [B.append, B.append, B.extract, B.extract, B.extract, cut_size s k m hk]
  have hc : (cut s k m).data.toList = s.data.toList.take k ++ s.data.toList.drop (k + m) := by
    unfold cut
    rw [B.append, B.extract, B.extract, List.drop_zero, Nat.sub_zero]
    congr 1
    apply List.take_of_length_le
    rw [List.length_drop, ← B.sz]; omega
  rw [hc, List.drop_zero, Nat.sub_zero, List.take_left' l1, List.drop_left' l1, List.take_of_length_le (l := s.data.toList.drop (k + m)) (by rw [List.length_drop, ← B.sz]; omega), show k + m - k = m by omega, List.append_assoc]
  rw [← List.drop_drop, List.take_append_drop, List.take_append_drop]
theorem ins_eq (s : ByteArray) (k m : Nat) (hv : vld s = true) (hk : k + m ≤ s.size) : text_Insert.f (s.extract k (k + m)) (cut s k m) (k : Int) (-1) 42 = some (s, 0) := by
  unfold text_Insert.f
  have hs := B.size hv
  have hcz := cut_size s k m hk
  simp only [B.valid2, B.pads1, B.least1, Option.bind_some, B.first4]
  have c : (vld (s.extract k (k + m)) = true ∧ vld (cut s k m) = true) ∧ goodI 42 = true ∧ (0 : Int) ≤ (k : Int) ∧ (-1 : Int) ≤ -1 := ⟨⟨B.vldE _ _ hv, cut_vld s k m hv hk⟩, good42, by omega, by omega⟩
  rw [if_pos c, if_pos rfl, fit_short _ k 42 (by omega) (by omega), from_eq]
  simp only [Option.bind_some, text_part.f, if_true, Int.toNat_natCast, show min k (cut s k m).size = k by omega]
  have z1 : ((cut s k m).extract 0 k).size ≤ 1000 := by rw [ByteArray.size_extract]; omega
  have z2 : (s.extract k (k + m)).size ≤ 1000 := by rw [ByteArray.size_extract]; omega
  have z3 : ((cut s k m).extract k (cut s k m).size).size ≤ 1000 := by rw [ByteArray.size_extract]; omega
  rw [if_pos (by omega), if_pos (by rw [ByteArray.size_append]; omega), cut_back s k m hk, B.made s hv]
  rfl
/-- Reversed. -/
def rv (s : ByteArray) : ByteArray := strOfNums (bytesOf s).reverse
theorem rv_list (s : ByteArray) : (rv s).data.toList = s.data.toList.reverse := by
  unfold rv strOfNums bytesOf
  simp only [← List.map_reverse, List.map_map]
  conv => rhs; rw [← List.map_id s.data.toList.reverse]
  apply List.map_congr_left
  intro x _
  simp
theorem rv_rv (s : ByteArray) : rv (rv s) = s := by
  apply B.ext
  rw [rv_list, rv_list, List.reverse_reverse]
theorem rv_size (s : ByteArray) : (rv s).size = s.size := by rw [B.sz, rv_list, List.length_reverse, ← B.sz]
theorem rv_vld (s : ByteArray) (h : vld s = true) : vld (rv s) = true := by
  refine B.mk (by rw [rv_size]; exact B.size h) (fun x hx => B.all h x ?_)
  unfold bytesOf at hx ⊢
  rw [rv_list, List.map_reverse] at hx
  exact List.mem_reverse.1 hx
theorem rev_eq (s : ByteArray) (h : vld s = true) : text_Reverse.f s = some (rv s, 0) := by
  unfold text_Reverse.f
  have := B.size h
  rw [if_pos (by omega), if_pos h]
  rfl
theorem rv_left (s : ByteArray) (m : Nat) (h : m ≤ s.size) : (rv s).extract 0 m = rv (s.extract (s.size - m) s.size) := by
  apply B.ext
  rw [rv_list, B.extract, B.extract, rv_list, List.drop_zero, Nat.sub_zero, List.take_reverse, ← B.sz]
  congr 1
  rw [List.take_of_length_le]
  rw [List.length_drop, ← B.sz]; omega
theorem rv_long (s : ByteArray) (k : Nat) : rv s ++ stars k = rv (stars k ++ s) := by
  apply B.ext
  rw [B.append, rv_list, rv_list, B.append, List.reverse_append, stars_list, List.reverse_replicate]
theorem app_vld (s : ByteArray) (k : Nat) (h : vld s = true) (hk : s.size + k ≤ 1000) : vld (stars k ++ s) = true :=
  B.vldA (stars_good k) (B.all h) (by rw [ByteArray.size_append, stars_size]; omega)
theorem halves (s : ByteArray) (k : Nat) (h : k ≤ s.size) : s.extract 0 k ++ s.extract k s.size = s := by
  apply B.ext
  rw [B.append, B.extract, B.extract, List.drop_zero, Nat.sub_zero]
  rw [List.take_of_length_le (l := s.data.toList.drop k) (by rw [List.length_drop, ← B.sz]; omega), List.take_append_drop]
theorem j2 (s : ByteArray) (n m : Nat) (hv : vld s = true) (hn : n < 256) (hm : m < 256) (k : Nat) : qanatlaw02_TextSplits.j2 (k + 1) s (n : Int) (m : Int) true false = some true := by
  have hs := B.size hv
  rw [qanatlaw02_TextSplits.j2, if_neg (by decide), wrap64_id (n : Int) (by omega) (by omega), wrap64_id (m : Int) (by omega) (by omega), wrap64_id ((n : Int) + 1) (by omega) (by omega), show wrap64 ((n : Int) + 1 - 1) = (n : Int) by unfold wrap64; omega,
    wrap64_id ((n : Int) + (m : Int)) (by omega) (by omega)]
  by_cases h : (n : Int) + (m : Int) > s.size
  · rw [if_pos h]
  · have hk : n + m ≤ s.size := by omega
    rw [if_neg h, del_eq s n m hv hk, subst_part s n m hv hk]
    simp only [Option.bind_some]
    rw [ins_eq s n m hv hk]
    simp only [Option.bind_some, if_true]
    have z : (s.extract n (n + m)).size = m := by rw [ByteArray.size_extract]; omega
    rw [if_pos (by rw [z]), cut_size s n m hk, wrap64_id _ (by omega) (by omega)]
    simp
    omega
theorem j1 (s : ByteArray) (n m : Nat) (hv : vld s = true) (hn : n < 256) (hm : m < 256) (k : Nat) : qanatlaw02_TextSplits.j1 (k + 2) s (n : Int) (m : Int) true (rv s) false = some true := by
  have hs := B.size hv
  rw [qanatlaw02_TextSplits.j1, if_neg (by decide), wrap64_id (m : Int) (by omega) (by omega)]
  by_cases h : m ≤ s.size
  · rw [left_short (rv s) m (rv_vld s hv) (by rw [rv_size]; exact h), right_short s m hv h]
    simp only [Option.bind_some]
    rw [rev_eq _ (B.vldE _ _ hv), rv_left s m h]
    simp only [Option.bind_some, if_true, bne_self_eq_false]
    exact j2 s n m hv hn hm k
  · rw [left_long (rv s) m (rv_vld s hv) (by rw [rv_size]; omega) (by omega), right_long s m hv (by omega) (by omega)]
    simp only [Option.bind_some]
    rw [rev_eq _ (app_vld s _ hv (by omega)), rv_size, rv_long]
    simp only [Option.bind_some, if_true, bne_self_eq_false]
    exact j2 s n m hv hn hm k
theorem j0 (s : ByteArray) (n m q : Nat) (hv : vld s = true) (hn : n < 256) (hm : m < 256) (hq : q ≤ s.size) (k : Nat) : qanatlaw02_TextSplits.j0 (k + 3) s (n : Int) (m : Int) true (q : Int) = some true := by
  have hs := B.size hv
  rw [qanatlaw02_TextSplits.j0, wrap64_id ((q : Int) + 1) (by omega) (by omega), left_short s q hv hq, subst_all s q hv hq, rev_eq s hv]
  simp only [Option.bind_some]
  rw [rev_eq _ (rv_vld s hv), rv_rv]
  have z1 : (s.extract 0 q).size ≤ 1000 := by rw [ByteArray.size_extract]; omega
  have z2 : (s.extract q s.size).size ≤ 1000 := by rw [ByteArray.size_extract]; omega
  simp only [Option.bind_some, if_true, bne_self_eq_false]
  rw [if_pos (by omega), halves s q hq, if_pos rfl]
  exact j1 s n m hv hn hm k
end Sp
theorem splits_pure : qanatlaw02_TextSplits.Pure := by
  intro s n m _ w1 w2
  obtain ⟨n0, n1⟩ := u8_of_wf w1
  obtain ⟨m0, m1⟩ := u8_of_wf w2
  obtain ⟨n, rfl⟩ := Int.eq_ofNat_of_zero_le n0
  obtain ⟨m, rfl⟩ := Int.eq_ofNat_of_zero_le m0
  refine ⟨60 + 3, ?_⟩
  unfold qanatlaw02_TextSplits.f text_Valid.f
  rw [head_ok 3]
  simp only [Option.bind_some]
  by_cases hv : vld s = true
  · rw [if_pos hv, wrap64_id (n : Int) (by omega) (by omega)]
    by_cases h : (n : Int) > s.size
    · rw [if_pos h]
      exact Sp.j0 s n m s.size hv (by omega) (by omega) (Nat.le_refl _) 60
    · rw [if_neg h]
      exact Sp.j0 s n m n hv (by omega) (by omega) (by omega) 60
  · rw [if_neg hv]
end Go.Proofs.YtlekfhnlhdmekaaGreatDoor.T
