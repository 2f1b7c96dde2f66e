/- Part 5 of the proof of TextCompares: the functions that it calls return what their plain descriptions say. -/
import Derived.Test.YtlekfhnlhdmekaaGreatDoorCTextCompares3
import Derived.Test.YtlekfhnlhdmekaaGreatDoorCTextCompares4
import Derived.BigQuiet
import Derived.Deep.AppendSrc
import Derived.Deep.MidRow
import Derived.Test.YtlekfhnlhdmekaaGreatDoorCTextCompares2

/- text.Compare returns what text_Compare.f says. -/
namespace Go.Proofs.YtlekfhnlhdmekaaGreatDoor.T
set_option linter.unusedSimpArgs false
set_option linter.unusedVariables false
open Go.RowKit Go.Proofs.YtlekfhnlhdmekaaGreatDoorW.PrintWords Go.Proofs.YtlekfhnlhdmekaaGreatDoorW.PrintLast Go.Proofs.YtlekfhnlhdmekaaGreatDoorW.PrintMore
attribute [local go_sem] max2_int min2_int max_two min_two max_three min_three max_four min_four

/-- The position of the first of n places at which two strings differ; 0 if there is none. -/
def cmpI (x y : ByteArray) (n : Nat) : Int := verI (fun i => bt x i != bt y i) ((List.range n).map fun i : Nat => (i : Int)) 0
theorem rng_getD (n j : Nat) (hj : j < n) : ((List.range n).map fun i : Nat => (i : Int)).getD j 0 = (j : Int) := by
  simp [List.getD_eq_getElem?_getD, hj]
theorem cmpI_hit (x y : ByteArray) (n j : Nat) (hj : j < n) (h : (bt x j != bt y j) = true) (hn : ∀ i, i < j → (bt x (i : Int) != bt y i) = false) : cmpI x y n = (j : Int) + 1 :=
  verI_hit _ _ 0 j (Nat.zero_le _) (by simpa using hj) (by rw [rng_getD n j hj]; exact h) (fun i _ hi => by rw [rng_getD n i (by omega)]; exact hn i hi)
theorem cmpI_miss (x y : ByteArray) (n : Nat) (hn : ∀ i, i < n → (bt x (i : Int) != bt y i) = false) : cmpI x y n = 0 :=
  verI_miss _ _ 0 (fun i _ hi => by
    have hi : i < n := by simpa using hi
    rw [rng_getD n i hi]; exact hn i hi)
def text_Compare.f (a0 a1 : ByteArray) (a2 : Int) : Option (Int × Int) :=
  if a0.size ≤ 2000 ∧ a1.size ≤ 2000 then
    (if (vld a0 = true ∧ vld a1 = true) ∧ goodI a2 = true then
      (text_fit.f a0 ((max a0.size a1.size : Nat) : Int) a2).bind fun x => (text_fit.f a1 ((max a0.size a1.size : Nat) : Int) a2).bind fun y =>
      if x.size = max a0.size a1.size ∧ y.size = max a0.size a1.size then some (cmpI x y (max a0.size a1.size), 0) else none
    else some (0, 1))
  else none

set_option maxRecDepth 100000 in
set_option maxHeartbeats 4000000 in
theorem text_Compare.calls (a0 a1 : ByteArray) (a2 : Int) (r1 r2 : Int) (w : World) (h : text_Compare.f a0 a1 a2 = some (r1, r2)) :
    Calls Tryz.prog 30 #[.string a0, .string a1, .int .u8 a2] w fun e w' => e = .returned (.tuple #[.int .i64 r1, .int .i64 r2]) ∧ Below w.heap.size w w' := by
  unfold text_Compare.f at h
  by_cases hb : a0.size ≤ 2000 ∧ a1.size ≤ 2000
  · rw [if_pos hb] at h
    obtain ⟨hz0, hz1⟩ := hb
    have H1 := fun W0 => pre93 [a0, a1] W0
    have H2 := fun W0 => pre94 [a2] W0
    have H3 := fun W0 => pre92 _ _ (first2 (([a0, a1] : List ByteArray).all vld = true) (([a2] : List Int).all goodI = true)) W0
    generalize hv1 : (if ([a0, a1] : List ByteArray).all vld = true then (0 : Int) else 1) = v1 at H1 H3
    generalize hv2 : (if ([a2] : List Int).all goodI = true then (0 : Int) else 1) = v2 at H2 H3
    clear hv1 hv2
    have hcond : ((([a0, a1] : List ByteArray).all vld = true) ∧ (([a2] : List Int).all goodI = true)) ↔ ((vld a0 = true ∧ vld a1 = true) ∧ goodI a2 = true) := by simp [and_assoc]
    by_cases hv : (vld a0 = true ∧ vld a1 = true) ∧ goodI a2 = true
    · rw [if_pos hv] at h
      rw [if_pos (hcond.2 hv)] at H3
      clear hcond hv
      have H1 := Lib.hid H1
      have H2 := Lib.hid H2
      have H3 := Lib.hid H3
      obtain ⟨n, hn⟩ : ∃ n, max a0.size a1.size = n := ⟨_, rfl⟩
      rw [hn] at h
      obtain ⟨x, hx, h⟩ := Option.bind_eq_some_iff.mp h
      obtain ⟨y, hy, h⟩ := Option.bind_eq_some_iff.mp h
      by_cases hs : x.size = n ∧ y.size = n
      · rw [if_pos hs] at h
        simp only [Option.some.injEq, Prod.mk.injEq] at h
        obtain ⟨hcmp, rfl⟩ := h
        have HX := Lib.hid (fun W => text_fit.calls a0 (n : Int) a2 x W hx)
        have HY := Lib.hid (fun W => text_fit.calls a1 (n : Int) a2 y W hy)
        have HR := Aside0.mk hcmp
        have HS := Aside0.mk hs
        have hmax : (if (a0.size : Int) < (a1.size : Int) then (a1.size : Int) else (a0.size : Int)) = (n : Int) := by split <;> omega
        have hn2 : n ≤ 2000 := by omega
        clear hcmp hs hx hy
        by_cases hlt : a0.size < a1.size
        · have d1 : ((a0.size : Int) < (a1.size : Int)) = True := eq_true (by omega)
          obtain rfl : a1.size = n := by omega
          clear hmax hn
          go_enter Tryz.func30, Tryz.ntmps30
          go_wp2_with (first | (go_at_call 93; refine (H1.out _).mono ?_; rintro e w1 ⟨rfl, hb1⟩) | (go_at_call 94; refine (H2.out _).mono ?_; rintro e w2 ⟨rfl, hb2⟩) | (go_at_call 92; refine (H3.out _).mono ?_; rintro e w3 ⟨rfl, hb3⟩) | (go_at_call 99; with_reducible refine (HX.out _).mono ?_; rintro e w4 ⟨rfl, hb4⟩) | (go_at_call 99; with_reducible refine (HY.out _).mono ?_; rintro e w5 ⟨rfl, hb5⟩))
          have hxn : x.size = a1.size := HS.out.1
          have hyn : y.size = a1.size := HS.out.2
          have HB := Aside0.mk (below_step hb1 (below_step hb2 (below_step hb3 (below_step hb4 hb5))))
          have HXN := Aside0.mk hxn
          have HYN := Aside0.mk hyn
          clear hxn hyn hb1 hb2 hb3 hb4 hb5
          go_loopg [10, 37] a1.size (fun gg _ s37 wr => ∃ kk q : Nat, kk ≤ a1.size ∧ a1.size - kk ≤ gg ∧ s37 = .int .i64 kk ∧ wr = w5.drewN q ∧ Aside0 (∀ i, i < kk → (bt x (i : Int) != bt y i) = false))
          case atStart => exact ⟨0, 0, Nat.zero_le _, by omega, rfl, rfl, ⟨fun j hj => absurd hj (by omega)⟩⟩
          case round =>
            obtain ⟨kk, q, hkk, hg, rfl, rfl, HA⟩ := hrel
            by_cases hk : kk < a1.size
            · have hkz : (kk : Int) < (a1.size : Int) := by omega
              have hk1 : kk < x.size := by have := HXN.out; omega
              have hk2 : kk < y.size := by have := HYN.out; omega
              have e1 : ((x[kk]'hk1).toNat : Int) = bt x (kk : Int) := by simp [bt, hk1]
              have e2 : ((y[kk]'hk2).toNat : Int) = bt y (kk : Int) := by simp [bt, hk2]
              obtain ⟨z1, hz1⟩ : ∃ z, bt x (kk : Int) = z := ⟨_, rfl⟩
              obtain ⟨z2, hz2⟩ : ∃ z, bt y (kk : Int) = z := ⟨_, rfl⟩
              rw [hz1] at e1
              rw [hz2] at e2
              have HZ1 := Aside0.mk hz1
              have HZ2 := Aside0.mk hz2
              clear hz1 hz2
              by_cases hz : z1 = z2
              · have d9 : (z1 != z2) = false := by rw [hz]; simp
                have HD := Aside0.mk d9
                clear hz
                go_upto_region 9 with fail
                go_quiet (fail)
                go_wp2
                go_roundg (a1.size - (kk + 1))
                case measure => omega
                case rel =>
                  refine ⟨kk + 1, _, by omega, by omega, by go_num, rfl, ⟨fun j hj => ?_⟩⟩
                  by_cases e : j = kk
                  · subst e; rw [HZ1.out, HZ2.out]; exact HD.out
                  · exact HA.out j (by omega)
              · have d9 : (z1 != z2) = true := bne_iff_ne.mpr hz
                have HD := Aside0.mk d9
                clear hz
                go_upto_region 9 with fail
                go_quiet (fail)
                go_wp2
                go_ret2
                refine ⟨?_, pw_below_drewN HB.out _⟩
                rw [← HR.out, cmpI_hit x y a1.size kk hk (by rw [HZ1.out, HZ2.out]; exact HD.out) HA.out]
                rfl
            · have hkz : ¬ (kk : Int) < (a1.size : Int) := by omega
              go_wp2
              go_ret2
              refine ⟨?_, pw_below_drewN HB.out q⟩
              rw [← HR.out, cmpI_miss x y a1.size (fun i hi => HA.out i (by omega))]
              rfl
        · have d1 : ((a0.size : Int) < (a1.size : Int)) = False := eq_false (by omega)
          obtain rfl : a0.size = n := by omega
          clear hmax hn
          go_enter Tryz.func30, Tryz.ntmps30
          go_wp2_with (first | (go_at_call 93; refine (H1.out _).mono ?_; rintro e w1 ⟨rfl, hb1⟩) | (go_at_call 94; refine (H2.out _).mono ?_; rintro e w2 ⟨rfl, hb2⟩) | (go_at_call 92; refine (H3.out _).mono ?_; rintro e w3 ⟨rfl, hb3⟩) | (go_at_call 99; with_reducible refine (HX.out _).mono ?_; rintro e w4 ⟨rfl, hb4⟩) | (go_at_call 99; with_reducible refine (HY.out _).mono ?_; rintro e w5 ⟨rfl, hb5⟩))
          have hxn : x.size = a0.size := HS.out.1
          have hyn : y.size = a0.size := HS.out.2
          have HB := Aside0.mk (below_step hb1 (below_step hb2 (below_step hb3 (below_step hb4 hb5))))
          have HXN := Aside0.mk hxn
          have HYN := Aside0.mk hyn
          clear hxn hyn hb1 hb2 hb3 hb4 hb5
          go_loopg [10, 37] a0.size (fun gg _ s37 wr => ∃ kk q : Nat, kk ≤ a0.size ∧ a0.size - kk ≤ gg ∧ s37 = .int .i64 kk ∧ wr = w5.drewN q ∧ Aside0 (∀ i, i < kk → (bt x (i : Int) != bt y i) = false))
          case atStart => exact ⟨0, 0, Nat.zero_le _, by omega, rfl, rfl, ⟨fun j hj => absurd hj (by omega)⟩⟩
          case round =>
            obtain ⟨kk, q, hkk, hg, rfl, rfl, HA⟩ := hrel
            by_cases hk : kk < a0.size
            · have hkz : (kk : Int) < (a0.size : Int) := by omega
              have hk1 : kk < x.size := by have := HXN.out; omega
              have hk2 : kk < y.size := by have := HYN.out; omega
              have e1 : ((x[kk]'hk1).toNat : Int) = bt x (kk : Int) := by simp [bt, hk1]
              have e2 : ((y[kk]'hk2).toNat : Int) = bt y (kk : Int) := by simp [bt, hk2]
              obtain ⟨z1, hz1⟩ : ∃ z, bt x (kk : Int) = z := ⟨_, rfl⟩
              obtain ⟨z2, hz2⟩ : ∃ z, bt y (kk : Int) = z := ⟨_, rfl⟩
              rw [hz1] at e1
              rw [hz2] at e2
              have HZ1 := Aside0.mk hz1
              have HZ2 := Aside0.mk hz2
              clear hz1 hz2
              by_cases hz : z1 = z2
              · have d9 : (z1 != z2) = false := by rw [hz]; simp
                have HD := Aside0.mk d9
                clear hz
                go_upto_region 9 with fail
                go_quiet (fail)
                go_wp2
                go_roundg (a0.size - (kk + 1))
                case measure => omega
                case rel =>
                  refine ⟨kk + 1, _, by omega, by omega, by go_num, rfl, ⟨fun j hj => ?_⟩⟩
                  by_cases e : j = kk
                  · subst e; rw [HZ1.out, HZ2.out]; exact HD.out
                  · exact HA.out j (by omega)
              · have d9 : (z1 != z2) = true := bne_iff_ne.mpr hz
                have HD := Aside0.mk d9
                clear hz
                go_upto_region 9 with fail
                go_quiet (fail)
                go_wp2
                go_ret2
                refine ⟨?_, pw_below_drewN HB.out _⟩
                rw [← HR.out, cmpI_hit x y a0.size kk hk (by rw [HZ1.out, HZ2.out]; exact HD.out) HA.out]
                rfl
            · have hkz : ¬ (kk : Int) < (a0.size : Int) := by omega
              go_wp2
              go_ret2
              refine ⟨?_, pw_below_drewN HB.out q⟩
              rw [← HR.out, cmpI_miss x y a0.size (fun i hi => HA.out i (by omega))]
              rfl
      · rw [if_neg hs] at h
        cases h
    · rw [if_neg hv] at h
      rw [if_neg (fun h => hv (hcond.1 h))] at H3
      clear hcond
      have H1 := Lib.hid H1
      have H2 := Lib.hid H2
      have H3 := Lib.hid H3
      simp only [Option.some.injEq, Prod.mk.injEq] at h
      obtain ⟨rfl, rfl⟩ := h
      go_enter Tryz.func30, Tryz.ntmps30
      go_wp2_with (first | (go_at_call 93; refine (H1.out _).mono ?_; rintro e w1 ⟨rfl, hb1⟩) | (go_at_call 94; refine (H2.out _).mono ?_; rintro e w2 ⟨rfl, hb2⟩) | (go_at_call 92; refine (H3.out _).mono ?_; rintro e w3 ⟨rfl, hb3⟩))
      go_ret2
      exact ⟨rfl, below_step hb1 (below_step hb2 hb3)⟩
  · rw [if_neg hb] at h
    cases h
end Go.Proofs.YtlekfhnlhdmekaaGreatDoor.T

/- A slice of bytes that the call itself made, known by its cells (what a conversion of a string made, too), and append onto it. -/
namespace Go.Proofs.YtlekfhnlhdmekaaGreatDoor.T
set_option linter.unusedSimpArgs false
set_option linter.unusedVariables false
open Go.RowKit Go.Proofs.YtlekfhnlhdmekaaGreatDoorW.PrintWords Go.Proofs.YtlekfhnlhdmekaaGreatDoorW.PrintLast Go.Proofs.YtlekfhnlhdmekaaGreatDoorW.PrintMore

/-- v is a slice of the bytes xs in a block from base on all of whose cells up to the capacity can be written; or nil. -/
def OwnM (base : Nat) (v : Value) (xs : List Int) (W : World) : Prop :=
  (v = .slice none 0 0 ∧ xs = []) ∨ ∃ g cap, v = .slice (some ⟨g, 0, none⟩) xs.length cap ∧ base ≤ g ∧ g < W.heap.size ∧ xs.length ≤ cap ∧ cap ≤ 9223372036854775807 ∧
    (∀ j, j < xs.length → W.cell? ⟨g, j, none⟩ = some (.int .u8 (xs.getD j 0))) ∧ ∀ j, j < cap → (W.cell? ⟨g, j, none⟩).isSome = true ∧ W.frozen? ⟨g, j, none⟩ = false
theorem OwnM.nil (base : Nat) (W : World) : OwnM base (.slice none 0 0) [] W := .inl ⟨rfl, rfl⟩
theorem OwnM.slice {base : Nat} {v : Value} {xs : List Int} {W : World} (h : OwnM base v xs W) : ∃ A c, v = .slice A xs.length c ∧ xs.length ≤ c := by
  rcases h with ⟨rfl, rfl⟩ | ⟨g, cap, rfl, _, _, h, _⟩
  · exact ⟨_, _, rfl, Nat.le_refl _⟩
  · exact ⟨_, _, rfl, h⟩
theorem OwnM.C {base : Nat} {A : Option Addr} {c : Nat} {xs : List Int} {W : World} (h : OwnM base (.slice A xs.length c) xs W) : Kd.C (Kd.int .u8) W A xs.length xs := by
  refine Kd.C_of_reads (d := (0 : Int)) (h1 := fun _ => rfl) ?_
  rcases h with ⟨h1, rfl⟩ | ⟨g, cap, h1, _, _, h2, h3, h4, _⟩
  · simp at h1
    obtain ⟨rfl, _⟩ := h1
    exact ⟨rfl, by decide, fun h => absurd h (by simp)⟩
  · simp at h1
    obtain ⟨rfl, rfl⟩ := h1
    exact ⟨rfl, by omega, fun _ => ⟨_, rfl, fun j hj => by rw [add_plain]; exact h4 j hj⟩⟩
theorem OwnM.mono {base base' : Nat} {v : Value} {xs : List Int} {W : World} (h : OwnM base v xs W) (hb : base' ≤ base) : OwnM base' v xs W :=
  h.imp id fun ⟨g, cap, h1, h2, h3⟩ => ⟨g, cap, h1, Nat.le_trans hb h2, h3⟩
theorem OwnM.below {base B : Nat} {v : Value} {xs : List Int} {W W' : World} (h : OwnM base v xs W) (hB : W.heap.size ≤ B) (hb : Below B W W') : OwnM base v xs W' := by
  rcases h with h | ⟨g, cap, h1, h2, h3, h4, h5, h6, h7⟩
  · exact .inl h
  · refine .inr ⟨g, cap, h1, h2, by have := hb.size; omega, h4, h5, fun j hj => ?_, fun j hj => ?_⟩
    · exact (hb.cell (p := ⟨g, j, none⟩) (by show g < B; omega)).trans (h6 j hj)
    · rw [hb.cell (p := ⟨g, j, none⟩) (by show g < B; omega), hb.frozen (p := ⟨g, j, none⟩) (by show g < B; omega)]
      exact h7 j hj
theorem OwnM.alloc {base : Nat} {v : Value} {xs : List Int} {W : World} (h : OwnM base v xs W) (o : Obj) : OwnM base v xs (W.alloc o) := h.below (Nat.le_refl _) (below_alloc (Below.refl _ _) o)
theorem OwnM.drewN {base : Nat} {v : Value} {xs : List Int} {W : World} (h : OwnM base v xs W) (n : Nat) : OwnM base v xs (W.drewN n) := h
theorem OwnM.conv {base : Nat} (W : World) (s : ByteArray) (hb : base ≤ W.heap.size) (hs : s.size ≤ 100000) : OwnM base (.slice (some ⟨W.heap.size, 0, none⟩) s.size (grownCap W s.size 0 5)) (bytesOf s) (Lib.bytesWorld W 5 s) := by
  have hB := Buf.new W s
  have hg : s.size ≤ grownCap W s.size 0 5 := grownCap_ge W s.size 0 5
  have hm : grownCap W s.size 0 5 ≤ maxLen := grownCap_le_maxLen W s.size 0 5 (by unfold maxLen; omega)
  unfold maxLen at hm
  have hz : (Lib.bytesCells W 5 s).size = grownCap W s.size 0 5 := by
    simp only [Lib.bytesCells, Array.size_append, Array.size_map, Array.size_replicate]
    have : s.data.size = s.size := rfl
    omega
  refine .inr ⟨W.heap.size, _, by rw [bytesOf_length], hb, by rw [Lib.bytesWorld_size]; omega, by rw [bytesOf_length]; exact hg, by omega, fun j hj => hB.cell j hj, fun j hj => ?_⟩
  have hn := Lib.bytesWorld_at_new W 5 s
  rw [hz] at hn
  constructor
  · simp only [World.cell?, hn]
    rw [Array.getElem?_eq_getElem (by rw [hz]; exact hj)]
    rfl
  · simp only [World.frozen?, hn]
    have : ¬ grownCap W s.size 0 5 ≤ j := by omega
    simp [this]
theorem below_setCells {B b : Nat} (hB : B ≤ b) : ∀ (vs : List Value) (o : Nat) (W W' : World), Below B W W' → Below B W (W'.setCells b o vs)
  | [], _, _, _, h => h
  | v :: vs, o, W, W', h => below_setCells hB vs (o + 1) W _ (h.setCell (p := ⟨b, o, none⟩) hB v)
theorem encs_u8_get (xs : List Int) (j : Nat) (hj : j < xs.length) : (xs.map (Value.int .u8))[j]? = some (.int .u8 (xs.getD j 0)) := by
  simp [List.getD_eq_getElem?_getD, List.getElem?_eq_getElem hj]
theorem getD_app (xs ys : List Int) (j : Nat) : (xs ++ ys).getD j 0 = if j < xs.length then xs.getD j 0 else ys.getD (j - xs.length) 0 := by
  simp only [List.getD_eq_getElem?_getD]
  by_cases h : j < xs.length
  · rw [if_pos h, List.getElem?_append_left h]
  · rw [if_neg h, List.getElem?_append_right (by omega)]

theorem run_append_M {P : Program} (W : World) (t tx ty e : TypeId) (i : TypeInfo) (ht : P.underlying t = some (.slice e)) (hi : P.info? e = some i) (hz : i.zero = some (.int .u8 0)) (h1 : i.size = 1) (h2 : i.bytes = 1)
    (base : Nat) (v : Value) (xs : List Int) (h : OwnM base v xs W) (x : Value) (news : List Int) (hs : Src P 1 tx x news.length (news.map (Value.int .u8)) W) (hl : xs.length + news.length ≤ 1000000000) (hb : base ≤ W.heap.size) :
    ∃ v' w', (Builtin.append_ #[t, tx] ty #[v, x]).run P W = .ok v' w' ∧ OwnM base v' (xs ++ news) w' ∧ Below base W w' := by
  have grow : ∀ (ao : Option Addr) (cap : Nat), v = .slice ao xs.length cap → cap < xs.length + news.length → (Builtin.firstCells 1 xs.length (.slice ao xs.length cap)).run P W.drew = .ok (xs.map (Value.int .u8)).toArray W.drew →
      ∃ v' w', (Builtin.append_ #[t, tx] ty #[v, x]).run P W = .ok v' w' ∧ OwnM base v' (xs ++ news) w' ∧ Below base W w' := by
    intro ao cap hv hg hold
    have hge := grownCap_ge W (xs.length + news.length) cap e
    have hcm := grownCap_le_maxLen W (xs.length + news.length) cap e (by unfold maxLen; omega)
    unfold maxLen at hcm
    have hr := run_append_grow_src (P := P) W t tx ty e i (.int .u8 0) ht hi hz ao xs.length cap (xs.map (Value.int .u8)) (by rw [h1]; exact hold) x news.length (news.map (Value.int .u8)) (by rw [h1]; exact hs) hg (by omega) (by rw [h2]; exact growslice_fits hg (by omega))
    rw [hv]
    have hsz : (((xs.map (Value.int .u8)) ++ (news.map (Value.int .u8))).toArray ++ Builtin.zeroCells (Value.int .u8 0).cells (grownCap W (xs.length + news.length) cap e - (xs.length + news.length))).size = grownCap W (xs.length + news.length) cap e := by
      have hz1 : (Value.int IntKind.u8 0).cells.size = 1 := rfl
      simp only [Array.size_append, List.size_toArray, size_zeroCells, hz1, List.length_append, List.length_map]
      omega
    have hn := heap_alloc_new W.drew (.cells (((xs.map (Value.int .u8)) ++ (news.map (Value.int .u8))).toArray ++ Builtin.zeroCells (Value.int .u8 0).cells (grownCap W (xs.length + news.length) cap e - (xs.length + news.length))) e)
    refine ⟨_, _, hr, .inr ⟨W.heap.size, _, by rw [List.length_append], hb, ?_, by rw [List.length_append]; omega, by omega, fun j hj => ?_, fun j hj => ?_⟩, (below_drew (Below.refl base W)).alloc hb _⟩
    · rw [World.size_alloc]; exact Nat.lt_succ_self _
    · rw [List.length_append] at hj
      have hn' : (W.drew.alloc (.cells (((xs.map (Value.int .u8)) ++ (news.map (Value.int .u8))).toArray ++ Builtin.zeroCells (Value.int .u8 0).cells (grownCap W (xs.length + news.length) cap e - (xs.length + news.length))) e)).heap[W.heap.size]? = _ := hn
      simp only [World.cell?, hn']
      rw [Array.getElem?_append_left (by simp; omega), List.getElem?_toArray, ← List.map_append, encs_u8_get _ j (by rw [List.length_append]; exact hj)]
      rfl
    · have hn' : (W.drew.alloc (.cells (((xs.map (Value.int .u8)) ++ (news.map (Value.int .u8))).toArray ++ Builtin.zeroCells (Value.int .u8 0).cells (grownCap W (xs.length + news.length) cap e - (xs.length + news.length))) e)).heap[W.heap.size]? = _ := hn
      constructor
      · simp only [World.cell?, hn']
        rw [Array.getElem?_eq_getElem (by rw [hsz]; exact hj)]
        rfl
      · simp only [World.frozen?, hn']
        simp
  rcases h with ⟨rfl, rfl⟩ | ⟨g, cap, rfl, h3, h4, h5, h6, h7, h8⟩
  · by_cases h0 : news.length = 0
    · obtain rfl := List.length_eq_zero_iff.1 h0
      refine ⟨.slice none 0 0, W, ?_, .inl ⟨rfl, rfl⟩, Below.refl _ _⟩
      have hc := hs.cells
      have hl := hs.len
      simp only [List.length_nil, List.map_nil] at hc hl
      rcases hs.kind with ⟨e', hk⟩ | hk <;> simp [Builtin.append_, run_underlying ht, run_underlying hk, sizeOf, typeInfo, hi, h1, hl, hc]
    · exact grow none 0 rfl (by simp; omega) (by simpa using run_firstCells_none W.drew 1 0 0 0)
  · by_cases hroom : xs.length + news.length ≤ cap
    · have hr := run_append_room_src (P := P) W t tx ty e i ht hi g 0 xs.length cap x news.length (news.map (Value.int .u8)) (by rw [h1]; exact hs) hroom
        (fun j hj => by rw [h1]; exact (h8 _ (by simp at hj; omega)).1) (fun j hj => by rw [h1]; exact (h8 _ (by simp at hj; omega)).2)
      rw [h1] at hr
      simp only [Nat.zero_add, Nat.mul_one] at hr
      refine ⟨_, _, hr, .inr ⟨g, cap, by rw [List.length_append], h3, ?_, by rw [List.length_append]; exact hroom, h6, fun j hj => ?_, fun j hj => ?_⟩, below_setCells h3 _ _ _ _ (Below.refl _ _)⟩
      · exact Nat.lt_of_lt_of_le h4 (below_setCells (B := base) h3 (news.map (Value.int .u8)) xs.length W W (Below.refl _ _)).size
      · rw [List.length_append] at hj
        rw [getD_app]
        by_cases hjx : j < xs.length
        · rw [if_pos hjx, World.cell?_setCells_out g _ _ _ _ (fun _ _ => .inl hjx)]
          exact h7 j hjx
        · rw [if_neg hjx]
          have := World.cell?_setCells_in g (news.map (Value.int .u8)) xs.length W (fun j' hj' => (h8 _ (by simp at hj'; omega)).1) (j - xs.length) (by simp; omega)
          rw [show xs.length + (j - xs.length) = j by omega] at this
          rw [this]
          simp [List.getD_eq_getElem?_getD, List.getElem?_eq_getElem (show j - xs.length < news.length by omega)]
      · rw [World.frozen?_setCells]
        exact ⟨World.isSome_setCells g _ _ _ _ (h8 j hj).1, (h8 j hj).2⟩
    · refine grow (some ⟨g, 0, none⟩) cap rfl (by omega) ?_
      refine run_firstCells_some W.drew 1 xs.length ⟨g, 0, none⟩ xs.length cap (xs.map (Value.int .u8)) (by simp) (fun j u hu => ?_)
      have hj : j < xs.length := by have := (List.getElem?_eq_some_iff.1 hu).1; simpa using this
      rw [encs_u8_get xs j hj] at hu
      cases hu
      rw [add_plain]
      exact h7 j hj

/-- append onto such a slice, for the walk. -/
theorem wpList_append_M {P : Program} {w0 W : World} {ops : Array Oper} {rest : List Oper} {o : Oper} {a : Act} {Q : Exit → Act → World → Prop} (hgd : o.guard = none) (sl x : Operand) (t tx e : TypeId)
    (ho : o.op = .call { callee := .builtin .append, args := #[sl, x], argTypes := #[t, tx] })
    (ht : P.underlying t = some (.slice e)) (hinfo : (P.info? e).map (fun i => (i.zero, i.size, i.bytes)) = some (some (.int .u8 0), 1, 1))
    (base : Nat) (v : Value) (xs : List Int) (hs : a.eval sl = v) (h : OwnM base v xs W) (xv : Value) (hx : a.eval x = xv) (news : List Int) (hsrc : Src P 1 tx xv news.length (news.map (Value.int .u8)) W)
    (hl : xs.length + news.length ≤ 1000000000) (hb : base ≤ W.heap.size) (HB : Below base w0 W)
    (hK : ∀ v' w', OwnM base v' (xs ++ news) w' → Below base w0 w' → wpList P ops Q rest (a.put o.dst v') w') : wpList P ops Q (o :: rest) a W := by
  refine wpList_plain hgd fun K hK' => ?_
  obtain ⟨i, hi, hz, h1, h2⟩ := info_parts hinfo
  obtain ⟨v', w', hr, ho', hb'⟩ := run_append_M (P := P) W t tx o.type e i ht hi hz h1 h2 base v xs h xv news hsrc hl hb
  unfold Oper.wp execOp
  simp only [ho, resolve, invoke, builtin, Sem.run_bind, Sem.run_pure, Result.andThen_ok, List.map_toArray, List.map_cons, List.map_nil, hs, hx, hr]
  exact hK' _ _ (hK v' w' ho' (HB.trans hb'))
theorem src_bytes {P : Program} {tx : TypeId} (W : World) (hk : P.underlying tx = some .string) (s : ByteArray) : Src P 1 tx (.string s) (bytesOf s).length ((bytesOf s).map (Value.int .u8)) W := by
  have h := Src.ofString (P := P) W hk s
  have e : Go.byteCells s = (bytesOf s).map (Value.int .u8) := by simp [Go.byteCells, bytesOf, Function.comp_def]
  rw [e, ← bytesOf_length] at h
  exact h
theorem src_own {P : Program} {tx e : TypeId} {base : Nat} {v : Value} {xs : List Int} {W : World} (hk : P.underlying tx = some (.slice e)) (h : OwnM base v xs W) : Src P 1 tx v xs.length (xs.map (Value.int .u8)) W := by
  rcases h with ⟨rfl, rfl⟩ | ⟨g, cap, rfl, h3, h4, h5, h6, h7, h8⟩
  · exact Src.ofNil W hk 0
  · refine Src.ofSlice W hk _ _ _ _ (by simp) (fun j u hu => ?_) (fun u hu => ?_)
    · have hj : j < xs.length := by have := (List.getElem?_eq_some_iff.1 hu).1; simpa using this
      rw [encs_u8_get xs j hj] at hu
      cases hu
      rw [add_plain]
      exact h7 j hj
    · obtain ⟨z, _, rfl⟩ := List.mem_map.1 hu
      rfl
theorem src_one {P : Program} {tx e : TypeId} (W : World) (hk : P.underlying tx = some (.slice e)) (x : Int) (t : TypeId) : Src P 1 tx (.slice (some ⟨W.heap.size, 0, none⟩) 1 1) [x].length ([x].map (Value.int .u8)) (W.alloc (.cells #[.int .u8 x] t)) := by
  refine Src.ofSlice _ hk _ _ _ _ (by simp) (fun j u hu => ?_) (fun u hu => ?_)
  · have hj : j < 1 := by have := (List.getElem?_eq_some_iff.1 hu).1; simpa using this
    obtain rfl : j = 0 := by omega
    simp at hu
    subst hu
    rw [add_plain]
    exact (blk_cell (heap_alloc_new W _) 0).trans rfl
  · simp at hu; subst hu; rfl
end Go.Proofs.YtlekfhnlhdmekaaGreatDoor.T

/- The reference's pads and fit: what they make of a slice of bytes that the call itself made, and of a string. -/
namespace Go.Proofs.YtlekfhnlhdmekaaGreatDoor.T
set_option linter.unusedSimpArgs false
set_option linter.unusedVariables false
open Go.RowKit Go.Proofs.YtlekfhnlhdmekaaGreatDoorW.PrintWords Go.Proofs.YtlekfhnlhdmekaaGreatDoorW.PrintLast Go.Proofs.YtlekfhnlhdmekaaGreatDoorW.PrintMore
attribute [local go_sem] max2_int min2_int max_two min_two max_three min_three max_four min_four

theorem rep_snoc (xs : List Int) (k : Nat) (p : Int) : xs ++ List.replicate k p ++ [p] = xs ++ List.replicate (k + 1) p := by
  rw [List.append_assoc, List.replicate_succ']
set_option maxRecDepth 100000 in
set_option maxHeartbeats 1000000 in
theorem padsM (w0 w : World) (v : Value) (xs : List Int) (n p : Int) (hB : Below w0.heap.size w0 w) (ho : OwnM w0.heap.size v xs w) (hl : xs.length ≤ 100000) (hn : n ≤ 100000) :
    Calls Tryz.prog 130 #[v, .int .i64 n, .int .u8 p] w fun e w' => ∃ v' : Value, e = .returned v' ∧ OwnM w0.heap.size v' (xs ++ List.replicate n.toNat p) w' ∧ Below w0.heap.size w0 w' := by
  have HB := Aside0.mk hB
  have HO := Aside0.mk ho
  have HS0 := Aside0.mk hB.size
  clear hB ho
  go_enter Tryz.func130, Tryz.ntmps130
  go_wp2
  go_loopg [0, 7] n.toNat (fun gg s0 s7 wr => ∃ kk : Nat, n.toNat - kk ≤ gg ∧ kk ≤ n.toNat ∧ s7 = .int .i64 kk ∧ Aside0 (OwnM w0.heap.size s0 (xs ++ List.replicate kk p) wr) ∧ Aside0 (Below w0.heap.size w0 wr))
  case atStart => exact ⟨0, by omega, by omega, rfl, ⟨by simpa using HO.out⟩, HB⟩
  case round =>
    clear HB HO
    obtain ⟨kk, hg, hk, rfl, HO, HB⟩ := hrel
    by_cases hlt : (kk : Int) < n
    · have d1 : decide ((kk : Int) < n) = true := decide_eq_true hlt
      have hkk : (kk : Int) ≤ 100000 := by omega
      have hlen : (xs ++ List.replicate kk p).length ≤ 200000 := by rw [List.length_append, List.length_replicate]; omega
      have HLEN := Aside0.mk hlen
      clear hlen
      have HSNOC := Aside0.mk (rep_snoc xs kk p)
      generalize xs ++ List.replicate kk p = ys at HO HLEN HSNOC
      go_wp2_with (at_builtin; refine wpList_append_M (w0 := w0) rfl (.tmp 13) (.tmp 15) 83 83 5 rfl Tryz.underlying83 info5 w0.heap.size _ ys rfl (HO.out.alloc _) _ rfl [p] (src_one wr Tryz.underlying83 p 5) (by have := HLEN.out; simp; omega) (by have := HB.out.size; simp; omega) (below_alloc HB.out _) ?_; intro v1 w1 ho1 hb1; have HO1 := Aside0.mk ho1; have HB1 := Aside0.mk hb1; clear ho1 hb1)
      go_roundg (n.toNat - (kk + 1))
      case measure => omega
      case rel => exact ⟨kk + 1, by omega, by omega, by go_num, ⟨by rw [← HSNOC.out]; exact HO1.out⟩, HB1⟩
    · have d1 : decide ((kk : Int) < n) = false := decide_eq_false hlt
      obtain rfl : n.toNat = kk := by omega
      go_wp2
      go_ret
      exact ⟨_, rfl, HO.out, HB.out⟩

/-- A string fitted to a length, of which no more than 1001 bytes are made. -/
def fitL (s : ByteArray) (n p : Int) : List Int := if n ≤ s.size then (bytesOf s).take n.toNat else bytesOf s ++ List.replicate ((if n < 1001 then n else 1001) - s.size).toNat p
theorem fitL_length (s : ByteArray) (n p : Int) : (fitL s n p).length ≤ s.size + 1001 := by
  unfold fitL
  split
  · rw [List.length_take, bytesOf_length]; omega
  · rw [List.length_append, List.length_replicate, bytesOf_length]; split <;> omega
theorem bytesOf_extract (s : ByteArray) (i j : Nat) : bytesOf (s.extract i j) = ((bytesOf s).drop i).take (j - i) := by
  unfold bytesOf
  rw [ByteArray.data_extract, Array.toList_extract, List.extract_eq_take_drop, List.map_take, List.map_drop]
set_option maxRecDepth 100000 in
set_option maxHeartbeats 1000000 in
theorem fitM (s : ByteArray) (n p : Int) (w0 w : World) (hs : s.size ≤ 100000) (hn : 0 ≤ n) (hn2 : n ≤ 9223372036854775807) (hB : Below w0.heap.size w0 w) :
    Calls Tryz.prog 104 #[.string s, .int .i64 n, .int .u8 p] w fun e w' => ∃ v' : Value, e = .returned v' ∧ OwnM w0.heap.size v' (fitL s n p) w' ∧ Below w0.heap.size w0 w' := by
  obtain ⟨m, rfl⟩ := Int.eq_ofNat_of_zero_le hn
  have HB := Aside0.mk hB
  clear hB hn
  by_cases h : (m : Int) ≤ s.size
  · have hm : m ≤ s.size := by omega
    have d1 : decide (m ≤ s.size) = true := decide_eq_true hm
    have HR : Aside0 (fitL s m p = bytesOf (s.extract 0 m)) := ⟨by unfold fitL; rw [if_pos h, bytesOf_extract]; simp⟩
    have hz : (s.extract 0 m).size = m := by rw [ByteArray.size_extract]; omega
    have kb := print_bytes (P := Tryz.prog) 9 83 5 Tryz.underlying9 Tryz.underlying83 Tryz.underlying5 (s.extract 0 m) w
    have HC := Aside0.mk (OwnM.conv (base := w0.heap.size) w (s.extract 0 m) HB.out.size (by rw [hz]; omega))
    have HBC := Aside0.mk (bytes_below HB.out HB.out.size 5 (s.extract 0 m))
    rw [hz] at kb HC
    clear h hz
    go_enter Tryz.func104, Tryz.ntmps104
    go_wp2
    go_ret
    exact ⟨_, rfl, by rw [HR.out]; exact HC.out, HBC.out⟩
  · have hm : ¬ m ≤ s.size := by omega
    have d1 : decide (m ≤ s.size) = false := decide_eq_false hm
    obtain ⟨d, hd⟩ : ∃ d : Int, (if (m : Int) < 1001 then (m : Int) else 1001) - (s.size : Int) = d := ⟨_, rfl⟩
    have hd2 : d ≤ 100000 := by rw [← hd]; split <;> omega
    have HR : Aside0 (fitL s m p = bytesOf s ++ List.replicate d.toNat p) := ⟨by unfold fitL; rw [if_neg h, hd]⟩
    have kb := print_bytes (P := Tryz.prog) 9 83 5 Tryz.underlying9 Tryz.underlying83 Tryz.underlying5 s w
    have HBC := Aside0.mk (bytes_below HB.out HB.out.size 5 s)
    have HP := Lib.hid (padsM w0 (Lib.bytesWorld w 5 s) (.slice (some ⟨w.heap.size, 0, none⟩) s.size (grownCap w s.size 0 5)) (bytesOf s) d p HBC.out (OwnM.conv w s HB.out.size hs) (by rw [bytesOf_length]; exact hs) hd2)
    clear HBC
    by_cases hc : 1001 < m
    · rw [if_neg (by omega)] at hd
      have d2 : decide (1001 < m) = true := decide_eq_true hc
      have hd3 : IntKind.i64.wrap ((1001 : Int) - (s.size : Int)) = d := by rw [i64_w]; unfold wrap64; omega
      clear hd
      go_enter Tryz.func104, Tryz.ntmps104
      go_wp2_with (go_at_call 130; with_reducible refine HP.out.mono ?_; rintro e w1 ⟨v1, rfl, ho1, hb1⟩; have HO1 := Aside0.mk ho1; have HB1 := Aside0.mk hb1; clear ho1 hb1)
      go_ret
      exact ⟨_, rfl, by rw [HR.out]; exact HO1.out, HB1.out⟩
    · have hd' : (m : Int) - (s.size : Int) = d := by rw [← hd]; split <;> omega
      have d2 : decide (1001 < m) = false := decide_eq_false hc
      have hd3 : IntKind.i64.wrap ((m : Int) - (s.size : Int)) = d := by rw [i64_w]; unfold wrap64; omega
      clear hd hd'
      go_enter Tryz.func104, Tryz.ntmps104
      go_wp2_with (go_at_call 130; with_reducible refine HP.out.mono ?_; rintro e w1 ⟨v1, rfl, ho1, hb1⟩; have HO1 := Aside0.mk ho1; have HB1 := Aside0.mk hb1; clear ho1 hb1)
      go_ret
      exact ⟨_, rfl, by rw [HR.out]; exact HO1.out, HB1.out⟩
end Go.Proofs.YtlekfhnlhdmekaaGreatDoor.T

/- The reference's Compare returns what qanatref02_Compare.f says. -/
namespace Go.Proofs.YtlekfhnlhdmekaaGreatDoor.T
set_option linter.unusedSimpArgs false
set_option linter.unusedVariables false
open Go.RowKit Go.Proofs.YtlekfhnlhdmekaaGreatDoorW.PrintWords Go.Proofs.YtlekfhnlhdmekaaGreatDoorW.PrintLast Go.Proofs.YtlekfhnlhdmekaaGreatDoorW.PrintMore
attribute [local go_sem] max2_int min2_int max_two min_two max_three min_three max_four min_four

/-- The position of the first of n places at which two lists differ; 0 if there is none. -/
def cmpL (x y : List Int) (n : Nat) : Int := verI (fun i => x.getD i.toNat 0 != y.getD i.toNat 0) ((List.range n).map fun i : Nat => (i : Int)) 0
theorem rngL_getD (n j : Nat) (hj : j < n) : ((List.range n).map fun i : Nat => (i : Int)).getD j 0 = (j : Int) := by
  simp [List.getD_eq_getElem?_getD, hj]
theorem cmpL_hit (x y : List Int) (n j : Nat) (hj : j < n) (h : (x.getD j 0 != y.getD j 0) = true) (hn : ∀ i, i < j → (x.getD i 0 != y.getD i 0) = false) : cmpL x y n = (j : Int) + 1 :=
  verI_hit _ _ 0 j (Nat.zero_le _) (by simpa using hj) (by rw [rngL_getD n j hj]; simpa using h) (fun i _ hi => by rw [rngL_getD n i (by omega)]; simpa using hn i hi)
theorem cmpL_miss (x y : List Int) (n : Nat) (hn : ∀ i, i < n → (x.getD i 0 != y.getD i 0) = false) : cmpL x y n = 0 :=
  verI_miss _ _ 0 (fun i _ hi => by
    have hi : i < n := by simpa using hi
    rw [rngL_getD n i hi]; simpa using hn i hi)
def qanatref02_Compare.f (a0 a1 : ByteArray) (a2 : Int) : Option (Int × Int) :=
  if a0.size ≤ 2000 ∧ a1.size ≤ 2000 then
    (if vld a0 = true ∧ vld a1 = true ∧ goodI a2 = true then some (cmpL (fitL a0 ((max a0.size a1.size : Nat) : Int) a2) (fitL a1 ((max a0.size a1.size : Nat) : Int) a2) (max a0.size a1.size), 0) else some (0, 1))
  else none
theorem fitL_max (s : ByteArray) (n : Nat) (p : Int) (h : s.size ≤ n) (hn : n ≤ 1000) : (fitL s (n : Int) p).length = n := by
  unfold fitL
  split
  · rw [List.length_take, bytesOf_length]; omega
  · rw [List.length_append, List.length_replicate, bytesOf_length]; split <;> omega
theorem OwnM.at {base : Nat} {A : Option Addr} {c n : Nat} {xs : List Int} {W : World} (h : OwnM base (.slice A n c) xs W) (hn : xs.length = n) (j : Nat) (hj : j < n) : ∃ g, A = some ⟨g, 0, none⟩ ∧ W.cell? ⟨g, j, none⟩ = some (.int .u8 (xs.getD j 0)) := by
  rcases h with ⟨h1, rfl⟩ | ⟨g, cap, h1, _, _, h2, h3, h4, _⟩
  · simp at hn; omega
  · simp at h1
    exact ⟨g, h1.1, h4 j (by omega)⟩
theorem vld_size' {s : ByteArray} (h : vld s = true) : s.size ≤ 1000 := by
  simp [vld] at h; exact h.1

set_option maxRecDepth 100000 in
set_option maxHeartbeats 4000000 in
theorem qanatref02_Compare.calls (a0 a1 : ByteArray) (a2 : Int) (r1 r2 : Int) (w : World) (h : qanatref02_Compare.f a0 a1 a2 = some (r1, r2)) :
    Calls Tryz.prog 35 #[.string a0, .string a1, .int .u8 a2] w fun e w' => e = .returned (.agg #[.int .i64 r1, .int .i64 r2]) ∧ Below w.heap.size w w' := by
  unfold qanatref02_Compare.f at h
  by_cases hb : a0.size ≤ 2000 ∧ a1.size ≤ 2000
  · rw [if_pos hb] at h
    obtain ⟨hz0, hz1⟩ := hb
    have hA := fun W => qanatref02_Valid.calls a0 (vld a0) W rfl
    have hB := fun W => qanatref02_Valid.calls a1 (vld a1) W rfl
    have hP := fun W => qanatref02_Pad.calls a2 (goodI a2) W rfl
    have hV0 := @vld_size' a0
    have hV1 := @vld_size' a1
    have HBK := Aside0.mk (heap_alloc_new w (.cells #[.int .i64 0, .int .i64 0] 49))
    have HBL := Aside0.mk (below_alloc (Below.refl w.heap.size w) (.cells #[.int .i64 0, .int .i64 0] 49))
    generalize vld a0 = b0 at hA h hV0
    generalize vld a1 = b1 at hB h hV1
    generalize goodI a2 = b2 at hP h
    have HA := Lib.hid hA
    have HB0 := Lib.hid hB
    have HP := Lib.hid hP
    clear hA hB hP
    cases b0 with
    | false =>
      obtain ⟨rfl, rfl⟩ : 0 = r1 ∧ 1 = r2 := by simpa using h
      clear h hV0 hV1
      go_enter Tryz.func35, Tryz.ntmps35
      go_wp2_with (first | (go_at_call 89; with_reducible refine (HA.out _).mono ?_; rintro e w1 ⟨rfl, ⟨⟨d1, rfl⟩⟩⟩) | (go_at_call 89; with_reducible refine (HB0.out _).mono ?_; rintro e w2 ⟨rfl, ⟨⟨d2, rfl⟩⟩⟩) | (go_at_call 98; with_reducible refine (HP.out _).mono ?_; rintro e w3 ⟨rfl, ⟨⟨d3, rfl⟩⟩⟩))
      refine bodyPost_ret (results_cell_row rfl _ _ w.heap.size 49 #[.int .i64 0, .int .i64 1] (0, 0) _ rfl (blk_put (cs := #[.int .i64 0, .int .i64 0]) (blk_put (cs := #[.int .i64 0, .int .i64 0]) (by (with_reducible repeat (first | refine blk_drewN ?_ _ | refine blk_drew ?_)); exact HBK.out) 0 _ rfl) 1 _ rfl) Tryz.underlying49 rfl (by kernel_rfl)) rfl ?_
      exact ⟨rfl, below_set (below_set (by repeat (first | exact HBL.out | apply pw_below_drewN)) (Nat.le_refl _)) (Nat.le_refl _)⟩
    | true =>
    cases b1 with
    | false =>
      obtain ⟨rfl, rfl⟩ : 0 = r1 ∧ 1 = r2 := by simpa using h
      clear h hV0 hV1
      go_enter Tryz.func35, Tryz.ntmps35
      go_wp2_with (first | (go_at_call 89; with_reducible refine (HA.out _).mono ?_; rintro e w1 ⟨rfl, ⟨⟨d1, rfl⟩⟩⟩) | (go_at_call 89; with_reducible refine (HB0.out _).mono ?_; rintro e w2 ⟨rfl, ⟨⟨d2, rfl⟩⟩⟩) | (go_at_call 98; with_reducible refine (HP.out _).mono ?_; rintro e w3 ⟨rfl, ⟨⟨d3, rfl⟩⟩⟩))
      refine bodyPost_ret (results_cell_row rfl _ _ w.heap.size 49 #[.int .i64 0, .int .i64 1] (0, 0) _ rfl (blk_put (cs := #[.int .i64 0, .int .i64 0]) (blk_put (cs := #[.int .i64 0, .int .i64 0]) (by (with_reducible repeat (first | refine blk_drewN ?_ _ | refine blk_drew ?_)); exact HBK.out) 0 _ rfl) 1 _ rfl) Tryz.underlying49 rfl (by kernel_rfl)) rfl ?_
      exact ⟨rfl, below_set (below_set (by repeat (first | exact HBL.out | apply pw_below_drewN)) (Nat.le_refl _)) (Nat.le_refl _)⟩
    | true =>
    cases b2 with
    | false =>
      obtain ⟨rfl, rfl⟩ : 0 = r1 ∧ 1 = r2 := by simpa using h
      clear h hV0 hV1
      go_enter Tryz.func35, Tryz.ntmps35
      go_wp2_with (first | (go_at_call 89; with_reducible refine (HA.out _).mono ?_; rintro e w1 ⟨rfl, ⟨⟨d1, rfl⟩⟩⟩) | (go_at_call 89; with_reducible refine (HB0.out _).mono ?_; rintro e w2 ⟨rfl, ⟨⟨d2, rfl⟩⟩⟩) | (go_at_call 98; with_reducible refine (HP.out _).mono ?_; rintro e w3 ⟨rfl, ⟨⟨d3, rfl⟩⟩⟩))
      refine bodyPost_ret (results_cell_row rfl _ _ w.heap.size 49 #[.int .i64 0, .int .i64 1] (0, 0) _ rfl (blk_put (cs := #[.int .i64 0, .int .i64 0]) (blk_put (cs := #[.int .i64 0, .int .i64 0]) (by (with_reducible repeat (first | refine blk_drewN ?_ _ | refine blk_drew ?_)); exact HBK.out) 0 _ rfl) 1 _ rfl) Tryz.underlying49 rfl (by kernel_rfl)) rfl ?_
      exact ⟨rfl, below_set (below_set (by repeat (first | exact HBL.out | apply pw_below_drewN)) (Nat.le_refl _)) (Nat.le_refl _)⟩
    | true =>
      have hs0 := hV0 rfl
      have hs1 := hV1 rfl
      obtain ⟨n, hn⟩ : ∃ n, max a0.size a1.size = n := ⟨_, rfl⟩
      rw [hn] at h
      simp only [and_self, if_true, Option.some.injEq, Prod.mk.injEq] at h
      obtain ⟨hr, rfl⟩ := h
      have HX := Lib.hid (fun (W : World) => fitM a0 (n : Int) a2 W W (by omega) (by omega) (by omega) (Below.refl _ _))
      have HY := Lib.hid (fun (W : World) => fitM a1 (n : Int) a2 W W (by omega) (by omega) (by omega) (Below.refl _ _))
      have HLX := Aside0.mk (fitL_max a0 n a2 (by omega) (by omega))
      have HLY := Aside0.mk (fitL_max a1 n a2 (by omega) (by omega))
      have HR := Aside0.mk hr
      have hn2 : n ≤ 1000 := by omega
      clear hr hV0 hV1 hz0 hz1
      generalize fitL a0 (n : Int) a2 = x at HX HLX HR
      generalize fitL a1 (n : Int) a2 = y at HY HLY HR
      by_cases hlt : a0.size < a1.size
      · have d1 : ((a0.size : Int) < (a1.size : Int)) = True := eq_true (by omega)
        obtain rfl : a1.size = n := by omega
        clear hn
        go_enter Tryz.func35, Tryz.ntmps35
        go_wp2_with (first | (go_at_call 89; with_reducible refine (HA.out _).mono ?_; rintro e w1 ⟨rfl, ⟨⟨d1, rfl⟩⟩⟩) | (go_at_call 89; with_reducible refine (HB0.out _).mono ?_; rintro e w2 ⟨rfl, ⟨⟨d2, rfl⟩⟩⟩) | (go_at_call 98; with_reducible refine (HP.out _).mono ?_; rintro e w3 ⟨rfl, ⟨⟨d3, rfl⟩⟩⟩) | (go_at_call 104; with_reducible refine (HX.out _).mono ?_; rintro e w4 ⟨v4, rfl, ho4, hb4⟩; obtain ⟨A4, c4, rfl, hc4⟩ := ho4.slice; rw [HLX.out] at ho4 ⊢; have HO4 := Aside0.mk ho4; have HB4 := Aside0.mk (show Below w.heap.size w w4 from below_step (by repeat (first | exact HBL.out | apply pw_below_drewN)) hb4); have HK4 := Aside0.mk (show w4.heap[w.heap.size]? = some (.cells #[.int .i64 0, .int .i64 0] 49 (0, 0)) from (hb4.block w.heap.size (by simp)).trans (blk_drewN HBK.out _)); clear ho4 hb4) | (go_at_call 104; with_reducible refine (HY.out _).mono ?_; rintro e w5 ⟨v5, rfl, ho5, hb5⟩; obtain ⟨A5, c5, rfl, hc5⟩ := ho5.slice; rw [HLY.out] at ho5 ⊢; have HO5 := Aside0.mk ho5; have HB5 := Aside0.mk (below_step HB4.out hb5); have HK5 := Aside0.mk (blk_below HK4.out hb5); have HO45 := Aside0.mk (HO4.out.below (Nat.le_refl _) hb5); clear ho5 hb5))
        have hk0 : w5.cell? ⟨w.heap.size, 0, none⟩ = some (.int .i64 0) := (blk_cell HK5.out 0).trans rfl
        have hk1 : w5.cell? ⟨w.heap.size, 1, none⟩ = some (.int .i64 0) := (blk_cell HK5.out 1).trans rfl
        have hf0 := blk_frozen HK5.out 0
        have hf1 := blk_frozen HK5.out 1
        go_loopg [9] a1.size (fun gg s9 wr => ∃ kk q : Nat, kk ≤ a1.size ∧ a1.size - kk ≤ gg ∧ s9 = .int .i64 kk ∧ wr = w5.drewN q ∧ Aside0 (∀ i, i < kk → (x.getD i 0 != y.getD i 0) = false))
        case atStart => exact ⟨0, 0, Nat.zero_le _, by omega, rfl, rfl, ⟨fun j hj => absurd hj (by omega)⟩⟩
        case round =>
          obtain ⟨kk, q, hkk, hg, rfl, rfl, HA'⟩ := hrel
          by_cases hk : kk < a1.size
          · have hkz : (kk : Int) < (a1.size : Int) := by omega
            obtain ⟨g4, rfl, hx⟩ := OwnM.at HO45.out HLX.out kk hk
            obtain ⟨g5, rfl, hy⟩ := OwnM.at HO5.out HLY.out kk hk
            obtain ⟨z1, hz1⟩ : ∃ z, x.getD kk 0 = z := ⟨_, rfl⟩
            obtain ⟨z2, hz2⟩ : ∃ z, y.getD kk 0 = z := ⟨_, rfl⟩
            rw [hz1] at hx
            rw [hz2] at hy
            have HZ1 := Aside0.mk hz1
            have HZ2 := Aside0.mk hz2
            clear hz1 hz2
            by_cases hz : z1 = z2
            · have d9 : (z1 != z2) = false := by rw [hz]; simp
              have HD := Aside0.mk d9
              clear hz
              go_upto_region 8 with fail
              go_quiet (fail)
              go_wp2
              go_roundg (a1.size - (kk + 1))
              case measure => omega
              case rel =>
                refine ⟨kk + 1, _, by omega, by omega, by go_num, rfl, ⟨fun j hj => ?_⟩⟩
                by_cases e : j = kk
                · subst e; rw [HZ1.out, HZ2.out]; exact HD.out
                · exact HA'.out j (by omega)
            · have d9 : (z1 != z2) = true := bne_iff_ne.mpr hz
              have HD := Aside0.mk d9
              clear hz
              go_upto_region 8 with fail
              go_quiet (fail)
              go_wp2
              have HRR : Aside0 (r1 = (kk : Int) + 1) := ⟨by rw [← HR.out, cmpL_hit x y a1.size kk hk (by rw [HZ1.out, HZ2.out]; exact HD.out) HA'.out]⟩
              refine bodyPost_ret (results_cell_row rfl _ _ w.heap.size 49 #[.int .i64 ((kk : Int) + 1), .int .i64 0] (0, 0) _ rfl (blk_put (cs := #[.int .i64 ((kk : Int) + 1), .int .i64 0]) (blk_put (cs := #[.int .i64 0, .int .i64 0]) (by (with_reducible repeat (first | refine blk_drewN ?_ _ | refine blk_drew ?_)); exact HK5.out) 0 _ rfl) 1 _ rfl) Tryz.underlying49 rfl (by kernel_rfl)) rfl ?_
              exact ⟨by rw [HRR.out], below_set (below_set (by repeat (first | exact HB5.out | apply pw_below_drewN)) (Nat.le_refl _)) (Nat.le_refl _)⟩
          · have hkz : ¬ (kk : Int) < (a1.size : Int) := by omega
            go_wp2
            have HRR : Aside0 (r1 = 0) := ⟨by rw [← HR.out, cmpL_miss x y a1.size (fun i hi => HA'.out i (by omega))]⟩
            refine bodyPost_ret (results_cell_row rfl _ _ w.heap.size 49 #[.int .i64 0, .int .i64 0] (0, 0) _ rfl (blk_put (cs := #[.int .i64 0, .int .i64 0]) (blk_put (cs := #[.int .i64 0, .int .i64 0]) (by (with_reducible repeat (first | refine blk_drewN ?_ _ | refine blk_drew ?_)); exact HK5.out) 0 _ rfl) 1 _ rfl) Tryz.underlying49 rfl (by kernel_rfl)) rfl ?_
            exact ⟨by rw [HRR.out], below_set (below_set (by repeat (first | exact HB5.out | apply pw_below_drewN)) (Nat.le_refl _)) (Nat.le_refl _)⟩
      · have d1 : ((a0.size : Int) < (a1.size : Int)) = False := eq_false (by omega)
        obtain rfl : a0.size = n := by omega
        clear hn
        go_enter Tryz.func35, Tryz.ntmps35
        go_wp2_with (first | (go_at_call 89; with_reducible refine (HA.out _).mono ?_; rintro e w1 ⟨rfl, ⟨⟨d1, rfl⟩⟩⟩) | (go_at_call 89; with_reducible refine (HB0.out _).mono ?_; rintro e w2 ⟨rfl, ⟨⟨d2, rfl⟩⟩⟩) | (go_at_call 98; with_reducible refine (HP.out _).mono ?_; rintro e w3 ⟨rfl, ⟨⟨d3, rfl⟩⟩⟩) | (go_at_call 104; with_reducible refine (HX.out _).mono ?_; rintro e w4 ⟨v4, rfl, ho4, hb4⟩; obtain ⟨A4, c4, rfl, hc4⟩ := ho4.slice; rw [HLX.out] at ho4 ⊢; have HO4 := Aside0.mk ho4; have HB4 := Aside0.mk (show Below w.heap.size w w4 from below_step (by repeat (first | exact HBL.out | apply pw_below_drewN)) hb4); have HK4 := Aside0.mk (show w4.heap[w.heap.size]? = some (.cells #[.int .i64 0, .int .i64 0] 49 (0, 0)) from (hb4.block w.heap.size (by simp)).trans (blk_drewN HBK.out _)); clear ho4 hb4) | (go_at_call 104; with_reducible refine (HY.out _).mono ?_; rintro e w5 ⟨v5, rfl, ho5, hb5⟩; obtain ⟨A5, c5, rfl, hc5⟩ := ho5.slice; rw [HLY.out] at ho5 ⊢; have HO5 := Aside0.mk ho5; have HB5 := Aside0.mk (below_step HB4.out hb5); have HK5 := Aside0.mk (blk_below HK4.out hb5); have HO45 := Aside0.mk (HO4.out.below (Nat.le_refl _) hb5); clear ho5 hb5))
        have hk0 : w5.cell? ⟨w.heap.size, 0, none⟩ = some (.int .i64 0) := (blk_cell HK5.out 0).trans rfl
        have hk1 : w5.cell? ⟨w.heap.size, 1, none⟩ = some (.int .i64 0) := (blk_cell HK5.out 1).trans rfl
        have hf0 := blk_frozen HK5.out 0
        have hf1 := blk_frozen HK5.out 1
        go_loopg [9] a0.size (fun gg s9 wr => ∃ kk q : Nat, kk ≤ a0.size ∧ a0.size - kk ≤ gg ∧ s9 = .int .i64 kk ∧ wr = w5.drewN q ∧ Aside0 (∀ i, i < kk → (x.getD i 0 != y.getD i 0) = false))
        case atStart => exact ⟨0, 0, Nat.zero_le _, by omega, rfl, rfl, ⟨fun j hj => absurd hj (by omega)⟩⟩
        case round =>
          obtain ⟨kk, q, hkk, hg, rfl, rfl, HA'⟩ := hrel
          by_cases hk : kk < a0.size
          · have hkz : (kk : Int) < (a0.size : Int) := by omega
            obtain ⟨g4, rfl, hx⟩ := OwnM.at HO45.out HLX.out kk hk
            obtain ⟨g5, rfl, hy⟩ := OwnM.at HO5.out HLY.out kk hk
            obtain ⟨z1, hz1⟩ : ∃ z, x.getD kk 0 = z := ⟨_, rfl⟩
            obtain ⟨z2, hz2⟩ : ∃ z, y.getD kk 0 = z := ⟨_, rfl⟩
            rw [hz1] at hx
            rw [hz2] at hy
            have HZ1 := Aside0.mk hz1
            have HZ2 := Aside0.mk hz2
            clear hz1 hz2
            by_cases hz : z1 = z2
            · have d9 : (z1 != z2) = false := by rw [hz]; simp
              have HD := Aside0.mk d9
              clear hz
              go_upto_region 8 with fail
              go_quiet (fail)
              go_wp2
              go_roundg (a0.size - (kk + 1))
              case measure => omega
              case rel =>
                refine ⟨kk + 1, _, by omega, by omega, by go_num, rfl, ⟨fun j hj => ?_⟩⟩
                by_cases e : j = kk
                · subst e; rw [HZ1.out, HZ2.out]; exact HD.out
                · exact HA'.out j (by omega)
            · have d9 : (z1 != z2) = true := bne_iff_ne.mpr hz
              have HD := Aside0.mk d9
              clear hz
              go_upto_region 8 with fail
              go_quiet (fail)
              go_wp2
              have HRR : Aside0 (r1 = (kk : Int) + 1) := ⟨by rw [← HR.out, cmpL_hit x y a0.size kk hk (by rw [HZ1.out, HZ2.out]; exact HD.out) HA'.out]⟩
              refine bodyPost_ret (results_cell_row rfl _ _ w.heap.size 49 #[.int .i64 ((kk : Int) + 1), .int .i64 0] (0, 0) _ rfl (blk_put (cs := #[.int .i64 ((kk : Int) + 1), .int .i64 0]) (blk_put (cs := #[.int .i64 0, .int .i64 0]) (by (with_reducible repeat (first | refine blk_drewN ?_ _ | refine blk_drew ?_)); exact HK5.out) 0 _ rfl) 1 _ rfl) Tryz.underlying49 rfl (by kernel_rfl)) rfl ?_
              exact ⟨by rw [HRR.out], below_set (below_set (by repeat (first | exact HB5.out | apply pw_below_drewN)) (Nat.le_refl _)) (Nat.le_refl _)⟩
          · have hkz : ¬ (kk : Int) < (a0.size : Int) := by omega
            go_wp2
            have HRR : Aside0 (r1 = 0) := ⟨by rw [← HR.out, cmpL_miss x y a0.size (fun i hi => HA'.out i (by omega))]⟩
            refine bodyPost_ret (results_cell_row rfl _ _ w.heap.size 49 #[.int .i64 0, .int .i64 0] (0, 0) _ rfl (blk_put (cs := #[.int .i64 0, .int .i64 0]) (blk_put (cs := #[.int .i64 0, .int .i64 0]) (by (with_reducible repeat (first | refine blk_drewN ?_ _ | refine blk_drew ?_)); exact HK5.out) 0 _ rfl) 1 _ rfl) Tryz.underlying49 rfl (by kernel_rfl)) rfl ?_
            exact ⟨by rw [HRR.out], below_set (below_set (by repeat (first | exact HB5.out | apply pw_below_drewN)) (Nat.le_refl _)) (Nat.le_refl _)⟩
  · rw [if_neg hb] at h
    cases h
end Go.Proofs.YtlekfhnlhdmekaaGreatDoor.T

-- Written by a program of this session (mp.py over the kit's print.py), out of the translation.
namespace Go.Proofs.YtlekfhnlhdmekaaGreatDoor.T
set_option linter.unusedSimpArgs false
open Go.RowKit Go.Proofs.YtlekfhnlhdmekaaGreatDoorW.PrintWords Go.Proofs.YtlekfhnlhdmekaaGreatDoorW.PrintLast Go.Proofs.YtlekfhnlhdmekaaGreatDoorW.PrintMore
attribute [local go_sem] max2_int min2_int max_two min_two max_three min_three max_four min_four   -- for this text's walks alone
set_option linter.unusedVariables false
set_option linter.unusedSimpArgs false

/-! ### qanatlaw02_TextCompares: function 5 -/
def qanatlaw02_TextCompares.j0 : Nat → ByteArray → ByteArray → Int → Int → Bool → Bool → Bool → Option (Bool)
  | 0, _, _, _, _, _, _, _ => none
  | k + 1, x0, x1, x2, x3, x4, x11, x25 => if x25 = true then (some x11) else ((text_Compare.f x0 x1 x3).bind fun bt289 => ((text_Abbrev.f x0 x1 x2).bind fun bt291 => ((text_Verify.f x0 x1 x4 x2).bind fun bt293 => ((qanatref02_Abbrev.f x0 x1 x2).bind fun bt295 => (if x11 = true then ((qanatref02_Compare.f x0 x1 x3).bind fun bt298 => ((qanatlaw02_num.f bt289.1 bt289.2 bt298.1 bt298.2).bind fun t300 => (if t300 = true then (if (bt291.1 == bt295.1) = true then (if bt291.2 = bt295.2 then ((qanatref02_Verify.f k x0 x1 x4 x2).bind fun bt301 => ((qanatlaw02_num.f bt293.1 bt293.2 bt301.1 bt301.2).bind fun t303 => (some t303))) else (some false)) else (some false)) else (some false)))) else (some false))))))
def qanatlaw02_TextCompares.f (k : Nat) (a0 : ByteArray) (a1 : ByteArray) (a2 : Int) (a3 : Int) (a4 : Bool) : Option (Bool) := (qanatlaw02_head.f k).bind fun t286 => ((qanatlaw02_long.f a0).bind fun t287 => (if t287 = true then (qanatlaw02_TextCompares.j0 k a0 a1 a2 a3 a4 t286 true) else ((qanatlaw02_long.f a1).bind fun t288 => (qanatlaw02_TextCompares.j0 k a0 a1 a2 a3 a4 t286 t288))))
theorem qanatlaw02_TextCompares.mono_l : ∀ k, (∀ y0 y1 y2 y3 y4 y5 y6, LeO (qanatlaw02_TextCompares.j0 k y0 y1 y2 y3 y4 y5 y6) (qanatlaw02_TextCompares.j0 (k + 1) y0 y1 y2 y3 y4 y5 y6))
  | 0 => fun _ _ _ _ _ _ _ r h => by simp [qanatlaw02_TextCompares.j0] at h
  | k + 1 => by
    have ih0 := qanatlaw02_TextCompares.mono_l k
    · intro y0 y1 y2 y3 y4 y5 y6
      unfold qanatlaw02_TextCompares.j0
      repeat' first
      | (with_reducible exact ih0 _ _ _ _ _ _ _)
      | (with_reducible exact qanatlaw02_head.mono _)
      | (with_reducible exact qanatref02_Verify.mono _ _ _ _ _)
      | (with_reducible exact LeO.refl _)
      | (with_reducible exact LeO.none _)
      | (with_reducible refine LeO.ite ?_ ?_)
      | (with_reducible refine LeO.bind ?_ (fun _ => ?_))
      | exact ih0 _ _ _ _ _ _ _
      | exact qanatlaw02_head.mono _
      | exact qanatref02_Verify.mono _ _ _ _ _
      | exact LeO.none _
      | refine LeO.ite ?_ ?_
      | refine LeO.bind ?_ (fun _ => ?_)
theorem qanatlaw02_TextCompares.mono : ∀ a0 a1 a2 a3 a4 k, LeO (qanatlaw02_TextCompares.f k a0 a1 a2 a3 a4) (qanatlaw02_TextCompares.f (k + 1) a0 a1 a2 a3 a4) := by
  intro a0 a1 a2 a3 a4 k
  have ih0 := qanatlaw02_TextCompares.mono_l k
  unfold qanatlaw02_TextCompares.f
  repeat' first
      | (with_reducible exact ih0 _ _ _ _ _ _ _)
      | (with_reducible exact qanatlaw02_head.mono _)
      | (with_reducible exact qanatref02_Verify.mono _ _ _ _ _)
      | (with_reducible exact LeO.refl _)
      | (with_reducible exact LeO.none _)
      | (with_reducible refine LeO.ite ?_ ?_)
      | (with_reducible refine LeO.bind ?_ (fun _ => ?_))
      | exact ih0 _ _ _ _ _ _ _
      | exact qanatlaw02_head.mono _
      | exact qanatref02_Verify.mono _ _ _ _ _
      | exact LeO.none _
      | refine LeO.ite ?_ ?_
      | refine LeO.bind ?_ (fun _ => ?_)
set_option maxHeartbeats 8000000 in
set_option maxRecDepth 100000 in
theorem qanatlaw02_TextCompares.calls (k : Nat) (a0 : ByteArray) (a1 : ByteArray) (a2 : Int) (a3 : Int) (a4 : Bool) (r : Bool) (w : World) (hT : TabOK w) (h : qanatlaw02_TextCompares.f k a0 a1 a2 a3 a4 = some r) :
    Calls Tryz.prog 5 #[.string a0, .string a1, .int .i64 a2, .int .u8 a3, .bool a4] w fun e w' => e = .returned (.bool r) ∧ Below w.heap.size w w' := by
  have hu45 := Tryz.underlying45
  have HB := Aside0.mk (Below.refl w.heap.size w)
  have H : ((qanatlaw02_head.f k).bind fun t286 => ((qanatlaw02_long.f a0).bind fun t287 => (if t287 = true then (qanatlaw02_TextCompares.j0 k a0 a1 a2 a3 a4 t286 true) else ((qanatlaw02_long.f a1).bind fun t288 => (qanatlaw02_TextCompares.j0 k a0 a1 a2 a3 a4 t286 t288))))) = some r := h
  clear h
  replace H := Option.bind_eq_some_iff.mp H
  obtain ⟨t286, A60, H⟩ := H
  replace H : ((qanatlaw02_long.f a0).bind fun t287 => (if t287 = true then (qanatlaw02_TextCompares.j0 k a0 a1 a2 a3 a4 t286 true) else ((qanatlaw02_long.f a1).bind fun t288 => (qanatlaw02_TextCompares.j0 k a0 a1 a2 a3 a4 t286 t288)))) = some r := H
  have A6 := Aside0.mk A60
  clear A60
  have HC7 := Aside0.mk H
  clear H
  go_enter Tryz.func5, Tryz.ntmps5
  go_upto_region 2 with (first | ((with_reducible refine gate_callee (f := 15) rfl ?_); refine goesL_ (some 19) rfl rfl Tryz.func15 (by kernel_rfl) rfl #[] rfl (by (try simp only [List.map_toArray, List.map_cons, List.map_nil]); first | done | rfl | (simp only [List.length_drop, List.length_take]; rfl)) ?_; (with_reducible refine (qanatlaw02_head.calls k  t286 _ (TabOK.of_below hT (by repeat (first | (with_reducible first | exact HB.out | apply below_alloc | apply pw_below_drewN | apply below_drew1) | exact HB.out))) A6.out).mono ?_); rintro e w8 ⟨rfl, hb⟩; refine ⟨_, rfl, ?_⟩; have n0_ := Aside0.mk (below_step (by repeat (first | (with_reducible first | exact HB.out | apply below_alloc | apply pw_below_drewN | apply below_drew1) | exact HB.out)) hb); clear HB; have HB := n0_; clear n0_; (try clear hb); (try clear hb2); (try clear hk); (try clear hi)))
  (try simp only [Act.put, List.setIfInBounds_toArray, List.set_cons_zero, List.set_cons_succ])
  go_cut [25] (fun v25 wc => ∃ (kq : Nat) (x25_6 : Bool), v25 = .bool x25_6 ∧ Aside0 (qanatlaw02_TextCompares.j0 kq a0 a1 a2 a3 a4 t286 x25_6 = some r) ∧ Aside0 (kq ≤ k) ∧ Aside0 (Below w.heap.size w wc))
  case first =>
    have H := HC7.out
    clear HC7
    replace H := Option.bind_eq_some_iff.mp H
    obtain ⟨t287, A90, H⟩ := H
    replace H : (if t287 = true then (qanatlaw02_TextCompares.j0 k a0 a1 a2 a3 a4 t286 true) else ((qanatlaw02_long.f a1).bind fun t288 => (qanatlaw02_TextCompares.j0 k a0 a1 a2 a3 a4 t286 t288))) = some r := H
    have A9 := Aside0.mk A90
    clear A90
    by_cases c10 : t287 = true
    · subst c10
      have H1 : (qanatlaw02_TextCompares.j0 k a0 a1 a2 a3 a4 t286 true) = some r := by rw [if_pos rfl] at H; exact H
      clear H
      have H := H1
      clear H1
      have H' := Aside0.mk H
      clear H
      go_wp2_with (first | ((with_reducible refine gate_callee (f := 16) rfl ?_); refine goesL_ (some 21) rfl rfl Tryz.func16 (by kernel_rfl) rfl #[.string a0] rfl (by (try simp only [List.map_toArray, List.map_cons, List.map_nil]); first | done | rfl | (simp only [List.length_drop, List.length_take]; rfl)) ?_; (with_reducible refine (qanatlaw02_long.calls a0 true _ A9.out).mono ?_); rintro e w' ⟨rfl, ⟨nd, rfl⟩⟩; refine ⟨_, rfl, ?_⟩))
      go_meet
      case rel => exact ⟨_, (true), (by first | rfl | (simp; done) | (simp [*]; done)), H', ⟨by first | omega | exact Nat.le_refl _⟩, ⟨by repeat (first | (with_reducible first | exact HB.out | apply below_alloc | apply pw_below_drewN | apply below_drew1) | exact HB.out)⟩⟩
    · replace c10 := Bool.eq_false_iff.mpr c10
      subst c10
      have H1 : ((qanatlaw02_long.f a1).bind fun t288 => (qanatlaw02_TextCompares.j0 k a0 a1 a2 a3 a4 t286 t288)) = some r := by rw [if_neg (show ¬ (false = true) by decide)] at H; exact H
      clear H
      have H := H1
      clear H1
      replace H := Option.bind_eq_some_iff.mp H
      obtain ⟨t288, A110, H⟩ := H
      replace H : (qanatlaw02_TextCompares.j0 k a0 a1 a2 a3 a4 t286 t288) = some r := H
      have A11 := Aside0.mk A110
      clear A110
      have H' := Aside0.mk H
      clear H
      go_wp2_with (first | ((with_reducible refine gate_callee (f := 16) rfl ?_); refine goesL_ (some 21) rfl rfl Tryz.func16 (by kernel_rfl) rfl #[.string a0] rfl (by (try simp only [List.map_toArray, List.map_cons, List.map_nil]); first | done | rfl | (simp only [List.length_drop, List.length_take]; rfl)) ?_; (with_reducible refine (qanatlaw02_long.calls a0 false _ A9.out).mono ?_); rintro e w' ⟨rfl, ⟨nd, rfl⟩⟩; refine ⟨_, rfl, ?_⟩) | (go_at_call 16; (with_reducible refine (qanatlaw02_long.calls a1 t288 _ A11.out).mono ?_); rintro e w' ⟨rfl, ⟨nd, rfl⟩⟩))
      go_meet
      case rel => exact ⟨_, (t288), (by first | rfl | (simp; done) | (simp [*]; done)), H', ⟨by first | omega | exact Nat.le_refl _⟩, ⟨by repeat (first | (with_reducible first | exact HB.out | apply below_alloc | apply pw_below_drewN | apply below_drew1) | exact HB.out)⟩⟩
  case rest =>
    clear HC7
    try clear c1
    try clear p2
    try clear c5
    try clear c10
    obtain ⟨kq, x25_6, rfl, HA, HJ6, HB⟩ := hcut
    cases kq with
    | zero => exact absurd HA.out (by simp [qanatlaw02_TextCompares.j0])
    | succ kj6 =>
      have H := HA.out
      clear HA
      simp only [qanatlaw02_TextCompares.j0] at H
      by_cases c12 : x25_6 = true
      · subst c12
        have H1 : (some t286) = some r := by rw [if_pos rfl] at H; exact H
        clear H
        have H := H1
        clear H1
        obtain rfl := Option.some.inj H
        go_wp2
        go_ret
        exact ⟨by first | rfl | (simp [errW_none, errW_some] <;> rfl) | (simp [*, errW_none, errW_some] <;> rfl), by repeat (first | (with_reducible first | exact HB.out | apply below_alloc | apply pw_below_drewN | apply below_drew1) | exact HB.out)⟩
      · replace c12 := Bool.eq_false_iff.mpr c12
        subst c12
        have H1 : ((text_Compare.f a0 a1 a3).bind fun bt289 => ((text_Abbrev.f a0 a1 a2).bind fun bt291 => ((text_Verify.f a0 a1 a4 a2).bind fun bt293 => ((qanatref02_Abbrev.f a0 a1 a2).bind fun bt295 => (if t286 = true then ((qanatref02_Compare.f a0 a1 a3).bind fun bt298 => ((qanatlaw02_num.f bt289.1 bt289.2 bt298.1 bt298.2).bind fun t300 => (if t300 = true then (if (bt291.1 == bt295.1) = true then (if bt291.2 = bt295.2 then ((qanatref02_Verify.f kj6 a0 a1 a4 a2).bind fun bt301 => ((qanatlaw02_num.f bt293.1 bt293.2 bt301.1 bt301.2).bind fun t303 => (some t303))) else (some false)) else (some false)) else (some false)))) else (some false)))))) = some r := by rw [if_neg (show ¬ (false = true) by decide)] at H; exact H
        clear H
        have H := H1
        clear H1
        replace H := Option.bind_eq_some_iff.mp H
        obtain ⟨⟨t289, t290⟩, A130, H⟩ := H
        replace H : ((text_Abbrev.f a0 a1 a2).bind fun bt291 => ((text_Verify.f a0 a1 a4 a2).bind fun bt293 => ((qanatref02_Abbrev.f a0 a1 a2).bind fun bt295 => (if t286 = true then ((qanatref02_Compare.f a0 a1 a3).bind fun bt298 => ((qanatlaw02_num.f t289 t290 bt298.1 bt298.2).bind fun t300 => (if t300 = true then (if (bt291.1 == bt295.1) = true then (if bt291.2 = bt295.2 then ((qanatref02_Verify.f kj6 a0 a1 a4 a2).bind fun bt301 => ((qanatlaw02_num.f bt293.1 bt293.2 bt301.1 bt301.2).bind fun t303 => (some t303))) else (some false)) else (some false)) else (some false)))) else (some false))))) = some r := H
        have A13 := Aside0.mk A130
        clear A130
        replace H := Option.bind_eq_some_iff.mp H
        obtain ⟨⟨t291, t292⟩, A140, H⟩ := H
        replace H : ((text_Verify.f a0 a1 a4 a2).bind fun bt293 => ((qanatref02_Abbrev.f a0 a1 a2).bind fun bt295 => (if t286 = true then ((qanatref02_Compare.f a0 a1 a3).bind fun bt298 => ((qanatlaw02_num.f t289 t290 bt298.1 bt298.2).bind fun t300 => (if t300 = true then (if (t291 == bt295.1) = true then (if t292 = bt295.2 then ((qanatref02_Verify.f kj6 a0 a1 a4 a2).bind fun bt301 => ((qanatlaw02_num.f bt293.1 bt293.2 bt301.1 bt301.2).bind fun t303 => (some t303))) else (some false)) else (some false)) else (some false)))) else (some false)))) = some r := H
        have A14 := Aside0.mk A140
        clear A140
        replace H := Option.bind_eq_some_iff.mp H
        obtain ⟨⟨t293, t294⟩, A150, H⟩ := H
        replace H : ((qanatref02_Abbrev.f a0 a1 a2).bind fun bt295 => (if t286 = true then ((qanatref02_Compare.f a0 a1 a3).bind fun bt298 => ((qanatlaw02_num.f t289 t290 bt298.1 bt298.2).bind fun t300 => (if t300 = true then (if (t291 == bt295.1) = true then (if t292 = bt295.2 then ((qanatref02_Verify.f kj6 a0 a1 a4 a2).bind fun bt301 => ((qanatlaw02_num.f t293 t294 bt301.1 bt301.2).bind fun t303 => (some t303))) else (some false)) else (some false)) else (some false)))) else (some false))) = some r := H
        have A15 := Aside0.mk A150
        clear A150
        replace H := Option.bind_eq_some_iff.mp H
        obtain ⟨⟨t295, t296⟩, A160, H⟩ := H
        replace H : (if t286 = true then ((qanatref02_Compare.f a0 a1 a3).bind fun bt298 => ((qanatlaw02_num.f t289 t290 bt298.1 bt298.2).bind fun t300 => (if t300 = true then (if (t291 == t295) = true then (if t292 = t296 then ((qanatref02_Verify.f kj6 a0 a1 a4 a2).bind fun bt301 => ((qanatlaw02_num.f t293 t294 bt301.1 bt301.2).bind fun t303 => (some t303))) else (some false)) else (some false)) else (some false)))) else (some false)) = some r := H
        have A16 := Aside0.mk A160
        clear A160
        by_cases c17 : t286 = true
        · subst c17
          have H1 : ((qanatref02_Compare.f a0 a1 a3).bind fun bt298 => ((qanatlaw02_num.f t289 t290 bt298.1 bt298.2).bind fun t300 => (if t300 = true then (if (t291 == t295) = true then (if t292 = t296 then ((qanatref02_Verify.f kj6 a0 a1 a4 a2).bind fun bt301 => ((qanatlaw02_num.f t293 t294 bt301.1 bt301.2).bind fun t303 => (some t303))) else (some false)) else (some false)) else (some false)))) = some r := by rw [if_pos rfl] at H; exact H
          clear H
          have H := H1
          clear H1
          replace H := Option.bind_eq_some_iff.mp H
          obtain ⟨⟨t298, t299⟩, A180, H⟩ := H
          replace H : ((qanatlaw02_num.f t289 t290 t298 t299).bind fun t300 => (if t300 = true then (if (t291 == t295) = true then (if t292 = t296 then ((qanatref02_Verify.f kj6 a0 a1 a4 a2).bind fun bt301 => ((qanatlaw02_num.f t293 t294 bt301.1 bt301.2).bind fun t303 => (some t303))) else (some false)) else (some false)) else (some false))) = some r := H
          have A18 := Aside0.mk A180
          clear A180
          replace H := Option.bind_eq_some_iff.mp H
          obtain ⟨t300, A190, H⟩ := H
          replace H : (if t300 = true then (if (t291 == t295) = true then (if t292 = t296 then ((qanatref02_Verify.f kj6 a0 a1 a4 a2).bind fun bt301 => ((qanatlaw02_num.f t293 t294 bt301.1 bt301.2).bind fun t303 => (some t303))) else (some false)) else (some false)) else (some false)) = some r := H
          have A19 := Aside0.mk A190
          clear A190
          by_cases c20 : t300 = true
          · subst c20
            have H1 : (if (t291 == t295) = true then (if t292 = t296 then ((qanatref02_Verify.f kj6 a0 a1 a4 a2).bind fun bt301 => ((qanatlaw02_num.f t293 t294 bt301.1 bt301.2).bind fun t303 => (some t303))) else (some false)) else (some false)) = some r := by rw [if_pos rfl] at H; exact H
            clear H
            have H := H1
            clear H1
            by_cases c21 : (t291 == t295) = true
            · rw [if_pos c21] at H
              have c21b0 : (t291 == t295) = true := c21
              (try (have c21b1 : decide (t291 = t295) = true := by simpa using c21))
              (try (have c21b2 : (t291 == t295) = true := by simpa using c21))
              clear c21
              by_cases c22 : t292 = t296
              · rw [if_pos c22] at H
                have c22b0 : (t292 == t296) = true := beq_iff_eq.mpr c22
                have c22b1 : (t292 != t296) = false := bne_eq_false_iff_eq.mpr c22
                clear c22
                replace H := Option.bind_eq_some_iff.mp H
                obtain ⟨⟨t301, t302⟩, A230, H⟩ := H
                replace H : ((qanatlaw02_num.f t293 t294 t301 t302).bind fun t303 => (some t303)) = some r := H
                have A23 := Aside0.mk A230
                clear A230
                replace H := Option.bind_eq_some_iff.mp H
                obtain ⟨t303, A240, H⟩ := H
                replace H : (some t303) = some r := H
                have A24 := Aside0.mk A240
                clear A240
                obtain rfl := Option.some.inj H
                go_wp2_with (first | ((with_reducible refine gate_callee (f := 30) rfl ?_); refine goesL_ (some 31) rfl rfl Tryz.func30 (by kernel_rfl) rfl #[.string a0, .string a1, .int .u8 a3] rfl (by (try simp only [List.map_toArray, List.map_cons, List.map_nil]); first | done | rfl | (simp only [List.length_drop, List.length_take]; rfl)) ?_; (with_reducible refine (text_Compare.calls a0 a1 a3 t289 t290 _ A13.out).mono ?_); rintro e w25 ⟨rfl, hb⟩; refine ⟨_, rfl, ?_⟩; have n0_ := Aside0.mk (below_step (by repeat (first | (with_reducible first | exact HB.out | apply below_alloc | apply pw_below_drewN | apply below_drew1) | exact HB.out)) hb); clear HB; have HB := n0_; clear n0_; (try clear hb); (try clear hb2); (try clear hk); (try clear hi)) | ((with_reducible refine gate_callee (f := 31) rfl ?_); refine goesL_ (some 38) rfl rfl Tryz.func31 (by kernel_rfl) rfl #[.string a0, .string a1, .int .i64 a2] rfl (by (try simp only [List.map_toArray, List.map_cons, List.map_nil]); first | done | rfl | (simp only [List.length_drop, List.length_take]; rfl)) ?_; (with_reducible refine (text_Abbrev.calls a0 a1 a2 t291 t292 _ A14.out).mono ?_); rintro e w26 ⟨rfl, hb⟩; refine ⟨_, rfl, ?_⟩; have n0_ := Aside0.mk (below_step (by repeat (first | (with_reducible first | exact HB.out | apply below_alloc | apply pw_below_drewN | apply below_drew1) | exact HB.out)) hb); clear HB; have HB := n0_; clear n0_; (try clear hb); (try clear hb2); (try clear hk); (try clear hi)) | ((with_reducible refine gate_callee (f := 32) rfl ?_); refine goesL_ (some 46) rfl rfl Tryz.func32 (by kernel_rfl) rfl #[.string a0, .string a1, .bool a4, .int .i64 a2] rfl (by (try simp only [List.map_toArray, List.map_cons, List.map_nil]); first | done | rfl | (simp only [List.length_drop, List.length_take]; rfl)) ?_; (with_reducible refine (text_Verify.calls a0 a1 a4 a2 t293 t294 _ A15.out).mono ?_); rintro e w27 ⟨rfl, hb⟩; refine ⟨_, rfl, ?_⟩; have n0_ := Aside0.mk (below_step (by repeat (first | (with_reducible first | exact HB.out | apply below_alloc | apply pw_below_drewN | apply below_drew1) | exact HB.out)) hb); clear HB; have HB := n0_; clear n0_; (try clear hb); (try clear hb2); (try clear hk); (try clear hi)) | ((with_reducible refine gate_callee (f := 33) rfl ?_); refine goesL_ (some 52) rfl rfl Tryz.func33 (by kernel_rfl) rfl #[.string a0, .string a1, .int .i64 a2] rfl (by (try simp only [List.map_toArray, List.map_cons, List.map_nil]); first | done | rfl | (simp only [List.length_drop, List.length_take]; rfl)) ?_; (with_reducible refine (qanatref02_Abbrev.calls a0 a1 a2 t295 t296 _ A16.out).mono ?_); rintro e w28 ⟨rfl, hb⟩; refine ⟨_, rfl, ?_⟩; have n0_ := Aside0.mk (below_step (by repeat (first | (with_reducible first | exact HB.out | apply below_alloc | apply pw_below_drewN | apply below_drew1) | exact HB.out)) hb); clear HB; have HB := n0_; clear n0_; (try clear hb); (try clear hb2); (try clear hk); (try clear hi)) | ((with_reducible refine gate_dst (N := 18) rfl ?_); refine box_event ?hg (N := 18) ?hd (cs := #[.bool false, .int .i64 0]) (t := 45) ?hr ?_; (case hd => rfl); (case hg => rfl); (case hr => first | (go_simp; done) | (go_simp; rfl)); intro gb297 hg w29 hbox hb; have n0_ := Aside0.mk (below_step (by repeat (first | (with_reducible first | exact HB.out | apply below_alloc | apply pw_below_drewN | apply below_drew1) | exact HB.out)) hb); have n1_ := Aside0.mk (hbox); have n2_ := Aside0.mk ((by rw [hg]; exact (below_size (by repeat (first | (with_reducible first | exact HB.out | apply below_alloc | apply pw_below_drewN | apply below_drew1) | exact HB.out))) : w.heap.size ≤ gb297)); have n3_ := Aside0.mk ((by rw [hg]; exact (below_size (by repeat (first | (with_reducible first | exact HB.out | apply below_alloc | apply pw_below_drewN | apply below_drew1) | exact HB.out))) : w.heap.size ≤ gb297)); clear HB; have HB := n0_; have BK297 := n1_; have GW297 := n2_; have GE297 := n3_; clear n0_ n1_ n2_ n3_; clear hb hbox hg; have hcz30_0 : w29.cell? ⟨gb297, 0, none⟩ = some (.bool false) := (blk_cell BK297.out 0).trans rfl; have hcz30_1 : w29.cell? ⟨gb297, 1, none⟩ = some (.int .i64 0) := (blk_cell BK297.out 1).trans rfl; have hfz30_0 := blk_frozen BK297.out 0; have hfz30_1 := blk_frozen BK297.out 1) | (go_at_call 35; (with_reducible refine (qanatref02_Compare.calls a0 a1 a3 t298 t299 _ A18.out).mono ?_); rintro e w31 ⟨rfl, hb⟩; have n0_ := Aside0.mk (blk_below (g := gb297) (o := .cells #[.bool t295, .int .i64 t296] 45 (0, 0)) (by (with_reducible repeat (first | refine blk_drewN ?_ _ | refine blk_drew ?_ | refine blk_alloc ?_ _)); refine blk_put (cs := #[.bool t295, .int .i64 0]) ?_ 1 _ rfl; (with_reducible repeat (first | refine blk_drewN ?_ _ | refine blk_drew ?_ | refine blk_alloc ?_ _)); refine blk_put (cs := #[.bool false, .int .i64 0]) ?_ 0 _ rfl; (with_reducible repeat (first | refine blk_drewN ?_ _ | refine blk_drew ?_ | refine blk_alloc ?_ _)); exact BK297.out) hb); have n1_ := Aside0.mk (below_step (by repeat (first | (with_reducible first | exact HB.out | apply below_alloc | apply pw_below_drewN | apply below_drew1 | refine below_set ?_ GE297.out) | exact HB.out)) hb); clear BK297; clear HB; have BK297 := n0_; have HB := n1_; clear n0_ n1_; (try clear hb); (try clear hb2); (try clear hk); (try clear hi)) | (go_at_call 34; (with_reducible refine (qanatlaw02_num.calls t289 t290 t298 t299 true _ A19.out).mono ?_); rintro e w32 ⟨rfl, hb⟩; have n0_ := Aside0.mk (blk_below (g := gb297) (o := .cells #[.bool t295, .int .i64 t296] 45 (0, 0)) (by (with_reducible repeat (first | refine blk_drewN ?_ _ | refine blk_drew ?_ | refine blk_alloc ?_ _)); exact BK297.out) hb); have n1_ := Aside0.mk (below_step (by repeat (first | (with_reducible first | exact HB.out | apply below_alloc | apply pw_below_drewN | apply below_drew1 | refine below_set ?_ GE297.out) | exact HB.out)) hb); clear BK297; clear HB; have BK297 := n0_; have HB := n1_; clear n0_ n1_; (try clear hb); (try clear hb2); (try clear hk); (try clear hi); have hcz33_0 : w32.cell? ⟨gb297, 0, none⟩ = some (.bool t295) := (blk_cell BK297.out 0).trans rfl; have hcz33_1 : w32.cell? ⟨gb297, 1, none⟩ = some (.int .i64 t296) := (blk_cell BK297.out 1).trans rfl; have hfz33_0 := blk_frozen BK297.out 0; have hfz33_1 := blk_frozen BK297.out 1) | (go_at_call 36; (with_reducible refine (qanatref02_Verify.calls kj6 a0 a1 a4 a2 t301 t302 _ A23.out).mono ?_); rintro e w34 ⟨rfl, hb⟩; have n0_ := Aside0.mk (blk_below (g := gb297) (o := .cells #[.bool t295, .int .i64 t296] 45 (0, 0)) (by (with_reducible repeat (first | refine blk_drewN ?_ _ | refine blk_drew ?_ | refine blk_alloc ?_ _)); exact BK297.out) hb); have n1_ := Aside0.mk (below_step (by repeat (first | (with_reducible first | exact HB.out | apply below_alloc | apply pw_below_drewN | apply below_drew1 | refine below_set ?_ GE297.out) | exact HB.out)) hb); clear BK297; clear HB; have BK297 := n0_; have HB := n1_; clear n0_ n1_; (try clear hb); (try clear hb2); (try clear hk); (try clear hi)) | (go_at_call 34; (with_reducible refine (qanatlaw02_num.calls t293 t294 t301 t302 t303 _ A24.out).mono ?_); rintro e w35 ⟨rfl, hb⟩; have n0_ := Aside0.mk (blk_below (g := gb297) (o := .cells #[.bool t295, .int .i64 t296] 45 (0, 0)) (by (with_reducible repeat (first | refine blk_drewN ?_ _ | refine blk_drew ?_ | refine blk_alloc ?_ _)); exact BK297.out) hb); have n1_ := Aside0.mk (below_step (by repeat (first | (with_reducible first | exact HB.out | apply below_alloc | apply pw_below_drewN | apply below_drew1 | refine below_set ?_ GE297.out) | exact HB.out)) hb); clear BK297; clear HB; have BK297 := n0_; have HB := n1_; clear n0_ n1_; (try clear hb); (try clear hb2); (try clear hk); (try clear hi)))
                go_ret
                exact ⟨by first | rfl | (simp [errW_none, errW_some] <;> rfl) | (simp [*, errW_none, errW_some] <;> rfl), by repeat (first | (with_reducible first | exact HB.out | apply below_alloc | apply pw_below_drewN | apply below_drew1 | refine below_set ?_ GE297.out) | exact HB.out)⟩
              · rw [if_neg c22] at H
                have c22b0 : (t292 == t296) = false := beq_eq_false_iff_ne.mpr c22
                have c22b1 : (t292 != t296) = true := bne_iff_ne.mpr c22
                obtain rfl := Option.some.inj H
                go_wp2_with (first | ((with_reducible refine gate_callee (f := 30) rfl ?_); refine goesL_ (some 31) rfl rfl Tryz.func30 (by kernel_rfl) rfl #[.string a0, .string a1, .int .u8 a3] rfl (by (try simp only [List.map_toArray, List.map_cons, List.map_nil]); first | done | rfl | (simp only [List.length_drop, List.length_take]; rfl)) ?_; (with_reducible refine (text_Compare.calls a0 a1 a3 t289 t290 _ A13.out).mono ?_); rintro e w36 ⟨rfl, hb⟩; refine ⟨_, rfl, ?_⟩; have n0_ := Aside0.mk (below_step (by repeat (first | (with_reducible first | exact HB.out | apply below_alloc | apply pw_below_drewN | apply below_drew1) | exact HB.out)) hb); clear HB; have HB := n0_; clear n0_; (try clear hb); (try clear hb2); (try clear hk); (try clear hi)) | ((with_reducible refine gate_callee (f := 31) rfl ?_); refine goesL_ (some 38) rfl rfl Tryz.func31 (by kernel_rfl) rfl #[.string a0, .string a1, .int .i64 a2] rfl (by (try simp only [List.map_toArray, List.map_cons, List.map_nil]); first | done | rfl | (simp only [List.length_drop, List.length_take]; rfl)) ?_; (with_reducible refine (text_Abbrev.calls a0 a1 a2 t291 t292 _ A14.out).mono ?_); rintro e w37 ⟨rfl, hb⟩; refine ⟨_, rfl, ?_⟩; have n0_ := Aside0.mk (below_step (by repeat (first | (with_reducible first | exact HB.out | apply below_alloc | apply pw_below_drewN | apply below_drew1) | exact HB.out)) hb); clear HB; have HB := n0_; clear n0_; (try clear hb); (try clear hb2); (try clear hk); (try clear hi)) | ((with_reducible refine gate_callee (f := 32) rfl ?_); refine goesL_ (some 46) rfl rfl Tryz.func32 (by kernel_rfl) rfl #[.string a0, .string a1, .bool a4, .int .i64 a2] rfl (by (try simp only [List.map_toArray, List.map_cons, List.map_nil]); first | done | rfl | (simp only [List.length_drop, List.length_take]; rfl)) ?_; (with_reducible refine (text_Verify.calls a0 a1 a4 a2 t293 t294 _ A15.out).mono ?_); rintro e w38 ⟨rfl, hb⟩; refine ⟨_, rfl, ?_⟩; have n0_ := Aside0.mk (below_step (by repeat (first | (with_reducible first | exact HB.out | apply below_alloc | apply pw_below_drewN | apply below_drew1) | exact HB.out)) hb); clear HB; have HB := n0_; clear n0_; (try clear hb); (try clear hb2); (try clear hk); (try clear hi)) | ((with_reducible refine gate_callee (f := 33) rfl ?_); refine goesL_ (some 52) rfl rfl Tryz.func33 (by kernel_rfl) rfl #[.string a0, .string a1, .int .i64 a2] rfl (by (try simp only [List.map_toArray, List.map_cons, List.map_nil]); first | done | rfl | (simp only [List.length_drop, List.length_take]; rfl)) ?_; (with_reducible refine (qanatref02_Abbrev.calls a0 a1 a2 t295 t296 _ A16.out).mono ?_); rintro e w39 ⟨rfl, hb⟩; refine ⟨_, rfl, ?_⟩; have n0_ := Aside0.mk (below_step (by repeat (first | (with_reducible first | exact HB.out | apply below_alloc | apply pw_below_drewN | apply below_drew1) | exact HB.out)) hb); clear HB; have HB := n0_; clear n0_; (try clear hb); (try clear hb2); (try clear hk); (try clear hi)) | ((with_reducible refine gate_dst (N := 18) rfl ?_); refine box_event ?hg (N := 18) ?hd (cs := #[.bool false, .int .i64 0]) (t := 45) ?hr ?_; (case hd => rfl); (case hg => rfl); (case hr => first | (go_simp; done) | (go_simp; rfl)); intro gb297 hg w40 hbox hb; have n0_ := Aside0.mk (below_step (by repeat (first | (with_reducible first | exact HB.out | apply below_alloc | apply pw_below_drewN | apply below_drew1) | exact HB.out)) hb); have n1_ := Aside0.mk (hbox); have n2_ := Aside0.mk ((by rw [hg]; exact (below_size (by repeat (first | (with_reducible first | exact HB.out | apply below_alloc | apply pw_below_drewN | apply below_drew1) | exact HB.out))) : w.heap.size ≤ gb297)); have n3_ := Aside0.mk ((by rw [hg]; exact (below_size (by repeat (first | (with_reducible first | exact HB.out | apply below_alloc | apply pw_below_drewN | apply below_drew1) | exact HB.out))) : w.heap.size ≤ gb297)); clear HB; have HB := n0_; have BK297 := n1_; have GW297 := n2_; have GE297 := n3_; clear n0_ n1_ n2_ n3_; clear hb hbox hg; have hcz41_0 : w40.cell? ⟨gb297, 0, none⟩ = some (.bool false) := (blk_cell BK297.out 0).trans rfl; have hcz41_1 : w40.cell? ⟨gb297, 1, none⟩ = some (.int .i64 0) := (blk_cell BK297.out 1).trans rfl; have hfz41_0 := blk_frozen BK297.out 0; have hfz41_1 := blk_frozen BK297.out 1) | (go_at_call 35; (with_reducible refine (qanatref02_Compare.calls a0 a1 a3 t298 t299 _ A18.out).mono ?_); rintro e w42 ⟨rfl, hb⟩; have n0_ := Aside0.mk (blk_below (g := gb297) (o := .cells #[.bool t295, .int .i64 t296] 45 (0, 0)) (by (with_reducible repeat (first | refine blk_drewN ?_ _ | refine blk_drew ?_ | refine blk_alloc ?_ _)); refine blk_put (cs := #[.bool t295, .int .i64 0]) ?_ 1 _ rfl; (with_reducible repeat (first | refine blk_drewN ?_ _ | refine blk_drew ?_ | refine blk_alloc ?_ _)); refine blk_put (cs := #[.bool false, .int .i64 0]) ?_ 0 _ rfl; (with_reducible repeat (first | refine blk_drewN ?_ _ | refine blk_drew ?_ | refine blk_alloc ?_ _)); exact BK297.out) hb); have n1_ := Aside0.mk (below_step (by repeat (first | (with_reducible first | exact HB.out | apply below_alloc | apply pw_below_drewN | apply below_drew1 | refine below_set ?_ GE297.out) | exact HB.out)) hb); clear BK297; clear HB; have BK297 := n0_; have HB := n1_; clear n0_ n1_; (try clear hb); (try clear hb2); (try clear hk); (try clear hi)) | (go_at_call 34; (with_reducible refine (qanatlaw02_num.calls t289 t290 t298 t299 true _ A19.out).mono ?_); rintro e w43 ⟨rfl, hb⟩; have n0_ := Aside0.mk (blk_below (g := gb297) (o := .cells #[.bool t295, .int .i64 t296] 45 (0, 0)) (by (with_reducible repeat (first | refine blk_drewN ?_ _ | refine blk_drew ?_ | refine blk_alloc ?_ _)); exact BK297.out) hb); have n1_ := Aside0.mk (below_step (by repeat (first | (with_reducible first | exact HB.out | apply below_alloc | apply pw_below_drewN | apply below_drew1 | refine below_set ?_ GE297.out) | exact HB.out)) hb); clear BK297; clear HB; have BK297 := n0_; have HB := n1_; clear n0_ n1_; (try clear hb); (try clear hb2); (try clear hk); (try clear hi); have hcz44_0 : w43.cell? ⟨gb297, 0, none⟩ = some (.bool t295) := (blk_cell BK297.out 0).trans rfl; have hcz44_1 : w43.cell? ⟨gb297, 1, none⟩ = some (.int .i64 t296) := (blk_cell BK297.out 1).trans rfl; have hfz44_0 := blk_frozen BK297.out 0; have hfz44_1 := blk_frozen BK297.out 1))
                go_ret
                exact ⟨by first | rfl | (simp [errW_none, errW_some] <;> rfl) | (simp [*, errW_none, errW_some] <;> rfl), by repeat (first | (with_reducible first | exact HB.out | apply below_alloc | apply pw_below_drewN | apply below_drew1 | refine below_set ?_ GE297.out) | exact HB.out)⟩
            · rw [if_neg c21] at H
              have c21b0 : (t291 == t295) = false := by simpa using c21
              (try (have c21b1 : decide (t291 = t295) = false := by simpa using c21))
              (try (have c21b2 : (t291 == t295) = false := by simpa using c21))
              (try (have c21b3 : ¬ (t291 = t295) := by simpa using c21))
              clear c21
              obtain rfl := Option.some.inj H
              go_wp2_with (first | ((with_reducible refine gate_callee (f := 30) rfl ?_); refine goesL_ (some 31) rfl rfl Tryz.func30 (by kernel_rfl) rfl #[.string a0, .string a1, .int .u8 a3] rfl (by (try simp only [List.map_toArray, List.map_cons, List.map_nil]); first | done | rfl | (simp only [List.length_drop, List.length_take]; rfl)) ?_; (with_reducible refine (text_Compare.calls a0 a1 a3 t289 t290 _ A13.out).mono ?_); rintro e w45 ⟨rfl, hb⟩; refine ⟨_, rfl, ?_⟩; have n0_ := Aside0.mk (below_step (by repeat (first | (with_reducible first | exact HB.out | apply below_alloc | apply pw_below_drewN | apply below_drew1) | exact HB.out)) hb); clear HB; have HB := n0_; clear n0_; (try clear hb); (try clear hb2); (try clear hk); (try clear hi)) | ((with_reducible refine gate_callee (f := 31) rfl ?_); refine goesL_ (some 38) rfl rfl Tryz.func31 (by kernel_rfl) rfl #[.string a0, .string a1, .int .i64 a2] rfl (by (try simp only [List.map_toArray, List.map_cons, List.map_nil]); first | done | rfl | (simp only [List.length_drop, List.length_take]; rfl)) ?_; (with_reducible refine (text_Abbrev.calls a0 a1 a2 t291 t292 _ A14.out).mono ?_); rintro e w46 ⟨rfl, hb⟩; refine ⟨_, rfl, ?_⟩; have n0_ := Aside0.mk (below_step (by repeat (first | (with_reducible first | exact HB.out | apply below_alloc | apply pw_below_drewN | apply below_drew1) | exact HB.out)) hb); clear HB; have HB := n0_; clear n0_; (try clear hb); (try clear hb2); (try clear hk); (try clear hi)) | ((with_reducible refine gate_callee (f := 32) rfl ?_); refine goesL_ (some 46) rfl rfl Tryz.func32 (by kernel_rfl) rfl #[.string a0, .string a1, .bool a4, .int .i64 a2] rfl (by (try simp only [List.map_toArray, List.map_cons, List.map_nil]); first | done | rfl | (simp only [List.length_drop, List.length_take]; rfl)) ?_; (with_reducible refine (text_Verify.calls a0 a1 a4 a2 t293 t294 _ A15.out).mono ?_); rintro e w47 ⟨rfl, hb⟩; refine ⟨_, rfl, ?_⟩; have n0_ := Aside0.mk (below_step (by repeat (first | (with_reducible first | exact HB.out | apply below_alloc | apply pw_below_drewN | apply below_drew1) | exact HB.out)) hb); clear HB; have HB := n0_; clear n0_; (try clear hb); (try clear hb2); (try clear hk); (try clear hi)) | ((with_reducible refine gate_callee (f := 33) rfl ?_); refine goesL_ (some 52) rfl rfl Tryz.func33 (by kernel_rfl) rfl #[.string a0, .string a1, .int .i64 a2] rfl (by (try simp only [List.map_toArray, List.map_cons, List.map_nil]); first | done | rfl | (simp only [List.length_drop, List.length_take]; rfl)) ?_; (with_reducible refine (qanatref02_Abbrev.calls a0 a1 a2 t295 t296 _ A16.out).mono ?_); rintro e w48 ⟨rfl, hb⟩; refine ⟨_, rfl, ?_⟩; have n0_ := Aside0.mk (below_step (by repeat (first | (with_reducible first | exact HB.out | apply below_alloc | apply pw_below_drewN | apply below_drew1) | exact HB.out)) hb); clear HB; have HB := n0_; clear n0_; (try clear hb); (try clear hb2); (try clear hk); (try clear hi)) | ((with_reducible refine gate_dst (N := 18) rfl ?_); refine box_event ?hg (N := 18) ?hd (cs := #[.bool false, .int .i64 0]) (t := 45) ?hr ?_; (case hd => rfl); (case hg => rfl); (case hr => first | (go_simp; done) | (go_simp; rfl)); intro gb297 hg w49 hbox hb; have n0_ := Aside0.mk (below_step (by repeat (first | (with_reducible first | exact HB.out | apply below_alloc | apply pw_below_drewN | apply below_drew1) | exact HB.out)) hb); have n1_ := Aside0.mk (hbox); have n2_ := Aside0.mk ((by rw [hg]; exact (below_size (by repeat (first | (with_reducible first | exact HB.out | apply below_alloc | apply pw_below_drewN | apply below_drew1) | exact HB.out))) : w.heap.size ≤ gb297)); have n3_ := Aside0.mk ((by rw [hg]; exact (below_size (by repeat (first | (with_reducible first | exact HB.out | apply below_alloc | apply pw_below_drewN | apply below_drew1) | exact HB.out))) : w.heap.size ≤ gb297)); clear HB; have HB := n0_; have BK297 := n1_; have GW297 := n2_; have GE297 := n3_; clear n0_ n1_ n2_ n3_; clear hb hbox hg; have hcz50_0 : w49.cell? ⟨gb297, 0, none⟩ = some (.bool false) := (blk_cell BK297.out 0).trans rfl; have hcz50_1 : w49.cell? ⟨gb297, 1, none⟩ = some (.int .i64 0) := (blk_cell BK297.out 1).trans rfl; have hfz50_0 := blk_frozen BK297.out 0; have hfz50_1 := blk_frozen BK297.out 1) | (go_at_call 35; (with_reducible refine (qanatref02_Compare.calls a0 a1 a3 t298 t299 _ A18.out).mono ?_); rintro e w51 ⟨rfl, hb⟩; have n0_ := Aside0.mk (blk_below (g := gb297) (o := .cells #[.bool t295, .int .i64 t296] 45 (0, 0)) (by (with_reducible repeat (first | refine blk_drewN ?_ _ | refine blk_drew ?_ | refine blk_alloc ?_ _)); refine blk_put (cs := #[.bool t295, .int .i64 0]) ?_ 1 _ rfl; (with_reducible repeat (first | refine blk_drewN ?_ _ | refine blk_drew ?_ | refine blk_alloc ?_ _)); refine blk_put (cs := #[.bool false, .int .i64 0]) ?_ 0 _ rfl; (with_reducible repeat (first | refine blk_drewN ?_ _ | refine blk_drew ?_ | refine blk_alloc ?_ _)); exact BK297.out) hb); have n1_ := Aside0.mk (below_step (by repeat (first | (with_reducible first | exact HB.out | apply below_alloc | apply pw_below_drewN | apply below_drew1 | refine below_set ?_ GE297.out) | exact HB.out)) hb); clear BK297; clear HB; have BK297 := n0_; have HB := n1_; clear n0_ n1_; (try clear hb); (try clear hb2); (try clear hk); (try clear hi)) | (go_at_call 34; (with_reducible refine (qanatlaw02_num.calls t289 t290 t298 t299 true _ A19.out).mono ?_); rintro e w52 ⟨rfl, hb⟩; have n0_ := Aside0.mk (blk_below (g := gb297) (o := .cells #[.bool t295, .int .i64 t296] 45 (0, 0)) (by (with_reducible repeat (first | refine blk_drewN ?_ _ | refine blk_drew ?_ | refine blk_alloc ?_ _)); exact BK297.out) hb); have n1_ := Aside0.mk (below_step (by repeat (first | (with_reducible first | exact HB.out | apply below_alloc | apply pw_below_drewN | apply below_drew1 | refine below_set ?_ GE297.out) | exact HB.out)) hb); clear BK297; clear HB; have BK297 := n0_; have HB := n1_; clear n0_ n1_; (try clear hb); (try clear hb2); (try clear hk); (try clear hi); have hcz53_0 : w52.cell? ⟨gb297, 0, none⟩ = some (.bool t295) := (blk_cell BK297.out 0).trans rfl; have hcz53_1 : w52.cell? ⟨gb297, 1, none⟩ = some (.int .i64 t296) := (blk_cell BK297.out 1).trans rfl; have hfz53_0 := blk_frozen BK297.out 0; have hfz53_1 := blk_frozen BK297.out 1))
              go_ret
              exact ⟨by first | rfl | (simp [errW_none, errW_some] <;> rfl) | (simp [*, errW_none, errW_some] <;> rfl), by repeat (first | (with_reducible first | exact HB.out | apply below_alloc | apply pw_below_drewN | apply below_drew1 | refine below_set ?_ GE297.out) | exact HB.out)⟩
          · replace c20 := Bool.eq_false_iff.mpr c20
            subst c20
            have H1 : (some false) = some r := by rw [if_neg (show ¬ (false = true) by decide)] at H; exact H
            clear H
            have H := H1
            clear H1
            obtain rfl := Option.some.inj H
            go_wp2_with (first | ((with_reducible refine gate_callee (f := 30) rfl ?_); refine goesL_ (some 31) rfl rfl Tryz.func30 (by kernel_rfl) rfl #[.string a0, .string a1, .int .u8 a3] rfl (by (try simp only [List.map_toArray, List.map_cons, List.map_nil]); first | done | rfl | (simp only [List.length_drop, List.length_take]; rfl)) ?_; (with_reducible refine (text_Compare.calls a0 a1 a3 t289 t290 _ A13.out).mono ?_); rintro e w54 ⟨rfl, hb⟩; refine ⟨_, rfl, ?_⟩; have n0_ := Aside0.mk (below_step (by repeat (first | (with_reducible first | exact HB.out | apply below_alloc | apply pw_below_drewN | apply below_drew1) | exact HB.out)) hb); clear HB; have HB := n0_; clear n0_; (try clear hb); (try clear hb2); (try clear hk); (try clear hi)) | ((with_reducible refine gate_callee (f := 31) rfl ?_); refine goesL_ (some 38) rfl rfl Tryz.func31 (by kernel_rfl) rfl #[.string a0, .string a1, .int .i64 a2] rfl (by (try simp only [List.map_toArray, List.map_cons, List.map_nil]); first | done | rfl | (simp only [List.length_drop, List.length_take]; rfl)) ?_; (with_reducible refine (text_Abbrev.calls a0 a1 a2 t291 t292 _ A14.out).mono ?_); rintro e w55 ⟨rfl, hb⟩; refine ⟨_, rfl, ?_⟩; have n0_ := Aside0.mk (below_step (by repeat (first | (with_reducible first | exact HB.out | apply below_alloc | apply pw_below_drewN | apply below_drew1) | exact HB.out)) hb); clear HB; have HB := n0_; clear n0_; (try clear hb); (try clear hb2); (try clear hk); (try clear hi)) | ((with_reducible refine gate_callee (f := 32) rfl ?_); refine goesL_ (some 46) rfl rfl Tryz.func32 (by kernel_rfl) rfl #[.string a0, .string a1, .bool a4, .int .i64 a2] rfl (by (try simp only [List.map_toArray, List.map_cons, List.map_nil]); first | done | rfl | (simp only [List.length_drop, List.length_take]; rfl)) ?_; (with_reducible refine (text_Verify.calls a0 a1 a4 a2 t293 t294 _ A15.out).mono ?_); rintro e w56 ⟨rfl, hb⟩; refine ⟨_, rfl, ?_⟩; have n0_ := Aside0.mk (below_step (by repeat (first | (with_reducible first | exact HB.out | apply below_alloc | apply pw_below_drewN | apply below_drew1) | exact HB.out)) hb); clear HB; have HB := n0_; clear n0_; (try clear hb); (try clear hb2); (try clear hk); (try clear hi)) | ((with_reducible refine gate_callee (f := 33) rfl ?_); refine goesL_ (some 52) rfl rfl Tryz.func33 (by kernel_rfl) rfl #[.string a0, .string a1, .int .i64 a2] rfl (by (try simp only [List.map_toArray, List.map_cons, List.map_nil]); first | done | rfl | (simp only [List.length_drop, List.length_take]; rfl)) ?_; (with_reducible refine (qanatref02_Abbrev.calls a0 a1 a2 t295 t296 _ A16.out).mono ?_); rintro e w57 ⟨rfl, hb⟩; refine ⟨_, rfl, ?_⟩; have n0_ := Aside0.mk (below_step (by repeat (first | (with_reducible first | exact HB.out | apply below_alloc | apply pw_below_drewN | apply below_drew1) | exact HB.out)) hb); clear HB; have HB := n0_; clear n0_; (try clear hb); (try clear hb2); (try clear hk); (try clear hi)) | ((with_reducible refine gate_dst (N := 18) rfl ?_); refine box_event ?hg (N := 18) ?hd (cs := #[.bool false, .int .i64 0]) (t := 45) ?hr ?_; (case hd => rfl); (case hg => rfl); (case hr => first | (go_simp; done) | (go_simp; rfl)); intro gb297 hg w58 hbox hb; have n0_ := Aside0.mk (below_step (by repeat (first | (with_reducible first | exact HB.out | apply below_alloc | apply pw_below_drewN | apply below_drew1) | exact HB.out)) hb); have n1_ := Aside0.mk (hbox); have n2_ := Aside0.mk ((by rw [hg]; exact (below_size (by repeat (first | (with_reducible first | exact HB.out | apply below_alloc | apply pw_below_drewN | apply below_drew1) | exact HB.out))) : w.heap.size ≤ gb297)); have n3_ := Aside0.mk ((by rw [hg]; exact (below_size (by repeat (first | (with_reducible first | exact HB.out | apply below_alloc | apply pw_below_drewN | apply below_drew1) | exact HB.out))) : w.heap.size ≤ gb297)); clear HB; have HB := n0_; have BK297 := n1_; have GW297 := n2_; have GE297 := n3_; clear n0_ n1_ n2_ n3_; clear hb hbox hg; have hcz59_0 : w58.cell? ⟨gb297, 0, none⟩ = some (.bool false) := (blk_cell BK297.out 0).trans rfl; have hcz59_1 : w58.cell? ⟨gb297, 1, none⟩ = some (.int .i64 0) := (blk_cell BK297.out 1).trans rfl; have hfz59_0 := blk_frozen BK297.out 0; have hfz59_1 := blk_frozen BK297.out 1) | (go_at_call 35; (with_reducible refine (qanatref02_Compare.calls a0 a1 a3 t298 t299 _ A18.out).mono ?_); rintro e w60 ⟨rfl, hb⟩; have n0_ := Aside0.mk (blk_below (g := gb297) (o := .cells #[.bool t295, .int .i64 t296] 45 (0, 0)) (by (with_reducible repeat (first | refine blk_drewN ?_ _ | refine blk_drew ?_ | refine blk_alloc ?_ _)); refine blk_put (cs := #[.bool t295, .int .i64 0]) ?_ 1 _ rfl; (with_reducible repeat (first | refine blk_drewN ?_ _ | refine blk_drew ?_ | refine blk_alloc ?_ _)); refine blk_put (cs := #[.bool false, .int .i64 0]) ?_ 0 _ rfl; (with_reducible repeat (first | refine blk_drewN ?_ _ | refine blk_drew ?_ | refine blk_alloc ?_ _)); exact BK297.out) hb); have n1_ := Aside0.mk (below_step (by repeat (first | (with_reducible first | exact HB.out | apply below_alloc | apply pw_below_drewN | apply below_drew1 | refine below_set ?_ GE297.out) | exact HB.out)) hb); clear BK297; clear HB; have BK297 := n0_; have HB := n1_; clear n0_ n1_; (try clear hb); (try clear hb2); (try clear hk); (try clear hi)) | (go_at_call 34; (with_reducible refine (qanatlaw02_num.calls t289 t290 t298 t299 false _ A19.out).mono ?_); rintro e w61 ⟨rfl, hb⟩; have n0_ := Aside0.mk (blk_below (g := gb297) (o := .cells #[.bool t295, .int .i64 t296] 45 (0, 0)) (by (with_reducible repeat (first | refine blk_drewN ?_ _ | refine blk_drew ?_ | refine blk_alloc ?_ _)); exact BK297.out) hb); have n1_ := Aside0.mk (below_step (by repeat (first | (with_reducible first | exact HB.out | apply below_alloc | apply pw_below_drewN | apply below_drew1 | refine below_set ?_ GE297.out) | exact HB.out)) hb); clear BK297; clear HB; have BK297 := n0_; have HB := n1_; clear n0_ n1_; (try clear hb); (try clear hb2); (try clear hk); (try clear hi)))
            go_ret
            exact ⟨by first | rfl | (simp [errW_none, errW_some] <;> rfl) | (simp [*, errW_none, errW_some] <;> rfl), by repeat (first | (with_reducible first | exact HB.out | apply below_alloc | apply pw_below_drewN | apply below_drew1 | refine below_set ?_ GE297.out) | exact HB.out)⟩
        · replace c17 := Bool.eq_false_iff.mpr c17
          subst c17
          have H1 : (some false) = some r := by rw [if_neg (show ¬ (false = true) by decide)] at H; exact H
          clear H
          have H := H1
          clear H1
          obtain rfl := Option.some.inj H
          go_wp2_with (first | ((with_reducible refine gate_callee (f := 30) rfl ?_); refine goesL_ (some 31) rfl rfl Tryz.func30 (by kernel_rfl) rfl #[.string a0, .string a1, .int .u8 a3] rfl (by (try simp only [List.map_toArray, List.map_cons, List.map_nil]); first | done | rfl | (simp only [List.length_drop, List.length_take]; rfl)) ?_; (with_reducible refine (text_Compare.calls a0 a1 a3 t289 t290 _ A13.out).mono ?_); rintro e w62 ⟨rfl, hb⟩; refine ⟨_, rfl, ?_⟩; have n0_ := Aside0.mk (below_step (by repeat (first | (with_reducible first | exact HB.out | apply below_alloc | apply pw_below_drewN | apply below_drew1) | exact HB.out)) hb); clear HB; have HB := n0_; clear n0_; (try clear hb); (try clear hb2); (try clear hk); (try clear hi)) | ((with_reducible refine gate_callee (f := 31) rfl ?_); refine goesL_ (some 38) rfl rfl Tryz.func31 (by kernel_rfl) rfl #[.string a0, .string a1, .int .i64 a2] rfl (by (try simp only [List.map_toArray, List.map_cons, List.map_nil]); first | done | rfl | (simp only [List.length_drop, List.length_take]; rfl)) ?_; (with_reducible refine (text_Abbrev.calls a0 a1 a2 t291 t292 _ A14.out).mono ?_); rintro e w63 ⟨rfl, hb⟩; refine ⟨_, rfl, ?_⟩; have n0_ := Aside0.mk (below_step (by repeat (first | (with_reducible first | exact HB.out | apply below_alloc | apply pw_below_drewN | apply below_drew1) | exact HB.out)) hb); clear HB; have HB := n0_; clear n0_; (try clear hb); (try clear hb2); (try clear hk); (try clear hi)) | ((with_reducible refine gate_callee (f := 32) rfl ?_); refine goesL_ (some 46) rfl rfl Tryz.func32 (by kernel_rfl) rfl #[.string a0, .string a1, .bool a4, .int .i64 a2] rfl (by (try simp only [List.map_toArray, List.map_cons, List.map_nil]); first | done | rfl | (simp only [List.length_drop, List.length_take]; rfl)) ?_; (with_reducible refine (text_Verify.calls a0 a1 a4 a2 t293 t294 _ A15.out).mono ?_); rintro e w64 ⟨rfl, hb⟩; refine ⟨_, rfl, ?_⟩; have n0_ := Aside0.mk (below_step (by repeat (first | (with_reducible first | exact HB.out | apply below_alloc | apply pw_below_drewN | apply below_drew1) | exact HB.out)) hb); clear HB; have HB := n0_; clear n0_; (try clear hb); (try clear hb2); (try clear hk); (try clear hi)) | ((with_reducible refine gate_callee (f := 33) rfl ?_); refine goesL_ (some 52) rfl rfl Tryz.func33 (by kernel_rfl) rfl #[.string a0, .string a1, .int .i64 a2] rfl (by (try simp only [List.map_toArray, List.map_cons, List.map_nil]); first | done | rfl | (simp only [List.length_drop, List.length_take]; rfl)) ?_; (with_reducible refine (qanatref02_Abbrev.calls a0 a1 a2 t295 t296 _ A16.out).mono ?_); rintro e w65 ⟨rfl, hb⟩; refine ⟨_, rfl, ?_⟩; have n0_ := Aside0.mk (below_step (by repeat (first | (with_reducible first | exact HB.out | apply below_alloc | apply pw_below_drewN | apply below_drew1) | exact HB.out)) hb); clear HB; have HB := n0_; clear n0_; (try clear hb); (try clear hb2); (try clear hk); (try clear hi)) | ((with_reducible refine gate_dst (N := 18) rfl ?_); refine box_event ?hg (N := 18) ?hd (cs := #[.bool false, .int .i64 0]) (t := 45) ?hr ?_; (case hd => rfl); (case hg => rfl); (case hr => first | (go_simp; done) | (go_simp; rfl)); intro gb297 hg w66 hbox hb; have n0_ := Aside0.mk (below_step (by repeat (first | (with_reducible first | exact HB.out | apply below_alloc | apply pw_below_drewN | apply below_drew1) | exact HB.out)) hb); have n1_ := Aside0.mk (hbox); have n2_ := Aside0.mk ((by rw [hg]; exact (below_size (by repeat (first | (with_reducible first | exact HB.out | apply below_alloc | apply pw_below_drewN | apply below_drew1) | exact HB.out))) : w.heap.size ≤ gb297)); have n3_ := Aside0.mk ((by rw [hg]; exact (below_size (by repeat (first | (with_reducible first | exact HB.out | apply below_alloc | apply pw_below_drewN | apply below_drew1) | exact HB.out))) : w.heap.size ≤ gb297)); clear HB; have HB := n0_; have BK297 := n1_; have GW297 := n2_; have GE297 := n3_; clear n0_ n1_ n2_ n3_; clear hb hbox hg; have hcz67_0 : w66.cell? ⟨gb297, 0, none⟩ = some (.bool false) := (blk_cell BK297.out 0).trans rfl; have hcz67_1 : w66.cell? ⟨gb297, 1, none⟩ = some (.int .i64 0) := (blk_cell BK297.out 1).trans rfl; have hfz67_0 := blk_frozen BK297.out 0; have hfz67_1 := blk_frozen BK297.out 1))
          go_ret
          exact ⟨by first | rfl | (simp [errW_none, errW_some] <;> rfl) | (simp [*, errW_none, errW_some] <;> rfl), by repeat (first | (with_reducible first | exact HB.out | apply below_alloc | apply pw_below_drewN | apply below_drew1 | refine below_set ?_ GE297.out) | exact HB.out)⟩

/-- THE ONE PURE STATEMENT of qanatlaw02_TextCompares: yours. -/
def qanatlaw02_TextCompares.Pure : Prop := ∀ (a0 : ByteArray) (a1 : ByteArray) (a2 : Int) (a3 : Int) (a4 : Bool), a0.size ≤ 140737488351232 → a1.size ≤ 140737488351232 → (Lit.int .i64 a2).wf = true → (Lit.int .u8 a3).wf = true → ∃ k, qanatlaw02_TextCompares.f k a0 a1 a2 a3 a4 = some true
theorem qanatlaw02_TextCompares.walk (P : qanatlaw02_TextCompares.Pure) (a0 : ByteArray) (a1 : ByteArray) (a2 : Int) (a3 : Int) (a4 : Bool) (w : World) (hT : TabOK w) (w0 : a0.size ≤ 140737488351232) (w1 : a1.size ≤ 140737488351232) (w2 : (Lit.int .i64 a2).wf = true) (w3 : (Lit.int .u8 a3).wf = true) :
    Calls Tryz.prog 5 #[.string a0, .string a1, .int .i64 a2, .int .u8 a3, .bool a4] w fun e w' => e = .returned (.bool true) ∧ Below w.heap.size w w' := by
  obtain ⟨k, h⟩ := P a0 a1 a2 a3 a4 w0 w1 w2 w3
  refine (qanatlaw02_TextCompares.calls k a0 a1 a2 a3 a4 true w hT h).mono ?_
  rintro e w' ⟨rfl, hd⟩
  exact ⟨rfl, hd⟩

end Go.Proofs.YtlekfhnlhdmekaaGreatDoor.T

/- The examples that each law checks first are as they should be. And the reference's out is made. -/
namespace Go.Proofs.YtlekfhnlhdmekaaGreatDoor.T
set_option linter.unusedSimpArgs false
set_option linter.unusedVariables false
open Go.RowKit Go.Proofs.YtlekfhnlhdmekaaGreatDoorW.PrintWords Go.Proofs.YtlekfhnlhdmekaaGreatDoorW.PrintLast Go.Proofs.YtlekfhnlhdmekaaGreatDoorW.PrintMore
theorem head_60 : qanatlaw02_head.f 60 = some true := by kernel_rfl
theorem head_ok : ∀ d, qanatlaw02_head.f (60 + d) = some true
  | 0 => head_60
  | d + 1 => qanatlaw02_head.mono (60 + d) _ (head_ok d)
theorem strOfNums_size (L : List Int) : (strOfNums L).size = L.length := by
  rw [← data_length]
  simp [strOfNums]
theorem bytesOf_str (L : List Int) (h : ∀ x ∈ L, 0 ≤ x ∧ x < 256) : bytesOf (strOfNums L) = L := by
  unfold bytesOf strOfNums
  simp only [List.map_map]
  conv => rhs; rw [← List.map_id L]
  apply List.map_congr_left
  intro x hx
  obtain ⟨h0, h1⟩ := h x hx
  simp only [Function.comp_apply, id_eq, UInt8.toNat_ofNat']
  omega
theorem strOfNums_bytes (s : ByteArray) : strOfNums (bytesOf s) = s := by
  have e : ((bytesOf s).map fun n : Int => UInt8.ofNat n.toNat) = s.data.toList := by
    unfold bytesOf
    rw [List.map_map]
    conv => rhs; rw [← List.map_id s.data.toList]
    apply List.map_congr_left
    intro x hx
    simp
  unfold strOfNums
  rw [e]
theorem made_eq (s : ByteArray) : text_made.f s = some (if s.size > 1000 then (⟨#[]⟩, 3) else if vld s = true then (s, 0) else (⟨#[]⟩, 8)) := by
  unfold text_made.f text_Valid.f
  by_cases h : s.size > 1000
  · rw [if_pos (by omega), if_pos h]
  · rw [if_neg (by omega), if_neg h]
    simp only [Option.bind_some]
    split <;> rfl
theorem made_out (L : List Int) (h : ∀ x ∈ L, 0 ≤ x ∧ x < 256) : text_made.f (strOfNums L) = qanatref02_out.f L := by
  rw [made_eq, qanatref02_out.f, strOfNums_size]
  by_cases hl : L.length > 1000
  · rw [if_pos hl, if_pos hl]
  · rw [if_neg hl, if_neg hl]
    have e : vld (strOfNums L) = L.all goodI := by
      unfold vld
      rw [strOfNums_size, bytesOf_str L h, decide_eq_true (show L.length ≤ 1000 by omega), Bool.true_and]
    rw [e]
theorem u8_rng (z : Int) : 0 ≤ IntKind.u8.wrap z ∧ IntKind.u8.wrap z < 256 := by
  simp only [IntKind.wrap, IntKind.bits, IntKind.signed]
  simp
  omega
end Go.Proofs.YtlekfhnlhdmekaaGreatDoor.T

-- Written by a program of this session (mp.py over the kit's print.py), out of the translation.
namespace Go.Proofs.YtlekfhnlhdmekaaGreatDoor.T
set_option linter.unusedSimpArgs false
open Go.RowKit Go.Proofs.YtlekfhnlhdmekaaGreatDoorW.PrintWords Go.Proofs.YtlekfhnlhdmekaaGreatDoorW.PrintLast Go.Proofs.YtlekfhnlhdmekaaGreatDoorW.PrintMore
attribute [local go_sem] max2_int min2_int max_two min_two max_three min_three max_four min_four   -- for this text's walks alone
set_option linter.unusedVariables false
set_option linter.unusedSimpArgs false

/-! ### qanatlaw02_str: function 20 -/
def qanatlaw02_str.f (a0 : ByteArray) (a1 : Int) (a2_0 : ByteArray) (a2_1 : Int) : Option (Bool) := if a0.toList = a2_0.toList then (some (a1 == a2_1)) else (some false)
set_option maxHeartbeats 8000000 in
set_option maxRecDepth 100000 in
theorem qanatlaw02_str.calls (a0 : ByteArray) (a1 : Int) (a2_0 : ByteArray) (a2_1 : Int) (r : Bool) (w : World) (h : qanatlaw02_str.f a0 a1 a2_0 a2_1 = some r) :
    Calls Tryz.prog 20 #[.string a0, .int .i64 a1, .agg #[.string a2_0, .int .i64 a2_1]] w fun e w' => e = .returned (.bool r) ∧ Below w.heap.size w w' := by
  have hu29 := Tryz.underlying29
  have HB := Aside0.mk (Below.refl w.heap.size w)
  have H : (if a0.toList = a2_0.toList then (some (a1 == a2_1)) else (some false)) = some r := h
  clear h
  by_cases c4 : a0.toList = a2_0.toList
  · rw [if_pos c4] at H
    have c4b0 : (a0.toList == a2_0.toList) = true := beq_iff_eq.mpr c4
    have c4b1 : (a0.toList != a2_0.toList) = false := bne_eq_false_iff_eq.mpr c4
    clear c4
    obtain rfl := Option.some.inj H
    go_enter Tryz.func20, Tryz.ntmps20
    go_wp2_with (first | ((with_reducible refine gate_dst (N := 5) rfl ?_); refine box_event ?hg (N := 5) ?hd (cs := #[.string a2_0, .int .i64 a2_1]) (t := 29) ?hr ?_; (case hd => rfl); (case hg => rfl); (case hr => first | (go_simp; done) | (go_simp; rfl)); intro gb185 hg w5 hbox hb; have n0_ := Aside0.mk (below_step (by repeat (first | (with_reducible first | exact HB.out | apply below_alloc | apply pw_below_drewN | apply below_drew1) | exact HB.out)) hb); have n1_ := Aside0.mk (hbox); have n2_ := Aside0.mk ((by rw [hg]; exact (below_size (by repeat (first | (with_reducible first | exact HB.out | apply below_alloc | apply pw_below_drewN | apply below_drew1) | exact HB.out))) : w.heap.size ≤ gb185)); have n3_ := Aside0.mk ((by rw [hg]; exact (below_size (by repeat (first | (with_reducible first | exact HB.out | apply below_alloc | apply pw_below_drewN | apply below_drew1) | exact HB.out))) : w.heap.size ≤ gb185)); clear HB; have HB := n0_; have BK185 := n1_; have GW185 := n2_; have GE185 := n3_; clear n0_ n1_ n2_ n3_; clear hb hbox hg; have hcz6_0 : w5.cell? ⟨gb185, 0, none⟩ = some (.string a2_0) := (blk_cell BK185.out 0).trans rfl; have hcz6_1 : w5.cell? ⟨gb185, 1, none⟩ = some (.int .i64 a2_1) := (blk_cell BK185.out 1).trans rfl; have hfz6_0 := blk_frozen BK185.out 0; have hfz6_1 := blk_frozen BK185.out 1))
    go_ret
    exact ⟨by first | rfl | (simp [errW_none, errW_some] <;> rfl) | (simp [*, errW_none, errW_some] <;> rfl), by repeat (first | (with_reducible first | exact HB.out | apply below_alloc | apply pw_below_drewN | apply below_drew1 | refine below_set ?_ GE185.out) | exact HB.out)⟩
  · rw [if_neg c4] at H
    have c4b0 : (a0.toList == a2_0.toList) = false := beq_eq_false_iff_ne.mpr c4
    have c4b1 : (a0.toList != a2_0.toList) = true := bne_iff_ne.mpr c4
    obtain rfl := Option.some.inj H
    go_enter Tryz.func20, Tryz.ntmps20
    go_wp2_with (first | ((with_reducible refine gate_dst (N := 5) rfl ?_); refine box_event ?hg (N := 5) ?hd (cs := #[.string a2_0, .int .i64 a2_1]) (t := 29) ?hr ?_; (case hd => rfl); (case hg => rfl); (case hr => first | (go_simp; done) | (go_simp; rfl)); intro gb185 hg w7 hbox hb; have n0_ := Aside0.mk (below_step (by repeat (first | (with_reducible first | exact HB.out | apply below_alloc | apply pw_below_drewN | apply below_drew1) | exact HB.out)) hb); have n1_ := Aside0.mk (hbox); have n2_ := Aside0.mk ((by rw [hg]; exact (below_size (by repeat (first | (with_reducible first | exact HB.out | apply below_alloc | apply pw_below_drewN | apply below_drew1) | exact HB.out))) : w.heap.size ≤ gb185)); have n3_ := Aside0.mk ((by rw [hg]; exact (below_size (by repeat (first | (with_reducible first | exact HB.out | apply below_alloc | apply pw_below_drewN | apply below_drew1) | exact HB.out))) : w.heap.size ≤ gb185)); clear HB; have HB := n0_; have BK185 := n1_; have GW185 := n2_; have GE185 := n3_; clear n0_ n1_ n2_ n3_; clear hb hbox hg; have hcz8_0 : w7.cell? ⟨gb185, 0, none⟩ = some (.string a2_0) := (blk_cell BK185.out 0).trans rfl; have hcz8_1 : w7.cell? ⟨gb185, 1, none⟩ = some (.int .i64 a2_1) := (blk_cell BK185.out 1).trans rfl; have hfz8_0 := blk_frozen BK185.out 0; have hfz8_1 := blk_frozen BK185.out 1))
    go_ret
    exact ⟨by first | rfl | (simp [errW_none, errW_some] <;> rfl) | (simp [*, errW_none, errW_some] <;> rfl), by repeat (first | (with_reducible first | exact HB.out | apply below_alloc | apply pw_below_drewN | apply below_drew1 | refine below_set ?_ GE185.out) | exact HB.out)⟩

end Go.Proofs.YtlekfhnlhdmekaaGreatDoor.T

/- Small laws that the pure laws share. -/
namespace Go.Proofs.YtlekfhnlhdmekaaGreatDoor.T
set_option linter.unusedSimpArgs false
set_option linter.unusedVariables false
open Go.RowKit Go.Proofs.YtlekfhnlhdmekaaGreatDoorW.PrintWords Go.Proofs.YtlekfhnlhdmekaaGreatDoorW.PrintLast Go.Proofs.YtlekfhnlhdmekaaGreatDoorW.PrintMore
namespace B
theorem str_eq (s : ByteArray) (e : Int) : qanatlaw02_str.f s e s e = some true := by
  unfold qanatlaw02_str.f
  rw [if_pos rfl]
  simp
theorem num_eq (n e : Int) : qanatlaw02_num.f n e n e = some true := by
  unfold qanatlaw02_num.f
  rw [if_pos rfl]
  simp
theorem i64 {x : Int} (h : (Lit.int .i64 x).wf = true) : -9223372036854775808 ≤ x ∧ x ≤ 9223372036854775807 := by
  simp [Lit.wf, IntKind.min, IntKind.max, IntKind.bits, IntKind.signed] at h
  omega
theorem size {s : ByteArray} (h : vld s = true) : s.size ≤ 1000 := by
  simp [vld] at h; exact h.1
theorem all {s : ByteArray} (h : vld s = true) : ∀ x ∈ bytesOf s, goodI x = true := by
  simp only [vld, Bool.and_eq_true, List.all_eq_true] at h
  exact h.2
theorem mk {s : ByteArray} (h1 : s.size ≤ 1000) (h2 : ∀ x ∈ bytesOf s, goodI x = true) : vld s = true := by
  simp only [vld, Bool.and_eq_true, List.all_eq_true, decide_eq_true_eq]
  exact ⟨h1, h2⟩
theorem good (x : Int) : goodI x = true ↔ 32 ≤ x ∧ x ≤ 126 := by simp [goodI]
theorem valid1 (s : ByteArray) : text_valid.f [s] = some (if vld s = true then 0 else 1) := by
  unfold text_valid.f
  by_cases h : vld s = true <;> simp [h]
theorem valid2 (s t : ByteArray) : text_valid.f [s, t] = some (if vld s = true ∧ vld t = true then 0 else 1) := by
  unfold text_valid.f
  by_cases h : vld s = true <;> by_cases h' : vld t = true <;> simp [h, h']
theorem valid3 (s t u : ByteArray) : text_valid.f [s, t, u] = some (if vld s = true ∧ vld t = true ∧ vld u = true then 0 else 1) := by
  unfold text_valid.f
  by_cases h : vld s = true <;> by_cases h' : vld t = true <;> by_cases h'' : vld u = true <;> simp [h, h', h'']
theorem pads1 (p : Int) : text_pads.f [p] = some (if goodI p = true then 0 else 1) := by
  unfold text_pads.f
  by_cases h : goodI p = true <;> simp [h]
theorem least1 (n x : Int) : text_least.f n [x] = some (if n ≤ x then 0 else 1) := by
  unfold text_least.f
  by_cases h : n ≤ x <;> simp [h]
theorem first2 (b c : Prop) [Decidable b] [Decidable c] : text_first.f [if b then 0 else 1, if c then 0 else 1] = some (if b ∧ c then 0 else 1) := by
  by_cases h1 : b <;> by_cases h2 : c <;> simp [h1, h2] <;> rfl
theorem first3 (b c d : Prop) [Decidable b] [Decidable c] [Decidable d] : text_first.f [if b then 0 else 1, if c then 0 else 1, if d then 0 else 1] = some (if b ∧ c ∧ d then 0 else 1) := by
  by_cases h1 : b <;> by_cases h2 : c <;> by_cases h3 : d <;> simp [h1, h2, h3] <;> rfl
theorem first4 (b c d e : Prop) [Decidable b] [Decidable c] [Decidable d] [Decidable e] : text_first.f [if b then 0 else 1, if c then 0 else 1, if d then 0 else 1, if e then 0 else 1] = some (if b ∧ c ∧ d ∧ e then 0 else 1) := by
  by_cases h1 : b <;> by_cases h2 : c <;> by_cases h3 : d <;> by_cases h4 : e <;> simp [h1, h2, h3, h4] <;> rfl
theorem whole (n lo : Int) : qanatref02_whole.f n lo false = some (decide (lo ≤ n)) := by
  unfold qanatref02_whole.f
  by_cases h : lo ≤ n
  · rw [if_pos (by omega)]; simp [h]
  · rw [if_neg (by omega)]; simp [h]
theorem wholeM (n : Int) : qanatref02_whole.f n 0 true = some (decide (-1 ≤ n)) := by
  unfold qanatref02_whole.f
  by_cases h : 0 ≤ n
  · rw [if_pos (by omega)]; simp; omega
  · rw [if_neg (by omega), if_pos rfl]
    by_cases e : n = -1
    · subst e; rfl
    · rw [show (n == -1) = false from beq_eq_false_iff_ne.mpr e, show decide (-1 ≤ n) = false from decide_eq_false (by omega)]
theorem toL (s : ByteArray) : s.toList = s.data.toList := Lib.toList_data s
theorem ext {a b : ByteArray} (h : a.data.toList = b.data.toList) : a = b := by
  apply ByteArray.ext
  exact Array.toList_inj.1 h
theorem sz (s : ByteArray) : s.size = s.data.toList.length := (data_length s).symm
theorem extract (s : ByteArray) (i j : Nat) : (s.extract i j).data.toList = (s.data.toList.drop i).take (j - i) := by
  rw [ByteArray.data_extract, Array.toList_extract, List.extract_eq_take_drop]
theorem append (a b : ByteArray) : (a ++ b).data.toList = a.data.toList ++ b.data.toList := by
  rw [ByteArray.data_append, Array.toList_append]
theorem vldA {a b : ByteArray} (ha : ∀ x ∈ bytesOf a, goodI x = true) (hb : ∀ x ∈ bytesOf b, goodI x = true) (h : (a ++ b).size ≤ 1000) : vld (a ++ b) = true := by
  refine mk h (fun x hx => ?_)
  unfold bytesOf at hx
  rw [append, List.map_append] at hx
  exact (List.mem_append.1 hx).elim (ha x) (hb x)
theorem vldE {a : ByteArray} (i j : Nat) (h : vld a = true) : vld (a.extract i j) = true := by
  refine mk ?_ (fun x hx => ?_)
  · have := size h; rw [ByteArray.size_extract]; omega
  · refine all h x ?_
    unfold bytesOf at hx ⊢
    rw [extract] at hx
    obtain ⟨b, hb, rfl⟩ := List.mem_map.1 hx
    exact List.mem_map.2 ⟨b, List.mem_of_mem_drop (List.mem_of_mem_take hb), rfl⟩
theorem made (s : ByteArray) (h : vld s = true) : text_made.f s = some (s, 0) := by
  rw [made_eq, if_neg (by have := size h; omega), if_pos h]
end B
end Go.Proofs.YtlekfhnlhdmekaaGreatDoor.T

/- What text.fit makes of a valid string: its beginning, or the string and pads. -/
namespace Go.Proofs.YtlekfhnlhdmekaaGreatDoor.T
set_option linter.unusedSimpArgs false
set_option linter.unusedVariables false
open Go.RowKit Go.Proofs.YtlekfhnlhdmekaaGreatDoorW.PrintWords Go.Proofs.YtlekfhnlhdmekaaGreatDoorW.PrintLast Go.Proofs.YtlekfhnlhdmekaaGreatDoorW.PrintMore
theorem repeat_one (b : UInt8) : ∀ n, Lib.repeatL [b] n = List.replicate n b
  | 0 => rfl
  | n + 1 => by rw [Lib.repeatL, repeat_one b n]; rfl
theorem many_one (p : Int) (m : Nat) (hm : m ≤ 1000) : text_many.f (strOfNums [p]) (m : Int) = some ⟨(List.replicate m (UInt8.ofNat p.toNat)).toArray⟩ := by
  have hs : (strOfNums [p]).size = 1 := by rw [strOfNums_size]; rfl
  unfold text_many.f
  rw [if_neg (by omega), hs]
  rw [if_neg (by simp; omega)]
  unfold strings_Repeat.f
  have c : 0 ≤ (m : Int) ∧ (strOfNums [p]).size * (m : Int).toNat ≤ 100000 ∧ (m : Int) ≤ 100000 := by rw [hs]; simp; omega
  rw [if_pos c]
  simp only [Int.toNat_natCast]
  rw [show (strOfNums [p]).data.toList = [UInt8.ofNat p.toNat] by simp [strOfNums], repeat_one]
theorem fit_short (s : ByteArray) (n p : Int) (h0 : 0 ≤ n) (h1 : n ≤ s.size) : text_fit.f s n p = some (s.extract 0 n.toNat) := by
  unfold text_fit.f
  rw [if_pos h1, if_pos h0]
theorem fit_long (s : ByteArray) (m : Nat) (p : Int) (hs : s.size ≤ 1000) (h1 : s.size < m) (h2 : m - s.size ≤ 1000) :
    text_fit.f s (m : Int) p = some (s ++ ⟨(List.replicate (m - s.size) (UInt8.ofNat p.toNat)).toArray⟩) := by
  unfold text_fit.f
  rw [if_neg (by omega)]
  have e : wrap64 ((m : Int) - (s.size : Int)) = ((m - s.size : Nat) : Int) := by unfold wrap64; omega
  rw [e, many_one p (m - s.size) h2]
  simp only [Option.bind_some]
  have hz : (⟨(List.replicate (m - s.size) (UInt8.ofNat p.toNat)).toArray⟩ : ByteArray).size = m - s.size := by
    rw [← data_length]; simp
  rw [if_pos (by rw [hz]; omega)]
end Go.Proofs.YtlekfhnlhdmekaaGreatDoor.T

/- The law TextCompares: what the program and the reference compute is the same. -/
namespace Go.Proofs.YtlekfhnlhdmekaaGreatDoor.T
set_option linter.unusedSimpArgs false
set_option linter.unusedVariables false
open Go.RowKit Go.Proofs.YtlekfhnlhdmekaaGreatDoorW.PrintWords Go.Proofs.YtlekfhnlhdmekaaGreatDoorW.PrintLast Go.Proofs.YtlekfhnlhdmekaaGreatDoorW.PrintMore

theorem bytesOf_app (a b : ByteArray) : bytesOf (a ++ b) = bytesOf a ++ bytesOf b := by
  unfold bytesOf; rw [B.append, List.map_append]
theorem fit_eq (s : ByteArray) (n : Nat) (p : Int) (hs : s.size ≤ 1000) (hn : n ≤ 1000) (hp : 0 ≤ p ∧ p < 256) : ∃ x, text_fit.f s (n : Int) p = some x ∧ bytesOf x = fitL s n p := by
  by_cases h : (n : Int) ≤ s.size
  · refine ⟨_, fit_short s n p (by omega) h, ?_⟩
    unfold fitL
    rw [if_pos h, bytesOf_extract]
    simp
  · refine ⟨_, fit_long s n p hs (by omega) (by omega), ?_⟩
    unfold fitL
    rw [if_neg h, bytesOf_app, if_pos (by omega), show ((n : Int) - (s.size : Int)).toNat = n - s.size by omega]
    congr 1
    unfold bytesOf
    simp only [List.map_replicate, UInt8.toNat_ofNat']
    congr 1
    omega
theorem findIdx_congr {p q : Int → Bool} : ∀ (l : List Int), (∀ x ∈ l, p x = q x) → l.findIdx? p = l.findIdx? q
  | [], _ => rfl
  | x :: l, h => by
    rw [List.findIdx?_cons, List.findIdx?_cons, h x List.mem_cons_self, findIdx_congr l (fun y hy => h y (List.mem_cons_of_mem _ hy))]
theorem verI_congr {p q : Int → Bool} (l : List Int) (h : ∀ x ∈ l, p x = q x) : verI p l 0 = verI q l 0 := by
  unfold verI idxI
  rw [List.drop_zero, findIdx_congr l h]
theorem cmp_eq (x y : ByteArray) (a b : List Int) (n : Nat) (ha : bytesOf x = a) (hb : bytesOf y = b) (h1 : x.size = n) (h2 : y.size = n) : cmpI x y n = cmpL a b n := by
  unfold cmpI cmpL
  refine verI_congr _ (fun i hi => ?_)
  obtain ⟨j, hj, rfl⟩ := List.mem_map.1 hi
  have hj : j < n := by simpa using hj
  subst ha hb
  simp only [Int.toNat_natCast, bt_getD x j (by omega), bt_getD y j (by omega)]
theorem compare_agree (a b : ByteArray) (p : Int) (ha : a.size ≤ 1200) (hb : b.size ≤ 1200) (hp : 0 ≤ p ∧ p < 256) : ∃ v e, text_Compare.f a b p = some (v, e) ∧ qanatref02_Compare.f a b p = some (v, e) := by
  have c : a.size ≤ 2000 ∧ b.size ≤ 2000 := ⟨by omega, by omega⟩
  unfold text_Compare.f qanatref02_Compare.f
  rw [if_pos c, if_pos c]
  by_cases h : (vld a = true ∧ vld b = true) ∧ goodI p = true
  · have h' : vld a = true ∧ vld b = true ∧ goodI p = true := ⟨h.1.1, h.1.2, h.2⟩
    have s1 := B.size h.1.1
    have s2 := B.size h.1.2
    obtain ⟨n, hn⟩ : ∃ n, max a.size b.size = n := ⟨_, rfl⟩
    obtain ⟨x, hx, ex⟩ := fit_eq a n p s1 (by omega) hp
    obtain ⟨y, hy, ey⟩ := fit_eq b n p s2 (by omega) hp
    have lx : x.size = n := by rw [← bytesOf_length, ex, fitL_max a n p (by omega) (by omega)]
    have ly : y.size = n := by rw [← bytesOf_length, ey, fitL_max b n p (by omega) (by omega)]
    rw [if_pos h, if_pos h', hn, hx, hy]
    simp only [Option.bind_some]
    rw [if_pos ⟨lx, ly⟩, cmp_eq x y _ _ n ex ey lx ly]
    exact ⟨_, _, rfl, rfl⟩
  · have h' : ¬ (vld a = true ∧ vld b = true ∧ goodI p = true) := fun h2 => h ⟨⟨h2.1, h2.2.1⟩, h2.2.2⟩
    rw [if_neg h, if_neg h']
    exact ⟨_, _, rfl, rfl⟩
theorem prefix_eq (a b : ByteArray) : Lib.hasPrefix a.data.toList b.data.toList = (decide (b.size ≤ a.size) && ((a.extract 0 b.size).toList == b.toList)) := by
  unfold Lib.hasPrefix
  rw [Bool.eq_iff_iff]
  simp only [List.isPrefixOf_iff_prefix, Bool.and_eq_true, decide_eq_true_eq, beq_iff_eq, B.toL, B.extract, List.drop_zero, Nat.sub_zero]
  rw [List.prefix_iff_eq_take, B.sz a, B.sz b]
  constructor
  · intro h
    refine ⟨?_, h.symm⟩
    have := congrArg List.length h
    rw [List.length_take] at this
    omega
  · intro h; exact h.2.symm
theorem at0_eq (a b : ByteArray) (ha : a.size ≤ 1200) (hb : b.size ≤ 1200) : qanatref02_at.f b a 0 = some (Lib.hasPrefix a.data.toList b.data.toList) := by
  unfold qanatref02_at.f
  rw [prefix_eq, wrap64_id _ (by omega) (by omega), show (0 : Int) + (b.size : Int) = b.size by omega]
  by_cases hl : (b.size : Int) ≤ a.size
  · rw [if_pos hl, if_pos (by decide), if_pos (by omega), decide_eq_true (show b.size ≤ a.size by omega), Bool.true_and]
    rfl
  · rw [if_neg hl, decide_eq_false (show ¬ b.size ≤ a.size by omega), Bool.false_and]
theorem abbrev_agree (a b : ByteArray) (n : Int) (ha : a.size ≤ 1200) (hb : b.size ≤ 1200) : ∃ v e, text_Abbrev.f a b n = some (v, e) ∧ qanatref02_Abbrev.f a b n = some (v, e) := by
  unfold text_Abbrev.f qanatref02_Abbrev.f qanatref02_Valid.f strings_HasPrefix.f
  simp only [B.valid2, B.least1, Option.bind_some, B.first2, B.whole, at0_eq a b ha hb]
  by_cases h : (vld a = true ∧ vld b = true) ∧ 0 ≤ n
  · rw [if_pos h, if_pos rfl, if_pos h.1.1, if_pos h.1.2, if_pos (decide_eq_true h.2)]
    generalize Lib.hasPrefix a.data.toList b.data.toList = q
    by_cases hn : (b.size : Int) ≥ n
    · rw [if_pos hn, decide_eq_true hn]
      cases q <;> exact ⟨_, _, rfl, rfl⟩
    · rw [if_neg hn, decide_eq_false hn]
      cases q <;> exact ⟨_, _, rfl, rfl⟩
  · rw [if_neg h, if_neg (by decide)]
    refine ⟨_, _, rfl, ?_⟩
    by_cases h1 : vld a = true
    · rw [if_pos h1]
      by_cases h2 : vld b = true
      · rw [if_pos h2, if_neg (by simp; exact Int.not_le.1 fun h3 => h ⟨⟨h1, h2⟩, h3⟩)]
      · rw [if_neg h2]
    · rw [if_neg h1]
theorem has_l0 (s : ByteArray) (c : Int) (hs : s.size ≤ 1200) : ∀ (d j k : Nat), s.size - j = d → d < k → j ≤ s.size → qanatref02_has.l0 k s c (j : Int) = some (((bytesOf s).drop j).contains c)
  | d, j, 0, _, h, _ => absurd h (by omega)
  | d, j, k + 1, hd, hk, hj => by
    rw [qanatref02_has.l0]
    by_cases hlt : j < s.size
    · have hl : j < (bytesOf s).length := by rw [bytesOf_length]; exact hlt
      rw [if_pos (by omega), if_pos (by omega), List.drop_eq_getElem_cons hl, bt_nat s j hl]
      by_cases e : (bytesOf s)[j] = c
      · rw [if_pos e]; simp [e]
      · rw [if_neg e, wrap64_id _ (by omega) (by omega), show ((j : Int) + 1) = ((j + 1 : Nat) : Int) by omega, has_l0 s c hs (d - 1) (j + 1) k (by omega) (by omega) (by omega)]
        congr 1
        rw [List.contains_cons, beq_eq_false_iff_ne.2 (fun h => e h.symm), Bool.false_or]
    · rw [if_neg (by omega), List.drop_eq_nil_of_le (by rw [bytesOf_length]; omega)]
      rfl
theorem has_eq (s : ByteArray) (c : Int) (hs : s.size ≤ 1200) (k : Nat) (hk : 1201 ≤ k) : qanatref02_has.f k s c = some ((bytesOf s).contains c) := by
  unfold qanatref02_has.f
  have := has_l0 s c hs s.size 0 k (by omega) (by omega) (by omega)
  simpa using this
theorem verI_next (p : Int → Bool) (xs : List Int) (j : Nat) (hj : j < xs.length) : verI p xs j = if p xs[j] = true then (j : Int) + 1 else verI p xs (j + 1) := by
  by_cases h : p xs[j] = true
  · rw [if_pos h]
    exact verI_hit p xs j j (Nat.le_refl _) hj (by simpa [List.getD_eq_getElem?_getD, List.getElem?_eq_getElem hj] using h) (fun i h1 h2 => by omega)
  · rw [if_neg h]
    unfold verI
    have e : idxI p (xs.drop j) = if 0 ≤ idxI p (xs.drop (j + 1)) then idxI p (xs.drop (j + 1)) + 1 else -1 := by
      unfold idxI
      rw [List.drop_eq_getElem_cons hj, List.findIdx?_cons, if_neg h]
      cases (xs.drop (j + 1)).findIdx? p with
      | none => rfl
      | some i => simp
    rw [e]
    by_cases h0 : 0 ≤ idxI p (xs.drop (j + 1))
    · rw [if_pos h0, if_pos h0, if_pos (by omega)]; omega
    · rw [if_neg h0, if_neg h0, if_neg (by decide)]
theorem ver_l0 (a b : ByteArray) (m : Bool) (ha : a.size ≤ 1200) (hb : b.size ≤ 1200) : ∀ (d j k : Nat), a.size - j = d → d + 1202 ≤ k → (j : Int) ≤ 9223372036854775806 → qanatref02_Verify.l0 k a b m (j : Int) = some (verI (fun x => (bytesOf b).contains x == m) (bytesOf a) j, 0)
  | d, j, 0, _, h, _ => absurd h (by omega)
  | d, j, k + 1, hd, hk, hj => by
    rw [qanatref02_Verify.l0]
    by_cases hlt : j < a.size
    · have hl : j < (bytesOf a).length := by rw [bytesOf_length]; exact hlt
      rw [if_pos (by omega), if_pos (by omega), bt_nat a j hl, has_eq b _ hb k (by omega), verI_next _ _ j hl]
      simp only [Option.bind_some]
      by_cases h : ((bytesOf b).contains (bytesOf a)[j] == m) = true
      · rw [if_pos h, if_pos h, wrap64_id _ (by omega) (by omega)]
      · rw [if_neg h, if_neg h, wrap64_id _ (by omega) (by omega), show ((j : Int) + 1) = ((j + 1 : Nat) : Int) by omega]
        exact ver_l0 a b m ha hb (d - 1) (j + 1) k (by omega) (by omega) (by omega)
    · rw [if_neg (by omega), verI_miss _ _ j (fun i h1 h2 => by rw [bytesOf_length] at h2; omega)]
theorem verify_agree (a b : ByteArray) (m : Bool) (n : Int) (ha : a.size ≤ 1200) (hb : b.size ≤ 1200) (hn : n ≤ 9223372036854775807) (k : Nat) (hk : 2500 ≤ k) : ∃ v e, text_Verify.f a b m n = some (v, e) ∧ qanatref02_Verify.f k a b m n = some (v, e) := by
  obtain ⟨k, rfl⟩ : ∃ k', k = k' + 1 := ⟨k - 1, by omega⟩
  have c : a.size ≤ 100000 ∧ b.size ≤ 100000 ∧ n ≤ 9223372036854775807 := ⟨by omega, by omega, hn⟩
  have hj : ∀ q : Bool, q = true → qanatref02_Verify.j0 (k + 1) a b m n q = some (0, 1) := fun q hq => by rw [qanatref02_Verify.j0, if_pos hq]
  unfold text_Verify.f qanatref02_Verify.f qanatref02_Valid.f
  simp only [Option.bind_some, B.whole]
  rw [if_pos c]
  by_cases h : (vld a = true ∧ vld b = true) ∧ 1 ≤ n
  · rw [if_pos h, if_pos h.1.1, if_pos h.1.2, decide_eq_true h.2, Bool.not_true, qanatref02_Verify.j0, if_neg (by decide), wrap64_id _ (by omega) (by omega)]
    have := ver_l0 a b m ha hb (a.size - (n - 1).toNat) (n - 1).toNat k rfl (by omega) (by omega)
    rw [show (((n - 1).toNat : Nat) : Int) = n - 1 by omega] at this
    exact ⟨_, _, rfl, this⟩
  · rw [if_neg h]
    refine ⟨_, _, rfl, ?_⟩
    by_cases h1 : vld a = true
    · rw [if_pos h1]
      by_cases h2 : vld b = true
      · rw [if_pos h2, hj _ (by simp; exact Int.not_le.1 fun h3 => h ⟨⟨h1, h2⟩, h3⟩)]
      · rw [if_neg h2, hj _ rfl]
    · rw [if_neg h1, hj _ rfl]
theorem compares_pure : qanatlaw02_TextCompares.Pure := by
  intro a b n p m _ _ w1 w2
  have hn := B.i64 w1
  have hp := u8_of_wf w2
  refine ⟨60 + 2540, ?_⟩
  unfold qanatlaw02_TextCompares.f
  rw [head_ok 2540]
  simp only [Option.bind_some, qanatlaw02_long.f]
  by_cases h0 : (a.size : Int) > 1200
  · rw [if_pos (decide_eq_true h0)]
    simp [qanatlaw02_TextCompares.j0]
  · rw [if_neg (by simp; omega)]
    by_cases h1 : (b.size : Int) > 1200
    · rw [decide_eq_true h1]
      simp [qanatlaw02_TextCompares.j0]
    · rw [decide_eq_false h1, show 60 + 2540 = 2599 + 1 from rfl, qanatlaw02_TextCompares.j0, if_neg (by decide)]
      obtain ⟨v1, e1, a1, b1⟩ := compare_agree a b p (by omega) (by omega) hp
      obtain ⟨v2, e2, a2, b2⟩ := abbrev_agree a b n (by omega) (by omega)
      obtain ⟨v3, e3, a3, b3⟩ := verify_agree a b m n (by omega) (by omega) hn.2 2599 (by omega)
      simp only [a1, a2, a3, b1, b2, b3, Option.bind_some, B.num_eq, if_true, beq_self_eq_true]
end Go.Proofs.YtlekfhnlhdmekaaGreatDoor.T
