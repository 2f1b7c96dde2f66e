/- Part 7 of the proof of ScanLines: the functions that it calls return what their plain descriptions say. -/
import Derived.Test.YtkkpjonfaflkmaaGreatDoorCScanLines6
import Derived.Test.YtkkpjonfaflkmaaGreatDoorCScanLines2

/- ScanLines: the statement, its end. -/
namespace Go.Proofs.YtkkpjonfaflkmaaGreatDoor.T
set_option linter.unusedSimpArgs false
set_option linter.unusedVariables false
open Go.RowKit Go.Proofs.YtkkpjonfaflkmaaGreatDoorW.PrintWords Go.Proofs.YtkkpjonfaflkmaaGreatDoorW.PrintLast Go.Proofs.YtkkpjonfaflkmaaGreatDoorW.PrintMore

def lastI (L : List Int) : Nat → Int
  | 0 => -1
  | n + 1 => if L.getD n 0 = 10 then (n : Int) else lastI L n
theorem lastI_succ (L : List Int) (n : Nat) : lastI L (n + 1) = if L.getD n 0 = 10 then (n : Int) else lastI L n := rfl
theorem lastI_le (L : List Int) : ∀ n, -1 ≤ lastI L n ∧ lastI L n < n
  | 0 => by simp [lastI]
  | n + 1 => by
    have := lastI_le L n
    unfold lastI
    split <;> omega
theorem lineIdx (x0 : ByteArray) (at_ : Nat) (ha : at_ ≤ x0.size) (hs : x0.size ≤ 1000000) : ∀ (m k : Nat), m ≤ at_ → m < k → bytealg_LastIndexByteString.l0 k (x0.extract 0 at_) 10 ((m : Int) - 1) = some (lastI (bytesOf x0) m)
  | m, 0, _, h => absurd h (Nat.not_lt_zero _)
  | 0, k + 1, _, _ => by rw [bytealg_LastIndexByteString.l0, if_neg (by omega)]; rfl
  | m + 1, k + 1, hm, hk => by
    have ih := lineIdx x0 at_ ha hs m k (by omega) (by omega)
    have hsz : (x0.extract 0 at_).size = at_ := by rw [ByteArray.size_extract]; omega
    have hb : bt (x0.extract 0 at_) (m : Int) = (bytesOf x0).getD m 0 := by
      rw [bt_getD _ m (by omega), bytesOf_extract, List.drop_zero, Nat.sub_zero, List.getD_eq_getElem?_getD, List.getD_eq_getElem?_getD, List.getElem?_take_of_lt (by omega)]
    rw [bytealg_LastIndexByteString.l0, if_pos (by omega), if_pos (by omega), if_pos (by omega), show ((m + 1 : Nat) : Int) - 1 = (m : Int) by omega, hb, show wrap64 ((m : Int) - 1) = (m : Int) - 1 by unfold wrap64; omega, ih]
    rw [lastI_succ]
    split <;> rfl
theorem count_pre (x0 : ByteArray) (n : Nat) : strings_Count.f (x0.extract 0 n) (⟨#[10]⟩ : ByteArray) = some ((((bytesOf x0).take n).count 10 : Nat) : Int) := by
  have h : strings_Count.f (x0.extract 0 n) (⟨#[10]⟩ : ByteArray) = some (Lib.countByte (x0.extract 0 n).data.toList 10 : Int) := rfl
  rw [h]
  have h2 : ((bytesOf (x0.extract 0 n)).count 10 : Nat) = (x0.extract 0 n).data.toList.count 10 := by
    rw [bytesOf_nums]; exact nums_count _ 10
  rw [show Lib.countByte (x0.extract 0 n).data.toList 10 = (x0.extract 0 n).data.toList.count 10 from rfl, ← h2, bytesOf_extract, List.drop_zero, Nat.sub_zero]
theorem place_g (x0 : ByteArray) (at_ k : Nat) (hs : x0.size ≤ 20000) (ha : at_ ≤ x0.size) (hk : 30000 ≤ k) : scan_Place.f k x0 (at_ : Int) = some (((1 + ((bytesOf x0).take at_).count 10 : Nat) : Int), (at_ : Int) - lastI (bytesOf x0) at_, 0) := by
  obtain ⟨k, rfl⟩ : ∃ k', k = k' + 1 := ⟨k - 1, by omega⟩
  have hsz : (x0.extract 0 at_).size = at_ := by rw [ByteArray.size_extract]; omega
  have hr := lineIdx x0 at_ ha (by omega) at_ k (Nat.le_refl _) (by omega)
  have hl : strings_LastIndexByte.f k (x0.extract 0 at_) 10 = some (lastI (bytesOf x0) at_) := by
    unfold strings_LastIndexByte.f bytealg_LastIndexByteString.f
    rw [hsz, show wrap64 ((at_ : Int) - 1) = (at_ : Int) - 1 by unfold wrap64; omega, hr]; rfl
  have hc : ((bytesOf x0).take at_).count 10 ≤ at_ := Nat.le_trans List.count_le_length (by rw [List.length_take]; omega)
  have hli := lastI_le (bytesOf x0) at_
  unfold scan_Place.f scan_limited.f
  rw [if_neg (by omega)]
  simp only [Option.bind_some]
  rw [if_pos trivial, if_neg (by omega), decide_eq_false (by omega), scan_Place.j0, if_neg Bool.false_ne_true, if_pos (by omega), if_pos (by omega), Int.toNat_natCast, count_pre, hl]
  simp only [Option.bind_some]
  rw [show wrap64 (1 + (((bytesOf x0).take at_).count 10 : Nat)) = ((1 + ((bytesOf x0).take at_).count 10 : Nat) : Int) by unfold wrap64; omega, show wrap64 ((at_ : Int) - lastI (bytesOf x0) at_) = (at_ : Int) - lastI (bytesOf x0) at_ by unfold wrap64; omega]
theorem refplace_l0 (x0 : ByteArray) (at_ : Nat) (hs : x0.size ≤ 20000) (ha : at_ ≤ x0.size) : ∀ (m k i : Nat), i + m = at_ → m < k →
    qanatref03_Place.l0 k x0 (at_ : Int) ((1 + ((bytesOf x0).take i).count 10 : Nat) : Int) ((i : Int) - lastI (bytesOf x0) i) (i : Int) = some (((1 + ((bytesOf x0).take at_).count 10 : Nat) : Int), (at_ : Int) - lastI (bytesOf x0) at_)
  | m, 0, i, _, h => absurd h (Nat.not_lt_zero _)
  | 0, k + 1, i, h, _ => by
    obtain rfl : i = at_ := by omega
    rw [qanatref03_Place.l0, if_neg (by omega)]
  | m + 1, k + 1, i, h, hk => by
    have ih := refplace_l0 x0 at_ hs ha m k (i + 1) (by omega) (by omega)
    have hlen : (bytesOf x0).length = x0.size := bytesOf_length x0
    have hli := lastI_le (bytesOf x0) i
    have hc : ((bytesOf x0).take i).count 10 ≤ i := Nat.le_trans List.count_le_length (by rw [List.length_take]; omega)
    have hb : bt x0 (i : Int) = (bytesOf x0).getD i 0 := bt_getD x0 i (by omega)
    have htk : ((bytesOf x0).take (i + 1)).count 10 = ((bytesOf x0).take i).count 10 + (if (bytesOf x0).getD i 0 = 10 then 1 else 0) := by
      rw [List.take_add_one, List.count_append, List.getElem?_eq_getElem (by omega), List.getD_eq_getElem?_getD, List.getElem?_eq_getElem (by omega)]
      simp only [Option.toList_some, Option.getD_some, List.count_cons, List.count_nil, Nat.zero_add, beq_iff_eq]
    rw [htk] at ih
    rw [lastI_succ] at ih
    rw [qanatref03_Place.l0, if_pos (by omega), if_pos (by omega), if_pos (by omega), hb, w64n (i := i) (by omega)]
    by_cases e : (bytesOf x0).getD i 0 = 10
    · rw [if_pos e, if_pos e] at ih
      rw [if_pos e, show wrap64 (((1 + ((bytesOf x0).take i).count 10 : Nat) : Int) + 1) = ((1 + (((bytesOf x0).take i).count 10 + 1) : Nat) : Int) by unfold wrap64; omega]
      rw [show ((i + 1 : Nat) : Int) - (i : Int) = 1 by omega] at ih
      exact ih
    · rw [if_neg e, if_neg e, Nat.add_zero] at ih
      rw [if_neg e, show wrap64 ((i : Int) - lastI (bytesOf x0) i + 1) = ((i + 1 : Nat) : Int) - lastI (bytesOf x0) i by unfold wrap64; omega]
      exact ih
theorem refplace_f (x0 : ByteArray) (at_ k : Nat) (hs : x0.size ≤ 20000) (ha : at_ ≤ x0.size) (hk : 30000 ≤ k) : qanatref03_Place.f k x0 (at_ : Int) = some (((1 + ((bytesOf x0).take at_).count 10 : Nat) : Int), (at_ : Int) - lastI (bytesOf x0) at_) := by
  have := refplace_l0 x0 at_ hs ha at_ k 0 (by omega) (by omega)
  exact this
/-- What Lines returns, and its reference. -/
theorem lines_f (x0 : ByteArray) (k : Nat) (hs : x0.size ≤ 20000) (hk : 30000 ≤ k) : ∃ l, scan_Lines.f k x0 = some (l, 0) ∧ qanatref03_Lines.f k x0 = some l ∧ l.length ≤ 40000 := by
  obtain ⟨k, rfl⟩ : ∃ k', k = k' + 1 := ⟨k - 1, by omega⟩
  have hlen : (bytesOf x0).length = x0.size := bytesOf_length x0
  obtain ⟨r, h1, h2⟩ := reflines_l0 x0 (by omega) x0.size (k + 1) 0 0 [] (by omega) (by omega) (Nat.le_refl _) (by simp)
  rw [List.nil_append] at h1
  rw [List.drop_zero, Nat.sub_zero, List.take_zero] at h2
  have hrl : r.length ≤ 40000 := by
    have h3 : (r.map bytesOf).length = (linesL (bytesOf x0) []).length := by rw [h2]
    rw [List.length_map] at h3
    have key : ∀ (xs cur : List Int), (linesL xs cur).length ≤ xs.length + 1 := fun xs => by
      induction xs with
      | nil => intro cur; unfold linesL; split <;> simp
      | cons c t ih =>
        intro cur
        unfold linesL
        split
        · have := ih []; simp only [List.length_cons]; omega
        · have := ih (cur ++ [c]); simp only [List.length_cons]; omega
    have := key (bytesOf x0) []
    omega
  refine ⟨r, ?_, h1, hrl⟩
  unfold scan_Lines.f scan_limited.f
  rw [if_neg (by omega)]
  simp only [Option.bind_some]
  rw [if_pos trivial, str_empty]
  by_cases he : bytesOf x0 = []
  · rw [decide_eq_true he, scan_Lines.j0, if_pos rfl]
    rw [he] at h2
    rw [show r = [] by simpa [linesL] using h2]
  · rw [decide_eq_false he, scan_Lines.j0, if_neg Bool.false_ne_true]
    have hpos : 1 ≤ x0.size := by rw [← hlen]; exact List.length_pos_iff.2 he
    have h10 : (⟨#[10]⟩ : ByteArray).size = 1 := rfl
    have hw : wrap64 ((x0.size : Int) - 1) = ((x0.size - 1 : Nat) : Int) := by unfold wrap64; omega
    have hlast : ((x0.extract (x0.size - 1) x0.size).toList == ([10] : List UInt8)) = decide ((bytesOf x0).getLast? = some 10) := by
      rw [str_eq, bytesOf_rest]
      have hd : (bytesOf x0).drop (x0.size - 1) = [(bytesOf x0).getLast he] := by
        have h5 := List.dropLast_concat_getLast he
        conv => { lhs; rw [← h5] }
        exact List.drop_left' (by rw [List.length_dropLast, hlen])
      rw [hd, List.getLast?_eq_some_getLast he]
      simp only [nums, List.map_cons, List.map_nil, List.cons.injEq, and_true, Option.some.injEq]
      rfl
    have htrim : strings_TrimSuffix.f x0 (⟨#[10]⟩ : ByteArray) = some (if (bytesOf x0).getLast? = some 10 then x0.extract 0 (x0.size - 1) else x0) := by
      unfold strings_TrimSuffix.f stringslite_TrimSuffix.f stringslite_HasSuffix.f
      rw [h10, if_pos (by omega)]
      simp only [Int.natCast_one]
      rw [hw, if_pos (by omega), if_pos (by omega), Int.toNat_natCast]
      simp only [Option.bind_some]
      rw [show ((⟨#[10]⟩ : ByteArray).toList) = [10] by rw [Lib.toList_data], hlast]
      by_cases hl : (bytesOf x0).getLast? = some 10
      · rw [decide_eq_true hl, if_pos rfl, if_pos hl, if_pos (by omega), if_pos (by omega)]; rfl
      · rw [decide_eq_false hl, if_neg Bool.false_ne_true, if_neg hl]; rfl
    rw [htrim]
    simp only [Option.bind_some]
    have hsplit : ∀ y : ByteArray, y.size ≤ 100000 → cutC (bytesOf y) [] = r.map bytesOf → (strings_Split.f y (⟨#[10]⟩ : ByteArray)).bind (fun t => some (t, (0 : Int))) = some (r, 0) := fun y hy hc => by
      unfold strings_Split.f
      rw [if_pos ⟨hy, by rw [h10]; exact Nat.le_refl _⟩, Option.bind_some, map_inj ((splitB_lines y).trans hc)]
    by_cases hl : (bytesOf x0).getLast? = some 10
    · rw [if_pos hl]
      refine hsplit _ (by rw [ByteArray.size_extract]; omega) ?_
      obtain ⟨ys, hys⟩ : ∃ ys, bytesOf x0 = ys ++ [10] := by
        rcases List.eq_nil_or_concat (bytesOf x0) with e | ⟨ys, c, e⟩
        · exact absurd e he
        · rw [List.concat_eq_append] at e
          rw [e, List.getLast?_concat] at hl
          exact ⟨ys, by rw [e, Option.some.inj hl]⟩
      have hyl : ys.length = x0.size - 1 := by
        have := hlen
        rw [hys, List.length_append, List.length_singleton] at this
        omega
      rw [h2, bytesOf_extract, List.drop_zero, Nat.sub_zero, hys, lines_feed, ← hyl, List.take_left]
    · rw [if_neg hl]
      refine hsplit _ (by omega) ?_
      rw [h2, lines_no _ _ he hl]
theorem emp : ((⟨#[]⟩ : ByteArray).toList == ([] : List UInt8)) = true := by rw [str_empty]; rfl
theorem edit_f (a0 a4 : ByteArray) (a2 a3 : Int) (k : Nat) (hs : a0.size ≤ 20000) (h4 : a4.size ≤ 20100) (hk : 1 ≤ k) : scan_Edit.f k a0 a2 a3 a4 = some (if a2 < 0 ∨ a3 < a2 ∨ a3 > (a0.size : Int) then (⟨#[]⟩, 1)
    else if ((((a0.extract 0 a2.toNat) ++ a4) ++ (a0.extract a3.toNat a0.size)).size : Int) > 20000 then (⟨#[]⟩, 3) else (((a0.extract 0 a2.toNat) ++ a4) ++ (a0.extract a3.toNat a0.size), 0)) := by
  obtain ⟨k, rfl⟩ : ∃ k', k = k' + 1 := ⟨k - 1, by omega⟩
  unfold scan_Edit.f scan_limited.f
  rw [if_neg (by omega)]
  simp only [Option.bind_some]
  rw [if_pos trivial]
  by_cases h1 : a2 < 0
  · rw [if_pos h1, if_pos (.inl h1), scan_Edit.j0, if_pos rfl]
  · rw [if_neg h1]
    by_cases h2 : a2 > a3
    · rw [if_pos h2, if_pos (.inr (.inl h2)), scan_Edit.j0, if_pos rfl]
    · rw [if_neg h2]
      by_cases h3 : a3 > (a0.size : Int)
      · rw [decide_eq_true h3, if_pos (.inr (.inr h3)), scan_Edit.j0, if_pos rfl]
      · rw [decide_eq_false h3, if_neg (by rintro (e | e | e); exact h1 e; exact h2 e; exact h3 e), scan_Edit.j0, if_neg Bool.false_ne_true]
        have e1 : (a0.extract 0 a2.toNat).size = a2.toNat := by rw [ByteArray.size_extract]; omega
        have e2 : (a0.extract a3.toNat a0.size).size = a0.size - a3.toNat := by rw [ByteArray.size_extract]; omega
        have e3 : ((a0.extract 0 a2.toNat) ++ a4).size = a2.toNat + a4.size := by rw [ByteArray.size_append, e1]
        have e4 : (((a0.extract 0 a2.toNat) ++ a4) ++ (a0.extract a3.toNat a0.size)).size = a2.toNat + a4.size + (a0.size - a3.toNat) := by rw [ByteArray.size_append, e3, e2]
        have hw : wrap64 (wrap64 ((a0.size : Int) - wrap64 (a3 - a2)) + (a4.size : Int)) = (a0.size : Int) - (a3 - a2) + (a4.size : Int) := by unfold wrap64; omega
        by_cases h5 : (a4.size : Int) > 20000
        · rw [if_pos h5, if_pos (by omega)]
        · rw [if_neg h5, hw]
          by_cases h6 : (a0.size : Int) - (a3 - a2) + (a4.size : Int) > 20000
          · rw [if_pos h6, if_pos (by omega)]
          · rw [if_neg h6, if_pos (by omega), if_pos (by omega), if_pos (by omega), if_pos (by omega), if_pos (by omega), if_pos (by omega), if_neg (by omega)]
theorem scan_lines_pure : qanatlaw03_ScanLines.Pure := fun a0 a1 a2 a3 a4 _ _ _ _ _ => by
  refine ⟨60006, ?_⟩
  unfold qanatlaw03_ScanLines.f qanatlaw03_short.f
  simp only [Option.bind_some]
  by_cases h0 : (a0.size : Int) ≤ 20100
  · rw [decide_eq_true h0, if_pos rfl]
    by_cases h4 : (a4.size : Int) > 20100
    · rw [decide_eq_true h4]; rfl
    · rw [decide_eq_false h4]
      show qanatlaw03_ScanLines.j0 (60005 + 1) a0 a1 a2 a3 a4 false = some true
      rw [qanatlaw03_ScanLines.j0, if_neg Bool.false_ne_true]
      by_cases hbig : (a0.size : Int) > 20000
      · have hl : scan_Lines.f 60005 a0 = some ([], 3) := by
          unfold scan_Lines.f scan_limited.f
          rw [if_pos hbig, Option.bind_some, if_neg (by decide)]; rfl
        have hp : scan_Place.f 60005 a0 a1 = some (0, 0, 3) := by
          unfold scan_Place.f scan_limited.f
          rw [if_pos hbig, Option.bind_some, if_neg (by decide)]
        have he : scan_Edit.f 60005 a0 a2 a3 a4 = some (⟨#[]⟩, 3) := by
          unfold scan_Edit.f scan_limited.f
          rw [if_pos hbig, Option.bind_some, if_neg (by decide)]
        rw [hl, hp, he]
        simp only [Option.bind_some]
        rw [if_pos hbig]
        simp [qanatlaw03_sanity.f, emp]
      · obtain ⟨l, hl1, hl2, hl3⟩ := lines_f a0 60005 (by omega) (by omega)
        have hp : ∃ p, scan_Place.f 60005 a0 a1 = some p ∧ ((a1 < 0 ∨ a1 > (a0.size : Int)) → p = (0, 0, 1)) := by
          by_cases hr : a1 < 0 ∨ a1 > (a0.size : Int)
          · refine ⟨(0, 0, 1), ?_, fun _ => rfl⟩
            unfold scan_Place.f scan_limited.f
            rw [if_neg (by omega), Option.bind_some, if_pos rfl]
            by_cases hn : a1 < 0
            · rw [if_pos hn]; rfl
            · rw [if_neg hn, decide_eq_true (by omega)]; rfl
          · obtain ⟨n, rfl⟩ : ∃ n : Nat, a1 = n := ⟨a1.toNat, by omega⟩
            exact ⟨_, place_g a0 n 60005 (by omega) (by omega) (by omega), fun e => absurd e hr⟩
        obtain ⟨p, hp1, hp2⟩ := hp
        rw [hl1, hp1, edit_f a0 a4 a2 a3 60005 (by omega) (by omega) (by omega)]
        simp only [Option.bind_some]
        rw [if_neg hbig, hl2]
        simp only [Option.bind_some]
        rw [same_f l (by omega) 60005 (by omega)]
        simp only [Option.bind_some]
        rw [if_pos trivial]
        show qanatlaw03_ScanLines.j1 (60004 + 1) _ _ _ _ _ _ _ _ _ _ false = some true
        rw [qanatlaw03_ScanLines.j1, if_neg Bool.false_ne_true]
        -- the end: Edit
        have fin : qanatlaw03_ScanLines.j3 60003 a0 a2 a3 a4 (if a2 < 0 ∨ a3 < a2 ∨ a3 > (a0.size : Int) then ((⟨#[]⟩ : ByteArray), (1 : Int))
            else if ((((a0.extract 0 a2.toNat) ++ a4) ++ (a0.extract a3.toNat a0.size)).size : Int) > 20000 then (⟨#[]⟩, 3) else (((a0.extract 0 a2.toNat) ++ a4) ++ (a0.extract a3.toNat a0.size), 0)).1 (if a2 < 0 ∨ a3 < a2 ∨ a3 > (a0.size : Int) then ((⟨#[]⟩ : ByteArray), (1 : Int))
            else if ((((a0.extract 0 a2.toNat) ++ a4) ++ (a0.extract a3.toNat a0.size)).size : Int) > 20000 then (⟨#[]⟩, 3) else (((a0.extract 0 a2.toNat) ++ a4) ++ (a0.extract a3.toNat a0.size), 0)).2 = some true := by
          show qanatlaw03_ScanLines.j3 (60002 + 1) _ _ _ _ _ _ = some true
          rw [qanatlaw03_ScanLines.j3]
          by_cases hbad : a2 < 0 ∨ a3 < a2 ∨ a3 > (a0.size : Int)
          · rw [if_pos hbad]
            have hj4 : qanatlaw03_ScanLines.j4 (60001 + 1) a0 a2 a3 a4 ⟨#[]⟩ 1 true = some true := by
              rw [qanatlaw03_ScanLines.j4, if_pos rfl]
              simp [qanatlaw03_sanity.f, emp]
            by_cases g1 : a2 < 0
            · rw [if_pos g1]; exact hj4
            · rw [if_neg g1]
              by_cases g2 : a3 < a2
              · rw [if_pos g2]; exact hj4
              · rw [if_neg g2, decide_eq_true (by omega)]; exact hj4
          · rw [if_neg hbad, if_neg (by omega), if_neg (by omega), decide_eq_false (by omega)]
            show qanatlaw03_ScanLines.j4 (60001 + 1) _ _ _ _ _ _ false = some true
            have e1 : (a0.extract 0 a2.toNat).size = a2.toNat := by rw [ByteArray.size_extract]; omega
            have e2 : (a0.extract a3.toNat a0.size).size = a0.size - a3.toNat := by rw [ByteArray.size_extract]; omega
            have e3 : ((a0.extract 0 a2.toNat) ++ a4).size = a2.toNat + a4.size := by rw [ByteArray.size_append, e1]
            rw [qanatlaw03_ScanLines.j4, if_neg Bool.false_ne_true, if_pos (by omega), if_pos (by omega), if_pos (by omega), if_pos (by omega), if_pos (by omega), if_pos (by omega)]
            by_cases g3 : ((((a0.extract 0 a2.toNat) ++ a4) ++ (a0.extract a3.toNat a0.size)).size : Int) > 20000
            · rw [if_pos g3, if_pos g3]
              simp [qanatlaw03_sanity.f, emp]
            · rw [if_neg g3, if_neg g3]
              unfold qanatlaw03_sanity.f
              simp
        generalize (if a2 < 0 ∨ a3 < a2 ∨ a3 > (a0.size : Int) then ((⟨#[]⟩ : ByteArray), (1 : Int))
            else if ((((a0.extract 0 a2.toNat) ++ a4) ++ (a0.extract a3.toNat a0.size)).size : Int) > 20000 then (⟨#[]⟩, 3) else (((a0.extract 0 a2.toNat) ++ a4) ++ (a0.extract a3.toNat a0.size), 0)) = ed at fin ⊢
        by_cases hr : a1 < 0 ∨ a1 > (a0.size : Int)
        · have hj2 : qanatlaw03_ScanLines.j2 (60003 + 1) a0 a1 a2 a3 a4 p.1 p.2.1 p.2.2 ed.1 ed.2 true = some true := by
            rw [qanatlaw03_ScanLines.j2, if_pos rfl, hp2 hr]
            exact fin
          by_cases hn : a1 < 0
          · rw [if_pos hn]; exact hj2
          · rw [if_neg hn, decide_eq_true (by omega)]; exact hj2
        · rw [if_neg (by omega), decide_eq_false (by omega)]
          show qanatlaw03_ScanLines.j2 (60003 + 1) _ _ _ _ _ _ _ _ _ _ false = some true
          obtain ⟨n, rfl⟩ : ∃ n : Nat, a1 = n := ⟨a1.toNat, by omega⟩
          have hpp := Option.some.inj (hp1.symm.trans (place_g a0 n 60005 (by omega) (by omega) (by omega)))
          rw [qanatlaw03_ScanLines.j2, if_neg Bool.false_ne_true, refplace_f a0 n 60003 (by omega) (by omega) (by omega), hpp]
          simp only [Option.bind_some]
          rw [if_pos trivial, if_pos trivial, if_pos trivial]
          exact fin
  · rw [decide_eq_false h0, if_neg Bool.false_ne_true]; rfl
end Go.Proofs.YtkkpjonfaflkmaaGreatDoor.T
