/- Part 24 of the proof of ScanSymbols: the functions that it calls return what their plain descriptions say. -/
import Derived.Test.YtkkpjonfaflkmaaGreatDoorCScanSymbols23
import Derived.Test.YtkkpjonfaflkmaaGreatDoorCScanSymbols11
import Derived.Test.YtkkpjonfaflkmaaGreatDoorCScanSymbols12

namespace Go.Proofs.YtkkpjonfaflkmaaGreatDoor.T
set_option linter.unusedSimpArgs false
set_option linter.unusedVariables false
open Go.RowKit Go.Proofs.YtkkpjonfaflkmaaGreatDoorW.PrintWords Go.Proofs.YtkkpjonfaflkmaaGreatDoorW.PrintLast Go.Proofs.YtkkpjonfaflkmaaGreatDoorW.PrintMore
def mkB (l : List UInt8) : ByteArray := ⟨l.toArray⟩
def pcH (x : List UInt8) : List (List UInt8) → List (List UInt8)
  | [] => [x]
  | p :: r => (x ++ p) :: r
def pcs (c : UInt8) : List UInt8 → List (List UInt8)
  | [] => [[]]
  | b :: l => if b = c then [] :: pcs c l else pcH [b] (pcs c l)
theorem pcs_ne (c : UInt8) (l : List UInt8) : pcs c l ≠ [] := by
  cases l with
  | nil => simp [pcs]
  | cons b t => rw [pcs]; split
                · simp
                · cases pcs c t <;> simp [pcH]
theorem pcH_app (x y : List UInt8) (r : List (List UInt8)) (h : r ≠ []) : pcH (x ++ y) r = pcH x (pcH y r) := by
  cases r with
  | nil => exact absurd rfl h
  | cons p r => simp [pcH]
theorem pcH_nil (r : List (List UInt8)) (h : r ≠ []) : pcH [] r = r := by
  cases r with
  | nil => exact absurd rfl h
  | cons p r => rfl
theorem pcs_len (c : UInt8) (l : List UInt8) : (pcs c l).length ≤ l.length + 1 := by
  induction l with
  | nil => exact Nat.le_refl _
  | cons b t ih =>
    rw [pcs, List.length_cons]
    split
    · rw [List.length_cons]; omega
    · cases hp : pcs c t with
      | nil => simp [pcH]
      | cons p r => rw [hp, List.length_cons] at ih; rw [pcH, List.length_cons]; omega
theorem splitK_pcs (c : UInt8) (s : List UInt8) : Lib.splitK [c] 0 (Lib.count s [c]) s = pcs c s := by
  induction s with
  | nil => rfl
  | cons b l ih =>
    rw [pcs]
    by_cases h : b = c
    · rw [if_pos h, h, Lib.count_cons_eq, Nat.add_comm 1, Lib.splitK, Lib.index_one, Lib.indexByte]
      simp only [beq_self_eq_true, if_true]
      rw [if_neg (by decide)]
      show (c :: l).take 0 :: Lib.splitK [c] 0 (Lib.count l [c]) ((c :: l).drop 1) = _
      rw [List.take_zero, List.drop_one, List.tail_cons, ih]
    · rw [if_neg h, Lib.count_cons_ne b c l h, ← ih]
      generalize Lib.count l [c] = n
      cases n with
      | zero => rfl
      | succ k =>
        rw [Lib.splitK, Lib.splitK, Lib.index_one, Lib.index_one, Lib.indexByte]
        rw [if_neg (show ¬ (b == c) = true from fun e => h (beq_iff_eq.1 e))]
        have hge := Lib.indexByte_ge l c
        by_cases hm : Lib.indexByte l c = -1
        · rw [hm]; rfl
        · obtain ⟨j, hj⟩ : ∃ j : Nat, Lib.indexByte l c = j := ⟨(Lib.indexByte l c).toNat, by omega⟩
          rw [hj, if_neg (show ¬ (((j : Nat) : Int) == -1) = true from fun e => by have := beq_iff_eq.1 e; omega), if_neg (show ¬ (((j : Nat) : Int) + 1 == -1) = true from fun e => by have := beq_iff_eq.1 e; omega)]
          have e1 : (((j : Nat) : Int) + 1).toNat = j + 1 := by omega
          have e2 : ((j : Nat) : Int).toNat = j := by omega
          rw [e1, e2]
          rfl
theorem byteHas {c : UInt8} {s : List UInt8} (h : 0 < s.count c) : ∃ j : Nat, Lib.indexByte s c = j ∧ j < s.length := by
  induction s with
  | nil => simp at h
  | cons b l ih =>
    rw [Lib.indexByte]
    by_cases hb : b = c
    · rw [if_pos (beq_iff_eq.2 hb)]; exact ⟨0, rfl, Nat.succ_pos _⟩
    · rw [List.count_cons_of_ne (by simpa using hb)] at h
      obtain ⟨j, hj, hl⟩ := ih h
      rw [if_neg (show ¬ (b == c) = true from fun e => hb (beq_iff_eq.1 e)), hj, if_neg (show ¬ (((j : Nat) : Int) == -1) = true from fun e => by have := beq_iff_eq.1 e; omega)]
      exact ⟨j + 1, by omega, Nat.succ_lt_succ hl⟩
theorem mkB_data (t : ByteArray) : mkB t.data.toList = t := rfl
theorem mkB_app (x y : List UInt8) : mkB x ++ mkB y = mkB (x ++ y) := by
  apply bytesOf_inj
  rw [bytesOf_append]
  simp [bytesOf, mkB]
theorem mkB_ext (t : ByteArray) (i j : Nat) : t.extract i j = mkB ((t.data.toList.drop i).take (j - i)) := by
  apply bytesOf_inj
  rw [bytesOf_extract]
  simp [bytesOf, mkB]
theorem mkB_size (l : List UInt8) : (mkB l).size = l.length := by simp [mkB, ByteArray.size]
theorem bt_u8 (t : ByteArray) (i : Nat) (h : i < t.data.toList.length) : bt t (i : Int) = ((t.data.toList[i]'h).toNat : Int) := by
  have hs : i < t.size := by rw [← bytesOf_length, bytesOf, List.length_map]; exact h
  rw [bt_getD t i hs, List.getD_eq_getElem?_getD, bytesOf, List.getElem?_map, List.getElem?_eq_getElem h]
  rfl
theorem u8_46 (b : UInt8) : (b.toNat : Int) = 46 ↔ b = 46 := ⟨fun e => UInt8.toNat_inj.1 (by show b.toNat = 46; omega), fun e => by rw [e]; rfl⟩
theorem u8_len (t : ByteArray) : t.data.toList.length = t.size := by rw [← bytesOf_length, bytesOf, List.length_map]
theorem rsplit_l0 (t : ByteArray) (hs : t.size ≤ 1000) (q y2 y3 : Int) (y : List ByteArray) : ∀ (m k i j : Nat), i + m = t.size → m < k → Lib.indexByte (t.data.toList.drop i) 46 = (j : Int) →
    ∃ k', k ≤ k' + m + 1 ∧ qanatref03_Split.l0 k (i : Int) t q y y3 = (if q = 3 then some (t.extract 0 (i + j + 1), 0, ([] : List ByteArray), 0) else qanatref03_Split.l1 k' (⟨#[]⟩ : ByteArray) ((i + j + 1 : Nat) : Int) t q y y3 (t.extract 0 (i + j + 1)) 0 ([] : List ByteArray) 0)
  | 0, k, i, j, h, hk, hj => by
    rw [List.drop_of_length_le (by rw [u8_len]; omega)] at hj
    have : (-1 : Int) = (j : Int) := hj
    omega
  | m + 1, k, i, j, h, hk, hj => by
    obtain ⟨k, rfl⟩ : ∃ k', k = k' + 1 := ⟨k - 1, by omega⟩
    have hi : i < t.data.toList.length := by rw [u8_len]; omega
    rw [List.drop_eq_getElem_cons hi, Lib.indexByte] at hj
    rw [qanatref03_Split.l0, if_pos (by omega), if_pos (by omega), bt_u8 t i hi, w64n (by omega)]
    by_cases hb : t.data.toList[i]'hi = 46
    · rw [if_pos (beq_iff_eq.2 hb)] at hj
      obtain rfl : j = 0 := by omega
      rw [if_pos ((u8_46 _).2 hb), if_pos (by omega), if_pos (by omega)]
      exact ⟨k, by omega, rfl⟩
    · rw [if_neg (show ¬ (_ == (46 : UInt8)) = true from fun e => hb (beq_iff_eq.1 e))] at hj
      by_cases hm : Lib.indexByte (t.data.toList.drop (i + 1)) 46 = -1
      · rw [if_pos (beq_iff_eq.2 hm)] at hj; omega
      · rw [if_neg (fun e => hm (beq_iff_eq.1 e))] at hj
        rw [if_neg (fun e => hb ((u8_46 _).1 e))]
        obtain ⟨k', hk', e⟩ := rsplit_l0 t hs q y2 y3 y m k (i + 1) (j - 1) (by omega) (by omega) (by omega)
        refine ⟨k', by omega, ?_⟩
        rw [e, show i + 1 + (j - 1) + 1 = i + j + 1 by omega]
theorem rsplit_l1 (t : ByteArray) (hs : t.size ≤ 1000) (q y3 z1 z3 : Int) (y : List ByteArray) (x : ByteArray) : ∀ (m k i : Nat) (cur : List UInt8) (acc : List ByteArray), i + m = t.size → m < k → cur.length ≤ i → acc.length ≤ i →
    qanatref03_Split.l1 k (mkB cur) (i : Int) t q y y3 x z1 acc z3 = some (x, z1, acc ++ (pcH cur (pcs 46 (t.data.toList.drop i))).map mkB, z3)
  | 0, k, i, cur, acc, h, hk, hc, ha => by
    obtain ⟨k, rfl⟩ : ∃ k', k = k' + 1 := ⟨k - 1, by omega⟩
    rw [List.drop_of_length_le (by rw [u8_len]; omega), qanatref03_Split.l1, if_neg (by omega), if_pos (by omega)]
    simp [pcs, pcH]
  | m + 1, k, i, cur, acc, h, hk, hc, ha => by
    obtain ⟨k, rfl⟩ : ∃ k', k = k' + 1 := ⟨k - 1, by omega⟩
    have hi : i < t.data.toList.length := by rw [u8_len]; omega
    rw [List.drop_eq_getElem_cons hi, pcs, qanatref03_Split.l1, if_pos (by omega), if_pos (by omega), bt_u8 t i hi, w64n (by omega)]
    by_cases hb : t.data.toList[i]'hi = 46
    · rw [if_pos ((u8_46 _).2 hb), if_pos hb, if_pos (by omega)]
      have := rsplit_l1 t hs q y3 z1 z3 y x m k (i + 1) [] (acc ++ [mkB cur]) (by omega) (by omega) (Nat.zero_le _) (by rw [List.length_append, List.length_singleton]; omega)
      rw [show (⟨#[]⟩ : ByteArray) = mkB [] from rfl, this, pcH_nil _ (pcs_ne _ _), pcH, List.append_nil]
      simp
    · have e1 : t.extract (i : Int).toNat (((i + 1 : Nat) : Int)).toNat = mkB [t.data.toList[i]'hi] := by
        rw [Int.toNat_natCast, Int.toNat_natCast, mkB_ext, List.drop_eq_getElem_cons hi, show i + 1 - i = 1 by omega]
        rfl
      rw [if_neg (fun e => hb ((u8_46 _).1 e)), if_neg hb, if_pos (by omega), if_pos (by omega), e1, mkB_size, mkB_size, if_pos (by rw [List.length_singleton]; omega), mkB_app]
      rw [rsplit_l1 t hs q y3 z1 z3 y x m k (i + 1) (cur ++ [t.data.toList[i]'hi]) acc (by omega) (by omega) (by rw [List.length_append, List.length_singleton]; omega) (by omega)]
      rw [pcH_app _ _ _ (pcs_ne _ _)]
end Go.Proofs.YtkkpjonfaflkmaaGreatDoor.T

namespace Go.Proofs.YtkkpjonfaflkmaaGreatDoor.T
set_option linter.unusedSimpArgs false
set_option linter.unusedVariables false
open Go.RowKit Go.Proofs.YtkkpjonfaflkmaaGreatDoorW.PrintWords Go.Proofs.YtkkpjonfaflkmaaGreatDoorW.PrintLast Go.Proofs.YtkkpjonfaflkmaaGreatDoorW.PrintMore
theorem same_strings (l : List ByteArray) (hl : l.length ≤ 1000) : ∀ (m k i : Nat), i + m = l.length → m < k → qanatref03_SameStrings.l0 k l l (i : Int) = some true
  | 0, k, i, h, hk => by
    obtain ⟨k, rfl⟩ : ∃ k', k = k' + 1 := ⟨k - 1, by omega⟩
    rw [qanatref03_SameStrings.l0, if_neg (by omega)]
  | m + 1, k, i, h, hk => by
    obtain ⟨k, rfl⟩ : ∃ k', k = k' + 1 := ⟨k - 1, by omega⟩
    rw [qanatref03_SameStrings.l0, if_pos (by omega), if_pos (by omega), if_pos (by omega), if_pos rfl, w64n (by omega)]
    exact same_strings l hl m k (i + 1) (by omega) (by omega)
theorem split_same (a0 : ByteArray) (hs : a0.size ≤ 200) : ∃ (x : ByteArray) (l : List ByteArray) (er : Int), scan_Split.f a0 = some (x, l, er) ∧ l.length ≤ 100 ∧ (∀ k, 1000 ≤ k → qanatref03_Split.f k a0 = some (x, 0, l, er)) := by
  obtain ⟨t, q, er, h1, h2, h3, h4, h5⟩ := symbol_same a0 hs
  unfold scan_Split.f
  rw [h1]
  simp only [Option.bind_some]
  by_cases he : er = 0
  · obtain ⟨g1, g2, g3⟩ := h3 he
    have hR : ∀ k, 1000 ≤ k → qanatref03_Split.f k a0 = if q = 3 then qanatref03_Split.j0 k false t q [] er else qanatref03_Split.j0 k (q != 4) t q [] er := fun k hk => by
      unfold qanatref03_Split.f
      rw [h2 k hk, Option.bind_some]
      simp only []
      rw [if_pos he]
    rw [if_pos he]
    have hcnt : (bytesOf t).count 46 = t.data.toList.count 46 := (countByte_eq 46 t.data.toList).symm
    have first : 0 < (bytesOf t).count 46 → ∃ j : Nat, Lib.indexByte t.data.toList 46 = j ∧ j < t.size := fun h => by
      obtain ⟨j, a, b⟩ := byteHas (c := 46) (s := t.data.toList) (by rw [← hcnt]; exact h)
      exact ⟨j, a, by rw [← u8_len]; exact b⟩
    have hl0 : ∀ (k j : Nat), 900 ≤ k → Lib.indexByte t.data.toList 46 = j → ∃ k', 100 ≤ k' ∧ qanatref03_Split.l0 k 0 t q [] er = (if q = 3 then some (t.extract 0 (j + 1), 0, ([] : List ByteArray), 0) else qanatref03_Split.l1 k' (⟨#[]⟩ : ByteArray) ((j + 1 : Nat) : Int) t q [] er (t.extract 0 (j + 1)) 0 ([] : List ByteArray) 0) := fun k j hk hj => by
      obtain ⟨k', hk', e⟩ := rsplit_l0 t (by omega) q 0 er [] t.size k 0 j (by omega) (by omega) hj
      rw [Nat.zero_add] at e
      exact ⟨k', by omega, e⟩
    by_cases hq3 : q = 3
    · rw [if_pos hq3]
      refine ⟨t, [], 0, rfl, Nat.zero_le _, fun k hk => ?_⟩
      obtain ⟨k, rfl⟩ : ∃ k', k = k' + 1 := ⟨k - 1, by omega⟩
      have hone : (bytesOf t).count 46 = 1 ∧ bt t ((t.size : Int) - 1) = 46 := by
        rw [hq3] at g3
        unfold kd at g3
        split at g3
        · omega
        · split at g3
          · omega
          · split at g3
            · next hc =>
              split at g3
              · next hx => exact ⟨hc, hx⟩
              · omega
            · omega
      obtain ⟨j, hj, hjl⟩ := first (by omega)
      have hend : j + 1 = t.size := by
        have hix : Lib.index t.data.toList [46] = (j : Int) := by rw [Lib.index_one]; exact hj
        have hc := Lib.count_hit (s := t.data.toList) (sub := [46]) (by simp) hix
        rw [Lib.count_one, Lib.count_one, ← hcnt, hone.1] at hc
        have hz : (t.data.toList.drop (j + 1)).count 46 = 0 := by
          have e : ([46] : List UInt8).length = 1 := rfl
          rw [e] at hc
          omega
        by_cases hlt : j + 1 < t.size
        · exfalso
          have hin : t.size - 1 < t.data.toList.length := by rw [u8_len]; omega
          have hb := bt_u8 t (t.size - 1) hin
          rw [show ((t.size - 1 : Nat) : Int) = (t.size : Int) - 1 by omega, hone.2] at hb
          have hv : t.data.toList[t.size - 1]'hin = 46 := (u8_46 _).1 hb.symm
          have hmem : (46 : UInt8) ∈ t.data.toList.drop (j + 1) := by
            rw [List.mem_iff_getElem]
            refine ⟨t.size - 1 - (j + 1), by rw [List.length_drop, u8_len]; omega, ?_⟩
            rw [List.getElem_drop]
            have e : j + 1 + (t.size - 1 - (j + 1)) = t.size - 1 := by omega
            simp only [e]
            exact hv
          exact absurd (List.count_pos_iff.2 hmem) (by omega)
        · omega
      obtain ⟨k', hk', e⟩ := hl0 k j (by omega) hj
      rw [hR _ hk, if_pos hq3, qanatref03_Split.j0, if_neg Bool.false_ne_true, e, if_pos hq3, hend]
      have hex : t.extract 0 t.size = t := by
        apply bytesOf_inj
        rw [bytesOf_extract, List.drop_zero, Nat.sub_zero, List.take_of_length_le (by rw [bytesOf_length]; exact Nat.le_refl _)]
      rw [hex]
    · rw [if_neg hq3]
      by_cases hq4 : q = 4
      · rw [if_pos hq4]
        have hpos : 0 < (bytesOf t).count 46 := by
          rw [hq4] at g3
          unfold kd at g3
          split at g3
          · omega
          · split at g3
            · omega
            · omega
        obtain ⟨j, hj, hjl⟩ := first hpos
        have hix : Lib.index t.data.toList [46] = (j : Int) := by rw [Lib.index_one]; exact hj
        have hcut : strings_Cut.f t (⟨#[46]⟩ : ByteArray) = some (mkB (t.data.toList.take j), mkB (t.data.toList.drop (j + 1)), true) := by
          unfold strings_Cut.f
          have e : Lib.cut t.data.toList [46] = (t.data.toList.take j, t.data.toList.drop (j + 1), true) := by
            unfold Lib.cut
            rw [hix, if_pos (by omega)]
            rfl
          show (if t.size ≤ 100000 then some (mkB (Lib.cut t.data.toList [46]).1, mkB (Lib.cut t.data.toList [46]).2.1, (Lib.cut t.data.toList [46]).2.2) else none) = _
          rw [e, if_pos (by omega)]
        have hsp : strings_Split.f (mkB (t.data.toList.drop (j + 1))) (⟨#[46]⟩ : ByteArray) = some ((pcs 46 (t.data.toList.drop (j + 1))).map mkB) := by
          unfold strings_Split.f
          rw [if_pos ⟨by rw [mkB_size, List.length_drop, u8_len]; omega, by decide⟩]
          have hd := Lib.splitB_data (⟨#[46]⟩ : ByteArray) 0 (Lib.countB (mkB (t.data.toList.drop (j + 1))) (⟨#[46]⟩ : ByteArray)) (mkB (t.data.toList.drop (j + 1)))
          have hk : Lib.splitK [46] 0 (Lib.countB (mkB (t.data.toList.drop (j + 1))) (⟨#[46]⟩ : ByteArray)) (t.data.toList.drop (j + 1)) = pcs 46 (t.data.toList.drop (j + 1)) := splitK_pcs 46 _
          have hd2 : (Lib.splitB (⟨#[46]⟩ : ByteArray) 0 (Lib.countB (mkB (t.data.toList.drop (j + 1))) (⟨#[46]⟩ : ByteArray)) (mkB (t.data.toList.drop (j + 1)))).map (·.data.toList) = pcs 46 (t.data.toList.drop (j + 1)) := hd.trans hk
          rw [← hd2, List.map_map]
          refine congrArg some ?_
          exact ((List.map_congr_left fun x _ => mkB_data x).trans (List.map_id _)).symm
        have hhead : mkB (t.data.toList.take j) ++ (⟨#[46]⟩ : ByteArray) = t.extract 0 (j + 1) := by
          rw [show (⟨#[46]⟩ : ByteArray) = mkB [46] from rfl, mkB_app, mkB_ext, List.drop_zero, Nat.sub_zero]
          have hjd : j < t.data.toList.length := by rw [u8_len]; exact hjl
          have hv : t.data.toList[j]'hjd = 46 := by
            have key : ∀ (l : List UInt8) (j : Nat) (h : j < l.length), Lib.indexByte l 46 = (j : Int) → l[j]'h = 46 := fun l => by
              induction l with
              | nil => intro j h; exact absurd h (Nat.not_lt_zero _)
              | cons b l ih =>
                intro j h hh
                rw [Lib.indexByte] at hh
                by_cases hb : b = 46
                · rw [if_pos (beq_iff_eq.2 hb)] at hh
                  obtain rfl : j = 0 := by omega
                  exact hb
                · rw [if_neg (fun e => hb (beq_iff_eq.1 e))] at hh
                  by_cases hm : Lib.indexByte l 46 = -1
                  · rw [if_pos (beq_iff_eq.2 hm)] at hh; omega
                  · rw [if_neg (fun e => hm (beq_iff_eq.1 e))] at hh
                    have hge := Lib.indexByte_ge l 46
                    cases j with
                    | zero => omega
                    | succ j => exact ih j (Nat.lt_of_succ_lt_succ h) (by omega)
            exact key _ _ hjd hj
          rw [List.take_add_one, List.getElem?_eq_getElem hjd, hv]
          rfl
        refine ⟨t.extract 0 (j + 1), (pcs 46 (t.data.toList.drop (j + 1))).map mkB, 0, ?_, ?_, fun k hk => ?_⟩
        · rw [hcut, Option.bind_some]
          simp only []
          rw [if_pos (by rw [mkB_size, List.length_take]; omega), hsp, Option.bind_some, hhead]
        · have := pcs_len 46 (t.data.toList.drop (j + 1))
          rw [List.length_drop, u8_len] at this
          rw [List.length_map]
          omega
        · obtain ⟨k, rfl⟩ : ∃ k', k = k' + 1 := ⟨k - 1, by omega⟩
          obtain ⟨k', hk', e⟩ := hl0 k j (by omega) hj
          rw [hR _ hk, if_neg hq3, show (q != 4) = false by rw [hq4]; rfl, qanatref03_Split.j0, if_neg Bool.false_ne_true, e, if_neg hq3]
          have := rsplit_l1 t (by omega) q er 0 0 [] (t.extract 0 (j + 1)) (t.size - (j + 1)) k' (j + 1) [] [] (by omega) (by omega) (Nat.zero_le _) (Nat.zero_le _)
          rw [pcH_nil _ (pcs_ne _ _), List.nil_append] at this
          exact this
      · rw [if_neg hq4]
        refine ⟨_, _, _, rfl, Nat.zero_le _, fun k hk => ?_⟩
        obtain ⟨k, rfl⟩ : ∃ k', k = k' + 1 := ⟨k - 1, by omega⟩
        rw [hR _ hk, if_neg hq3, show (q != 4) = true from bne_iff_ne.2 hq4, qanatref03_Split.j0, if_pos rfl]
  · rw [if_neg he]
    refine ⟨_, _, _, rfl, Nat.zero_le _, fun k hk => ?_⟩
    unfold qanatref03_Split.f
    rw [h2 k hk, Option.bind_some]
    simp only []
    rw [if_neg he]
theorem scan_symbols_pure : qanatlaw03_ScanSymbols.Pure := fun a0 _ => by
  refine ⟨1000, ?_⟩
  have hsan : qanatlaw03_sanity.f = some true := rfl
  unfold qanatlaw03_ScanSymbols.f
  by_cases h : (a0.size : Int) > 200
  · rw [if_pos h, hsan]; rfl
  · rw [if_neg h]
    obtain ⟨t, q, er, h1, h2, _⟩ := symbol_same a0 (by omega)
    obtain ⟨x, l, er2, g1, g2, g3⟩ := split_same a0 (by omega)
    have hss : qanatref03_SameStrings.f 1000 l l = some true := by
      unfold qanatref03_SameStrings.f
      rw [if_pos rfl]
      exact same_strings l (by omega) l.length 1000 0 (by omega) (by omega)
    rw [h1, h2 1000 (Nat.le_refl _), g1, g3 1000 (Nat.le_refl _), hsan]
    simp only [Option.bind_some]
    rw [hss]
    simp
end Go.Proofs.YtkkpjonfaflkmaaGreatDoor.T
