/- Part 22 of the proof of ScanLiterals: the functions that it calls return what their plain descriptions say. -/
import Derived.Test.YtkkpjonfaflkmaaGreatDoorCScanLiterals21
import Derived.Test.YtkkpjonfaflkmaaGreatDoorCScanLiterals10
import Derived.Test.YtkkpjonfaflkmaaGreatDoorCScanLiterals11
import Derived.Test.YtkkpjonfaflkmaaGreatDoorCScanLiterals3
import Derived.Test.YtkkpjonfaflkmaaGreatDoorCScanLiterals4
import Derived.Test.YtkkpjonfaflkmaaGreatDoorCScanLiterals7
import Derived.Test.YtkkpjonfaflkmaaGreatDoorCScanLiterals15
import Derived.Test.YtkkpjonfaflkmaaGreatDoorCScanLiterals5

namespace Go.Proofs.YtkkpjonfaflkmaaGreatDoor.T
set_option linter.unusedSimpArgs false
set_option linter.unusedVariables false
open Go.RowKit Go.Proofs.YtkkpjonfaflkmaaGreatDoorW.PrintWords Go.Proofs.YtkkpjonfaflkmaaGreatDoorW.PrintLast Go.Proofs.YtkkpjonfaflkmaaGreatDoorW.PrintMore
theorem rplain_l0 (a0 : ByteArray) (hs : a0.size ≤ 100000) : ∀ (m k i : Nat), i + m = a0.size → m < k →
    qanatref03_Plain.l0 k a0 (i : Int) = some (((bytesOf a0).drop i).all S.prn)
  | 0, k, i, h, hk => by
    obtain ⟨k, rfl⟩ : ∃ k', k = k' + 1 := ⟨k - 1, by omega⟩
    rw [qanatref03_Plain.l0, if_neg (by omega), List.drop_of_length_le (by rw [bytesOf_length]; omega)]
    rfl
  | m + 1, k, i, h, hk => by
    obtain ⟨k, rfl⟩ : ∃ k', k = k' + 1 := ⟨k - 1, by omega⟩
    rw [qanatref03_Plain.l0, if_pos (by omega), if_pos (by omega), drop_bt a0 (by omega), List.all_cons, w64n (by omega)]
    have ih := rplain_l0 a0 hs m k (i + 1) (by omega) (by omega)
    unfold S.prn
    by_cases h1 : bt a0 (i : Int) < 32
    · rw [if_pos h1, decide_eq_false (show ¬ 32 ≤ bt a0 (i : Int) by omega)]; rfl
    · rw [if_neg h1, decide_eq_true (show 32 ≤ bt a0 (i : Int) by omega)]
      by_cases h2 : bt a0 (i : Int) > 126
      · rw [if_pos h2, decide_eq_false (show ¬ bt a0 (i : Int) ≤ 126 by omega)]; rfl
      · rw [if_neg h2, decide_eq_true (show bt a0 (i : Int) ≤ 126 by omega), ih]; rfl
theorem rplain (a0 : ByteArray) (hs : a0.size ≤ 100000) (k : Nat) (hk : a0.size < k) : qanatref03_Plain.f k a0 = some ((bytesOf a0).all S.prn) := rplain_l0 a0 hs a0.size k 0 (by omega) hk
theorem rcount_l0 (a0 : ByteArray) (hs : a0.size ≤ 100000) (x : Int) : ∀ (m k i c : Nat), i + m = a0.size → m < k → c ≤ i →
    qanatref03_count.l0 k a0 x (c : Int) (i : Int) = some ((c + ((bytesOf a0).drop i).count x : Nat) : Int)
  | 0, k, i, c, h, hk, hc => by
    obtain ⟨k, rfl⟩ : ∃ k', k = k' + 1 := ⟨k - 1, by omega⟩
    rw [qanatref03_count.l0, if_neg (by omega), List.drop_of_length_le (by rw [bytesOf_length]; omega)]
    rfl
  | m + 1, k, i, c, h, hk, hc => by
    obtain ⟨k, rfl⟩ : ∃ k', k = k' + 1 := ⟨k - 1, by omega⟩
    rw [qanatref03_count.l0, if_pos (by omega), if_pos (by omega), drop_bt a0 (by omega), List.count_cons, w64n (by omega), w64n (by omega)]
    by_cases h1 : bt a0 (i : Int) = x
    · rw [if_pos h1, rcount_l0 a0 hs x m k (i + 1) (c + 1) (by omega) (by omega) (by omega), if_pos (beq_iff_eq.2 h1)]
      have e : c + 1 + ((bytesOf a0).drop (i + 1)).count x = c + (((bytesOf a0).drop (i + 1)).count x + 1) := by omega
      rw [e]
    · rw [if_neg h1, rcount_l0 a0 hs x m k (i + 1) c (by omega) (by omega) (by omega), if_neg (fun e => h1 (beq_iff_eq.1 e))]
      rfl
theorem rcount (a0 : ByteArray) (hs : a0.size ≤ 100000) (x : Int) (k : Nat) (hk : a0.size < k) : qanatref03_count.f k a0 x = some (((bytesOf a0).count x : Nat) : Int) := by
  have := rcount_l0 a0 hs x a0.size k 0 0 (by omega) hk (Nat.le_refl _)
  rw [List.drop_zero, Nat.zero_add] at this
  exact this
theorem rquoted_l0 (a0 : ByteArray) (hs : a0.size ≤ 100000) (q : Int) : ∀ (m k i : Nat) (acc : List Int), i + m = a0.size → m < k → acc.length ≤ 2 * i + 1 →
    qanatref03_quoted.l0 k a0 q acc (i : Int) = some (strOfNums (acc ++ (S.dbl q ((bytesOf a0).drop i) ++ [q])))
  | 0, k, i, acc, h, hk, hc => by
    obtain ⟨k, rfl⟩ : ∃ k', k = k' + 1 := ⟨k - 1, by omega⟩
    rw [qanatref03_quoted.l0, if_neg (by omega), List.drop_of_length_le (by rw [bytesOf_length]; omega), if_pos (by omega)]
    rfl
  | m + 1, k, i, acc, h, hk, hc => by
    obtain ⟨k, rfl⟩ : ∃ k', k = k' + 1 := ⟨k - 1, by omega⟩
    rw [qanatref03_quoted.l0, if_pos (by omega), if_pos (by omega), if_pos (by omega), Option.bind_some, drop_bt a0 (by omega), S.dbl_cons, w64n (by omega)]
    by_cases h1 : bt a0 (i : Int) = q
    · rw [if_pos h1, if_pos h1, if_pos (by rw [List.length_append, List.length_singleton]; omega), rquoted_l0 a0 hs q m k (i + 1) _ (by omega) (by omega) (by simp only [List.length_append, List.length_singleton]; omega), h1]
      simp
    · rw [if_neg h1, if_neg h1, rquoted_l0 a0 hs q m k (i + 1) _ (by omega) (by omega) (by simp only [List.length_append, List.length_singleton]; omega)]
      simp
theorem rquoted (a0 : ByteArray) (hs : a0.size ≤ 100000) (q : Int) (k : Nat) (hk : a0.size < k) : qanatref03_quoted.f k a0 q = some (strOfNums (q :: (S.dbl q (bytesOf a0) ++ [q]))) := by
  have := rquoted_l0 a0 hs q a0.size k 0 [q] (by omega) hk (Nat.le_refl _)
  rw [List.drop_zero] at this
  exact this
theorem literal_same (a0 : ByteArray) (hs : a0.size ≤ 2100) : ∃ t er, scan_Literal.f a0 = some (t, er) ∧ ∀ k, 3000 ≤ k → qanatref03_Literal.f k a0 = some (t, 0, [], er) := by
  unfold scan_Literal.f
  by_cases h : 1000 < a0.size ∨ (bytesOf a0).all S.prn = false
  · refine ⟨⟨#[]⟩, 1, if_pos h, fun k hk => ?_⟩
    obtain ⟨k, rfl⟩ : ∃ k', k = k' + 1 := ⟨k - 1, by omega⟩
    unfold qanatref03_Literal.f
    by_cases h1 : (a0.size : Int) > 1000
    · rw [if_pos h1, qanatref03_Literal.j0, if_pos rfl]
    · rw [if_neg h1, rplain a0 (by omega) _ (by omega), Option.bind_some, h.resolve_left (by omega), qanatref03_Literal.j0, if_pos (show (!false) = true from rfl)]
  · refine ⟨_, _, if_neg h, fun k hk => ?_⟩
    obtain ⟨k, rfl⟩ : ∃ k', k = k' + 1 := ⟨k - 1, by omega⟩
    have h1 : ¬ (a0.size : Int) > 1000 := fun e => h (.inl (by omega))
    have h2 : (bytesOf a0).all S.prn = true := by
      cases hp : (bytesOf a0).all S.prn with
      | true => rfl
      | false => exact absurd (.inr hp) h
    unfold qanatref03_Literal.f
    rw [if_neg h1, rplain a0 (by omega) _ (by omega), Option.bind_some, h2, qanatref03_Literal.j0, if_neg (show ¬ (!true) = true from Bool.false_ne_true), rcount a0 (by omega) 34 k (by omega), rcount a0 (by omega) 39 k (by omega)]
    simp only [Option.bind_some]
    rw [rquoted a0 (by omega) 34 k (by omega), rquoted a0 (by omega) 39 k (by omega)]
    unfold S.quote S.qOf
    by_cases hc : (bytesOf a0).count 34 < (bytesOf a0).count 39
    · rw [if_pos hc, if_pos (by omega)]; rfl
    · rw [if_neg hc, if_neg (by omega)]; rfl
end Go.Proofs.YtkkpjonfaflkmaaGreatDoor.T

namespace Go.Proofs.YtkkpjonfaflkmaaGreatDoor.T
set_option linter.unusedSimpArgs false
open Go.RowKit Go.Proofs.YtkkpjonfaflkmaaGreatDoorW.PrintWords Go.Proofs.YtkkpjonfaflkmaaGreatDoorW.PrintLast Go.Proofs.YtkkpjonfaflkmaaGreatDoorW.PrintMore
attribute [local go_sem] max2_int min2_int max_two min_two max_three min_three max_four min_four   -- for this text's walks alone
set_option linter.unusedVariables false
set_option linter.unusedSimpArgs false
end Go.Proofs.YtkkpjonfaflkmaaGreatDoor.T

namespace Go.Proofs.YtkkpjonfaflkmaaGreatDoor.T
set_option linter.unusedSimpArgs false
open Go.RowKit Go.Proofs.YtkkpjonfaflkmaaGreatDoorW.PrintWords Go.Proofs.YtkkpjonfaflkmaaGreatDoorW.PrintLast Go.Proofs.YtkkpjonfaflkmaaGreatDoorW.PrintMore
attribute [local go_sem] max2_int min2_int max_two min_two max_three min_three max_four min_four   -- for this text's walks alone
set_option linter.unusedVariables false
set_option linter.unusedSimpArgs false
end Go.Proofs.YtkkpjonfaflkmaaGreatDoor.T

namespace Go.Proofs.YtkkpjonfaflkmaaGreatDoor.S
set_option linter.unusedSimpArgs false
set_option linter.unusedVariables false
end Go.Proofs.YtkkpjonfaflkmaaGreatDoor.S

namespace Go.Proofs.YtkkpjonfaflkmaaGreatDoor.T
set_option linter.unusedSimpArgs false
set_option linter.unusedVariables false
open Go.RowKit Go.Proofs.YtkkpjonfaflkmaaGreatDoorW.PrintWords Go.Proofs.YtkkpjonfaflkmaaGreatDoorW.PrintLast Go.Proofs.YtkkpjonfaflkmaaGreatDoorW.PrintMore
theorem rdigit (c : Int) : qanatref03_digit.f c = some (S.dig c) := by
  unfold qanatref03_digit.f S.dig
  by_cases h : c ≥ 48
  · rw [if_pos h, decide_eq_true (show (48 : Int) ≤ c from h)]; simp
  · rw [if_neg h, decide_eq_false (show ¬ (48 : Int) ≤ c from h)]; simp
theorem rletter (c : Int) : qanatref03_letter.f c = some ((decide (97 ≤ c) && decide (c ≤ 122)) || (decide (65 ≤ c) && decide (c ≤ 90))) := by
  unfold qanatref03_letter.f
  by_cases h : c ≥ 97
  · rw [if_pos h, decide_eq_true (show (97 : Int) ≤ c from h)]
    by_cases h2 : c ≤ 122
    · rw [if_pos h2, decide_eq_true h2]; simp
    · rw [if_neg h2, decide_eq_false h2, if_pos (by omega), decide_eq_false (show ¬ c ≤ 90 by omega)]; simp
  · rw [if_neg h, decide_eq_false (show ¬ (97 : Int) ≤ c from h)]
    by_cases h2 : c ≥ 65
    · rw [if_pos h2, decide_eq_true (show (65 : Int) ≤ c from h2)]; simp
    · rw [if_neg h2, decide_eq_false (show ¬ (65 : Int) ≤ c from h2)]; simp
theorem rchar (c : Int) : qanatref03_Char.f c = some (S.sym c) := by
  unfold qanatref03_Char.f
  rw [rletter, rdigit]
  simp only [Option.bind_some]
  unfold S.sym S.dig
  cases (decide (97 ≤ c) && decide (c ≤ 122)) || (decide (65 ≤ c) && decide (c ≤ 90)) with
  | true => simp
  | false =>
    cases decide (48 ≤ c) && decide (c ≤ 57) with
    | true => simp
    | false =>
      by_cases h1 : c = 46
      · simp [h1]
      · by_cases h2 : c = 95
        · simp [h2]
        · by_cases h3 : c = 33
          · simp [h3]
          · simp [h1, h2, h3]
            exact Bool.beq_eq_decide_eq c 63
end Go.Proofs.YtkkpjonfaflkmaaGreatDoor.T

namespace Go.Proofs.YtkkpjonfaflkmaaGreatDoor.T
set_option linter.unusedSimpArgs false
set_option linter.unusedVariables false
open Go.RowKit Go.Proofs.YtkkpjonfaflkmaaGreatDoorW.PrintWords Go.Proofs.YtkkpjonfaflkmaaGreatDoorW.PrintLast Go.Proofs.YtkkpjonfaflkmaaGreatDoorW.PrintMore
theorem rhex (c : Int) (h0 : 0 ≤ c) (h1 : c ≤ 255) (k : Nat) (hk : 0 < k) : qanatref03_hex.f k c = some (S.hexv c) := by
  obtain ⟨k, rfl⟩ : ∃ k', k = k' + 1 := ⟨k - 1, by omega⟩
  unfold qanatref03_hex.f
  rw [rdigit, Option.bind_some]
  unfold S.hexv
  have hd : S.dig c = true ↔ (48 ≤ c ∧ c ≤ 57) := by unfold S.dig; simp
  by_cases h : 48 ≤ c ∧ c ≤ 57
  · rw [if_pos (hd.2 h), if_pos h]
    congr 1; omega
  · rw [if_neg (fun e => h (hd.1 e)), if_neg h]
    by_cases h97 : c ≥ 97
    · rw [if_pos h97, qanatref03_hex.j0]
      by_cases h2 : c ≤ 102
      · rw [if_pos (decide_eq_true h2), if_pos ⟨h97, h2⟩]
        congr 1; omega
      · rw [if_neg (by rw [decide_eq_false h2]; exact Bool.false_ne_true), if_neg (show ¬ (97 ≤ c ∧ c ≤ 102) from fun e => h2 e.2), if_pos (show c ≥ 65 by omega), if_neg (show ¬ c ≤ 70 by omega), if_neg (show ¬ (65 ≤ c ∧ c ≤ 70) by omega)]
    · rw [if_neg h97, qanatref03_hex.j0, if_neg Bool.false_ne_true, if_neg (show ¬ (97 ≤ c ∧ c ≤ 102) from fun e => h97 e.1)]
      by_cases h2 : c ≥ 65
      · rw [if_pos h2]
        by_cases h3 : c ≤ 70
        · rw [if_pos h3, if_pos ⟨h2, h3⟩]
          congr 1; omega
        · rw [if_neg h3, if_neg (show ¬ (65 ≤ c ∧ c ≤ 70) from fun e => h3 e.2)]
      · rw [if_neg h2, if_neg (show ¬ (65 ≤ c ∧ c ≤ 70) from fun e => h2 e.1)]
theorem acc_step (n P : Nat) (base v : Int) (hb : base = 16 ∨ base = 2) (h1 : ¬ v < 0) (h2 : ¬ v ≥ base) (hn : n + 1 ≤ P) (hp : P ≤ 268435456) :
    ∃ n2 : Nat, (n : Int) * base + v = (n2 : Int) ∧ n2 + 1 ≤ P * 16 ∧ wrap64 (wrap64 ((n : Int) * base) + v) = (n2 : Int) := by
  rcases hb with rfl | rfl
  · have e : wrap64 ((n : Int) * 16) = (n : Int) * 16 := by unfold wrap64; omega
    have e2 : wrap64 ((n : Int) * 16 + v) = (n : Int) * 16 + v := by unfold wrap64; omega
    rw [e, e2]
    clear e e2
    obtain ⟨y, rfl⟩ := Int.eq_ofNat_of_zero_le (show 0 ≤ v by omega)
    exact ⟨n * 16 + y, by omega, by omega, by omega⟩
  · have e : wrap64 ((n : Int) * 2) = (n : Int) * 2 := by unfold wrap64; omega
    have e2 : wrap64 ((n : Int) * 2 + v) = (n : Int) * 2 + v := by unfold wrap64; omega
    rw [e, e2]
    clear e e2
    obtain ⟨y, rfl⟩ := Int.eq_ofNat_of_zero_le (show 0 ≤ v by omega)
    exact ⟨n * 2 + y, by omega, by omega, by omega⟩
theorem rbytes_l1 (x : ByteArray) (hs : x.size ≤ 100000) (base : Int) (w : Nat) (hb : base = 16 ∨ base = 2) (hw : w = 2 ∨ w = 8) (acc : List Int) (ha : acc.length ≤ 100000) (i : Nat) (hi : i + w ≤ x.size) :
    ∀ (r k j : Nat) (n : Nat), j + r = w → r + 1 < k → n + 1 ≤ 16 ^ j → ∃ k', k ≤ k' + r + 1 ∧ qanatref03_Bytes.l1 k x base (w : Int) acc (i : Int) (n : Int) (j : Int) =
      (match S.decG base (((bytesOf x).drop (i + j)).take r) (n : Int) with
       | none => some ((⟨#[]⟩ : ByteArray), false)
       | some v => if S.prn v = true then qanatref03_Bytes.l0 k' x base (w : Int) (acc ++ [v]) ((i + w : Nat) : Int) else some ((⟨#[]⟩ : ByteArray), false))
  | 0, k, j, n, h, hk, hn => by
    obtain ⟨k, rfl⟩ : ∃ k', k = k' + 1 := ⟨k - 1, by omega⟩
    refine ⟨k, by omega, ?_⟩
    rw [List.take_zero, S.decG, qanatref03_Bytes.l1, if_neg (by omega)]
    unfold S.prn
    have hwi : wrap64 ((i : Int) + (w : Int)) = ((i + w : Nat) : Int) := by unfold wrap64; omega
    by_cases h1 : (n : Int) < 32
    · rw [if_pos h1]
      simp only []
      rw [decide_eq_false (show ¬ 32 ≤ (n : Int) by omega), if_neg (by simp)]
    · rw [if_neg h1]
      simp only []
      rw [decide_eq_true (show 32 ≤ (n : Int) by omega)]
      by_cases h2 : (n : Int) > 126
      · rw [if_pos h2, decide_eq_false (show ¬ (n : Int) ≤ 126 by omega), if_neg (by simp)]
      · rw [if_neg h2, decide_eq_true (show (n : Int) ≤ 126 by omega), if_pos (show (true && true) = true from rfl), if_pos (by omega), hwi, show ((n : Int)) % 256 = (n : Int) by omega]
  | r + 1, k, j, n, h, hk, hn => by
    obtain ⟨k, rfl⟩ : ∃ k', k = k' + 1 := ⟨k - 1, by omega⟩
    have hwi : wrap64 ((i : Int) + (j : Int)) = ((i + j : Nat) : Int) := by unfold wrap64; omega
    have hr := bt_range x ((i + j : Nat) : Int)
    have hp : (16 : Nat) ^ j ≤ 268435456 := Nat.le_trans (Nat.pow_le_pow_right (by decide) (show j ≤ 7 by omega)) (by decide : (16 : Nat) ^ 7 ≤ 268435456)
    have hps : (16 : Nat) ^ (j + 1) = 16 ^ j * 16 := Nat.pow_succ _ _
    obtain ⟨P, hP⟩ : ∃ P, (16 : Nat) ^ j = P := ⟨_, rfl⟩
    rw [hP] at hn hp hps
    have HPS := Aside0.mk hps
    clear hps hP
    rw [qanatref03_Bytes.l1, if_pos (by omega), hwi, if_pos (by omega), if_pos (by omega), rhex _ hr.1 hr.2 k (by omega), Option.bind_some, drop_bt x (by omega), List.take_succ_cons, S.decG]
    generalize S.hexv (bt x ((i + j : Nat) : Int)) = v
    by_cases h1 : v < 0
    · rw [if_pos h1, if_pos (.inl h1)]
      exact ⟨k, by omega, rfl⟩
    · rw [if_neg h1]
      by_cases h2 : v ≥ base
      · rw [if_pos h2, if_pos (.inr h2)]
        exact ⟨k, by omega, rfl⟩
      · rw [if_neg h2, if_neg (show ¬ (v < 0 ∨ base ≤ v) from fun e => e.elim h1 h2), w64n (by omega)]
        obtain ⟨n2, hn2, hb2, e1⟩ := acc_step n P base v hb h1 h2 hn hp
        rw [e1, hn2]
        obtain ⟨k', hk', e⟩ := rbytes_l1 x hs base w hb hw acc ha i hi r k (j + 1) n2 (by omega) (by omega) (by rw [HPS.out]; exact hb2)
        exact ⟨k', by omega, e⟩
theorem rbytes_l0 (x : ByteArray) (hs : x.size ≤ 100000) (base : Int) (w : Nat) (hb : base = 16 ∨ base = 2) (hw : w = 2 ∨ w = 8) :
    ∀ (g k i : Nat) (acc : List Int), i + g * w = x.size → 4 * (g * w) + 1 < k → acc.length ≤ i → qanatref03_Bytes.l0 k x base (w : Int) acc (i : Int) =
      (match S.decK base w g ((bytesOf x).drop i) with
       | none => some ((⟨#[]⟩ : ByteArray), false)
       | some u => some (strOfNums (acc ++ u), true))
  | 0, k, i, acc, h, hk, ha => by
    obtain ⟨k, rfl⟩ : ∃ k', k = k' + 1 := ⟨k - 1, by omega⟩
    rw [qanatref03_Bytes.l0, if_neg (by omega), S.decK]
    show _ = some (strOfNums (acc ++ []), true)
    rw [List.append_nil]
  | g + 1, k, i, acc, h, hk, ha => by
    have hgw : (g + 1) * w = g * w + w := Nat.succ_mul g w
    rw [hgw] at h hk
    clear hgw
    obtain ⟨k, rfl⟩ : ∃ k', k = k' + 1 := ⟨k - 1, by omega⟩
    obtain ⟨k', hk', e⟩ := rbytes_l1 x hs base w hb hw acc (by omega) i (by omega) w k 0 0 (by omega) (by omega) (Nat.le_refl _)
    have e' : qanatref03_Bytes.l1 k x base (w : Int) acc (i : Int) 0 0 = _ := e
    rw [qanatref03_Bytes.l0, if_pos (by omega), e', S.decK, Nat.add_zero]
    show (match S.decG base (((bytesOf x).drop i).take w) 0 with
       | none => some ((⟨#[]⟩ : ByteArray), false)
       | some v => if S.prn v = true then qanatref03_Bytes.l0 k' x base (w : Int) (acc ++ [v]) ((i + w : Nat) : Int) else some ((⟨#[]⟩ : ByteArray), false)) = _
    cases S.decG base (((bytesOf x).drop i).take w) 0 with
    | none => rfl
    | some v =>
      simp only []
      by_cases hv : S.prn v = true
      · rw [if_pos hv, if_pos hv, rbytes_l0 x hs base w hb hw g k' (i + w) (acc ++ [v]) (by omega) (by omega) (by rw [List.length_append, List.length_singleton]; omega), List.drop_drop]
        cases S.decK base w g ((bytesOf x).drop (i + w)) with
        | none => rfl
        | some u => simp
      · rw [if_neg hv, if_neg hv]
theorem rbytes (x : ByteArray) (hs : x.size ≤ 100000) (base : Int) (w : Nat) (hb : base = 16 ∨ base = 2) (hw : w = 2 ∨ w = 8) (k : Nat) (hk : 4 * x.size + 1 < k) : qanatref03_Bytes.f k x base (w : Int) =
      (match S.decode base w (bytesOf x) with
       | none => some ((⟨#[]⟩ : ByteArray), false)
       | some u => some (strOfNums u, true)) := by
  unfold qanatref03_Bytes.f S.decode
  rw [if_neg (by omega), bytesOf_length]
  have hm : (x.size : Int) % (w : Int) = ((x.size % w : Nat) : Int) := (Int.natCast_emod _ _).symm
  rw [hm]
  by_cases h : x.size % w = 0
  · rw [if_pos (by omega), if_neg (show ¬ x.size % w ≠ 0 from fun e => e h)]
    have hg : x.size / w * w = x.size := Nat.div_mul_cancel (Nat.dvd_of_mod_eq_zero h)
    have := rbytes_l0 x hs base w hb hw (x.size / w) k 0 [] (by omega) (by omega) (Nat.le_refl _)
    rw [List.drop_zero] at this
    exact this
  · rw [if_neg (by omega), if_pos h]
end Go.Proofs.YtkkpjonfaflkmaaGreatDoor.T

namespace Go.Proofs.YtkkpjonfaflkmaaGreatDoor.S
set_option linter.unusedSimpArgs false
set_option linter.unusedVariables false
theorem lit_raw (q : Int) : ∀ (xs : List Int) (i : Nat) (acc v : List Int) (e : Nat), lit q xs i acc = some (v, e) →
    ∃ u r, i + r.length = e ∧ r = xs.take (e - i) ∧ v = acc ++ u ∧ r.all prn = u.all prn ∧ (q ∈ r ↔ q ∈ u) ∧ (q ∉ r → r = u) ∧ e < i + xs.length
  | [], i, acc, v, e, h => by simp [lit] at h
  | [c], i, acc, v, e, h => by
    rw [lit] at h
    split at h
    · cases h
    · split at h
      · obtain ⟨rfl, rfl⟩ := Prod.mk.inj (Option.some.inj h)
        exact ⟨[], [], rfl, by simp, by simp, rfl, Iff.rfl, fun _ => rfl, by simp⟩
      · cases h
  | c :: d :: t, i, acc, v, e, h => by
    rw [lit] at h
    split at h
    · cases h
    · split at h
      · next hc =>
        split at h
        · next hd =>
          obtain ⟨u, r, h1, h2, h3, h4, h5, h6, h7⟩ := lit_raw q t (i + 2) (acc ++ [q]) v e h
          refine ⟨q :: u, q :: q :: r, by simp only [List.length_cons]; omega, ?_, by rw [h3]; simp, by simp [h4], by simp, fun hn => absurd (List.mem_cons_self) hn, by simp only [List.length_cons]; omega⟩
          rw [show e - i = e - (i + 2) + 2 by omega, List.take_succ_cons, List.take_succ_cons, ← h2, hc, hd]
        · obtain ⟨rfl, rfl⟩ := Prod.mk.inj (Option.some.inj h)
          exact ⟨[], [], rfl, by simp, by simp, rfl, Iff.rfl, fun _ => rfl, by simp⟩
      · next hc =>
        obtain ⟨u, r, h1, h2, h3, h4, h5, h6, h7⟩ := lit_raw q (d :: t) (i + 1) (acc ++ [c]) v e h
        refine ⟨c :: u, c :: r, by simp only [List.length_cons]; omega, ?_, by rw [h3]; simp, by simp [h4], ?_, ?_, by simp only [List.length_cons] at h7 ⊢; omega⟩
        · rw [show e - i = e - (i + 1) + 1 by omega, List.take_succ_cons, ← h2]
        · simp [h5]
        · intro hn
          rw [h6 (fun e => hn (List.mem_cons_of_mem _ e))]
theorem decG_bad (base : Int) {q : Int} (hq : hexv q < 0) : ∀ (xs : List Int) (n : Int), q ∈ xs → decG base xs n = none
  | [], _, h => by cases h
  | c :: t, n, h => by
    rw [decG]
    split
    · rfl
    · next hc =>
      rcases List.mem_cons.1 h with rfl | h
      · exact absurd (.inl hq) hc
      · exact decG_bad base hq t _ h
theorem decK_bad (base : Int) (w : Nat) {q : Int} (hq : hexv q < 0) : ∀ (g : Nat) (xs : List Int), xs.length = g * w → q ∈ xs → decK base w g xs = none
  | 0, xs, h, hx => by
    rw [Nat.zero_mul] at h
    rw [List.length_eq_zero_iff.1 h] at hx
    cases hx
  | g + 1, xs, h, hx => by
    have hgw : (g + 1) * w = g * w + w := Nat.succ_mul g w
    rw [hgw] at h
    rw [decK]
    rw [← List.take_append_drop w xs] at hx
    rcases List.mem_append.1 hx with e | e
    · rw [decG_bad base hq _ _ e]
    · rw [decK_bad base w hq g (xs.drop w) (by rw [List.length_drop]; omega) e]
      cases decG base (xs.take w) 0 with
      | none => rfl
      | some n => simp
theorem decode_bad (base : Int) (w : Nat) {q : Int} (hq : hexv q < 0) (xs : List Int) (hx : q ∈ xs) : decode base w xs = none := by
  unfold decode
  split
  · rfl
  · next h =>
    refine decK_bad base w hq _ xs ?_ hx
    rw [Nat.div_mul_cancel (Nat.dvd_of_mod_eq_zero (by omega))]
theorem decK_prn2 (base : Int) (w : Nat) : ∀ (g : Nat) (xs u : List Int), decK base w g xs = some u → ∀ x ∈ u, prn x = true
  | 0, xs, u, h => by
    rw [decK] at h
    rw [← Option.some.inj h]
    intro x hx; cases hx
  | g + 1, xs, u, h => by
    rw [decK] at h
    split at h
    · cases h
    · next n _ =>
      split at h
      · next hn =>
        obtain ⟨u', h1, rfl⟩ := Option.map_eq_some_iff.1 h
        intro x hx
        rcases List.mem_cons.1 hx with rfl | hx
        · exact hn
        · exact decK_prn2 base w g _ _ h1 x hx
      · cases h
theorem decode_prn2 {base : Int} {w : Nat} {xs u : List Int} (h : decode base w xs = some u) : ∀ x ∈ u, prn x = true := by
  unfold decode at h
  split at h
  · cases h
  · exact decK_prn2 base w _ _ _ h
theorem prn_byte2 {x : Int} (h : prn x = true) : 0 ≤ x ∧ x < 256 := by
  unfold prn at h
  simp at h
  omega
end Go.Proofs.YtkkpjonfaflkmaaGreatDoor.S
namespace Go.Proofs.YtkkpjonfaflkmaaGreatDoor.T
set_option linter.unusedSimpArgs false
set_option linter.unusedVariables false
open Go.RowKit Go.Proofs.YtkkpjonfaflkmaaGreatDoorW.PrintWords Go.Proofs.YtkkpjonfaflkmaaGreatDoorW.PrintLast Go.Proofs.YtkkpjonfaflkmaaGreatDoorW.PrintMore
def rrOf : S.TR → Int × ByteArray × Int × Int × Int
  | .err c => (0, ⟨#[]⟩, 0, (c : Int), 1)
  | .ok t n => (2, strOfNums t, (n : Int), 0, 0)
theorem rlit_loop (a0 : ByteArray) (hs : a0.size ≤ 10000) (q : Int) (hq : q ≠ 10) : ∀ (m k i : Nat) (acc : List Int), i + m = a0.size → 3 * m + 3 < k → acc.length ≤ i →
    match S.lit q ((bytesOf a0).drop i) i acc with
    | none => qanatref03_literal.l0 k a0 1 q acc 1 (-1) (i : Int) = some (0, ⟨#[]⟩, 0, 6, 1)
    | some (v, e) => ∃ k', k ≤ k' + 3 * m + 3 ∧ qanatref03_literal.l0 k a0 1 q acc 1 (-1) (i : Int) = qanatref03_literal.l0 k' a0 1 q v 1 ((e + 1 : Nat) : Int) (e : Int)
  | 0, k, i, acc, h, hk, ha => by
    obtain ⟨k, rfl⟩ : ∃ k', k = k' + 2 := ⟨k - 2, by omega⟩
    rw [List.drop_of_length_le (by rw [bytesOf_length]; omega), S.lit]
    show qanatref03_literal.l0 (k + 1 + 1) a0 1 q acc 1 (-1) (i : Int) = some (0, ⟨#[]⟩, 0, 6, 1)
    rw [qanatref03_literal.l0, if_pos (by decide), if_pos (by omega), qanatref03_literal.j1, if_pos rfl]
  | m + 1, k, i, acc, h, hk, ha => by
    obtain ⟨k, rfl⟩ : ∃ k', k = k' + 3 := ⟨k - 3, by omega⟩
    have e0 : qanatref03_literal.l0 (k + 3) a0 1 q acc 1 (-1) (i : Int) = qanatref03_literal.j1 (k + 2) a0 1 q acc 1 (-1) (i : Int) (bt a0 (i : Int) == 10) := by
      rw [qanatref03_literal.l0, if_pos (by decide), if_neg (by omega), if_pos (by omega), if_pos (by omega)]
    rw [e0, drop_bt a0 (by omega)]
    by_cases h10 : bt a0 (i : Int) = 10
    · have hl : S.lit q (bt a0 (i : Int) :: (bytesOf a0).drop (i + 1)) i acc = none := by
        cases (bytesOf a0).drop (i + 1) with
        | nil => rw [S.lit, if_pos h10]
        | cons d t => rw [S.lit, if_pos h10]
      rw [hl]
      show qanatref03_literal.j1 (k + 2) a0 1 q acc 1 (-1) (i : Int) (bt a0 (i : Int) == 10) = _
      rw [qanatref03_literal.j1, if_pos (beq_iff_eq.2 h10)]
    · have hne : ¬ (bt a0 (i : Int) == 10) = true := fun e => h10 (beq_iff_eq.1 e)
      have hw2 : wrap64 ((i : Int) + 2) = ((i + 2 : Nat) : Int) := by unfold wrap64; omega
      have hw1 : wrap64 ((i : Int) + 1) = ((i + 1 : Nat) : Int) := w64n (by omega)
      have e1 : qanatref03_literal.j1 (k + 2) a0 1 q acc 1 (-1) (i : Int) (bt a0 (i : Int) == 10) = if bt a0 (i : Int) = q then (if i + 1 < a0.size then qanatref03_literal.j2 (k + 1) a0 1 q acc 1 (-1) (i : Int) (bt a0 ((i + 1 : Nat) : Int) == q) else qanatref03_literal.j2 (k + 1) a0 1 q acc 1 (-1) (i : Int) false) else qanatref03_literal.j2 (k + 1) a0 1 q acc 1 (-1) (i : Int) false := by
        rw [qanatref03_literal.j1, if_neg hne, if_pos (by omega), if_pos (by omega), hw1]
        by_cases hc : bt a0 (i : Int) = q
        · rw [if_pos hc, if_pos hc]
          by_cases hl : i + 1 < a0.size
          · rw [if_pos hl, if_pos (show ((i + 1 : Nat) : Int) < (a0.size : Int) by omega), if_pos (show (0 : Int) ≤ ((i + 1 : Nat) : Int) by omega)]
          · rw [if_neg hl, if_neg (show ¬ ((i + 1 : Nat) : Int) < (a0.size : Int) by omega)]
        · rw [if_neg hc, if_neg hc]
      have j2t : qanatref03_literal.j2 (k + 1) a0 1 q acc 1 (-1) (i : Int) true = qanatref03_literal.l0 k a0 1 q (acc ++ [q]) 1 (-1) ((i + 2 : Nat) : Int) := by
        rw [qanatref03_literal.j2, if_pos rfl, if_pos (by omega), hw2]
      have j2q : bt a0 (i : Int) = q → qanatref03_literal.j2 (k + 1) a0 1 q acc 1 (-1) (i : Int) false = qanatref03_literal.l0 k a0 1 q acc 1 ((i + 1 : Nat) : Int) (i : Int) := fun hc => by
        rw [qanatref03_literal.j2, if_neg Bool.false_ne_true, if_pos (by omega), if_pos (by omega), if_pos hc, hw1]
      have j2n : bt a0 (i : Int) ≠ q → qanatref03_literal.j2 (k + 1) a0 1 q acc 1 (-1) (i : Int) false = qanatref03_literal.l0 k a0 1 q (acc ++ [bt a0 (i : Int)]) 1 (-1) ((i + 1 : Nat) : Int) := fun hc => by
        rw [qanatref03_literal.j2, if_neg Bool.false_ne_true, if_pos (by omega), if_pos (by omega), if_neg hc, if_pos (by omega), hw1]
      rw [e1]
      by_cases hlast : i + 1 = a0.size
      · have hd : (bytesOf a0).drop (i + 1) = [] := List.drop_of_length_le (by rw [bytesOf_length]; omega)
        rw [hd, S.lit, if_neg h10]
        by_cases hc : bt a0 (i : Int) = q
        · rw [if_pos hc, if_pos hc, if_neg (show ¬ i + 1 < a0.size by omega), j2q hc]
          exact ⟨k, by omega, rfl⟩
        · rw [if_neg hc, if_neg hc, j2n hc]
          show qanatref03_literal.l0 k a0 1 q (acc ++ [bt a0 (i : Int)]) 1 (-1) ((i + 1 : Nat) : Int) = some (0, ⟨#[]⟩, 0, 6, 1)
          obtain ⟨k2, rfl⟩ : ∃ k', k = k' + 2 := ⟨k - 2, by omega⟩
          rw [qanatref03_literal.l0, if_pos (by decide), if_pos (by omega), qanatref03_literal.j1, if_pos rfl]
      · have hd2 := drop_bt a0 (i := i + 1) (by omega)
        rw [hd2, S.lit, if_neg h10]
        by_cases hc : bt a0 (i : Int) = q
        · rw [if_pos hc, if_pos hc, if_pos (show i + 1 < a0.size by omega)]
          by_cases hd : bt a0 ((i + 1 : Nat) : Int) = q
          · rw [if_pos hd, show (bt a0 ((i + 1 : Nat) : Int) == q) = true from beq_iff_eq.2 hd, j2t]
            obtain ⟨m, rfl⟩ : ∃ m', m = m' + 1 := ⟨m - 1, by omega⟩
            have ih := rlit_loop a0 hs q hq m k (i + 2) (acc ++ [q]) (by omega) (by omega) (by rw [List.length_append, List.length_singleton]; omega)
            show match S.lit q ((bytesOf a0).drop (i + 2)) (i + 2) (acc ++ [q]) with
              | none => qanatref03_literal.l0 k a0 1 q (acc ++ [q]) 1 (-1) ((i + 2 : Nat) : Int) = some (0, ⟨#[]⟩, 0, 6, 1)
              | some (v, e) => ∃ k', k + 3 ≤ k' + 3 * (m + 1 + 1) + 3 ∧ qanatref03_literal.l0 k a0 1 q (acc ++ [q]) 1 (-1) ((i + 2 : Nat) : Int) = qanatref03_literal.l0 k' a0 1 q v 1 ((e + 1 : Nat) : Int) (e : Int)
            cases hl : S.lit q ((bytesOf a0).drop (i + 2)) (i + 2) (acc ++ [q]) with
            | none => rw [hl] at ih; exact ih
            | some p =>
              rw [hl] at ih
              obtain ⟨k', hk', e⟩ := ih
              exact ⟨k', by omega, e⟩
          · rw [if_neg hd, show (bt a0 ((i + 1 : Nat) : Int) == q) = false from beq_eq_false_iff_ne.2 hd, j2q hc]
            exact ⟨k, by omega, rfl⟩
        · rw [if_neg hc, if_neg hc, j2n hc]
          have ih := rlit_loop a0 hs q hq m k (i + 1) (acc ++ [bt a0 (i : Int)]) (by omega) (by omega) (by rw [List.length_append, List.length_singleton]; omega)
          rw [hd2] at ih
          cases hl : S.lit q (bt a0 ((i + 1 : Nat) : Int) :: (bytesOf a0).drop (i + 1 + 1)) (i + 1) (acc ++ [bt a0 (i : Int)]) with
          | none => rw [hl] at ih; exact ih
          | some p =>
            rw [hl] at ih
            obtain ⟨k', hk', e⟩ := ih
            exact ⟨k', by omega, e⟩
end Go.Proofs.YtkkpjonfaflkmaaGreatDoor.T

namespace Go.Proofs.YtkkpjonfaflkmaaGreatDoor.T
set_option linter.unusedSimpArgs false
set_option linter.unusedVariables false
open Go.RowKit Go.Proofs.YtkkpjonfaflkmaaGreatDoorW.PrintWords Go.Proofs.YtkkpjonfaflkmaaGreatDoorW.PrintLast Go.Proofs.YtkkpjonfaflkmaaGreatDoorW.PrintMore
theorem prn_size {u : List Int} (h : ∀ x ∈ u, S.prn x = true) : (strOfNums u).size = u.length := prn_all_str u (fun x hx => S.prn_byte2 (h x hx))
def litFin (xs v : List Int) (e : Nat) : S.TR := if S.sfx (xs.drop (e + 1)) = 0 then S.litEnd v (e + 1) else match S.litDec v (S.sfx (xs.drop (e + 1))) with
  | none => .err 15
  | some u => S.litEnd u (e + 2)
theorem rlit_end (v : List Int) (h : ∀ x ∈ v, S.prn x = true) (n : Nat) : (if ((strOfNums v).size : Int) > 1000 then (some ((0 : Int), (⟨#[]⟩ : ByteArray), (0 : Int), (30 : Int), (1 : Int))) else (some ((2 : Int), strOfNums v, (n : Int), (0 : Int), (0 : Int)))) = some (rrOf (S.litEnd v n)) := by
  rw [prn_size h]
  unfold S.litEnd
  by_cases h1 : 1000 < v.length
  · rw [if_pos h1, if_pos (by omega)]; rfl
  · rw [if_neg h1, if_neg (by omega)]; rfl
theorem rlit_j5 (a0 : ByteArray) (x : ByteArray) (hs : x.size ≤ 10000) (e : Nat) (he : e ≤ 10000) (base : Int) (w : Nat) (hb : base = 16 ∨ base = 2) (hw : w = 2 ∨ w = 8) (v : List Int) (hd : S.decode base w (bytesOf x) = S.decode base w v) (k : Nat) (hk : 4 * x.size + 2 < k) :
    qanatref03_literal.j5 (k + 1) 1 ((e + 1 : Nat) : Int) x base (w : Int) = some (rrOf (match S.decode base w v with
      | none => .err 15
      | some u => S.litEnd u (e + 2))) := by
  rw [qanatref03_literal.j5, rbytes x (by omega) base w hb hw k (by omega), hd]
  cases hdc : S.decode base w v with
  | none => simp only [Option.bind_some]; rw [if_neg Bool.false_ne_true]; rfl
  | some u =>
    simp only [Option.bind_some]
    rw [if_pos trivial, w64n (by omega)]
    exact rlit_end u (S.decode_prn2 hdc) (e + 2)
set_option maxHeartbeats 1000000 in
theorem rlit_tail (a0 : ByteArray) (hs : a0.size ≤ 3000) (q : Int) (hq : q = 39 ∨ q = 34) (v : List Int) (e : Nat) (h1 : 1 ≤ e) (he : e < a0.size) (hp : (((bytesOf a0).drop 1).take (e - 1)).all S.prn = v.all S.prn)
    (hm : q ∈ (((bytesOf a0).drop 1).take (e - 1)) ↔ q ∈ v) (hn : q ∉ (((bytesOf a0).drop 1).take (e - 1)) → (((bytesOf a0).drop 1).take (e - 1)) = v) (k : Nat) (hk : 13000 < k) :
    qanatref03_literal.l0 k a0 1 q v 1 ((e + 1 : Nat) : Int) (e : Int) = some (rrOf (if v.all S.prn = true then litFin (bytesOf a0) v e else .err 13)) := by
  obtain ⟨k, rfl⟩ : ∃ k', k = k' + 4 := ⟨k - 4, by omega⟩
  have hw : wrap64 (((e + 1 : Nat) : Int) - 1) = (e : Int) := by unfold wrap64; omega
  have hw2 : wrap64 (((e + 1 : Nat) : Int) + 1) = ((e + 2 : Nat) : Int) := w64n (by omega)
  have hby : bytesOf (a0.extract 1 e) = ((bytesOf a0).drop 1).take (e - 1) := bytesOf_extract a0 1 e
  have hsz : (a0.extract 1 e).size ≤ 3000 := by rw [ByteArray.size_extract]; omega
  have hpl := rplain (a0.extract 1 e) (by omega) (k + 3) (by omega)
  rw [hby, hp] at hpl
  rw [qanatref03_literal.l0, if_neg (by omega), if_pos (by omega), hw, if_pos (by omega), if_pos (by omega)]
  rw [show (1 : Int).toNat = 1 from rfl, show (e : Int).toNat = e from rfl, hpl, Option.bind_some]
  by_cases hv : v.all S.prn = true
  · rw [if_pos hv, if_pos hv]
    have hv' : ∀ x ∈ v, S.prn x = true := List.all_eq_true.1 hv
    have hdec : ∀ (base : Int) (w : Nat), S.decode base w (bytesOf (a0.extract 1 e)) = S.decode base w v := fun base w => by
      rw [hby]
      have hh : S.hexv q < 0 := by rcases hq with rfl | rfl <;> decide
      by_cases hin : q ∈ (((bytesOf a0).drop 1).take (e - 1))
      · rw [S.decode_bad base w hh _ hin, S.decode_bad base w hh _ (hm.1 hin)]
      · rw [hn hin]
    have j3f : qanatref03_literal.j3 (k + 3) a0 1 ((e + 1 : Nat) : Int) (strOfNums v) (a0.extract 1 e) false = some (rrOf (S.litEnd v (e + 1))) := by
      rw [qanatref03_literal.j3, if_neg Bool.false_ne_true]
      exact rlit_end v hv' (e + 1)
    by_cases hin : e + 1 < a0.size
    · have hd := drop_bt a0 (i := e + 1) hin
      obtain ⟨b, hb⟩ : ∃ b, bt a0 ((e + 1 : Nat) : Int) = b := ⟨_, rfl⟩
      have j3t : (b = 66 ∨ b = 98 ∨ b = 88 ∨ b = 120) → qanatref03_literal.j3 (k + 3) a0 1 ((e + 1 : Nat) : Int) (strOfNums v) (a0.extract 1 e) true = some (rrOf (match S.litDec v (S.sfxOf b) with
          | none => .err 15
          | some u => S.litEnd u (e + 2))) := fun hbs => by
        have hB := rlit_j5 a0 (a0.extract 1 e) (by omega) e (by omega) 2 8 (.inr rfl) (.inr rfl) v (hdec 2 8) k (by omega)
        have hX := rlit_j5 a0 (a0.extract 1 e) (by omega) e (by omega) 16 2 (.inl rfl) (.inl rfl) v (hdec 16 2) k (by omega)
        rw [qanatref03_literal.j3, if_pos rfl, if_pos (by omega), if_pos (by omega), hb]
        by_cases h66 : b = 66
        · rw [if_pos h66, qanatref03_literal.j4, if_pos rfl, h66]; exact hB
        · rw [if_neg h66]
          by_cases h98 : b = 98
          · rw [h98, qanatref03_literal.j4, if_pos (show ((98 : Int) == 98) = true from rfl)]; exact hB
          · rw [qanatref03_literal.j4, if_neg (show ¬ (b == 98) = true from fun e => h98 (beq_iff_eq.1 e))]
            have hs4 : S.sfxOf b = 4 := by unfold S.sfxOf; rw [if_pos (by omega)]
            rw [hs4]
            exact hX
      have cont : ∀ f : Nat, S.sfxOf b = f → (b = 66 ∨ b = 98 ∨ b = 88 ∨ b = 120) → f ≠ 0 → (if (wrap64 (((e + 1 : Nat) : Int) + 1)) ≥ (a0.size : Int) then (qanatref03_literal.j3 (k + 3) a0 1 ((e + 1 : Nat) : Int) (strOfNums v) (a0.extract 1 e) true) else (if 0 ≤ (wrap64 (((e + 1 : Nat) : Int) + 1)) then (if (wrap64 (((e + 1 : Nat) : Int) + 1)) < (a0.size : Int) then ((qanatref03_Char.f (bt a0 (wrap64 (((e + 1 : Nat) : Int) + 1)))).bind fun t182 => (qanatref03_literal.j3 (k + 3) a0 1 ((e + 1 : Nat) : Int) (strOfNums v) (a0.extract 1 e) (!t182))) else (none)) else (none))) = some (rrOf (litFin (bytesOf a0) v e)) := fun f hf hbs hf0 => by
        rw [hw2]
        unfold litFin
        rw [hd, hb]
        by_cases hl : e + 2 < a0.size
        · have hd2 := drop_bt a0 (i := e + 1 + 1) hl
          rw [if_neg (by omega), if_pos (by omega), if_pos (by omega), rchar, Option.bind_some, hd2]
          show qanatref03_literal.j3 (k + 3) a0 1 ((e + 1 : Nat) : Int) (strOfNums v) (a0.extract 1 e) (!(S.sym (bt a0 ((e + 1 + 1 : Nat) : Int)))) = _
          rw [S.sfx]
          cases hsy : S.sym (bt a0 ((e + 1 + 1 : Nat) : Int)) with
          | true => rw [if_pos rfl, if_pos rfl]; exact j3f
          | false => rw [if_neg Bool.false_ne_true, if_neg (by rw [hf]; exact hf0)]; exact j3t hbs
        · have hnil : (bytesOf a0).drop (e + 1 + 1) = [] := List.drop_of_length_le (by rw [bytesOf_length]; omega)
          rw [if_pos (by omega), hnil, S.sfx, if_neg (by rw [hf]; exact hf0)]
          exact j3t hbs
      rw [if_pos (show ((e + 1 : Nat) : Int) < (a0.size : Int) by omega), if_pos (show (0 : Int) ≤ ((e + 1 : Nat) : Int) by omega), hb]
      by_cases h88 : b = 88
      · rw [if_pos h88]; exact cont 4 (by rw [h88]; rfl) (by omega) (by decide)
      · rw [if_neg h88]
        by_cases h120 : b = 120
        · rw [if_pos h120]; exact cont 4 (by rw [h120]; rfl) (by omega) (by decide)
        · rw [if_neg h120]
          by_cases h66 : b = 66
          · rw [if_pos h66]; exact cont 1 (by rw [h66]; rfl) (by omega) (by decide)
          · rw [if_neg h66]
            by_cases h98 : b = 98
            · rw [if_pos h98]; exact cont 1 (by rw [h98]; rfl) (by omega) (by decide)
            · rw [if_neg h98, j3f]
              have h0 : S.sfxOf b = 0 := by unfold S.sfxOf; rw [if_neg (by omega), if_neg (by omega)]
              have hs0 : S.sfx ((bytesOf a0).drop (e + 1)) = 0 := by
                rw [hd, hb]
                cases (bytesOf a0).drop (e + 1 + 1) with
                | nil => rw [S.sfx, h0]
                | cons d t => rw [S.sfx, h0]; split <;> rfl
              unfold litFin
              rw [hs0, if_pos rfl]
    · rw [if_neg (show ¬ ((e + 1 : Nat) : Int) < (a0.size : Int) by omega), j3f]
      have hnil : (bytesOf a0).drop (e + 1) = [] := List.drop_of_length_le (by rw [bytesOf_length]; omega)
      unfold litFin
      rw [hnil, S.sfx, if_pos rfl]
  · rw [if_neg hv, if_neg hv]; rfl
theorem rliteral (a0 : ByteArray) (h0 : 0 < a0.size) (hs : a0.size ≤ 2100) (hq : bt a0 0 = 39 ∨ bt a0 0 = 34) (k : Nat) (hk : 20000 < k) : qanatref03_literal.f k a0 0 1 = some (rrOf (S.litTok (bytesOf a0))) := by
  unfold qanatref03_literal.f
  have hw : wrap64 ((0 : Int) + 1) = 1 := by unfold wrap64; omega
  rw [if_pos (Int.le_refl 0), if_pos (by omega), hw]
  have hd := drop_bt a0 (i := 0) h0
  rw [List.drop_zero] at hd
  obtain ⟨q, hqq⟩ : ∃ q, bt a0 0 = q := ⟨_, rfl⟩
  have hd' : bytesOf a0 = q :: (bytesOf a0).drop 1 := by rw [← hqq]; exact hd
  rw [hqq] at hq ⊢
  have hlp := rlit_loop a0 (by omega) q (by omega) (a0.size - 1) k 1 [] (by omega) (by omega) (Nat.zero_le _)
  have hT : S.litTok (bytesOf a0) = match S.lit q ((bytesOf a0).drop 1) 1 [] with
      | none => .err 6
      | some (v, i) => if v.all S.prn = true then litFin (bytesOf a0) v i else .err 13 := by
    rw [hd']
    rfl
  rw [hT]
  cases hl : S.lit q ((bytesOf a0).drop 1) 1 [] with
  | none => rw [hl] at hlp; exact hlp
  | some p =>
    rw [hl] at hlp
    obtain ⟨v, e⟩ := p
    obtain ⟨k', hk', hh⟩ := hlp
    obtain ⟨u, r, g1, g2, g3, g4, g5, g6, g7⟩ := S.lit_raw q _ _ _ _ _ hl
    rw [List.nil_append] at g3
    rw [List.length_drop, bytesOf_length] at g7
    have hz := rlit_tail a0 (by omega) q hq v e (by omega) (by omega) (by rw [← g2, g3]; exact g4) (by rw [← g2, g3]; exact g5) (by rw [← g2, g3]; exact g6) k' (by omega)
    exact hh.trans hz
theorem value_same (a0 : ByteArray) (hs : a0.size ≤ 2100) : ∃ t c er, scan_Value.f a0 = some (t, c, er) ∧ ∀ k, 30000 < k → ∃ l n, qanatref03_Value.f k a0 = some (l, c, n, er) ∧ ((l = [] ∧ t = ⟨#[]⟩) ∨ l = [(⟨0, t, false, 0, 0, 0⟩ : S53)]) := by
  unfold scan_Value.f
  rw [if_neg (by omega)]
  by_cases h : a0.size = 0 ∨ (bt a0 0 ≠ 39 ∧ bt a0 0 ≠ 34)
  · refine ⟨⟨#[]⟩, 0, 2, if_pos h, fun k hk => ⟨[], 0, ?_, .inl ⟨rfl, rfl⟩⟩⟩
    obtain ⟨k, rfl⟩ : ∃ k', k = k' + 1 := ⟨k - 1, by omega⟩
    unfold qanatref03_Value.f
    by_cases h0 : (a0.size : Int) = 0
    · rw [if_pos h0, qanatref03_Value.j0, if_pos rfl]
    · obtain ⟨h39, h34⟩ := h.resolve_left (by omega)
      rw [if_neg h0, if_pos (by omega), if_neg h39, qanatref03_Value.j0, if_pos (bne_iff_ne.2 h34)]
  · have hq : bt a0 0 = 39 ∨ bt a0 0 = 34 := by omega
    have h0 : 0 < a0.size := by omega
    rw [if_neg h]
    have hR : ∀ k, 30000 < k → qanatref03_Value.f k a0 = (if (rrOf (S.litTok (bytesOf a0))).2.2.2.1 = 0 then (if (rrOf (S.litTok (bytesOf a0))).2.2.1 = (a0.size : Int) then (some (([(⟨0, (rrOf (S.litTok (bytesOf a0))).2.1, false, 0, 0, 0⟩ : S53)] : List S53), 0, 0, 0)) else (some (([] : List S53), 0, 0, 2))) else (some (([] : List S53), (rrOf (S.litTok (bytesOf a0))).2.2.2.1, 0, 7))) := fun k hk => by
      obtain ⟨k, rfl⟩ : ∃ k', k = k' + 1 := ⟨k - 1, by omega⟩
      have hj : qanatref03_Value.j0 (k + 1) a0 false = (if (rrOf (S.litTok (bytesOf a0))).2.2.2.1 = 0 then (if (rrOf (S.litTok (bytesOf a0))).2.2.1 = (a0.size : Int) then (some (([(⟨0, (rrOf (S.litTok (bytesOf a0))).2.1, false, 0, 0, 0⟩ : S53)] : List S53), 0, 0, 0)) else (some (([] : List S53), 0, 0, 2))) else (some (([] : List S53), (rrOf (S.litTok (bytesOf a0))).2.2.2.1, 0, 7))) := by
        rw [qanatref03_Value.j0, if_neg Bool.false_ne_true, rliteral a0 h0 hs hq k (by omega), Option.bind_some]
      unfold qanatref03_Value.f
      rw [if_neg (by omega), if_pos (by omega)]
      by_cases h39 : bt a0 0 = 39
      · rw [if_pos h39]; exact hj
      · rw [if_neg h39, show (bt a0 0 != 34) = false by rw [hq.resolve_left h39]; rfl]; exact hj
    cases ht : S.litTok (bytesOf a0) with
    | err c =>
      rw [ht] at hR
      have hc : (c : Int) ≠ 0 := fun e => S.litTok_err ht (Int.ofNat_eq_zero.1 e)
      refine ⟨⟨#[]⟩, c, 7, rfl, fun k hk => ⟨[], 0, ?_, .inl ⟨rfl, rfl⟩⟩⟩
      rw [hR k hk]
      exact if_neg hc
    | ok t n =>
      rw [ht] at hR
      have hn : n ≤ a0.size := by have := (S.litTok_ok (bo_range a0) ht).2.1; rw [bytesOf_length] at this; exact this
      by_cases hlt : n < a0.size
      · refine ⟨⟨#[]⟩, 0, 2, by rw [valRes, if_pos hlt], fun k hk => ⟨[], 0, ?_, .inl ⟨rfl, rfl⟩⟩⟩
        rw [hR k hk]
        refine (if_pos (show (rrOf (S.TR.ok t n)).2.2.2.1 = 0 from rfl)).trans ?_
        exact if_neg (show ¬ (n : Int) = (a0.size : Int) by omega)
      · refine ⟨strOfNums t, 0, 0, by rw [valRes, if_neg hlt], fun k hk => ⟨_, 0, ?_, .inr rfl⟩⟩
        rw [hR k hk]
        refine (if_pos (show (rrOf (S.TR.ok t n)).2.2.2.1 = 0 from rfl)).trans ?_
        exact if_pos (show (n : Int) = (a0.size : Int) by omega)
theorem scan_literals_pure : qanatlaw03_ScanLiterals.Pure := fun a0 a1 _ _ => by
  refine ⟨40001, ?_⟩
  have hsan : qanatlaw03_sanity.f = some true := rfl
  unfold qanatlaw03_ScanLiterals.f
  have triv : qanatlaw03_ScanLiterals.j0 (40000 + 1) a0 a1 true = some true := by
    rw [qanatlaw03_ScanLiterals.j0, if_pos rfl, hsan]; rfl
  by_cases h : (a0.size : Int) > 2100
  · rw [if_pos h]; exact triv
  · rw [if_neg h]
    by_cases h1 : (a1.size : Int) > 2100
    · rw [decide_eq_true h1]; exact triv
    · rw [decide_eq_false h1]
      show qanatlaw03_ScanLiterals.j0 (40000 + 1) a0 a1 false = some true
      obtain ⟨t, er, f1, f2⟩ := literal_same a0 (by omega)
      obtain ⟨x, c, e2, g1, g2⟩ := value_same a1 (by omega)
      obtain ⟨l, n, g3, g4⟩ := g2 40000 (by omega)
      rw [qanatlaw03_ScanLiterals.j0, if_neg Bool.false_ne_true, f1, f2 40000 (by omega), g1, g3, hsan]
      simp only [Option.bind_some]
      rcases g4 with ⟨rfl, rfl⟩ | rfl
      · simp
      · have hr : rd_T53 [(⟨0, x, false, 0, 0, 0⟩ : S53)] 0 = ⟨0, x, false, 0, 0, 0⟩ := rfl
        rw [hr]
        simp
end Go.Proofs.YtkkpjonfaflkmaaGreatDoor.T
