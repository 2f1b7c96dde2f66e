/- Part 20 of the proof of ScanLocal: the functions that it calls return what their plain descriptions say. -/
import Derived.Test.YtkkpjonfaflkmaaGreatDoorCScanLocal13
import Derived.Test.YtkkpjonfaflkmaaGreatDoorCScanLocal5
import Derived.Test.YtkkpjonfaflkmaaGreatDoorCScanLocal4

namespace Go.Proofs.YtkkpjonfaflkmaaGreatDoor.S
set_option linter.unusedSimpArgs false
set_option linter.unusedVariables false
theorem lit_loc (q : Int) : ∀ (xs : List Int) (i : Nat) (acc v : List Int) (j : Nat), lit q xs i acc = some (v, j) →
    ∃ U R, xs = U ++ q :: R ∧ U.length + i = j ∧ R.head? ≠ some q ∧ ∀ R', R'.head? ≠ some q → lit q (U ++ q :: R') i acc = some (v, j)
  | [], _, _, _, _ => fun h => by cases h
  | [c], i, acc, v, j => fun h => by
    rw [lit] at h
    by_cases h1 : c = 10
    · rw [if_pos h1] at h; cases h
    · rw [if_neg h1] at h
      by_cases h2 : c = q
      · rw [if_pos h2] at h; cases h
        subst h2
        refine ⟨[], [], rfl, by simp, by simp, fun R' hR => ?_⟩
        rcases R' with _ | ⟨d, t⟩
        · simp [lit, h1]
        · simp only [List.head?_cons, ne_eq, Option.some.injEq] at hR
          simp [lit, h1, hR]
      · rw [if_neg h2] at h; cases h
  | c :: d :: t, i, acc, v, j => fun h => by
    rw [lit] at h
    by_cases h1 : c = 10
    · rw [if_pos h1] at h; cases h
    · rw [if_neg h1] at h
      by_cases h2 : c = q
      · rw [if_pos h2] at h
        by_cases h3 : d = q
        · rw [if_pos h3] at h
          obtain ⟨U, R, e1, e2, e3, e4⟩ := lit_loc q t (i + 2) (acc ++ [q]) v j h
          subst h2 h3
          refine ⟨d :: d :: U, R, by rw [e1]; rfl, by simp only [List.length_cons]; omega, e3, fun R' hR => ?_⟩
          have := e4 R' hR
          show lit d (d :: d :: (U ++ d :: R')) i acc = _
          rw [lit, if_neg h1, if_pos rfl, if_pos rfl]; exact this
        · rw [if_neg h3] at h; cases h
          subst h2
          refine ⟨[], d :: t, rfl, by simp, by simpa using h3, fun R' hR => ?_⟩
          rcases R' with _ | ⟨d, t⟩
          · simp [lit, h1]
          · simp only [List.head?_cons, ne_eq, Option.some.injEq] at hR
            simp [lit, h1, hR]
      · rw [if_neg h2] at h
        obtain ⟨U, R, e1, e2, e3, e4⟩ := lit_loc q (d :: t) (i + 1) (acc ++ [c]) v j h
        refine ⟨c :: U, R, by rw [e1]; rfl, by simp only [List.length_cons]; omega, e3, fun R' hR => ?_⟩
        have := e4 R' hR
        show lit q (c :: (U ++ q :: R')) i acc = _
        rcases hu : U ++ q :: R' with _ | ⟨e, s⟩
        · simp at hu
        · rw [hu] at this
          rw [lit, if_neg h1, if_neg h2]; exact this
def Neutral (c : Int) : Prop := c = 10 ∨ c = 59 ∨ c = 47 ∨ c = 32 ∨ c = 44
theorem Neutral.facts {c : Int} (h : Neutral c) : sym c = false ∧ dig c = false ∧ sfxOf c = 0 ∧ c ≠ 39 ∧ c ≠ 34 ∧ c ≠ 43 ∧ c ≠ 45 ∧ c ≠ 42 := by
  rcases h with rfl | rfl | rfl | rfl | rfl <;> decide
def Two (C R2 : List Int) : Prop := ∀ d, C = [d] → sym d = true → ∀ e s, R2 = e :: s → sym e = false
theorem sfx_sym {d e : Int} {s : List Int} (h : sym e = false) : sfx (d :: e :: s) = sfxOf d := by simp [sfx, h]
theorem sfxOf_sym {d : Int} (h : sym d = false) : sfxOf d = 0 := by
  unfold sfxOf
  by_cases h1 : d = 88 ∨ d = 120
  · rcases h1 with rfl | rfl <;> cases h
  · rw [if_neg h1]
    by_cases h2 : d = 66 ∨ d = 98
    · rcases h2 with rfl | rfl <;> cases h
    · rw [if_neg h2]
theorem sfx_ns {d : Int} {t : List Int} (h : sym d = false) : sfx (d :: t) = 0 := by
  rcases t with _ | ⟨e, s⟩
  · exact sfxOf_sym h
  · simp only [sfx]
    split
    · rfl
    · exact sfxOf_sym h
theorem sfx_loc {C R2 R3 : List Int} {c : Int} (hn : Neutral c) (ht : Two C R2) (h : C = [] → sfx R2 = 0) : sfx (C ++ c :: R3) = sfx (C ++ R2) := by
  obtain ⟨f1, f2, f3, -⟩ := hn.facts
  rcases C with _ | ⟨d, _ | ⟨e, C⟩⟩
  · rw [List.nil_append, List.nil_append, h rfl]
    exact sfx_ns f1
  · show sfx (d :: c :: R3) = sfx (d :: R2)
    rw [sfx_sym f1]
    rcases R2 with _ | ⟨e, s⟩
    · rfl
    · by_cases hd : sym d = true
      · rw [sfx_sym (ht d rfl hd e s rfl)]
      · rw [sfx_ns (by simpa using hd), sfxOf_sym (by simpa using hd)]
  · rfl
theorem litTok_eq (q : Int) (U R R' : List Int) (v : List Int) (h : lit q (U ++ q :: R) 1 [] = some (v, U.length + 1)) (h' : lit q (U ++ q :: R') 1 [] = some (v, U.length + 1)) (hs : sfx R' = sfx R) :
    litTok (q :: (U ++ q :: R')) = litTok (q :: (U ++ q :: R)) := by
  have d : ∀ R : List Int, (q :: (U ++ q :: R)).drop (U.length + 1 + 1) = R := fun R => by
    rw [List.drop_succ_cons, List.drop_append, List.drop_eq_nil_of_le (by omega)]
    simp
  simp only [litTok, h, h', d, hs]
theorem litTok_parts {q : Int} {t : List Int} {x : List Int} {n : Nat} (h : litTok (q :: t) = .ok x n) :
    ∃ v U R, t = U ++ q :: R ∧ R.head? ≠ some q ∧ (∀ R', R'.head? ≠ some q → lit q (U ++ q :: R') 1 [] = some (v, U.length + 1)) ∧ ((sfx R = 0 ∧ n = U.length + 2) ∨ (sfx R ≠ 0 ∧ n = U.length + 3)) := by
  simp only [litTok] at h
  cases hl : lit q t 1 [] with
  | none => rw [hl] at h; cases h
  | some p =>
    obtain ⟨v, i⟩ := p
    rw [hl] at h
    simp only at h
    obtain ⟨U, R, e1, e2, e3, e4⟩ := lit_loc q t 1 [] v i hl
    subst e1
    obtain rfl : i = U.length + 1 := by omega
    have d : (q :: (U ++ q :: R)).drop (U.length + 1 + 1) = R := by
      rw [List.drop_succ_cons, List.drop_append, List.drop_eq_nil_of_le (by omega)]
      simp
    rw [d] at h
    refine ⟨v, U, R, rfl, e3, e4, ?_⟩
    by_cases hp : v.all prn = true
    · rw [if_pos hp] at h
      by_cases hs : sfx R = 0
      · rw [if_pos hs] at h
        exact .inl ⟨hs, (litEnd_ok h).2⟩
      · rw [if_neg hs] at h
        cases hd : litDec v (sfx R) with
        | none => rw [hd] at h; cases h
        | some u => rw [hd] at h; exact .inr ⟨hs, (litEnd_ok h).2⟩
    · rw [if_neg hp] at h; cases h
theorem litTok_loc {A C R2 R3 x : List Int} {c : Int} (hn : Neutral c) (ht : Two C R2) (hq : ∃ q t, A = q :: t ∧ (q = 39 ∨ q = 34)) (h : litTok (A ++ (C ++ R2)) = .ok x A.length) : litTok (A ++ (C ++ c :: R3)) = .ok x A.length := by
  obtain ⟨q, t, rfl, hq⟩ := hq
  rw [List.cons_append] at h ⊢
  obtain ⟨f1, f2, f3, f4, f5, -⟩ := hn.facts
  obtain ⟨v, U, R, e1, e2, e3, e4⟩ := litTok_parts h
  have hc : some c ≠ some q := by rcases hq with rfl | rfl <;> simpa
  rcases e4 with ⟨hs, hl⟩ | ⟨hs, hl⟩
  · obtain ⟨hA, hR⟩ : t = U ++ [q] ∧ C ++ R2 = R := List.append_inj (s₁ := t) (s₂ := U ++ [q]) (by rw [e1]; simp) (by simp only [List.length_cons] at hl; simp; omega)
    subst hA hR
    have hh : (C ++ c :: R3).head? ≠ some q := by
      rcases C with _ | ⟨d, C⟩
      · exact hc
      · simpa using e2
    have := litTok_eq q U (C ++ R2) (C ++ c :: R3) v (e3 _ e2) (e3 _ hh) (sfx_loc hn ht fun e => by subst e; exact hs)
    rw [List.append_assoc] at h ⊢
    exact this.trans h
  · rcases R with _ | ⟨a, R⟩
    · exact absurd rfl hs
    obtain ⟨hA, hR⟩ : t = U ++ [q, a] ∧ C ++ R2 = R := List.append_inj (s₁ := t) (s₂ := U ++ [q, a]) (by rw [e1]; simp) (by simp only [List.length_cons] at hl; simp; omega)
    subst hA hR
    have hsx : sfx (a :: (C ++ c :: R3)) = sfx (a :: (C ++ R2)) := by
      rcases C with _ | ⟨d, C⟩
      · show sfx (a :: c :: R3) = sfx (a :: R2)
        rw [sfx_sym f1]
        rcases R2 with _ | ⟨e, s⟩
        · rfl
        · simp only [List.nil_append, sfx] at hs ⊢
          by_cases he : sym e = true
          · rw [if_pos he] at hs; exact absurd rfl hs
          · rw [if_neg he]
      · rfl
    have := litTok_eq q U (a :: (C ++ R2)) (a :: (C ++ c :: R3)) v (e3 _ e2) (e3 _ (by simpa using e2)) hsx
    rw [List.append_assoc] at h ⊢
    exact this.trans h
theorem run_app (p : Int → Bool) : ∀ (A B : List Int), (∀ x ∈ A, p x = true) → (∀ e s, B = e :: s → p e = false) → run p (A ++ B) = A.length
  | [], B, _, hB => by
    rcases B with _ | ⟨e, s⟩
    · rfl
    · simp [run, hB e s rfl]
  | a :: A, B, hA, hB => by
    rw [List.cons_append, run, if_pos (hA a (by simp)), run_app p A B (fun x hx => hA x (by simp [hx])) hB]
    rfl
theorem run_parts (p : Int → Bool) : ∀ (xs : List Int), (∀ x ∈ xs.take (run p xs), p x = true) ∧ (∀ e s, xs.drop (run p xs) = e :: s → p e = false)
  | [] => ⟨by simp [run], by simp [run]⟩
  | a :: xs => by
    unfold run
    by_cases h : p a = true
    · rw [if_pos h]
      obtain ⟨h1, h2⟩ := run_parts p xs
      refine ⟨fun x hx => ?_, fun e s he => h2 e s (by simpa using he)⟩
      simp only [List.take_succ_cons, List.mem_cons] at hx
      rcases hx with rfl | hx
      · exact h
      · exact h1 x hx
    · rw [if_neg h]
      exact ⟨by simp, fun e s he => by simp only [List.drop_zero, List.cons.injEq] at he; obtain ⟨rfl, -⟩ := he; simpa using h⟩
theorem symLen_parts (xs : List Int) : ∃ M R, xs = M ++ R ∧ (∀ x ∈ M, sym x = true) ∧ (∀ e s, R = e :: s → sym e = false) ∧
    ((symLen xs = M.length ∧ ¬ (mant M = true ∧ expo R = true)) ∨ (∃ g D S, R = g :: (D ++ S) ∧ mant M = true ∧ (g = 43 ∨ g = 45) ∧ D ≠ [] ∧ (∀ x ∈ D, dig x = true) ∧ (∀ e s, S = e :: s → dig e = false) ∧ symLen xs = M.length + 1 + D.length)) := by
  obtain ⟨h1, h2⟩ := run_parts sym xs
  have hl := run_le' sym xs
  refine ⟨xs.take (run sym xs), xs.drop (run sym xs), (List.take_append_drop _ _).symm, h1, h2, ?_⟩
  have hml : (xs.take (run sym xs)).length = run sym xs := by rw [List.length_take]; omega
  rw [hml]
  unfold symLen
  by_cases hm : mant (xs.take (run sym xs)) = true ∧ expo (xs.drop (run sym xs)) = true
  · rw [if_pos hm]
    refine .inr ?_
    rcases hd : xs.drop (run sym xs) with _ | ⟨g, _ | ⟨d, t⟩⟩
    · rw [hd] at hm; simp [expo] at hm
    · rw [hd] at hm; simp [expo] at hm
    · have hd2 : xs.drop (run sym xs + 1) = d :: t := by
        have : xs.drop (run sym xs + 1) = (xs.drop (run sym xs)).drop 1 := by rw [List.drop_drop]
        rw [this, hd]; rfl
      rw [hd2]
      have hx := hm.2
      rw [hd] at hx
      simp only [expo, Bool.and_eq_true, Bool.or_eq_true, decide_eq_true_eq] at hx
      obtain ⟨g1, g2⟩ := run_parts dig (d :: t)
      have hl2 := run_le' dig (d :: t)
      refine ⟨g, (d :: t).take (run dig (d :: t)), (d :: t).drop (run dig (d :: t)), by rw [List.take_append_drop], hm.1, hx.1, ?_, g1, g2, ?_⟩
      · rw [run, if_pos hx.2]; simp
      · rw [List.length_take, Nat.min_eq_left hl2]
  · rw [if_neg hm]
    exact .inl ⟨rfl, hm⟩
theorem symLen_plain {M R : List Int} (hM : ∀ x ∈ M, sym x = true) (hR : ∀ e s, R = e :: s → sym e = false) (h : ¬ (mant M = true ∧ expo R = true)) : symLen (M ++ R) = M.length := by
  have hr := run_app sym M R hM hR
  unfold symLen
  rw [hr, List.take_left, List.drop_left, if_neg h]
theorem symLen_expo {M D S : List Int} {g : Int} (hM : ∀ x ∈ M, sym x = true) (hm : mant M = true) (hg : g = 43 ∨ g = 45) (hD : D ≠ []) (hd : ∀ x ∈ D, dig x = true) (hS : ∀ e s, S = e :: s → dig e = false) :
    symLen (M ++ g :: (D ++ S)) = M.length + 1 + D.length := by
  have hgs : sym g = false := by rcases hg with rfl | rfl <;> rfl
  have hr := run_app sym M (g :: (D ++ S)) hM (fun e s h => by cases h; exact hgs)
  unfold symLen
  have hx : expo (g :: (D ++ S)) = true := by
    rcases D with _ | ⟨d, D⟩
    · exact absurd rfl hD
    · simp only [List.cons_append, expo, Bool.and_eq_true, Bool.or_eq_true, decide_eq_true_eq]
      exact ⟨hg, hd d (by simp)⟩
  rw [hr, List.take_left, List.drop_left, if_pos ⟨hm, hx⟩]
  have : (M ++ g :: (D ++ S)).drop (M.length + 1) = D ++ S := by
    rw [List.drop_append, List.drop_eq_nil_of_le (by omega)]
    simp
  rw [this, run_app dig D S hd hS]
theorem symTok_eq {xs ys : List Int} (h : symLen ys = symLen xs) (ht : ys.take (symLen xs) = xs.take (symLen xs)) : symTok ys = symTok xs := by
  unfold symTok
  rw [h, ht]
theorem symLen_loc {A C R2 R3 : List Int} {c : Int} (hn : Neutral c) (h : symLen (A ++ (C ++ R2)) = A.length) : symLen (A ++ (C ++ c :: R3)) = A.length := by
  obtain ⟨f1, f2, f3, f4, f5, f6, f7, -⟩ := hn.facts
  obtain ⟨M, R, e1, hM, hR, hor⟩ := symLen_parts (A ++ (C ++ R2))
  rw [h] at hor
  rcases hor with ⟨hl, hx⟩ | ⟨g, D, S, rfl, hm, hg, hD, hd, hS, hl⟩
  · obtain ⟨rfl, rfl⟩ := List.append_inj e1 hl
    refine symLen_plain hM (fun e s he => ?_) fun ⟨q1, q2⟩ => hx ⟨q1, ?_⟩
    · rcases C with _ | ⟨d, C⟩
      · cases he; exact f1
      · cases he; exact hR e _ rfl
    · rcases C with _ | ⟨d, _ | ⟨e, C⟩⟩
      · rcases R3 with _ | ⟨a, R3⟩
        · simp [expo] at q2
        · simp [expo, f6, f7] at q2
      · simp [expo, f2] at q2
      · exact q2
  · obtain ⟨hA, hB⟩ : A = M ++ g :: D ∧ C ++ R2 = S := List.append_inj (s₁ := A) (s₂ := M ++ g :: D) (by rw [e1]; simp) (by simp; omega)
    subst hA hB
    have := symLen_expo (M := M) (D := D) (S := C ++ c :: R3) hM hm hg hD hd (fun e s he => by
      rcases C with _ | ⟨d, C⟩
      · cases he; exact f2
      · cases he; exact hS e _ rfl)
    rw [List.append_assoc, List.cons_append, this]
    simp; omega
theorem symTok_loc {A C R2 R3 x : List Int} {c : Int} (hn : Neutral c) (h : symTok (A ++ (C ++ R2)) = .ok x A.length) : symTok (A ++ (C ++ c :: R3)) = .ok x A.length := by
  have hs : symLen (A ++ (C ++ R2)) = A.length := by
    unfold symTok at h
    split at h
    · cases h
    · simp only [TR.ok.injEq] at h; exact h.2
  rw [← h]
  refine symTok_eq ?_ ?_
  · rw [hs]; exact symLen_loc hn hs
  · rw [hs, List.take_left, List.take_left]
theorem prefix_app : ∀ (p a : List Int) (b : List Int), p.isPrefixOf a = true → p.isPrefixOf (a ++ b) = true
  | [], _, _, _ => by simp
  | _ :: _, [], _, h => by cases h
  | x :: p, y :: a, b, h => by
    simp only [List.isPrefixOf, Bool.and_eq_true] at h
    simp only [List.cons_append, List.isPrefixOf, Bool.and_eq_true]
    exact ⟨h.1, prefix_app p a b h.2⟩
theorem prefix_cut : ∀ (p a : List Int) (b : List Int), p.isPrefixOf (a ++ b) = true → p.length ≤ a.length → p.isPrefixOf a = true
  | [], _, _, _, _ => by simp
  | _ :: _, [], _, _, h => by simp at h
  | x :: p, y :: a, b, h, hl => by
    simp only [List.cons_append, List.isPrefixOf, Bool.and_eq_true] at h
    simp only [List.isPrefixOf, Bool.and_eq_true]
    exact ⟨h.1, prefix_cut p a b h.2 (by simpa using hl)⟩
theorem prefix_at : ∀ (p a : List Int) (c : Int) (b : List Int), p.isPrefixOf (a ++ c :: b) = true → a.length < p.length → p.take (a.length + 1) = a ++ [c]
  | [], _, _, _, _, h => by simp at h
  | x :: p, [], c, b, h, _ => by
    simp only [List.nil_append, List.isPrefixOf, Bool.and_eq_true, beq_iff_eq] at h
    simp [h.1]
  | x :: p, y :: a, c, b, h, hl => by
    simp only [List.cons_append, List.isPrefixOf, Bool.and_eq_true, beq_iff_eq] at h
    simp only [List.length_cons, List.take_succ_cons, List.cons_append]
    rw [h.1, prefix_at p a c b h.2 (by simpa using hl)]
theorem prefix_self : ∀ (p : List Int), p.isPrefixOf p = true
  | [] => rfl
  | x :: p => by simp [List.isPrefixOf, prefix_self p]
theorem prefix_eq : ∀ (p a : List Int), p.isPrefixOf a = true → a = p ++ a.drop p.length
  | [], a, _ => by simp
  | _ :: _, [], h => by cases h
  | x :: p, y :: a, h => by
    simp only [List.isPrefixOf, Bool.and_eq_true, beq_iff_eq] at h
    obtain ⟨rfl, h2⟩ := h
    simp only [List.length_cons, List.drop_succ_cons, List.cons_append]
    exact congrArg _ (prefix_eq p a h2)
theorem find_keep {α : Type} (P Q : α → Bool) : ∀ (l : List α) (a : α), l.find? P = some a → (∀ x ∈ l, Q x = true → P x = true) → Q a = true → l.find? Q = some a
  | [], a, h, _, _ => by cases h
  | x :: l, a, h, hq, ha => by
    by_cases hp : P x = true
    · rw [List.find?_cons_of_pos hp] at h
      cases h
      rw [List.find?_cons_of_pos ha]
    · rw [List.find?_cons_of_neg hp] at h
      rw [List.find?_cons_of_neg (fun e => hp (hq x (by simp) e))]
      exact find_keep P Q l a h (fun x hx => hq x (by simp [hx])) ha
theorem signs_neutral : ∀ p ∈ signs, ∀ i : Fin 3, 1 ≤ i.val → i.val < p.length → (p.getD i.val 0 = 10 ∨ p.getD i.val 0 = 59 ∨ p.getD i.val 0 = 47 ∨ p.getD i.val 0 = 32 ∨ p.getD i.val 0 = 44) → p = [47, 47] := by decide
theorem signs_len : ∀ p ∈ signs, p.length ≤ 3 := by decide
theorem signs_ne : ∀ p ∈ signs, p ≠ [] := by decide
theorem signTok_loc {A C R2 R3 x : List Int} {c : Int} (hn : Neutral c) (hA : c = 47 → C = [] → A.getLast? ≠ some 47) (h : signTok (A ++ (C ++ R2)) = .ok x A.length) : signTok (A ++ (C ++ c :: R3)) = .ok x A.length := by
  unfold signTok at h ⊢
  cases hf : signs.find? (fun x => x.isPrefixOf (A ++ (C ++ R2))) with
  | none => rw [hf] at h; cases h
  | some l =>
    rw [hf] at h
    simp only [TR.ok.injEq] at h
    obtain ⟨rfl, hl⟩ := h
    have hm := List.mem_of_find?_eq_some hf
    have hp : l.isPrefixOf (A ++ (C ++ R2)) = true := by simpa using List.find?_some hf
    have hAl : A = l := by
      have := prefix_eq _ _ hp
      exact (List.append_inj this (by omega)).1
    subst hAl
    have hA0 : A ≠ [] := signs_ne A hm
    rw [find_keep _ (fun x => x.isPrefixOf (A ++ (C ++ c :: R3))) signs A hf (fun p hps hpx => ?_) (prefix_app _ _ _ (prefix_self _))]
    rw [← List.append_assoc] at hpx ⊢
    by_cases hlen : p.length ≤ (A ++ C).length
    · exact prefix_app _ _ _ (prefix_cut _ _ _ hpx hlen)
    · exfalso
      have ha := prefix_at p (A ++ C) c R3 hpx (by omega)
      have h3 := signs_len p hps
      have hA1 : 0 < A.length := List.length_pos_iff.2 hA0
      have hlt : (A ++ C).length < p.length := by omega
      have hAC : 1 ≤ (A ++ C).length := by simp; omega
      have hget : p.getD (A ++ C).length 0 = c := by
        have h5 : (p.take ((A ++ C).length + 1)).getD (A ++ C).length 0 = ((A ++ C) ++ [c]).getD (A ++ C).length 0 := by rw [ha]
        rw [List.getD_eq_getElem?_getD, List.getD_eq_getElem?_getD, List.getElem?_take_of_lt (by omega), List.getElem?_append_right (Nat.le_refl _)] at h5
        rw [List.getD_eq_getElem?_getD, h5]; simp
      have hpe := signs_neutral p hps ⟨(A ++ C).length, by omega⟩ hAC hlt (by simp only [hget]; exact hn)
      subst hpe
      simp only [List.length_cons, List.length_nil, List.length_append] at hlt hAC
      have hC0 : C = [] := List.length_eq_zero_iff.1 (by omega)
      subst hC0
      have hAe : A.length = 1 := by omega
      obtain ⟨a, rfl⟩ : ∃ a, A = [a] := List.length_eq_one_iff.1 hAe
      simp only [List.append_nil, List.length_cons, List.length_nil, List.take_succ_cons, List.take_nil, List.cons_append, List.nil_append, List.cons.injEq, and_true] at ha
      obtain ⟨rfl, rfl⟩ := ha
      exact hA rfl rfl rfl
theorem step_loc {A C R2 R3 x : List Int} {c : Int} {k : Nat} (hn : Neutral c) (ht : Two C R2) (hA0 : A ≠ []) (hA : c = 47 → C = [] → A.getLast? ≠ some 47) (h : step (A ++ (C ++ R2)) = .tok k x A.length) : step (A ++ (C ++ c :: R3)) = .tok k x A.length := by
  obtain ⟨f1, f2, f3, f4, f5, f6, f7, f8⟩ := hn.facts
  rcases A with _ | ⟨a, A⟩
  · exact absurd rfl hA0
  have hst : starts2 (a :: (A ++ (C ++ c :: R3))) = true → starts2 (a :: (A ++ (C ++ R2))) = true := fun hs => by
    rcases A with _ | ⟨a2, A⟩
    · rcases C with _ | ⟨d, C⟩
      · simp [starts2, f8] at hs
      · exact hs
    · exact hs
  simp only [List.cons_append, step] at h ⊢
  by_cases h1 : a = 10
  · rw [if_pos h1] at h; cases h
  rw [if_neg h1] at h ⊢
  by_cases h2 : a = 32
  · rw [if_pos h2] at h; cases h
  rw [if_neg h2] at h ⊢
  by_cases h3 : starts2 (a :: (A ++ (C ++ R2))) = true
  · rw [if_pos h3] at h; exact (cmtStep_ne h).elim
  rw [if_neg h3] at h
  rw [if_neg (fun e => h3 (hst e))]
  by_cases h4 : a = 39 ∨ a = 34
  · rw [if_pos h4] at h ⊢
    obtain ⟨rfl, hr⟩ := tokStep_tok h
    rw [show a :: (A ++ (C ++ c :: R3)) = (a :: A) ++ (C ++ c :: R3) from rfl, litTok_loc hn ht ⟨a, A, rfl, h4⟩ hr]
    rfl
  rw [if_neg h4] at h ⊢
  by_cases h5 : sym a = true
  · rw [if_pos h5] at h ⊢
    obtain ⟨rfl, hr⟩ := tokStep_tok h
    rw [show a :: (A ++ (C ++ c :: R3)) = (a :: A) ++ (C ++ c :: R3) from rfl, symTok_loc (A := a :: A) hn hr]
    rfl
  rw [if_neg h5] at h ⊢
  obtain ⟨rfl, hr⟩ := tokStep_tok h
  rw [show a :: (A ++ (C ++ c :: R3)) = (a :: A) ++ (C ++ c :: R3) from rfl, signTok_loc (A := a :: A) hn hA hr]
  rfl
end Go.Proofs.YtkkpjonfaflkmaaGreatDoor.S

namespace Go.Proofs.YtkkpjonfaflkmaaGreatDoor.S
set_option linter.unusedSimpArgs false
set_option linter.unusedVariables false
theorem signs_no10 : ∀ p ∈ signs, (10 : Int) ∉ p := by decide
theorem pre_err (l : List (List Tk)) (o : Out) : (o.pre l).err = o.err := rfl
end Go.Proofs.YtkkpjonfaflkmaaGreatDoor.S

namespace Go.Proofs.YtkkpjonfaflkmaaGreatDoor.S
set_option linter.unusedSimpArgs false
set_option linter.unusedVariables false
def blank (c : Int) : Bool := decide (c = 32) || decide (c = 10) || decide (c = 44) || decide (c = 59)
def idle : List Int → Nat → Bool
  | [], d => decide (d = 0)
  | [c], d => blank c && decide (d = 0)
  | c :: e :: t, d =>
    if c = 47 ∧ e = 42 then idle t (d + 1)
    else if 0 < d ∧ c = 42 ∧ e = 47 then idle t (d - 1)
    else if 0 < d ∨ blank c = true then idle (e :: t) d else false
theorem blank_ne {c : Int} (h : blank c = true) : c ≠ 47 ∧ c ≠ 42 := by
  simp only [blank, Bool.or_eq_true, decide_eq_true_eq] at h
  omega
theorem idle_blank {c : Int} (h : blank c = true) (t : List Int) : idle (c :: t) 0 = idle t 0 := by
  rcases t with _ | ⟨e, t⟩
  · simp [idle, h]
  · rw [idle, if_neg (fun e => (blank_ne h).1 e.1), if_neg (fun e => by omega), if_pos (.inr h)]
theorem idle_app : ∀ (xs ys : List Int) (d : Nat), idle xs d = true → idle (xs ++ ys) d = idle ys 0
  | [], ys, d, h => by
    simp only [idle, decide_eq_true_eq] at h
    subst h; rfl
  | [c], ys, d, h => by
    simp only [idle, Bool.and_eq_true, decide_eq_true_eq] at h
    obtain ⟨h1, rfl⟩ := h
    exact idle_blank h1 ys
  | c :: e :: t, ys, d, h => by
    rw [idle] at h
    show idle (c :: e :: (t ++ ys)) d = _
    rw [idle]
    by_cases h1 : c = 47 ∧ e = 42
    · rw [if_pos h1] at h ⊢; exact idle_app t ys _ h
    · rw [if_neg h1] at h ⊢
      by_cases h2 : 0 < d ∧ c = 42 ∧ e = 47
      · rw [if_pos h2] at h ⊢; exact idle_app t ys _ h
      · rw [if_neg h2] at h ⊢
        by_cases h3 : 0 < d ∨ blank c = true
        · rw [if_pos h3] at h ⊢; exact idle_app (e :: t) ys _ h
        · rw [if_neg h3] at h; cases h
theorem cmt_idle : ∀ (xs : List Int) (i d l b i' l' b' : Nat), cmt xs i d l b = .done i' l' b' → (1 ≤ d ∨ starts2 xs = true) → idle (xs.take (i' - i)) d = true ∧ l' = l + (xs.take (i' - i)).count 10
  | [], _, _, _, _, _, _, _, h, _ => by cases h
  | [_], _, _, _, _, _, _, _, h, _ => by cases h
  | c :: e :: t, i, d, l, b, i', l', b', h, hd => by
    have hbd := cmt_bounds _ _ _ _ _ _ _ _ h
    rw [cmt] at h
    by_cases h1 : c = 47 ∧ e = 42
    · rw [if_pos h1] at h
      have hb2 := cmt_bounds _ _ _ _ _ _ _ _ h
      obtain ⟨g1, g2⟩ := cmt_idle t (i + 2) (d + 1) l b i' l' b' h (.inl (by omega))
      rw [show i' - i = (i' - (i + 2)) + 1 + 1 by omega, List.take_succ_cons, List.take_succ_cons, idle, if_pos h1]
      refine ⟨g1, ?_⟩
      obtain ⟨rfl, rfl⟩ := h1
      rw [List.count_cons, List.count_cons, if_neg (by decide), if_neg (by decide)]
      omega
    · rw [if_neg h1] at h
      have hd1 : 1 ≤ d := by
        rcases hd with hd | hd
        · exact hd
        · simp only [starts2, Bool.and_eq_true, decide_eq_true_eq] at hd
          exact absurd hd h1
      by_cases h2 : c = 42 ∧ e = 47
      · rw [if_pos h2] at h
        obtain ⟨rfl, rfl⟩ := h2
        by_cases h3 : d = 1
        · rw [if_pos h3] at h
          cases h
          subst h3
          rw [show i + 2 - i = 0 + 1 + 1 by omega, List.take_succ_cons, List.take_succ_cons, List.take_zero]
          exact ⟨rfl, rfl⟩
        · rw [if_neg h3] at h
          have hb2 := cmt_bounds _ _ _ _ _ _ _ _ h
          obtain ⟨g1, g2⟩ := cmt_idle t (i + 2) (d - 1) l b i' l' b' h (.inl (by omega))
          rw [show i' - i = (i' - (i + 2)) + 1 + 1 by omega, List.take_succ_cons, List.take_succ_cons, idle, if_neg h1, if_pos ⟨by omega, rfl, rfl⟩]
          refine ⟨g1, ?_⟩
          rw [List.count_cons, List.count_cons, if_neg (by decide), if_neg (by decide)]
          omega
      · rw [if_neg h2] at h
        have hb2 := cmt_bounds _ _ _ _ _ _ _ _ h
        obtain ⟨g1, g2⟩ := cmt_idle (e :: t) (i + 1) d _ _ i' l' b' h (.inl hd1)
        obtain ⟨m, hm⟩ : ∃ m, i' - (i + 1) = m + 1 := ⟨i' - (i + 1) - 1, by omega⟩
        rw [hm] at g1 g2
        rw [List.take_succ_cons] at g1 g2
        rw [show i' - i = m + 1 + 1 by omega, List.take_succ_cons, List.take_succ_cons, idle, if_neg h1, if_neg (fun q => h2 q.2), if_pos (.inl (by omega))]
        refine ⟨g1, ?_⟩
        rw [List.count_cons]
        rw [g2]
        by_cases h10 : c = 10
        · rw [if_pos h10, if_pos (by simpa using h10)]; omega
        · rw [if_neg h10, if_neg (by simpa using h10)]; omega
theorem lit_no10 (q : Int) (hq : q ≠ 10) : ∀ (xs : List Int) (i : Nat) (acc v : List Int) (j : Nat), lit q xs i acc = some (v, j) → (10 : Int) ∉ xs.take (j - i)
  | [], _, _, _, _ => fun h => by cases h
  | [c], i, acc, v, j => fun h => by
    rw [lit] at h
    by_cases h1 : c = 10
    · rw [if_pos h1] at h; cases h
    · rw [if_neg h1] at h
      by_cases h2 : c = q
      · rw [if_pos h2] at h; cases h; simp
      · rw [if_neg h2] at h; cases h
  | c :: d :: t, i, acc, v, j => fun h => by
    rw [lit] at h
    by_cases h1 : c = 10
    · rw [if_pos h1] at h; cases h
    · rw [if_neg h1] at h
      by_cases h2 : c = q
      · rw [if_pos h2] at h
        by_cases h3 : d = q
        · rw [if_pos h3] at h
          have hb := (lit_bounds q (fun _ => True) trivial t (i + 2) _ v j h (fun _ _ => trivial) (fun _ _ => trivial)).1
          have := lit_no10 q hq t (i + 2) (acc ++ [q]) v j h
          rw [show j - i = (j - (i + 2)) + 1 + 1 by omega, List.take_succ_cons, List.take_succ_cons]
          intro hm
          rcases List.mem_cons.1 hm with e | e
          · exact h1 e.symm
          · rcases List.mem_cons.1 e with e | e
            · rw [h3] at e; exact hq e.symm
            · exact this e
        · rw [if_neg h3] at h; cases h; simp
      · rw [if_neg h2] at h
        have hb := (lit_bounds q (fun _ => True) trivial (d :: t) (i + 1) _ v j h (fun _ _ => trivial) (fun _ _ => trivial)).1
        have := lit_no10 q hq (d :: t) (i + 1) (acc ++ [c]) v j h
        rw [show j - i = (j - (i + 1)) + 1 by omega, List.take_succ_cons]
        intro hm
        rcases List.mem_cons.1 hm with e | e
        · exact h1 e.symm
        · exact this e
theorem sfx_no10 {a : Int} {t : List Int} (h : sfx (a :: t) ≠ 0) : a ≠ 10 := by
  intro e; subst e
  exact h (sfx_ns rfl)
theorem tok_no10 {xs t : List Int} {k n : Nat} (h : step xs = .tok k t n) : (10 : Int) ∉ xs.take n ∧ (k = 3 → xs.take n = t) := by
  rcases xs with _ | ⟨a, r⟩
  · cases h
  simp only [step] at h
  by_cases h1 : a = 10
  · rw [if_pos h1] at h; cases h
  rw [if_neg h1] at h
  by_cases h2 : a = 32
  · rw [if_pos h2] at h; cases h
  rw [if_neg h2] at h
  by_cases h3 : starts2 (a :: r) = true
  · rw [if_pos h3] at h; exact (cmtStep_ne h).elim
  rw [if_neg h3] at h
  by_cases h4 : a = 39 ∨ a = 34
  · rw [if_pos h4] at h
    obtain ⟨rfl, hr⟩ := tokStep_tok h
    refine ⟨?_, fun e => by cases e⟩
    have hq10 : a ≠ 10 := h1
    obtain ⟨v, U, R, e1, e2, e3, e4⟩ := litTok_parts hr
    have hU : (10 : Int) ∉ U := by
      have := lit_no10 a hq10 (U ++ a :: R) 1 [] v (U.length + 1) (e3 R e2)
      rw [Nat.add_sub_cancel, List.take_left] at this
      exact this
    subst e1
    rcases e4 with ⟨hs, rfl⟩ | ⟨hs, rfl⟩
    · have : (a :: (U ++ a :: R)).take (U.length + 2) = a :: (U ++ [a]) := by
        rw [List.take_succ_cons, show U ++ a :: R = (U ++ [a]) ++ R by simp, List.take_left' (by simp)]
      rw [this]
      intro hm
      simp only [List.mem_cons, List.mem_append, List.not_mem_nil, or_false] at hm
      rcases hm with e | e | e
      · exact hq10 e.symm
      · exact hU e
      · exact hq10 e.symm
    · rcases R with _ | ⟨b, R⟩
      · exact absurd rfl hs
      · have : (a :: (U ++ a :: b :: R)).take (U.length + 3) = a :: (U ++ [a, b]) := by
          rw [List.take_succ_cons, show U ++ a :: b :: R = (U ++ [a, b]) ++ R by simp, List.take_left' (by simp)]
        rw [this]
        have hb10 := sfx_no10 hs
        intro hm
        simp only [List.mem_cons, List.mem_append, List.not_mem_nil, or_false] at hm
        rcases hm with e | e | e | e
        · exact hq10 e.symm
        · exact hU e
        · exact hq10 e.symm
        · exact hb10 e.symm
  rw [if_neg h4] at h
  by_cases h5 : sym a = true
  · rw [if_pos h5] at h
    obtain ⟨rfl, hr⟩ := tokStep_tok h
    refine ⟨?_, fun e => by cases e⟩
    have hn : n = symLen (a :: r) := by
      unfold symTok at hr
      split at hr
      · cases hr
      · simp only [TR.ok.injEq] at hr; exact hr.2.symm
    obtain ⟨M, R, e1, hM, hR, hor⟩ := symLen_parts (a :: r)
    have hM10 : (10 : Int) ∉ M := fun e => by have := hM 10 e; cases this
    rw [hn]
    rcases hor with ⟨hl, _⟩ | ⟨g, D, S, hRS, hm, hg, hD, hd, hS, hl⟩
    · rw [hl, e1, List.take_left]; exact hM10
    · have : (a :: r).take (symLen (a :: r)) = M ++ g :: D := by
        rw [hl, e1, hRS, show M ++ g :: (D ++ S) = (M ++ g :: D) ++ S by simp, List.take_left' (by simp; omega)]
      rw [this]
      intro hm
      simp only [List.mem_cons, List.mem_append] at hm
      rcases hm with e | e | e
      · exact hM10 e
      · rcases hg with rfl | rfl <;> cases e
      · have := hd 10 e; cases this
  rw [if_neg h5] at h
  obtain ⟨rfl, hr⟩ := tokStep_tok h
  unfold signTok at hr
  cases hf : signs.find? (fun x => x.isPrefixOf (a :: r)) with
  | none => rw [hf] at hr; cases hr
  | some l =>
    rw [hf] at hr
    simp only [TR.ok.injEq] at hr
    obtain ⟨rfl, rfl⟩ := hr
    have hp : l.isPrefixOf (a :: r) = true := by simpa using List.find?_some hf
    have he := prefix_eq _ _ hp
    have : (a :: r).take l.length = l := by conv => { lhs; rw [he] }; exact List.take_left
    rw [this]
    exact ⟨signs_no10 l (List.mem_of_find?_eq_some hf), fun _ => rfl⟩
end Go.Proofs.YtkkpjonfaflkmaaGreatDoor.S

namespace Go.Proofs.YtkkpjonfaflkmaaGreatDoor.S
set_option linter.unusedSimpArgs false
set_option linter.unusedVariables false
def seg (L : List Int) (a b : Nat) : List Int := (L.drop a).take (b - a)
theorem seg_app {L : List Int} {a b c : Nat} (h1 : a ≤ b) (h2 : b ≤ c) : seg L a c = seg L a b ++ seg L b c := by
  unfold seg
  rw [show c - a = (b - a) + (c - b) by omega, List.take_add, List.drop_drop, show a + (b - a) = b by omega]
theorem seg_self (L : List Int) (a : Nat) : seg L a a = [] := by unfold seg; rw [Nat.sub_self, List.take_zero]
theorem seg_end (L : List Int) (a : Nat) : seg L a L.length = L.drop a := by
  unfold seg
  rw [List.take_of_length_le (by rw [List.length_drop]; omega)]
theorem idle_seg {L : List Int} {a b c : Nat} (h1 : a ≤ b) (h2 : b ≤ c) (ha : idle (seg L a b) 0 = true) (hb : idle (seg L b c) 0 = true) : idle (seg L a c) 0 = true := by
  rw [seg_app h1 h2, idle_app _ _ _ ha]; exact hb
structure TokOK (L : List Int) (e ln : Nat) (t : Tk) : Prop where
  h1 : e ≤ t.at_
  h2 : t.at_ ≤ t.to
  h3 : t.to ≤ L.length
  h4 : ln ≤ t.line
  h5 : t.kind ≠ 4 → t.at_ < t.to
  h6 : idle (seg L e t.at_) 0 = true
  h7 : t.line = 1 + (L.take t.at_).count 10
  h8 : t.kind = 3 → seg L t.at_ t.to = t.text
def Pre (L : List Int) : Nat → Nat → List Tk → Nat → Nat → Prop
  | e, ln, [], e', ln' => e' = e ∧ ln' = ln
  | e, ln, t :: ts, e', ln' => TokOK L e ln t ∧ Pre L t.to t.line ts e' ln'
theorem Pre.append {L : List Int} : ∀ {a : List Tk} {e ln m k : Nat} {b : List Tk} {p q : Nat}, Pre L e ln a m k → Pre L m k b p q → Pre L e ln (a ++ b) p q
  | [], e, ln, m, k, b, p, q, h1, h2 => by obtain ⟨rfl, rfl⟩ := h1; exact h2
  | t :: a, e, ln, m, k, b, p, q, h1, h2 => ⟨h1.1, Pre.append h1.2 h2⟩
theorem Pre.one {L : List Int} {e ln : Nat} {t : Tk} (h : TokOK L e ln t) : Pre L e ln [t] t.to t.line := ⟨h, rfl, rfl⟩
theorem Pre.snoc_inv {L : List Int} : ∀ {a : List Tk} {e ln m k : Nat} {t : Tk}, Pre L e ln (a ++ [t]) m k → ∃ m' k', Pre L e ln a m' k' ∧ TokOK L m' k' t ∧ m = t.to ∧ k = t.line
  | [], e, ln, m, k, t, h => ⟨e, ln, ⟨rfl, rfl⟩, h.1, h.2.1, h.2.2⟩
  | s :: a, e, ln, m, k, t, h => by
    obtain ⟨m', k', g1, g2, g3⟩ := Pre.snoc_inv h.2
    exact ⟨m', k', ⟨h.1, g1⟩, g2, g3⟩
theorem count_take (L : List Int) (i n : Nat) : (L.take (i + n)).count 10 = (L.take i).count 10 + ((L.drop i).take n).count 10 := by
  rw [List.take_add, List.count_append]
theorem comma_last {cur : List Tk} (h : comma cur = true) : ∃ a t, cur = a ++ [t] ∧ t.kind = 3 ∧ t.text = [44] := by
  rcases List.eq_nil_or_concat cur with rfl | ⟨a, t, rfl⟩
  · cases h
  · rw [List.concat_eq_append] at h ⊢
    simp only [comma, List.getLast?_concat, Bool.and_eq_true, decide_eq_true_eq] at h
    exact ⟨a, t, rfl, h.1, h.2⟩
theorem step_line {xs : List Int} (h : step xs = .line) : ∃ t, xs = 10 :: t := by
  rcases xs with _ | ⟨a, t⟩
  · cases h
  simp only [step] at h
  by_cases h1 : a = 10
  · exact ⟨t, by rw [h1]⟩
  exfalso
  rw [if_neg h1] at h
  by_cases h2 : a = 32
  · rw [if_pos h2] at h; cases h
  rw [if_neg h2] at h
  by_cases h3 : starts2 (a :: t) = true
  · rw [if_pos h3] at h
    cases hc : cmt (a :: t) 0 0 1 0 with
    | eof => rw [hc] at h; cases h
    | done i l b => rw [hc] at h; simp only [cmtStep] at h; split at h <;> cases h
  rw [if_neg h3] at h
  have key : ∀ k r, tokStep k r ≠ .line := fun k r e => by cases r <;> cases e
  by_cases h4 : a = 39 ∨ a = 34
  · rw [if_pos h4] at h; exact key _ _ h
  rw [if_neg h4] at h
  by_cases h5 : sym a = true
  · rw [if_pos h5] at h; exact key _ _ h
  · rw [if_neg h5] at h; exact key _ _ h
theorem step_blank {xs : List Int} (h : step xs = .blank) : ∃ t, xs = 32 :: t := by
  rcases xs with _ | ⟨a, t⟩
  · cases h
  simp only [step] at h
  by_cases h1 : a = 10
  · rw [if_pos h1] at h; cases h
  rw [if_neg h1] at h
  by_cases h2 : a = 32
  · exact ⟨t, by rw [h2]⟩
  exfalso
  rw [if_neg h2] at h
  by_cases h3 : starts2 (a :: t) = true
  · rw [if_pos h3] at h
    cases hc : cmt (a :: t) 0 0 1 0 with
    | eof => rw [hc] at h; cases h
    | done i l b => rw [hc] at h; simp only [cmtStep] at h; split at h <;> cases h
  rw [if_neg h3] at h
  have key : ∀ k r, tokStep k r ≠ .blank := fun k r e => by cases r <;> cases e
  by_cases h4 : a = 39 ∨ a = 34
  · rw [if_pos h4] at h; exact key _ _ h
  rw [if_neg h4] at h
  by_cases h5 : sym a = true
  · rw [if_pos h5] at h; exact key _ _ h
  · rw [if_neg h5] at h; exact key _ _ h
theorem step_cmt_idle {xs : List Int} {n dl : Nat} (h : step xs = .cmt n dl) : idle (xs.take n) 0 = true ∧ dl = (xs.take n).count 10 := by
  rcases xs with _ | ⟨a, t⟩
  · cases h
  simp only [step] at h
  by_cases h1 : a = 10
  · rw [if_pos h1] at h; cases h
  rw [if_neg h1] at h
  by_cases h2 : a = 32
  · rw [if_pos h2] at h; cases h
  rw [if_neg h2] at h
  by_cases h3 : starts2 (a :: t) = true
  · rw [if_pos h3] at h
    cases hc : cmt (a :: t) 0 0 1 0 with
    | eof => rw [hc] at h; cases h
    | done i l b =>
      rw [hc] at h
      simp only [cmtStep] at h
      split at h
      · cases h
        obtain ⟨g1, g2⟩ := cmt_idle _ _ _ _ _ _ _ _ hc (.inr h3)
        rw [Nat.sub_zero] at g1 g2
        exact ⟨g1, by omega⟩
      · cases h
  rw [if_neg h3] at h
  have key : ∀ k r, tokStep k r ≠ .cmt n dl := fun k r e => by cases r <;> cases e
  by_cases h4 : a = 39 ∨ a = 34
  · rw [if_pos h4] at h; exact (key _ _ h).elim
  rw [if_neg h4] at h
  by_cases h5 : sym a = true
  · rw [if_pos h5] at h; exact (key _ _ h).elim
  · rw [if_neg h5] at h; exact (key _ _ h).elim
theorem go_cov (L : List Int) (hb : ∀ x ∈ L, 0 ≤ x ∧ x < 256) : ∀ (f : Nat) (xs : List Int) (i line : Nat) (cur : List Tk) (gap : Bool) (e ln m k : Nat), xs = L.drop i → i ≤ L.length → line = 1 + (L.take i).count 10 → Pre L e ln cur m k → m ≤ i → k ≤ line →
    idle (seg L m i) 0 = true → xs.length < f → (go f xs i line cur gap).err = none → ∃ e' ln', Pre L e ln (go f xs i line cur gap).cl.flatten e' ln' ∧ e' ≤ L.length ∧ idle (L.drop e') 0 = true
  | 0, xs, i, line, cur, gap, e, ln, m, k, _, _, _, _, _, _, _, hf, _ => absurd hf (Nat.not_lt_zero _)
  | f + 1, xs, i, line, cur, gap, e, ln, m, k, hxs, hi, hline, hpre, hmi, hkl, hid, hf, he => by
    have hbx : ∀ x ∈ xs, 0 ≤ x ∧ x < 256 := fun x hx => hb x (by rw [hxs] at hx; exact List.mem_of_mem_drop hx)
    have hlen : xs.length = L.length - i := by rw [hxs, List.length_drop]
    have ih := fun n line cur gap e ln m k => go_cov L hb f (xs.drop n) (i + n) line cur gap e ln m k (by rw [hxs, List.drop_drop])
    have hcnt : ∀ n, (L.take (i + n)).count 10 = (L.take i).count 10 + (xs.take n).count 10 := fun n => by rw [count_take, hxs]
    have hseg : ∀ n, seg L i (i + n) = xs.take n := fun n => by unfold seg; rw [hxs, Nat.add_sub_cancel_left]
    have emitted : ∀ (cur : List Tk) (p k' i' tu line' : Nat), Pre L e ln cur p k' → TokOK L p k' (endTk i' tu line') → cur ≠ [] → Pre L e ln (emit cur i' tu line').flatten tu line' := fun cur p k' i' tu line' h1 h2 hne => by
      unfold emit
      rw [if_neg hne, List.flatten_cons, List.flatten_nil, List.append_nil]
      exact h1.append (Pre.one h2)
    rw [go] at he ⊢
    cases hs : step xs with
    | err c dl => rw [hs] at he; cases he
    | fin =>
      have hx0 : xs = [] := by
        rcases xs with _ | ⟨a, t⟩
        · rfl
        · exfalso
          simp only [step] at hs
          by_cases h1 : a = 10
          · rw [if_pos h1] at hs; cases hs
          rw [if_neg h1] at hs
          by_cases h2 : a = 32
          · rw [if_pos h2] at hs; cases hs
          rw [if_neg h2] at hs
          by_cases h3 : starts2 (a :: t) = true
          · rw [if_pos h3] at hs
            cases hc : cmt (a :: t) 0 0 1 0 with
            | eof => rw [hc] at hs; cases hs
            | done i l b => rw [hc] at hs; simp only [cmtStep] at hs; split at hs <;> cases hs
          rw [if_neg h3] at hs
          have key : ∀ k r, tokStep k r ≠ .fin := fun k r e => by cases r <;> cases e
          by_cases h4 : a = 39 ∨ a = 34
          · rw [if_pos h4] at hs; exact key _ _ hs
          rw [if_neg h4] at hs
          by_cases h5 : sym a = true
          · rw [if_pos h5] at hs; exact key _ _ hs
          · rw [if_neg h5] at hs; exact key _ _ hs
      have hiL : i = L.length := by
        rw [hx0] at hlen
        simp only [List.length_nil] at hlen
        omega
      simp only
      have fin : ∀ (cur : List Tk) (p k' : Nat), Pre L e ln cur p k' → p ≤ i → k' ≤ line → idle (seg L p i) 0 = true → ∃ e' ln', Pre L e ln (emit cur i i line).flatten e' ln' ∧ e' ≤ L.length ∧ idle (L.drop e') 0 = true := fun cur p k' h1 h2 h3 h4 => by
        by_cases hne : cur = []
        · subst hne
          obtain ⟨rfl, rfl⟩ := h1
          refine ⟨_, _, ⟨rfl, rfl⟩, by omega, ?_⟩
          rw [hiL, seg_end] at h4
          exact h4
        · refine ⟨i, line, emitted cur p k' i i line h1 ⟨h2, Nat.le_refl _, hi, h3, fun e => absurd rfl e, h4, hline, fun e => by cases e⟩ hne, hi, ?_⟩
          rw [List.drop_eq_nil_of_le (by omega)]; rfl
      unfold cut
      by_cases hcm : comma cur = true
      · rw [if_pos hcm]
        obtain ⟨a, t, rfl, ht1, ht2⟩ := comma_last hcm
        rw [List.dropLast_concat]
        obtain ⟨m', k', g1, g2, rfl, rfl⟩ := hpre.snoc_inv
        refine fin a m' k' g1 (by have := g2.h1; have := g2.h2; omega) (by have := g2.h4; omega) ?_
        refine idle_seg g2.h1 (Nat.le_trans g2.h2 hmi) g2.h6 (idle_seg g2.h2 hmi ?_ hid)
        rw [g2.h8 ht1, ht2]; rfl
      · rw [if_neg hcm]
        exact fin cur m k hpre hmi hkl hid
    | line =>
      rw [hs] at he
      simp only at he ⊢
      obtain ⟨t, rfl⟩ : ∃ t, xs = 10 :: t := step_line hs
      have hnl : line + 1 = 1 + (L.take (i + 1)).count 10 := by rw [hcnt 1, hline]; simp; omega
      have hi1 : i + 1 ≤ L.length := by simp only [List.length_cons] at hlen; omega
      have hid1 : idle (seg L i (i + 1)) 0 = true := by rw [hseg 1]; rfl
      have hf1 : ((10 :: t).drop 1).length < f := by simp only [List.length_cons] at hf; simp; omega
      by_cases hcm : comma cur = true
      · rw [if_pos hcm] at he ⊢
        obtain ⟨a, tk, rfl, ht1, ht2⟩ := comma_last hcm
        rw [List.dropLast_concat] at he ⊢
        obtain ⟨m', k', g1, g2, rfl, rfl⟩ := hpre.snoc_inv
        refine ih 1 (line + 1) a true e ln m' k' hi1 hnl g1 (by have := g2.h1; have := g2.h2; omega) (by have := g2.h4; omega) ?_ hf1 he
        refine idle_seg g2.h1 (by have := g2.h2; omega) g2.h6 (idle_seg g2.h2 (by omega) ?_ (idle_seg hmi (by omega) hid hid1))
        rw [g2.h8 ht1, ht2]; rfl
      · rw [if_neg hcm] at he ⊢
        rw [pre_err] at he
        unfold Out.pre
        simp only [List.flatten_append]
        by_cases hne : cur = []
        · subst hne
          obtain ⟨rfl, rfl⟩ := hpre
          have := ih 1 (line + 1) [] false m k m k hi1 hnl ⟨rfl, rfl⟩ (by omega) (by omega) (idle_seg hmi (by omega) hid hid1) hf1 he
          simpa [emit] using this
        · obtain ⟨e', ln', g1, g2, g3⟩ := ih 1 (line + 1) [] false (i + 1) line (i + 1) line hi1 hnl ⟨rfl, rfl⟩ (Nat.le_refl _) (by omega) (by rw [seg_self]; rfl) hf1 he
          exact ⟨e', ln', (emitted cur m k i (i + 1) line hpre ⟨hmi, by show i ≤ i + 1; omega, hi1, hkl, fun e => absurd rfl e, hid, hline, fun e => by cases e⟩ hne).append g1, g2, g3⟩
    | blank =>
      rw [hs] at he
      simp only at he ⊢
      obtain ⟨t, rfl⟩ : ∃ t, xs = 32 :: t := step_blank hs
      have hnl : line = 1 + (L.take (i + 1)).count 10 := by rw [hcnt 1, hline]; simp
      refine ih 1 line cur true e ln m k (by simp only [List.length_cons] at hlen; omega) hnl hpre (by omega) hkl (idle_seg hmi (by omega) hid (by rw [hseg 1]; rfl)) (by simp only [List.length_cons] at hf; simp; omega) he
    | cmt n dl =>
      rw [hs] at he
      simp only at he ⊢
      obtain ⟨h1, h2, h3⟩ := step_cmt hs
      obtain ⟨c1, c2⟩ := step_cmt_idle hs
      refine ih n (line + dl) cur gap e ln m k (by omega) (by rw [hcnt n, hline]; omega) hpre (by omega) (by omega) (idle_seg hmi (by omega) hid (by rw [hseg n]; exact c1)) (by rw [List.length_drop]; omega) he
    | tok kd t n =>
      rw [hs] at he
      simp only at he ⊢
      obtain ⟨h1, h2, -, hk1, hk2⟩ := step_tok hbx hs
      obtain ⟨d1, d2⟩ := tok_no10 hs
      have hl0 : (xs.take n).count 10 = 0 := List.count_eq_zero.2 d1
      have hnl : line = 1 + (L.take (i + n)).count 10 := by rw [hcnt n, hline, hl0]; omega
      have hin : i + n ≤ L.length := by omega
      have hfn : (xs.drop n).length < f := by rw [List.length_drop]; omega
      by_cases hsc : kd = 3 ∧ t = [59]
      · rw [if_pos hsc] at he ⊢
        rw [pre_err] at he
        unfold Out.pre
        simp only [List.flatten_append]
        have hsemi : idle (seg L i (i + n)) 0 = true := by rw [hseg n, d2 hsc.1, hsc.2]; rfl
        by_cases hne : cur = []
        · subst hne
          obtain ⟨rfl, rfl⟩ := hpre
          have := ih n line [] false m k m k hin hnl ⟨rfl, rfl⟩ (by omega) (by omega) (idle_seg hmi (by omega) hid hsemi) hfn he
          simpa [emit] using this
        · obtain ⟨e', ln', g1, g2, g3⟩ := ih n line [] false (i + n) line (i + n) line hin hnl ⟨rfl, rfl⟩ (Nat.le_refl _) (Nat.le_refl _) (by rw [seg_self]; rfl) hfn he
          exact ⟨e', ln', (emitted cur m k i (i + n) line hpre ⟨hmi, by show i ≤ i + n; omega, hin, hkl, fun e => absurd rfl e, hid, hline, fun e => by cases e⟩ hne).append g1, g2, g3⟩
      · rw [if_neg hsc] at he ⊢
        obtain ⟨tk, htk⟩ : ∃ tk, (⟨kd, t, gap && !decide (cur = []), line, i, i + n⟩ : Tk) = tk := ⟨_, rfl⟩
        have hok : TokOK L m k tk := by
          rw [← htk]
          exact ⟨hmi, by show i ≤ i + n; omega, hin, hkl, fun _ => by show i < i + n; omega, hid, hline, fun e => by show seg L i (i + n) = t; rw [hseg n]; exact d2 e⟩
        have hto : tk.to = i + n := by rw [← htk]
        have htl : tk.line = line := by rw [← htk]
        rw [htk] at he ⊢
        have hpre2 := hpre.append (Pre.one hok)
        rw [hto, htl] at hpre2
        by_cases hlb : label (cur ++ [tk]) = true
        · rw [if_pos hlb] at he ⊢
          rw [pre_err] at he
          unfold Out.pre
          simp only [List.flatten_append]
          obtain ⟨e', ln', g1, g2, g3⟩ := ih n line [] false (i + n) line (i + n) line hin hnl ⟨rfl, rfl⟩ (Nat.le_refl _) (Nat.le_refl _) (by rw [seg_self]; rfl) hfn he
          exact ⟨e', ln', (emitted (cur ++ [tk]) (i + n) line (i + n) (i + n) line hpre2 ⟨Nat.le_refl _, Nat.le_refl _, hin, Nat.le_refl _, fun e => absurd rfl e, by rw [show (endTk (i + n) (i + n) line).at_ = i + n from rfl, seg_self]; rfl, hnl, fun e => by cases e⟩ (by simp)).append g1, g2, g3⟩
        · rw [if_neg hlb] at he ⊢
          exact ih n line (cur ++ [tk]) false e ln (i + n) line hin hnl hpre2 (Nat.le_refl _) (Nat.le_refl _) (by rw [seg_self]; rfl) hfn he
theorem scan_cov {L : List Int} (hb : ∀ x ∈ L, 0 ≤ x ∧ x < 256) (he : (scan L).err = none) : ∃ e' ln', Pre L 0 1 (tokens L) e' ln' ∧ e' ≤ L.length ∧ idle (L.drop e') 0 = true :=
  go_cov L hb (L.length + 1) L 0 1 [] false 0 1 0 1 (by simp) (Nat.zero_le _) (by simp) ⟨rfl, rfl⟩ (Nat.le_refl _) (Nat.le_refl _) (by rw [seg_self]; rfl) (Nat.lt_succ_self _) he
end Go.Proofs.YtkkpjonfaflkmaaGreatDoor.S

namespace Go.Proofs.YtkkpjonfaflkmaaGreatDoor.S
set_option linter.unusedSimpArgs false
set_option linter.unusedVariables false
def key (t : Tk) : Nat × List Int × Bool := (t.kind, t.text, t.gap)
theorem comma_key {a b : List Tk} (h : a.map key = b.map key) : comma a = comma b := by
  have hl : (a.map key).getLast? = (b.map key).getLast? := by rw [h]
  rw [List.getLast?_map, List.getLast?_map] at hl
  unfold comma
  cases ha : a.getLast? with
  | none =>
    rw [ha] at hl
    cases hb : b.getLast? with
    | none => rfl
    | some y => rw [hb] at hl; cases hl
  | some x =>
    rw [ha] at hl
    cases hb : b.getLast? with
    | none => rw [hb] at hl; cases hl
    | some y =>
      rw [hb] at hl
      simp only [Option.map_some, Option.some.injEq, key, Prod.mk.injEq] at hl
      simp only [hl.1, hl.2.1]
theorem label_key : ∀ {a b : List Tk}, a.map key = b.map key → label a = label b
  | [], [], _ => rfl
  | [], _ :: _, h => by cases h
  | _ :: _, [], h => by cases h
  | [_], [_], _ => rfl
  | [_], _ :: _ :: _, h => by simp at h
  | _ :: _ :: _, [_], h => by simp at h
  | [x, y], [u, v], h => by
    simp only [List.map_cons, List.map_nil, List.cons.injEq, key, Prod.mk.injEq, and_true] at h
    simp only [label, h.1.1, h.2.1, h.2.2.1]
  | [_, _], _ :: _ :: _ :: _, h => by simp at h
  | _ :: _ :: _ :: _, [_, _], h => by simp at h
  | _ :: _ :: _ :: _, _ :: _ :: _ :: _, h => rfl
end Go.Proofs.YtkkpjonfaflkmaaGreatDoor.S

namespace Go.Proofs.YtkkpjonfaflkmaaGreatDoor.S
set_option linter.unusedSimpArgs false
set_option linter.unusedVariables false
theorem cmt_take : ∀ (xs Y : List Int) (i d l b i' l' b' : Nat), cmt xs i d l b = .done i' l' b' → cmt (xs.take (i' - i) ++ Y) i d l b = .done i' l' b'
  | [], _, _, _, _, _, _, _, _, h => by cases h
  | [_], _, _, _, _, _, _, _, _, h => by cases h
  | c :: e :: t, Y, i, d, l, b, i', l', b', h => by
    rw [cmt] at h
    by_cases h1 : c = 47 ∧ e = 42
    · rw [if_pos h1] at h
      have hb2 := cmt_bounds _ _ _ _ _ _ _ _ h
      have ih := cmt_take t Y _ _ _ _ _ _ _ h
      rw [show i' - i = (i' - (i + 2)) + 1 + 1 by omega, List.take_succ_cons, List.take_succ_cons]
      show cmt (c :: e :: (t.take (i' - (i + 2)) ++ Y)) i d l b = _
      rw [cmt, if_pos h1]; exact ih
    · rw [if_neg h1] at h
      by_cases h2 : c = 42 ∧ e = 47
      · rw [if_pos h2] at h
        by_cases h3 : d = 1
        · rw [if_pos h3] at h
          have hi : i' = i + 2 := by cases h; rfl
          rw [show i' - i = 0 + 1 + 1 by omega, List.take_succ_cons, List.take_succ_cons, List.take_zero]
          show cmt (c :: e :: Y) i d l b = _
          rw [cmt, if_neg h1, if_pos h2, if_pos h3]; exact h
        · rw [if_neg h3] at h
          have hb2 := cmt_bounds _ _ _ _ _ _ _ _ h
          have ih := cmt_take t Y _ _ _ _ _ _ _ h
          rw [show i' - i = (i' - (i + 2)) + 1 + 1 by omega, List.take_succ_cons, List.take_succ_cons]
          show cmt (c :: e :: (t.take (i' - (i + 2)) ++ Y)) i d l b = _
          rw [cmt, if_neg h1, if_pos h2, if_neg h3]; exact ih
      · rw [if_neg h2] at h
        have hb2 := cmt_bounds _ _ _ _ _ _ _ _ h
        have ih := cmt_take (e :: t) Y _ _ _ _ _ _ _ h
        obtain ⟨m, hm⟩ : ∃ m, i' - (i + 1) = m + 1 := ⟨i' - (i + 1) - 1, by omega⟩
        rw [hm, List.take_succ_cons] at ih
        rw [show i' - i = m + 1 + 1 by omega, List.take_succ_cons, List.take_succ_cons]
        show cmt (c :: e :: (t.take m ++ Y)) i d l b = _
        rw [cmt, if_neg h1, if_neg h2]; exact ih
theorem step_cmt_loc {xs : List Int} {n dl : Nat} (h : step xs = .cmt n dl) (Y : List Int) : step (xs.take n ++ Y) = .cmt n dl := by
  have hn := step_cmt h
  rcases xs with _ | ⟨a, t⟩
  · cases h
  simp only [step] at h
  by_cases h1 : a = 10
  · rw [if_pos h1] at h; cases h
  rw [if_neg h1] at h
  by_cases h2 : a = 32
  · rw [if_pos h2] at h; cases h
  rw [if_neg h2] at h
  by_cases h3 : starts2 (a :: t) = true
  · rw [if_pos h3] at h
    cases hc : cmt (a :: t) 0 0 1 0 with
    | eof => rw [hc] at h; cases h
    | done i l b =>
      rw [hc] at h
      simp only [cmtStep] at h
      split at h
      · rename_i hb0
        cases h
        have hb2 := cmt_bounds _ _ _ _ _ _ _ _ hc
        have ht := cmt_take (a :: t) Y 0 0 1 0 _ l b hc
        rw [Nat.sub_zero] at ht
        obtain ⟨m, rfl⟩ : ∃ m, n = m + 1 := ⟨n - 1, by omega⟩
        rw [List.take_succ_cons] at ht ⊢
        have hst : starts2 (a :: (t.take m ++ Y)) = true := by
          rcases t with _ | ⟨e, t⟩
          · cases hc
          · rcases m with _ | m
            · exfalso
              simp only [starts2, Bool.and_eq_true, decide_eq_true_eq] at h3
              rw [cmt, if_pos h3] at hc
              have := cmt_bounds _ _ _ _ _ _ _ _ hc
              omega
            · rw [List.take_succ_cons]; exact h3
        rw [List.cons_append] at ht ⊢
        simp only [step, if_neg h1, if_neg h2, if_pos hst, ht, cmtStep, if_pos hb0]
      · cases h
  rw [if_neg h3] at h
  have key : ∀ k r, tokStep k r ≠ .cmt n dl := fun k r e => by cases r <;> cases e
  by_cases h4 : a = 39 ∨ a = 34
  · rw [if_pos h4] at h; exact (key _ _ h).elim
  rw [if_neg h4] at h
  by_cases h5 : sym a = true
  · rw [if_pos h5] at h; exact (key _ _ h).elim
  · rw [if_neg h5] at h; exact (key _ _ h).elim
end Go.Proofs.YtkkpjonfaflkmaaGreatDoor.S

namespace Go.Proofs.YtkkpjonfaflkmaaGreatDoor.S
set_option linter.unusedSimpArgs false
set_option linter.unusedVariables false
theorem step_nofin (a : Int) (t : List Int) : step (a :: t) ≠ .fin := by
  have ht : ∀ k r, tokStep k r ≠ .fin := fun k r => by cases r <;> simp [tokStep]
  have hc : ∀ r, cmtStep r ≠ .fin := fun r => by
    cases r with
    | eof => simp [cmtStep]
    | done i l b => simp only [cmtStep]; split <;> simp
  simp only [step]
  split
  · simp
  · split
    · simp
    · split
      · exact hc _
      · split
        · exact ht _ _
        · split
          · exact ht _ _
          · exact ht _ _
theorem step_more {xs : List Int} (hb : ∀ x ∈ xs, 0 ≤ x ∧ x < 256) (h0 : xs ≠ []) (he : ∀ c dl, step xs ≠ .err c dl) {c : Int} (hc : c = 10 ∨ c = 59) (R : List Int) : step (xs ++ c :: R) = step xs := by
  cases hs : step xs with
  | fin => cases xs with
    | nil => exact absurd rfl h0
    | cons a t => exact absurd hs (step_nofin a t)
  | line => obtain ⟨t, rfl⟩ := step_line hs; simp [step]
  | blank => obtain ⟨t, rfl⟩ := step_blank hs; simp [step]
  | cmt n dl =>
    have := step_cmt_loc hs (xs.drop n ++ c :: R)
    rwa [← List.append_assoc, List.take_append_drop] at this
  | tok k t n =>
    obtain ⟨g1, g2, -⟩ := step_tok hb hs
    have hl : (xs.take n).length = n := by rw [List.length_take]; omega
    have := step_loc (A := xs.take n) (C := xs.drop n) (R2 := []) (R3 := R) (x := t) (c := c) (k := k) (by rcases hc with rfl | rfl; exact .inl rfl; exact .inr (.inl rfl)) (fun d _ _ e s h => by cases h) (fun e => by rw [e] at hl; simp at hl; omega)
      (fun h => by rcases hc with rfl | rfl <;> simp at h) (by rw [List.append_nil, List.take_append_drop, hl]; exact hs)
    rw [← List.append_assoc, List.take_append_drop, hl] at this
    exact this
  | err c dl => exact absurd hs (he c dl)
def Splits (f : Nat) (xs : List Int) (i line : Nat) (cur : List Tk) (gap : Bool) (e l : Nat) : Prop :=
  ∃ cls cur' gap', go f xs i line cur gap = ⟨cls ++ emit (cut cur') e e l, none⟩ ∧
    ∀ (c : Int) (R : List Int) (f' : Nat), (c = 10 ∨ c = 59) → (xs ++ c :: R).length < f' → ∃ f'', (c :: R).length < f'' ∧ go f' (xs ++ c :: R) i line cur gap = (go f'' (c :: R) e l cur' gap').pre cls
theorem go_split : ∀ (f : Nat) (xs : List Int) (i line : Nat) (cur : List Tk) (gap : Bool), (∀ x ∈ xs, 0 ≤ x ∧ x < 256) → xs.length < f → (go f xs i line cur gap).err = none → Splits f xs i line cur gap (i + xs.length) (line + xs.count 10)
  | 0, xs, i, line, cur, gap, _, h, _ => absurd h (Nat.not_lt_zero _)
  | f + 1, xs, i, line, cur, gap, hb, hf, he => by
    have hbd : ∀ n, ∀ x ∈ xs.drop n, 0 ≤ x ∧ x < 256 := fun n x hx => hb x (List.mem_of_mem_drop hx)
    by_cases h0 : xs = []
    · subst h0
      exact ⟨[], cur, gap, rfl, fun c R f' _ hf' => ⟨f', hf', rfl⟩⟩
    have herr : ∀ c dl, step xs ≠ .err c dl := fun c dl e => by rw [go, e] at he; cases he
    have hx1 : 1 ≤ xs.length := List.length_pos_iff.2 h0
    have hst := fun c R hc => step_more hb h0 herr (c := c) hc R
    have key : ∀ (n line' : Nat) (cur2 : List Tk) (gap2 : Bool) (pre : List (List Tk)), 1 ≤ n → n ≤ xs.length → line' = line + (xs.take n).count 10 →
        go (f + 1) xs i line cur gap = (go f (xs.drop n) (i + n) line' cur2 gap2).pre pre →
        (∀ (c : Int) (R : List Int) (f' : Nat), (c = 10 ∨ c = 59) → go (f' + 1) (xs ++ c :: R) i line cur gap = (go f' ((xs ++ c :: R).drop n) (i + n) line' cur2 gap2).pre pre) →
        Splits (f + 1) xs i line cur gap (i + xs.length) (line + xs.count 10) := fun n line' cur2 gap2 pre h1 h2 hl hg hg2 => by
      have he2 : (go f (xs.drop n) (i + n) line' cur2 gap2).err = none := by rw [hg] at he; exact he
      have ih := go_split f (xs.drop n) (i + n) line' cur2 gap2 (hbd n) (by rw [List.length_drop]; omega) he2
      have e1 : i + n + (xs.drop n).length = i + xs.length := by rw [List.length_drop]; omega
      have e2 : line' + (xs.drop n).count 10 = line + xs.count 10 := by
        have : xs.count 10 = (xs.take n).count 10 + (xs.drop n).count 10 := by rw [← List.count_append, List.take_append_drop]
        omega
      rw [e1, e2] at ih
      obtain ⟨cls, cur', gap', k1, k2⟩ := ih
      refine ⟨pre ++ cls, cur', gap', ?_, fun c R f' hc hf' => ?_⟩
      · rw [hg, k1]
        simp [Out.pre]
      · cases f' with
        | zero => exact absurd hf' (Nat.not_lt_zero _)
        | succ f' =>
          rw [hg2 c R f' hc, List.drop_append_of_le_length h2]
          obtain ⟨f'', g1, g2⟩ := k2 c R f' hc (by rw [List.length_append] at hf' ⊢; rw [List.length_drop]; omega)
          refine ⟨f'', g1, ?_⟩
          rw [g2]
          simp [Out.pre]
    have hpn : ∀ o : Out, o.pre [] = o := fun o => by simp [Out.pre]
    cases hs : step xs with
    | fin => cases xs with
      | nil => exact absurd rfl h0
      | cons a t => exact absurd hs (step_nofin a t)
    | err c dl => exact absurd hs (herr c dl)
    | line =>
      obtain ⟨t, rfl⟩ := step_line hs
      by_cases hc : comma cur = true
      · refine key 1 (line + 1) cur.dropLast true [] (Nat.le_refl _) hx1 (by simp) ?_ (fun c R f' hcc => ?_)
        · rw [go, hs, hpn]; simp only; rw [if_pos hc]
        · rw [go, hst c R hcc, hs, hpn]; simp only; rw [if_pos hc]
      · refine key 1 (line + 1) [] false (emit cur i (i + 1) line) (Nat.le_refl _) hx1 (by simp) ?_ (fun c R f' hcc => ?_)
        · rw [go, hs]; simp only; rw [if_neg hc]
        · rw [go, hst c R hcc, hs]; simp only; rw [if_neg hc]
    | blank =>
      obtain ⟨t, rfl⟩ := step_blank hs
      refine key 1 line cur true [] (Nat.le_refl _) hx1 (by simp) ?_ (fun c R f' hcc => ?_)
      · rw [go, hs, hpn]
      · rw [go, hst c R hcc, hs, hpn]
    | cmt n dl =>
      obtain ⟨g1, g2, -⟩ := step_cmt hs
      refine key n (line + dl) cur gap [] g1 g2 (by rw [(step_cmt_idle hs).2]) ?_ (fun c R f' hcc => ?_)
      · rw [go, hs, hpn]
      · rw [go, hst c R hcc, hs, hpn]
    | tok k t n =>
      obtain ⟨g1, g2, -⟩ := step_tok hb hs
      have hl0 : line = line + (xs.take n).count 10 := by rw [List.count_eq_zero.2 (tok_no10 hs).1, Nat.add_zero]
      by_cases hsc : k = 3 ∧ t = [59]
      · refine key n line [] false (emit cur i (i + n) line) g1 g2 hl0 ?_ (fun c R f' hcc => ?_)
        · rw [go, hs]; simp only; rw [if_pos hsc]
        · rw [go, hst c R hcc, hs]; simp only; rw [if_pos hsc]
      · by_cases hl : label (cur ++ [⟨k, t, gap && !decide (cur = []), line, i, i + n⟩]) = true
        · refine key n line [] false (emit (cur ++ [⟨k, t, gap && !decide (cur = []), line, i, i + n⟩]) (i + n) (i + n) line) g1 g2 hl0 ?_ (fun c R f' hcc => ?_)
          · rw [go, hs]; simp only; rw [if_neg hsc, if_pos hl]
          · rw [go, hst c R hcc, hs]; simp only; rw [if_neg hsc, if_pos hl]
        · refine key n line (cur ++ [⟨k, t, gap && !decide (cur = []), line, i, i + n⟩]) false [] g1 g2 hl0 ?_ (fun c R f' hcc => ?_)
          · rw [go, hs, hpn]; simp only; rw [if_neg hsc, if_neg hl]
          · rw [go, hst c R hcc, hs, hpn]; simp only; rw [if_neg hsc, if_neg hl]
def sh (d e : Nat) (t : Tk) : Tk := ⟨t.kind, t.text, t.gap, t.line + e, t.at_ + d, t.to + d⟩
def shO (d e : Nat) (o : Out) : Out := ⟨o.cl.map (fun l => l.map (sh d e)), o.err.map fun p => (p.1, p.2 + e)⟩
theorem sh_key (d e : Nat) (l : List Tk) : (l.map (sh d e)).map key = l.map key := by
  rw [List.map_map]; rfl
theorem emit_sh (d e : Nat) (cur : List Tk) (i j l : Nat) : emit (cur.map (sh d e)) (i + d) (j + d) (l + e) = (emit cur i j l).map (fun l => l.map (sh d e)) := by
  cases cur with
  | nil => rfl
  | cons a t => simp [emit, endTk, sh]
theorem cut_sh (d e : Nat) (cur : List Tk) : cut (cur.map (sh d e)) = (cut cur).map (sh d e) := by
  unfold cut
  rw [comma_key (sh_key d e cur)]
  split
  · rw [List.map_dropLast]
  · rfl
theorem pre_sh (d e : Nat) (l : List (List Tk)) (o : Out) : shO d e (o.pre l) = (shO d e o).pre (l.map (fun l => l.map (sh d e))) := by
  simp [shO, Out.pre]
theorem go_shift (d e : Nat) : ∀ (f : Nat) (xs : List Int) (i line : Nat) (cur : List Tk) (gap : Bool) (f' : Nat), (∀ x ∈ xs, 0 ≤ x ∧ x < 256) → xs.length < f → xs.length < f' → go f' xs (i + d) (line + e) (cur.map (sh d e)) gap = shO d e (go f xs i line cur gap)
  | 0, xs, i, line, cur, gap, f', _, h, _ => absurd h (Nat.not_lt_zero _)
  | f + 1, xs, i, line, cur, gap, 0, _, _, h => absurd h (Nat.not_lt_zero _)
  | f + 1, xs, i, line, cur, gap, f' + 1, hb, hf, hf' => by
    have hbd : ∀ n, ∀ x ∈ xs.drop n, 0 ≤ x ∧ x < 256 := fun n x hx => hb x (List.mem_of_mem_drop hx)
    have ih := fun n (h1 : 1 ≤ n) (h2 : n ≤ xs.length) i line cur gap => go_shift d e f (xs.drop n) i line cur gap f' (hbd n) (by rw [List.length_drop]; omega) (by rw [List.length_drop]; omega)
    have a1 : ∀ a n : Nat, a + d + n = a + n + d := fun a n => by omega
    have a2 : ∀ a n : Nat, a + e + n = a + n + e := fun a n => by omega
    have hnil : ([] : List Tk) = ([] : List Tk).map (sh d e) := rfl
    rw [go]
    conv => { rhs; rw [go] }
    cases hs : step xs with
    | fin => simp only; rw [cut_sh, emit_sh]; rfl
    | err c dl =>
      simp only
      cases cur with
      | nil => simp [shO, a2]
      | cons a t => simp [shO, a2]
    | line =>
      have hx : 1 ≤ xs.length := step_some (by rw [hs]; intro e; cases e)
      simp only
      rw [comma_key (sh_key d e cur), a1, a2]
      by_cases hc : comma cur = true
      · rw [if_pos hc, if_pos hc, ← List.map_dropLast]
        exact ih 1 (Nat.le_refl _) hx _ _ _ _
      · rw [if_neg hc, if_neg hc, pre_sh, emit_sh, ← ih 1 (Nat.le_refl _) hx (i + 1) (line + 1) [] false]
        rfl
    | blank =>
      have hx : 1 ≤ xs.length := step_some (by rw [hs]; intro e; cases e)
      simp only
      rw [a1]
      exact ih 1 (Nat.le_refl _) hx _ _ _ _
    | cmt n dl =>
      obtain ⟨g1, g2, -⟩ := step_cmt hs
      simp only
      rw [a1, a2]
      exact ih n g1 g2 _ _ _ _
    | tok k t n =>
      obtain ⟨g1, g2, -⟩ := step_tok hb hs
      simp only
      rw [a1]
      by_cases hsc : k = 3 ∧ t = [59]
      · rw [if_pos hsc, if_pos hsc, pre_sh, emit_sh, ← ih n g1 g2 (i + n) line [] false]
        rfl
      · rw [if_neg hsc, if_neg hsc]
        have hkk : cur.map (sh d e) ++ [(⟨k, t, gap && !decide (cur.map (sh d e) = []), line + e, i + d, i + n + d⟩ : Tk)] = (cur ++ [(⟨k, t, gap && !decide (cur = []), line, i, i + n⟩ : Tk)]).map (sh d e) := by
          rw [List.map_append, show decide (cur.map (sh d e) = []) = decide (cur = []) from decide_eq_decide.2 (by simp)]
          rfl
        rw [hkk, label_key (sh_key d e _)]
        by_cases hl : label (cur ++ [⟨k, t, gap && !decide (cur = []), line, i, i + n⟩]) = true
        · rw [if_pos hl, if_pos hl, pre_sh, emit_sh, ← ih n g1 g2 (i + n) line [] false]
          rfl
        · rw [if_neg hl, if_neg hl]
          exact ih n g1 g2 _ _ _ _
theorem scan_two {A B : List Int} (hA : ∀ x ∈ A, 0 ≤ x ∧ x < 256) (hB : ∀ x ∈ B, 0 ≤ x ∧ x < 256) (eA : (scan A).err = none) :
    ∃ cls cur, (scan A).cl = cls ++ emit (cut cur) A.length A.length (1 + A.count 10) ∧
      (scan (A ++ [59])).err = none ∧ (scan (A ++ [59])).cl = cls ++ emit cur A.length (A.length + 1) (1 + A.count 10) ∧
      (comma cur = false → scan (A ++ 10 :: B) = (shO (A.length + 1) (A.count 10 + 1) (scan B)).pre (cls ++ emit cur A.length (A.length + 1) (1 + A.count 10))) := by
  obtain ⟨cls, cur, gap, h1, h2⟩ := go_split (A.length + 1) A 0 1 [] false hA (Nat.lt_succ_self _) eA
  rw [Nat.zero_add] at h1 h2
  refine ⟨cls, cur, by unfold scan; rw [h1], ?_⟩
  obtain ⟨f2, g1, g2⟩ := h2 59 [] ((A ++ [59]).length + 1) (.inr rfl) (Nat.lt_succ_self _)
  obtain ⟨f2, rfl⟩ : ∃ f, f2 = f + 2 := ⟨f2 - 2, by simp at g1; omega⟩
  have e59 : go (f2 + 2) [59] A.length (1 + A.count 10) cur gap = ⟨emit cur A.length (A.length + 1) (1 + A.count 10), none⟩ := by
    have hs : step [59] = .tok 3 [59] 1 := by decide
    rw [go, hs]
    simp only
    rw [if_pos (by decide)]
    show (go (f2 + 1) [] (A.length + 1) (1 + A.count 10) [] false).pre _ = _
    simp [go, step, Out.pre, emit, cut, comma]
  have hsc : scan (A ++ [59]) = ⟨cls ++ emit cur A.length (A.length + 1) (1 + A.count 10), none⟩ := by
    unfold scan
    rw [g2, e59]
    rfl
  refine ⟨by rw [hsc], by rw [hsc], fun hc => ?_⟩
  obtain ⟨f3, k1, k2⟩ := h2 10 B ((A ++ 10 :: B).length + 1) (.inl rfl) (Nat.lt_succ_self _)
  obtain ⟨f3, rfl⟩ : ∃ f, f3 = f + 1 := ⟨f3 - 1, by simp at k1; omega⟩
  have hs : step (10 :: B) = .line := by simp [step]
  unfold scan
  rw [k2, go, hs]
  simp only
  rw [if_neg (by rw [hc]; exact Bool.false_ne_true)]
  have hz := go_shift (A.length + 1) (A.count 10 + 1) (B.length + 1) B 0 1 [] false f3 hB (Nat.lt_succ_self _) (by simp at k1; exact k1)
  rw [Nat.zero_add, show 1 + (A.count 10 + 1) = 1 + A.count 10 + 1 by omega] at hz
  rw [← hz]
  simp [Out.pre]
end Go.Proofs.YtkkpjonfaflkmaaGreatDoor.S

namespace Go.Proofs.YtkkpjonfaflkmaaGreatDoor.T
set_option linter.unusedSimpArgs false
set_option linter.unusedVariables false
open Go.RowKit Go.Proofs.YtkkpjonfaflkmaaGreatDoorW.PrintWords Go.Proofs.YtkkpjonfaflkmaaGreatDoorW.PrintLast Go.Proofs.YtkkpjonfaflkmaaGreatDoorW.PrintMore
theorem w64n {i : Nat} (h : i ≤ 1000000000000) : wrap64 ((i : Int) + 1) = ((i + 1 : Nat) : Int) := by unfold wrap64; omega
theorem drop_bt (a0 : ByteArray) {i : Nat} (h : i < a0.size) : (bytesOf a0).drop i = bt a0 (i : Int) :: (bytesOf a0).drop (i + 1) := by
  rw [bt_getD a0 i h]
  exact drop_at _ _ (by rw [bytesOf_length]; exact h)
end Go.Proofs.YtkkpjonfaflkmaaGreatDoor.T

namespace Go.Proofs.YtkkpjonfaflkmaaGreatDoor.T
set_option linter.unusedSimpArgs false
set_option linter.unusedVariables false
open Go.RowKit Go.Proofs.YtkkpjonfaflkmaaGreatDoorW.PrintWords Go.Proofs.YtkkpjonfaflkmaaGreatDoorW.PrintLast Go.Proofs.YtkkpjonfaflkmaaGreatDoorW.PrintMore
theorem tokens_g (a0 : ByteArray) (h : a0.size ≤ 20000) : scan_Tokens.f a0 = some ((S.tokens (bytesOf a0)).map toS, errC (S.scan (bytesOf a0)).err, errL (S.scan (bytesOf a0)).err, if (S.scan (bytesOf a0)).err = none then 0 else 7) := by
  unfold scan_Tokens.f
  rw [if_pos h]
  cases he : (S.scan (bytesOf a0)).err with
  | none => rfl
  | some p =>
    have := S.scan_err (c := p.1) (ln := p.2) he
    rw [if_neg (show ¬ errC (some p) = 0 from fun e => this (Int.ofNat_eq_zero.1 e)), if_neg (show ¬ some p = none from fun e => by cases e)]
theorem rd_some {l : List S.Tk} {i : Nat} {t : S.Tk} (h : l[i]? = some t) : rd_T53 (l.map toS) (i : Int) = toS t := by
  unfold rd_T53
  rw [Int.toNat_natCast, List.getD_eq_getElem?_getD, List.getElem?_map, h]; rfl
theorem sameTz_l0 (l m : List S.Tk) (hk : l.map S.key = m.map S.key) (hl : l.length ≤ 1000000) : ∀ (n k i : Nat), i + n = l.length → n < k → qanatref03_Same.l0 k (l.map toS) (m.map toS) (i : Int) = some true
  | n, 0, i, _, h => absurd h (Nat.not_lt_zero _)
  | 0, k + 1, i, h, _ => by rw [qanatref03_Same.l0, if_neg (by rw [List.length_map]; omega)]
  | n + 1, k + 1, i, h, hkk => by
    have ih := sameTz_l0 l m hk hl n k (i + 1) (by omega) (by omega)
    have hlen : l.length = m.length := by have := congrArg List.length hk; simpa using this
    have hi : i < l.length := by omega
    have hi2 : i < m.length := by omega
    have hkey : S.key (l[i]'hi) = S.key (m[i]'hi2) := by
      have e1 : (l.map S.key)[i]? = some (S.key (l[i]'hi)) := by rw [List.getElem?_map, List.getElem?_eq_getElem hi]; rfl
      have e2 : (m.map S.key)[i]? = some (S.key (m[i]'hi2)) := by rw [List.getElem?_map, List.getElem?_eq_getElem hi2]; rfl
      rw [hk, e2] at e1
      exact (Option.some.inj e1).symm
    have hr1 := rd_some (List.getElem?_eq_getElem hi)
    have hr2 := rd_some (List.getElem?_eq_getElem hi2)
    simp only [S.key, Prod.mk.injEq] at hkey
    rw [qanatref03_Same.l0, if_pos (by rw [List.length_map]; omega), if_pos (by omega), if_pos (by rw [List.length_map]; omega), hr1, hr2, w64n (by omega), ih]
    simp only [toS, hkey.1, hkey.2.1, hkey.2.2, if_true]
    simp
theorem sameTz_f (l m : List S.Tk) (hk : l.map S.key = m.map S.key) (hl : l.length ≤ 1000000) (k : Nat) (hkk : l.length < k) : qanatref03_Same.f k (l.map toS) (m.map toS) = some true := by
  have hlen : l.length = m.length := by have := congrArg List.length hk; simpa using this
  unfold qanatref03_Same.f
  rw [if_pos (by rw [List.length_map, List.length_map, hlen])]
  exact sameTz_l0 l m hk hl l.length k 0 (by omega) hkk
end Go.Proofs.YtkkpjonfaflkmaaGreatDoor.T
