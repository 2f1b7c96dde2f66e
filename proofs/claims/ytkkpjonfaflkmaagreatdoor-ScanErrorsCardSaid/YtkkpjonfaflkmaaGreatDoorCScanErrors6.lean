/- Part 6 of the proof of ScanErrors: the functions that it calls return what their plain descriptions say. -/
import Derived.Test.YtkkpjonfaflkmaaGreatDoorCScanErrors4
import Derived.Test.YtkkpjonfaflkmaaGreatDoorCScanErrors2
import Derived.Test.YtkkpjonfaflkmaaGreatDoorCScanErrors5

/- How far a rule looks: a token stays the same if what stands behind it changes from a neutral byte on. -/
namespace Go.Proofs.YtkkpjonfaflkmaaGreatDoor.S
set_option linter.unusedSimpArgs false
set_option linter.unusedVariables false

theorem lit_loc (q : Int) : ∀ (xs : List Int) (i : Nat) (acc v : List Int) (j : Nat), lit q xs i acc = some (v, j) →
    ∃ U R, xs = U ++ q :: R ∧ U.length + i = j ∧ R.head? ≠ some q ∧ ∀ R', R'.head? ≠ some q → lit q (U ++ q :: R') i acc = some (v, j)
  | [], _, _, _, _ => fun h => by cases h
  | [c], i, acc, v, j => fun h => by
    rw [lit] at h
    by_cases h1 : c = 10
    · rw [if_pos h1] at h; cases h
    · rw [if_neg h1] at h
      by_cases h2 : c = q
      · rw [if_pos h2] at h; cases h
        subst h2
        refine ⟨[], [], rfl, by simp, by simp, fun R' hR => ?_⟩
        rcases R' with _ | ⟨d, t⟩
        · simp [lit, h1]
        · simp only [List.head?_cons, ne_eq, Option.some.injEq] at hR
          simp [lit, h1, hR]
      · rw [if_neg h2] at h; cases h
  | c :: d :: t, i, acc, v, j => fun h => by
    rw [lit] at h
    by_cases h1 : c = 10
    · rw [if_pos h1] at h; cases h
    · rw [if_neg h1] at h
      by_cases h2 : c = q
      · rw [if_pos h2] at h
        by_cases h3 : d = q
        · rw [if_pos h3] at h
          obtain ⟨U, R, e1, e2, e3, e4⟩ := lit_loc q t (i + 2) (acc ++ [q]) v j h
          subst h2 h3
          refine ⟨d :: d :: U, R, by rw [e1]; rfl, by simp only [List.length_cons]; omega, e3, fun R' hR => ?_⟩
          have := e4 R' hR
          show lit d (d :: d :: (U ++ d :: R')) i acc = _
          rw [lit, if_neg h1, if_pos rfl, if_pos rfl]; exact this
        · rw [if_neg h3] at h; cases h
          subst h2
          refine ⟨[], d :: t, rfl, by simp, by simpa using h3, fun R' hR => ?_⟩
          rcases R' with _ | ⟨d, t⟩
          · simp [lit, h1]
          · simp only [List.head?_cons, ne_eq, Option.some.injEq] at hR
            simp [lit, h1, hR]
      · rw [if_neg h2] at h
        obtain ⟨U, R, e1, e2, e3, e4⟩ := lit_loc q (d :: t) (i + 1) (acc ++ [c]) v j h
        refine ⟨c :: U, R, by rw [e1]; rfl, by simp only [List.length_cons]; omega, e3, fun R' hR => ?_⟩
        have := e4 R' hR
        show lit q (c :: (U ++ q :: R')) i acc = _
        rcases hu : U ++ q :: R' with _ | ⟨e, s⟩
        · simp at hu
        · rw [hu] at this
          rw [lit, if_neg h1, if_neg h2]; exact this

/-- A byte that goes on with nothing. -/
def Neutral (c : Int) : Prop := c = 10 ∨ c = 59 ∨ c = 47
theorem Neutral.facts {c : Int} (h : Neutral c) : sym c = false ∧ dig c = false ∧ sfxOf c = 0 ∧ c ≠ 39 ∧ c ≠ 34 ∧ c ≠ 43 ∧ c ≠ 45 ∧ c ≠ 42 := by
  rcases h with rfl | rfl | rfl <;> decide
/-- What stands behind the token: C then R2; a single byte C is no symbol that goes on in R2. -/
def Two (C R2 : List Int) : Prop := ∀ d, C = [d] → sym d = true → ∀ e s, R2 = e :: s → sym e = false
theorem sfx_sym {d e : Int} {s : List Int} (h : sym e = false) : sfx (d :: e :: s) = sfxOf d := by simp [sfx, h]
theorem sfxOf_sym {d : Int} (h : sym d = false) : sfxOf d = 0 := by
  unfold sfxOf
  by_cases h1 : d = 88 ∨ d = 120
  · rcases h1 with rfl | rfl <;> cases h
  · rw [if_neg h1]
    by_cases h2 : d = 66 ∨ d = 98
    · rcases h2 with rfl | rfl <;> cases h
    · rw [if_neg h2]
theorem sfx_ns {d : Int} {t : List Int} (h : sym d = false) : sfx (d :: t) = 0 := by
  rcases t with _ | ⟨e, s⟩
  · exact sfxOf_sym h
  · simp only [sfx]
    split
    · rfl
    · exact sfxOf_sym h
theorem sfx_loc {C R2 R3 : List Int} {c : Int} (hn : Neutral c) (ht : Two C R2) (h : C = [] → sfx R2 = 0) : sfx (C ++ c :: R3) = sfx (C ++ R2) := by
  obtain ⟨f1, f2, f3, -⟩ := hn.facts
  rcases C with _ | ⟨d, _ | ⟨e, C⟩⟩
  · rw [List.nil_append, List.nil_append, h rfl]
    exact sfx_ns f1
  · show sfx (d :: c :: R3) = sfx (d :: R2)
    rw [sfx_sym f1]
    rcases R2 with _ | ⟨e, s⟩
    · rfl
    · by_cases hd : sym d = true
      · rw [sfx_sym (ht d rfl hd e s rfl)]
      · rw [sfx_ns (by simpa using hd), sfxOf_sym (by simpa using hd)]
  · rfl

theorem litTok_eq (q : Int) (U R R' : List Int) (v : List Int) (h : lit q (U ++ q :: R) 1 [] = some (v, U.length + 1)) (h' : lit q (U ++ q :: R') 1 [] = some (v, U.length + 1)) (hs : sfx R' = sfx R) :
    litTok (q :: (U ++ q :: R')) = litTok (q :: (U ++ q :: R)) := by
  have d : ∀ R : List Int, (q :: (U ++ q :: R)).drop (U.length + 1 + 1) = R := fun R => by
    rw [List.drop_succ_cons, List.drop_append, List.drop_eq_nil_of_le (by omega)]
    simp
  simp only [litTok, h, h', d, hs]
/-- What a literal's text and length hang on. -/
theorem litTok_parts {q : Int} {t : List Int} {x : List Int} {n : Nat} (h : litTok (q :: t) = .ok x n) :
    ∃ v U R, t = U ++ q :: R ∧ R.head? ≠ some q ∧ (∀ R', R'.head? ≠ some q → lit q (U ++ q :: R') 1 [] = some (v, U.length + 1)) ∧ ((sfx R = 0 ∧ n = U.length + 2) ∨ (sfx R ≠ 0 ∧ n = U.length + 3)) := by
  simp only [litTok] at h
  cases hl : lit q t 1 [] with
  | none => rw [hl] at h; cases h
  | some p =>
    obtain ⟨v, i⟩ := p
    rw [hl] at h
    simp only at h
    obtain ⟨U, R, e1, e2, e3, e4⟩ := lit_loc q t 1 [] v i hl
    subst e1
    obtain rfl : i = U.length + 1 := by omega
    have d : (q :: (U ++ q :: R)).drop (U.length + 1 + 1) = R := by
      rw [List.drop_succ_cons, List.drop_append, List.drop_eq_nil_of_le (by omega)]
      simp
    rw [d] at h
    refine ⟨v, U, R, rfl, e3, e4, ?_⟩
    by_cases hp : v.all prn = true
    · rw [if_pos hp] at h
      by_cases hs : sfx R = 0
      · rw [if_pos hs] at h
        exact .inl ⟨hs, (litEnd_ok h).2⟩
      · rw [if_neg hs] at h
        cases hd : litDec v (sfx R) with
        | none => rw [hd] at h; cases h
        | some u => rw [hd] at h; exact .inr ⟨hs, (litEnd_ok h).2⟩
    · rw [if_neg hp] at h; cases h
theorem litTok_loc {A C R2 R3 x : List Int} {c : Int} (hn : Neutral c) (ht : Two C R2) (hq : ∃ q t, A = q :: t ∧ (q = 39 ∨ q = 34)) (h : litTok (A ++ (C ++ R2)) = .ok x A.length) : litTok (A ++ (C ++ c :: R3)) = .ok x A.length := by
  obtain ⟨q, t, rfl, hq⟩ := hq
  rw [List.cons_append] at h ⊢
  obtain ⟨f1, f2, f3, f4, f5, -⟩ := hn.facts
  obtain ⟨v, U, R, e1, e2, e3, e4⟩ := litTok_parts h
  have hc : some c ≠ some q := by rcases hq with rfl | rfl <;> simpa
  rcases e4 with ⟨hs, hl⟩ | ⟨hs, hl⟩
  · obtain ⟨hA, hR⟩ : t = U ++ [q] ∧ C ++ R2 = R := List.append_inj (s₁ := t) (s₂ := U ++ [q]) (by rw [e1]; simp) (by simp only [List.length_cons] at hl; simp; omega)
    subst hA hR
    have hh : (C ++ c :: R3).head? ≠ some q := by
      rcases C with _ | ⟨d, C⟩
      · exact hc
      · simpa using e2
    have := litTok_eq q U (C ++ R2) (C ++ c :: R3) v (e3 _ e2) (e3 _ hh) (sfx_loc hn ht fun e => by subst e; exact hs)
    rw [List.append_assoc] at h ⊢
    exact this.trans h
  · rcases R with _ | ⟨a, R⟩
    · exact absurd rfl hs
    obtain ⟨hA, hR⟩ : t = U ++ [q, a] ∧ C ++ R2 = R := List.append_inj (s₁ := t) (s₂ := U ++ [q, a]) (by rw [e1]; simp) (by simp only [List.length_cons] at hl; simp; omega)
    subst hA hR
    have hsx : sfx (a :: (C ++ c :: R3)) = sfx (a :: (C ++ R2)) := by
      rcases C with _ | ⟨d, C⟩
      · show sfx (a :: c :: R3) = sfx (a :: R2)
        rw [sfx_sym f1]
        rcases R2 with _ | ⟨e, s⟩
        · rfl
        · simp only [List.nil_append, sfx] at hs ⊢
          by_cases he : sym e = true
          · rw [if_pos he] at hs; exact absurd rfl hs
          · rw [if_neg he]
      · rfl
    have := litTok_eq q U (a :: (C ++ R2)) (a :: (C ++ c :: R3)) v (e3 _ e2) (e3 _ (by simpa using e2)) hsx
    rw [List.append_assoc] at h ⊢
    exact this.trans h

theorem run_app (p : Int → Bool) : ∀ (A B : List Int), (∀ x ∈ A, p x = true) → (∀ e s, B = e :: s → p e = false) → run p (A ++ B) = A.length
  | [], B, _, hB => by
    rcases B with _ | ⟨e, s⟩
    · rfl
    · simp [run, hB e s rfl]
  | a :: A, B, hA, hB => by
    rw [List.cons_append, run, if_pos (hA a (by simp)), run_app p A B (fun x hx => hA x (by simp [hx])) hB]
    rfl
theorem run_parts (p : Int → Bool) : ∀ (xs : List Int), (∀ x ∈ xs.take (run p xs), p x = true) ∧ (∀ e s, xs.drop (run p xs) = e :: s → p e = false)
  | [] => ⟨by simp [run], by simp [run]⟩
  | a :: xs => by
    unfold run
    by_cases h : p a = true
    · rw [if_pos h]
      obtain ⟨h1, h2⟩ := run_parts p xs
      refine ⟨fun x hx => ?_, fun e s he => h2 e s (by simpa using he)⟩
      simp only [List.take_succ_cons, List.mem_cons] at hx
      rcases hx with rfl | hx
      · exact h
      · exact h1 x hx
    · rw [if_neg h]
      exact ⟨by simp, fun e s he => by simp only [List.drop_zero, List.cons.injEq] at he; obtain ⟨rfl, -⟩ := he; simpa using h⟩
/-- A symbol in parts: its characters, then (perhaps) a sign and digits. -/
theorem symLen_parts (xs : List Int) : ∃ M R, xs = M ++ R ∧ (∀ x ∈ M, sym x = true) ∧ (∀ e s, R = e :: s → sym e = false) ∧
    ((symLen xs = M.length ∧ ¬ (mant M = true ∧ expo R = true)) ∨ (∃ g D S, R = g :: (D ++ S) ∧ mant M = true ∧ (g = 43 ∨ g = 45) ∧ D ≠ [] ∧ (∀ x ∈ D, dig x = true) ∧ (∀ e s, S = e :: s → dig e = false) ∧ symLen xs = M.length + 1 + D.length)) := by
  obtain ⟨h1, h2⟩ := run_parts sym xs
  have hl := run_le' sym xs
  refine ⟨xs.take (run sym xs), xs.drop (run sym xs), (List.take_append_drop _ _).symm, h1, h2, ?_⟩
  have hml : (xs.take (run sym xs)).length = run sym xs := by rw [List.length_take]; omega
  rw [hml]
  unfold symLen
  by_cases hm : mant (xs.take (run sym xs)) = true ∧ expo (xs.drop (run sym xs)) = true
  · rw [if_pos hm]
    refine .inr ?_
    rcases hd : xs.drop (run sym xs) with _ | ⟨g, _ | ⟨d, t⟩⟩
    · rw [hd] at hm; simp [expo] at hm
    · rw [hd] at hm; simp [expo] at hm
    · have hd2 : xs.drop (run sym xs + 1) = d :: t := by
        have : xs.drop (run sym xs + 1) = (xs.drop (run sym xs)).drop 1 := by rw [List.drop_drop]
        rw [this, hd]; rfl
      rw [hd2]
      have hx := hm.2
      rw [hd] at hx
      simp only [expo, Bool.and_eq_true, Bool.or_eq_true, decide_eq_true_eq] at hx
      obtain ⟨g1, g2⟩ := run_parts dig (d :: t)
      have hl2 := run_le' dig (d :: t)
      refine ⟨g, (d :: t).take (run dig (d :: t)), (d :: t).drop (run dig (d :: t)), by rw [List.take_append_drop], hm.1, hx.1, ?_, g1, g2, ?_⟩
      · rw [run, if_pos hx.2]; simp
      · rw [List.length_take, Nat.min_eq_left hl2]
  · rw [if_neg hm]
    exact .inl ⟨rfl, hm⟩
theorem symLen_plain {M R : List Int} (hM : ∀ x ∈ M, sym x = true) (hR : ∀ e s, R = e :: s → sym e = false) (h : ¬ (mant M = true ∧ expo R = true)) : symLen (M ++ R) = M.length := by
  have hr := run_app sym M R hM hR
  unfold symLen
  rw [hr, List.take_left, List.drop_left, if_neg h]
theorem symLen_expo {M D S : List Int} {g : Int} (hM : ∀ x ∈ M, sym x = true) (hm : mant M = true) (hg : g = 43 ∨ g = 45) (hD : D ≠ []) (hd : ∀ x ∈ D, dig x = true) (hS : ∀ e s, S = e :: s → dig e = false) :
    symLen (M ++ g :: (D ++ S)) = M.length + 1 + D.length := by
  have hgs : sym g = false := by rcases hg with rfl | rfl <;> rfl
  have hr := run_app sym M (g :: (D ++ S)) hM (fun e s h => by cases h; exact hgs)
  unfold symLen
  have hx : expo (g :: (D ++ S)) = true := by
    rcases D with _ | ⟨d, D⟩
    · exact absurd rfl hD
    · simp only [List.cons_append, expo, Bool.and_eq_true, Bool.or_eq_true, decide_eq_true_eq]
      exact ⟨hg, hd d (by simp)⟩
  rw [hr, List.take_left, List.drop_left, if_pos ⟨hm, hx⟩]
  have : (M ++ g :: (D ++ S)).drop (M.length + 1) = D ++ S := by
    rw [List.drop_append, List.drop_eq_nil_of_le (by omega)]
    simp
  rw [this, run_app dig D S hd hS]
theorem symTok_eq {xs ys : List Int} (h : symLen ys = symLen xs) (ht : ys.take (symLen xs) = xs.take (symLen xs)) : symTok ys = symTok xs := by
  unfold symTok
  rw [h, ht]
theorem symLen_loc {A C R2 R3 : List Int} {c : Int} (hn : Neutral c) (h : symLen (A ++ (C ++ R2)) = A.length) : symLen (A ++ (C ++ c :: R3)) = A.length := by
  obtain ⟨f1, f2, f3, f4, f5, f6, f7, -⟩ := hn.facts
  obtain ⟨M, R, e1, hM, hR, hor⟩ := symLen_parts (A ++ (C ++ R2))
  rw [h] at hor
  rcases hor with ⟨hl, hx⟩ | ⟨g, D, S, rfl, hm, hg, hD, hd, hS, hl⟩
  · obtain ⟨rfl, rfl⟩ := List.append_inj e1 hl
    refine symLen_plain hM (fun e s he => ?_) fun ⟨q1, q2⟩ => hx ⟨q1, ?_⟩
    · rcases C with _ | ⟨d, C⟩
      · cases he; exact f1
      · cases he; exact hR e _ rfl
    · rcases C with _ | ⟨d, _ | ⟨e, C⟩⟩
      · rcases R3 with _ | ⟨a, R3⟩
        · simp [expo] at q2
        · simp [expo, f6, f7] at q2
      · simp [expo, f2] at q2
      · exact q2
  · obtain ⟨hA, hB⟩ : A = M ++ g :: D ∧ C ++ R2 = S := List.append_inj (s₁ := A) (s₂ := M ++ g :: D) (by rw [e1]; simp) (by simp; omega)
    subst hA hB
    have := symLen_expo (M := M) (D := D) (S := C ++ c :: R3) hM hm hg hD hd (fun e s he => by
      rcases C with _ | ⟨d, C⟩
      · cases he; exact f2
      · cases he; exact hS e _ rfl)
    rw [List.append_assoc, List.cons_append, this]
    simp; omega
theorem symTok_loc {A C R2 R3 x : List Int} {c : Int} (hn : Neutral c) (h : symTok (A ++ (C ++ R2)) = .ok x A.length) : symTok (A ++ (C ++ c :: R3)) = .ok x A.length := by
  have hs : symLen (A ++ (C ++ R2)) = A.length := by
    unfold symTok at h
    split at h
    · cases h
    · simp only [TR.ok.injEq] at h; exact h.2
  rw [← h]
  refine symTok_eq ?_ ?_
  · rw [hs]; exact symLen_loc hn hs
  · rw [hs, List.take_left, List.take_left]

theorem prefix_app : ∀ (p a : List Int) (b : List Int), p.isPrefixOf a = true → p.isPrefixOf (a ++ b) = true
  | [], _, _, _ => by simp
  | _ :: _, [], _, h => by cases h
  | x :: p, y :: a, b, h => by
    simp only [List.isPrefixOf, Bool.and_eq_true] at h
    simp only [List.cons_append, List.isPrefixOf, Bool.and_eq_true]
    exact ⟨h.1, prefix_app p a b h.2⟩
theorem prefix_cut : ∀ (p a : List Int) (b : List Int), p.isPrefixOf (a ++ b) = true → p.length ≤ a.length → p.isPrefixOf a = true
  | [], _, _, _, _ => by simp
  | _ :: _, [], _, _, h => by simp at h
  | x :: p, y :: a, b, h, hl => by
    simp only [List.cons_append, List.isPrefixOf, Bool.and_eq_true] at h
    simp only [List.isPrefixOf, Bool.and_eq_true]
    exact ⟨h.1, prefix_cut p a b h.2 (by simpa using hl)⟩
theorem prefix_at : ∀ (p a : List Int) (c : Int) (b : List Int), p.isPrefixOf (a ++ c :: b) = true → a.length < p.length → p.take (a.length + 1) = a ++ [c]
  | [], _, _, _, _, h => by simp at h
  | x :: p, [], c, b, h, _ => by
    simp only [List.nil_append, List.isPrefixOf, Bool.and_eq_true, beq_iff_eq] at h
    simp [h.1]
  | x :: p, y :: a, c, b, h, hl => by
    simp only [List.cons_append, List.isPrefixOf, Bool.and_eq_true, beq_iff_eq] at h
    simp only [List.length_cons, List.take_succ_cons, List.cons_append]
    rw [h.1, prefix_at p a c b h.2 (by simpa using hl)]
theorem prefix_self : ∀ (p : List Int), p.isPrefixOf p = true
  | [] => rfl
  | x :: p => by simp [List.isPrefixOf, prefix_self p]
theorem prefix_eq : ∀ (p a : List Int), p.isPrefixOf a = true → a = p ++ a.drop p.length
  | [], a, _ => by simp
  | _ :: _, [], h => by cases h
  | x :: p, y :: a, h => by
    simp only [List.isPrefixOf, Bool.and_eq_true, beq_iff_eq] at h
    obtain ⟨rfl, h2⟩ := h
    simp only [List.length_cons, List.drop_succ_cons, List.cons_append]
    exact congrArg _ (prefix_eq p a h2)
theorem find_keep {α : Type} (P Q : α → Bool) : ∀ (l : List α) (a : α), l.find? P = some a → (∀ x ∈ l, Q x = true → P x = true) → Q a = true → l.find? Q = some a
  | [], a, h, _, _ => by cases h
  | x :: l, a, h, hq, ha => by
    by_cases hp : P x = true
    · rw [List.find?_cons_of_pos hp] at h
      cases h
      rw [List.find?_cons_of_pos ha]
    · rw [List.find?_cons_of_neg hp] at h
      rw [List.find?_cons_of_neg (fun e => hp (hq x (by simp) e))]
      exact find_keep P Q l a h (fun x hx => hq x (by simp [hx])) ha
theorem signs_neutral : ∀ p ∈ signs, ∀ i : Fin 3, 1 ≤ i.val → i.val < p.length → (p.getD i.val 0 = 10 ∨ p.getD i.val 0 = 59 ∨ p.getD i.val 0 = 47) → p = [47, 47] := by decide
theorem signs_len : ∀ p ∈ signs, p.length ≤ 3 := by decide
theorem signs_ne : ∀ p ∈ signs, p ≠ [] := by decide
theorem signTok_loc {A C R2 R3 x : List Int} {c : Int} (hn : Neutral c) (hA : c = 47 → C = [] → A.getLast? ≠ some 47) (h : signTok (A ++ (C ++ R2)) = .ok x A.length) : signTok (A ++ (C ++ c :: R3)) = .ok x A.length := by
  unfold signTok at h ⊢
  cases hf : signs.find? (fun x => x.isPrefixOf (A ++ (C ++ R2))) with
  | none => rw [hf] at h; cases h
  | some l =>
    rw [hf] at h
    simp only [TR.ok.injEq] at h
    obtain ⟨rfl, hl⟩ := h
    have hm := List.mem_of_find?_eq_some hf
    have hp : l.isPrefixOf (A ++ (C ++ R2)) = true := by simpa using List.find?_some hf
    have hAl : A = l := by
      have := prefix_eq _ _ hp
      exact (List.append_inj this (by omega)).1
    subst hAl
    have hA0 : A ≠ [] := signs_ne A hm
    rw [find_keep _ (fun x => x.isPrefixOf (A ++ (C ++ c :: R3))) signs A hf (fun p hps hpx => ?_) (prefix_app _ _ _ (prefix_self _))]
    rw [← List.append_assoc] at hpx ⊢
    by_cases hlen : p.length ≤ (A ++ C).length
    · exact prefix_app _ _ _ (prefix_cut _ _ _ hpx hlen)
    · exfalso
      have ha := prefix_at p (A ++ C) c R3 hpx (by omega)
      have h3 := signs_len p hps
      have hA1 : 0 < A.length := List.length_pos_iff.2 hA0
      have hlt : (A ++ C).length < p.length := by omega
      have hAC : 1 ≤ (A ++ C).length := by simp; omega
      have hget : p.getD (A ++ C).length 0 = c := by
        have h5 : (p.take ((A ++ C).length + 1)).getD (A ++ C).length 0 = ((A ++ C) ++ [c]).getD (A ++ C).length 0 := by rw [ha]
        rw [List.getD_eq_getElem?_getD, List.getD_eq_getElem?_getD, List.getElem?_take_of_lt (by omega), List.getElem?_append_right (Nat.le_refl _)] at h5
        rw [List.getD_eq_getElem?_getD, h5]; simp
      have hpe := signs_neutral p hps ⟨(A ++ C).length, by omega⟩ hAC hlt (by simp only [hget]; exact hn)
      subst hpe
      simp only [List.length_cons, List.length_nil, List.length_append] at hlt hAC
      have hC0 : C = [] := List.length_eq_zero_iff.1 (by omega)
      subst hC0
      have hAe : A.length = 1 := by omega
      obtain ⟨a, rfl⟩ : ∃ a, A = [a] := List.length_eq_one_iff.1 hAe
      simp only [List.append_nil, List.length_cons, List.length_nil, List.take_succ_cons, List.take_nil, List.cons_append, List.nil_append, List.cons.injEq, and_true] at ha
      obtain ⟨rfl, rfl⟩ := ha
      exact hA rfl rfl rfl

/-- A token stays the same if what stands behind it changes from a neutral byte on. -/
theorem step_loc {A C R2 R3 x : List Int} {c : Int} {k : Nat} (hn : Neutral c) (ht : Two C R2) (hA0 : A ≠ []) (hA : c = 47 → C = [] → A.getLast? ≠ some 47) (h : step (A ++ (C ++ R2)) = .tok k x A.length) : step (A ++ (C ++ c :: R3)) = .tok k x A.length := by
  obtain ⟨f1, f2, f3, f4, f5, f6, f7, f8⟩ := hn.facts
  rcases A with _ | ⟨a, A⟩
  · exact absurd rfl hA0
  have hst : starts2 (a :: (A ++ (C ++ c :: R3))) = true → starts2 (a :: (A ++ (C ++ R2))) = true := fun hs => by
    rcases A with _ | ⟨a2, A⟩
    · rcases C with _ | ⟨d, C⟩
      · simp [starts2, f8] at hs
      · exact hs
    · exact hs
  simp only [List.cons_append, step] at h ⊢
  by_cases h1 : a = 10
  · rw [if_pos h1] at h; cases h
  rw [if_neg h1] at h ⊢
  by_cases h2 : a = 32
  · rw [if_pos h2] at h; cases h
  rw [if_neg h2] at h ⊢
  by_cases h3 : starts2 (a :: (A ++ (C ++ R2))) = true
  · rw [if_pos h3] at h; exact (cmtStep_ne h).elim
  rw [if_neg h3] at h
  rw [if_neg (fun e => h3 (hst e))]
  by_cases h4 : a = 39 ∨ a = 34
  · rw [if_pos h4] at h ⊢
    obtain ⟨rfl, hr⟩ := tokStep_tok h
    rw [show a :: (A ++ (C ++ c :: R3)) = (a :: A) ++ (C ++ c :: R3) from rfl, litTok_loc hn ht ⟨a, A, rfl, h4⟩ hr]
    rfl
  rw [if_neg h4] at h ⊢
  by_cases h5 : sym a = true
  · rw [if_pos h5] at h ⊢
    obtain ⟨rfl, hr⟩ := tokStep_tok h
    rw [show a :: (A ++ (C ++ c :: R3)) = (a :: A) ++ (C ++ c :: R3) from rfl, symTok_loc (A := a :: A) hn hr]
    rfl
  rw [if_neg h5] at h ⊢
  obtain ⟨rfl, hr⟩ := tokStep_tok h
  rw [show a :: (A ++ (C ++ c :: R3)) = (a :: A) ++ (C ++ c :: R3) from rfl, signTok_loc (A := a :: A) hn hA hr]
  rfl
end Go.Proofs.YtkkpjonfaflkmaaGreatDoor.S

/- A source that ends a line with an error has that error in every extension. -/
namespace Go.Proofs.YtkkpjonfaflkmaaGreatDoor.S
set_option linter.unusedSimpArgs false
set_option linter.unusedVariables false

theorem cmt_app : ∀ (xs ys : List Int) (i d l b i' l' b' : Nat), cmt xs i d l b = .done i' l' b' → cmt (xs ++ ys) i d l b = .done i' l' b'
  | [], _, _, _, _, _, _, _, _, h => by cases h
  | [_], _, _, _, _, _, _, _, _, h => by cases h
  | c :: e :: t, ys, i, d, l, b, i', l', b', h => by
    rw [cmt] at h
    show cmt (c :: e :: (t ++ ys)) i d l b = _
    rw [cmt]
    by_cases h1 : c = 47 ∧ e = 42
    · rw [if_pos h1] at h ⊢; exact cmt_app t ys _ _ _ _ _ _ _ h
    · rw [if_neg h1] at h ⊢
      by_cases h2 : c = 42 ∧ e = 47
      · rw [if_pos h2] at h ⊢
        by_cases h3 : d = 1
        · rw [if_pos h3] at h ⊢; exact h
        · rw [if_neg h3] at h ⊢; exact cmt_app t ys _ _ _ _ _ _ _ h
      · rw [if_neg h2] at h ⊢; exact cmt_app (e :: t) ys _ _ _ _ _ _ _ h
theorem end_cut {U R C : List Int} {q : Int} (hq : q ≠ 10) (h : U ++ q :: R = C ++ [10]) : ∃ C', R = C' ++ [10] := by
  rcases List.eq_nil_or_concat R with rfl | ⟨C', e, rfl⟩
  · exfalso
    have : (U ++ [q]).getLast? = (C ++ [10]).getLast? := by rw [h]
    rw [List.getLast?_concat, List.getLast?_concat] at this
    exact hq (Option.some.inj this)
  · rw [List.concat_eq_append] at h ⊢
    have : (U ++ q :: (C' ++ [e])).getLast? = (C ++ [10]).getLast? := by rw [h]
    rw [← List.cons_append, ← List.append_assoc, List.getLast?_concat, List.getLast?_concat] at this
    exact ⟨C', by rw [Option.some.inj this]⟩
theorem litTok_ext {q : Int} {t C b : List Int} (hq : q = 39 ∨ q = 34) (h : t = C ++ [10]) (h6 : litTok (q :: t) ≠ .err 6) : litTok (q :: (t ++ b)) = litTok (q :: t) := by
  cases hl : lit q t 1 [] with
  | none => exact absurd (by simp only [litTok, hl]) h6
  | some p =>
    obtain ⟨v, i⟩ := p
    obtain ⟨U, R, e1, e2, e3, e4⟩ := lit_loc q t 1 [] v i hl
    have hq10 : q ≠ 10 := by rcases hq with rfl | rfl <;> decide
    obtain ⟨C', hC⟩ := end_cut hq10 (e1.symm.trans h)
    have hh : (R ++ b).head? ≠ some q := by
      rw [hC] at e3 ⊢
      rcases C' with _ | ⟨d, C'⟩
      · intro e; exact hq10 (Option.some.inj e).symm
      · simpa using e3
    have hs : sfx (R ++ b) = sfx R := by
      rw [hC, List.append_assoc]
      exact sfx_loc (.inl rfl) (fun d _ _ e s he => by cases he; rfl) (fun _ => rfl)
    obtain rfl : i = U.length + 1 := by omega
    rw [e1, List.append_assoc, List.cons_append]
    exact litTok_eq q U R (R ++ b) v (e4 _ e3) (e4 _ hh) hs
theorem symTok_ext {xs C b : List Int} (h : xs = C ++ [10]) : symTok (xs ++ b) = symTok xs := by
  have hl : symLen (xs ++ b) = symLen xs ∧ symLen xs ≤ xs.length := by
    obtain ⟨M, R, e1, hM, hR, hor⟩ := symLen_parts xs
    have hRne : ∃ C', R = C' ++ [10] := by
      rcases List.eq_nil_or_concat R with rfl | ⟨C', e, rfl⟩
      · exfalso
        rw [List.append_nil] at e1
        have : (10 : Int) ∈ M := by rw [← e1, h]; simp
        have := hM 10 this
        cases this
      · rw [List.concat_eq_append] at e1 ⊢
        have h3 : (M ++ (C' ++ [e])).getLast? = (C ++ [10]).getLast? := by rw [← e1, h]
        rw [← List.append_assoc, List.getLast?_concat, List.getLast?_concat] at h3
        exact ⟨C', by rw [Option.some.inj h3]⟩
    obtain ⟨C', hC⟩ := hRne
    have hhd : ∀ (p : Int → Bool) (R b : List Int), R ≠ [] → (∀ e s, R = e :: s → p e = false) → ∀ e s, R ++ b = e :: s → p e = false := fun p R b hne hp e s he => by
      rcases R with _ | ⟨d, R⟩
      · exact absurd rfl hne
      · cases he; exact hp e R rfl
    have hRn : R ≠ [] := by rw [hC]; simp
    rcases hor with ⟨hl, hx⟩ | ⟨g, D, S, hRS, hm, hg, hD, hd, hS, hl⟩
    · refine ⟨?_, by rw [hl, e1]; simp⟩
      rw [hl, e1, List.append_assoc]
      refine symLen_plain hM (hhd sym R b hRn hR) fun ⟨q1, q2⟩ => hx ⟨q1, ?_⟩
      rw [hC] at q2 ⊢
      rcases C' with _ | ⟨d, _ | ⟨e, C'⟩⟩
      · rcases b with _ | ⟨a, b⟩
        · exact q2
        · simp [expo] at q2
      · rcases b with _ | ⟨a, b⟩
        · exact q2
        · exact q2
      · exact q2
    · subst hRS
      have hSn : S ≠ [] := by
        intro e
        subst e
        rw [List.append_nil] at hC
        have h10 : (10 : Int) ∈ g :: D := by rw [hC]; simp
        rcases List.mem_cons.1 h10 with e | e
        · rcases hg with rfl | rfl <;> cases e
        · have := hd 10 e; cases this
      refine ⟨?_, by rw [hl, e1]; simp; omega⟩
      rw [hl, e1, List.append_assoc, List.cons_append, List.append_assoc]
      exact symLen_expo hM hm hg hD hd (hhd dig S b hSn hS)
  refine symTok_eq hl.1 ?_
  rw [List.take_append_of_le_length hl.2]
theorem signs_no10 : ∀ p ∈ signs, (10 : Int) ∉ p := by decide
theorem find_congr {α : Type} (P Q : α → Bool) : ∀ l : List α, (∀ x ∈ l, P x = Q x) → l.find? P = l.find? Q
  | [], _ => rfl
  | x :: l, h => by
    rw [List.find?_cons, List.find?_cons, h x (by simp), find_congr P Q l (fun y hy => h y (by simp [hy]))]
theorem signTok_ext {xs C b : List Int} (h : xs = C ++ [10]) : signTok (xs ++ b) = signTok xs := by
  unfold signTok
  rw [find_congr (fun x => x.isPrefixOf (xs ++ b)) (fun x => x.isPrefixOf xs) signs fun p hp => ?_]
  have h1 : p.isPrefixOf xs = true → p.isPrefixOf (xs ++ b) = true := prefix_app p xs b
  have h2 : p.isPrefixOf (xs ++ b) = true → p.isPrefixOf xs = true := fun hx => by
    rw [h, List.append_assoc] at hx
    by_cases hlen : p.length ≤ C.length
    · rw [h]; exact prefix_app p C [10] (prefix_cut p C _ hx hlen)
    · exfalso
      have := prefix_at p C 10 b hx (by omega)
      exact signs_no10 p hp (List.mem_of_mem_take (by rw [this]; simp))
  cases hq : p.isPrefixOf xs with
  | true => exact h1 hq
  | false =>
    cases hr : p.isPrefixOf (xs ++ b) with
    | true => rw [h2 hr] at hq; cases hq
    | false => rfl
theorem step_ext {xs C b : List Int} (h : xs = C ++ [10]) (h6 : step xs ≠ .err 6 0) : step (xs ++ b) = step xs := by
  rcases xs with _ | ⟨a, t⟩
  · simp at h
  rw [List.cons_append]
  by_cases h1 : a = 10
  · simp only [step, if_pos h1]
  have ht : ∃ C', t = C' ++ [10] := by
    rcases C with _ | ⟨c, C⟩
    · simp only [List.nil_append, List.cons.injEq] at h
      exact absurd h.1 h1
    · simp only [List.cons_append, List.cons.injEq] at h
      exact ⟨C, h.2⟩
  obtain ⟨C', ht⟩ := ht
  simp only [step] at h6 ⊢
  rw [if_neg h1] at h6
  rw [if_neg h1, if_neg h1]
  by_cases h2 : a = 32
  · rw [if_pos h2, if_pos h2]
  rw [if_neg h2] at h6
  rw [if_neg h2, if_neg h2]
  have hst : starts2 (a :: (t ++ b)) = starts2 (a :: t) := by
    rcases t with _ | ⟨e, t⟩
    · simp at ht
    · rfl
  rw [hst]
  by_cases h3 : starts2 (a :: t) = true
  · rw [if_pos h3] at h6
    rw [if_pos h3, if_pos h3]
    cases hc : cmt (a :: t) 0 0 1 0 with
    | eof => rw [hc] at h6; exact absurd rfl h6
    | done i l b' =>
      rw [show a :: (t ++ b) = (a :: t) ++ b from rfl, cmt_app _ b _ _ _ _ _ _ _ hc]
  rw [if_neg h3] at h6
  rw [if_neg h3, if_neg h3]
  by_cases h4 : a = 39 ∨ a = 34
  · rw [if_pos h4] at h6
    rw [if_pos h4, if_pos h4, litTok_ext h4 ht]
    intro e
    rw [e] at h6
    exact h6 rfl
  rw [if_neg h4, if_neg h4]
  by_cases h5 : sym a = true
  · rw [if_pos h5, if_pos h5, show a :: (t ++ b) = (a :: t) ++ b from rfl, symTok_ext h]
  · rw [if_neg h5, if_neg h5, show a :: (t ++ b) = (a :: t) ++ b from rfl, signTok_ext h]
def EndsLine (xs : List Int) : Prop := xs = [] ∨ ∃ C, xs = C ++ [10]
theorem EndsLine.drop {xs : List Int} (h : EndsLine xs) (n : Nat) : EndsLine (xs.drop n) := by
  rcases h with rfl | ⟨C, rfl⟩
  · exact .inl (by simp)
  · by_cases hn : n ≤ C.length
    · exact .inr ⟨C.drop n, by rw [List.drop_append_of_le_length hn]⟩
    · exact .inl (List.drop_eq_nil_of_le (by simp; omega))
theorem pre_err (l : List (List Tk)) (o : Out) : (o.pre l).err = o.err := rfl
theorem go_ext : ∀ (f : Nat) (xs b : List Int) (i line : Nat) (cur : List Tk) (gap : Bool) (c ln f' : Nat), EndsLine xs → (∀ x ∈ xs, 0 ≤ x ∧ x < 256) → xs.length < f → (xs ++ b).length < f' → (go f xs i line cur gap).err = some (c, ln) → c ≠ 6 → go f' (xs ++ b) i line cur gap = go f xs i line cur gap
  | 0, xs, b, i, line, cur, gap, c, ln, f', _, _, hf, _, _, _ => absurd hf (Nat.not_lt_zero _)
  | f + 1, xs, b, i, line, cur, gap, c, ln, 0, _, _, _, hf, _, _ => absurd hf (Nat.not_lt_zero _)
  | f + 1, xs, b, i, line, cur, gap, c, ln, f' + 1, hE, hb, hf, hf', he, h6 => by
    have hbd : ∀ n, ∀ x ∈ xs.drop n, 0 ≤ x ∧ x < 256 := fun n x hx => hb x (List.mem_of_mem_drop hx)
    rcases hE with rfl | ⟨C, hC⟩
    · cases he
    have hE : EndsLine xs := .inr ⟨C, hC⟩
    have hx1 : 1 ≤ xs.length := by rw [hC]; simp
    have hlen : (xs ++ b).length = xs.length + b.length := List.length_append
    have hst : step (xs ++ b) = step xs := step_ext hC (fun e => by
      rw [go, e] at he
      simp only [Option.some.injEq, Prod.mk.injEq] at he
      exact h6 he.1.symm)
    have hdr : ∀ n, n ≤ xs.length → (xs ++ b).drop n = xs.drop n ++ b := fun n hn => List.drop_append_of_le_length hn
    have ih := fun n i line cur gap => go_ext f (xs.drop n) b i line cur gap c ln f' (hE.drop n) (hbd n)
    rw [go] at he ⊢
    conv => { rhs; rw [go] }
    rw [hst]
    cases hs : step xs with
    | fin => rfl
    | line =>
      rw [hs] at he
      simp only at he ⊢
      rw [hdr 1 hx1]
      by_cases hcm : comma cur = true
      · rw [if_pos hcm] at he
        rw [if_pos hcm, if_pos hcm]
        exact ih 1 _ _ _ _ (by rw [List.length_drop]; omega) (by rw [List.length_append, List.length_drop]; omega) he h6
      · rw [if_neg hcm] at he
        rw [if_neg hcm, if_neg hcm]
        rw [ih 1 _ _ _ _ (by rw [List.length_drop]; omega) (by rw [List.length_append, List.length_drop]; omega) he h6]
    | blank =>
      rw [hs] at he
      simp only at he ⊢
      rw [hdr 1 hx1]
      exact ih 1 _ _ _ _ (by rw [List.length_drop]; omega) (by rw [List.length_append, List.length_drop]; omega) he h6
    | cmt n dl =>
      rw [hs] at he
      obtain ⟨h1, h2, -⟩ := step_cmt hs
      simp only at he ⊢
      rw [hdr n h2]
      exact ih n _ _ _ _ (by rw [List.length_drop]; omega) (by rw [List.length_append, List.length_drop]; omega) he h6
    | tok k t n =>
      rw [hs] at he
      obtain ⟨h1, h2, -⟩ := step_tok hb hs
      simp only at he ⊢
      rw [hdr n h2]
      have hl1 : (xs.drop n).length < f := by rw [List.length_drop]; omega
      have hl2 : (xs.drop n ++ b).length < f' := by rw [List.length_append, List.length_drop]; omega
      by_cases hsc : k = 3 ∧ t = [59]
      · rw [if_pos hsc] at he
        rw [if_pos hsc, if_pos hsc, ih n _ _ _ _ hl1 hl2 he h6]
      · rw [if_neg hsc] at he
        rw [if_neg hsc, if_neg hsc]
        by_cases hlb : label (cur ++ [⟨k, t, gap && !decide (cur = []), line, i, i + n⟩]) = true
        · rw [if_pos hlb] at he
          rw [if_pos hlb, if_pos hlb, ih n _ _ _ _ hl1 hl2 he h6]
        · rw [if_neg hlb] at he
          rw [if_neg hlb, if_neg hlb]
          exact ih n _ _ _ _ hl1 hl2 he h6
    | err cc dl => rfl
theorem scan_ext {xs b : List Int} {c ln : Nat} (hE : EndsLine xs) (hb : ∀ x ∈ xs, 0 ≤ x ∧ x < 256) (h : (scan xs).err = some (c, ln)) (h6 : c ≠ 6) : scan (xs ++ b) = scan xs :=
  go_ext (xs.length + 1) xs b 0 1 [] false c ln ((xs ++ b).length + 1) hE hb (Nat.lt_succ_self _) (Nat.lt_succ_self _) h h6
end Go.Proofs.YtkkpjonfaflkmaaGreatDoor.S

/- Small laws on bytes and strings that the pure laws share. -/
namespace Go.Proofs.YtkkpjonfaflkmaaGreatDoor.T
set_option linter.unusedSimpArgs false
set_option linter.unusedVariables false
open Go.RowKit Go.Proofs.YtkkpjonfaflkmaaGreatDoorW.PrintWords Go.Proofs.YtkkpjonfaflkmaaGreatDoorW.PrintLast Go.Proofs.YtkkpjonfaflkmaaGreatDoorW.PrintMore

theorem w64n {i : Nat} (h : i ≤ 1000000000000) : wrap64 ((i : Int) + 1) = ((i + 1 : Nat) : Int) := by unfold wrap64; omega
theorem drop_bt (a0 : ByteArray) {i : Nat} (h : i < a0.size) : (bytesOf a0).drop i = bt a0 (i : Int) :: (bytesOf a0).drop (i + 1) := by
  rw [bt_getD a0 i h]
  exact drop_at _ _ (by rw [bytesOf_length]; exact h)
theorem prn_all_str (L : List Int) (h : ∀ x ∈ L, 0 ≤ x ∧ x < 256) : (strOfNums L).size = L.length := by simp [strOfNums, ByteArray.size]
theorem bt_str {q : Int} {L : List Int} (h : ∀ x ∈ q :: L, 0 ≤ x ∧ x < 256) : bt (strOfNums (q :: L)) 0 = q := by
  have hs : 0 < (strOfNums (q :: L)).size := by rw [prn_all_str _ h]; simp
  have := bt_getD (strOfNums (q :: L)) 0 hs
  rw [bytesOf_str _ h] at this
  exact this
theorem str_bytes (a0 : ByteArray) : strOfNums (bytesOf a0) = a0 := by
  apply bytesOf_inj
  rw [bytesOf_str _ (bo_range a0)]
end Go.Proofs.YtkkpjonfaflkmaaGreatDoor.T

/- ScanErrors: the statement. -/
namespace Go.Proofs.YtkkpjonfaflkmaaGreatDoor.T
set_option linter.unusedSimpArgs false
set_option linter.unusedVariables false
open Go.RowKit Go.Proofs.YtkkpjonfaflkmaaGreatDoorW.PrintWords Go.Proofs.YtkkpjonfaflkmaaGreatDoorW.PrintLast Go.Proofs.YtkkpjonfaflkmaaGreatDoorW.PrintMore

theorem equal_l0 (l : List S53) (hl : l.length ≤ 1000000) : ∀ (m k i : Nat), i + m = l.length → m < k → qanatref03_Equal.l0 k l l (i : Int) = some true
  | m, 0, i, _, h => absurd h (Nat.not_lt_zero _)
  | 0, k + 1, i, h, _ => by rw [qanatref03_Equal.l0, if_neg (by omega)]
  | m + 1, k + 1, i, h, hk => by
    have ih := equal_l0 l hl m k (i + 1) (by omega) (by omega)
    rw [qanatref03_Equal.l0, if_pos (by omega), if_pos (by omega), if_pos (by omega), w64n (by omega), ih, if_neg]
    simp
theorem equal_f (l : List S53) (hl : l.length ≤ 1000000) (k : Nat) (hk : l.length < k) : qanatref03_Equal.f k l l = some true := by
  unfold qanatref03_Equal.f
  rw [if_pos rfl]
  exact equal_l0 l hl l.length k 0 (by omega) hk
theorem tokens_f (a0 : ByteArray) (h : a0.size ≤ 20000) : scan_Tokens.f a0 = some ((S.tokens (bytesOf a0)).map toS, errC (S.scan (bytesOf a0)).err, errL (S.scan (bytesOf a0)).err, if (S.scan (bytesOf a0)).err = none then 0 else 7) := by
  unfold scan_Tokens.f
  rw [if_pos h]
  cases he : (S.scan (bytesOf a0)).err with
  | none => rfl
  | some p =>
    have := S.scan_err (c := p.1) (ln := p.2) he
    rw [if_neg (show ¬ errC (some p) = 0 from fun e => this (Int.ofNat_eq_zero.1 e)), if_neg (show ¬ some p = none from fun e => by cases e)]
theorem toks_len (a0 : ByteArray) (h : a0.size ≤ 20000) : (S.tokens (bytesOf a0)).length ≤ 40001 := by
  have h1 := S.tokens_length (bo_range a0)
  have h2 : (bytesOf a0).length = a0.size := bytesOf_length a0
  omega
theorem scan_errors_pure : qanatlaw03_ScanErrors.Pure := fun a0 a1 _ _ => by
  refine ⟨50000, ?_⟩
  unfold qanatlaw03_ScanErrors.f qanatlaw03_small.f
  simp only [Option.bind_some]
  by_cases h0 : (a0.size : Int) ≤ 3000
  · rw [decide_eq_true h0, if_pos rfl]
    by_cases h1 : (a1.size : Int) ≤ 3000
    · rw [decide_eq_true h1]
      show qanatlaw03_ScanErrors.j0 (49999 + 1) a0 a1 false = some true
      have hs1 : (a0 ++ (⟨#[10]⟩ : ByteArray)).size = a0.size + 1 := by rw [ByteArray.size_append]; rfl
      have hs2 : ((a0 ++ (⟨#[10]⟩ : ByteArray)) ++ a1).size = a0.size + 1 + a1.size := by rw [ByteArray.size_append, hs1]
      rw [qanatlaw03_ScanErrors.j0, if_neg Bool.false_ne_true, if_pos (by omega), tokens_f _ (by omega)]
      simp only [Option.bind_some]
      have hb : bytesOf (a0 ++ (⟨#[10]⟩ : ByteArray)) = bytesOf a0 ++ [10] := by rw [bytesOf_append]; rfl
      cases he : (S.scan (bytesOf (a0 ++ (⟨#[10]⟩ : ByteArray)))).err with
      | none => rw [if_pos rfl]; rfl
      | some p =>
        rw [if_neg (show ¬ some p = none from fun e => by cases e), if_pos rfl]
        by_cases h6 : p.1 = 6
        · have : (errC (some p) == 6) = true := by
            rw [beq_iff_eq]; show ((p.1 : Nat) : Int) = 6; omega
          rw [this]; rfl
        · have : (errC (some p) == 6) = false := by
            rw [beq_eq_false_iff_ne]; show ((p.1 : Nat) : Int) ≠ 6; omega
          rw [this]
          show qanatlaw03_ScanErrors.j1 (49998 + 1) a0 a1 _ _ _ false = some true
          rw [qanatlaw03_ScanErrors.j1, if_neg Bool.false_ne_true, if_pos (by omega), if_pos (by omega), tokens_f _ (by omega)]
          simp only [Option.bind_some]
          have hx : S.scan (bytesOf ((a0 ++ (⟨#[10]⟩ : ByteArray)) ++ a1)) = S.scan (bytesOf (a0 ++ (⟨#[10]⟩ : ByteArray))) := by
            rw [bytesOf_append]
            exact S.scan_ext (.inr ⟨_, hb⟩) (bo_range _) he h6
          unfold S.tokens
          rw [hx, he]
          unfold qanatlaw03_sanity.f
          simp only [Option.bind_some, if_true]
          have hlen := toks_len (a0 ++ (⟨#[10]⟩ : ByteArray)) (by omega)
          rw [if_neg (show ¬ some p = none from fun e => by cases e), if_pos rfl]
          have hq := equal_f ((S.scan (bytesOf (a0 ++ (⟨#[10]⟩ : ByteArray)))).cl.flatten.map toS) (by rw [List.length_map]; exact Nat.le_trans hlen (by omega)) 49998 (by rw [List.length_map]; exact Nat.lt_of_le_of_lt hlen (by omega))
          rw [hq]; rfl
    · rw [decide_eq_false h1]; rfl
  · rw [decide_eq_false h0, if_neg Bool.false_ne_true]; rfl
end Go.Proofs.YtkkpjonfaflkmaaGreatDoor.T
