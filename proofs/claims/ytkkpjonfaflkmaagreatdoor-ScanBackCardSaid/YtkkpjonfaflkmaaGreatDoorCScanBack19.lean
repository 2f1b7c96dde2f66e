/- Part 19 of the proof of ScanBack: the functions that it calls return what their plain descriptions say. -/
import Derived.Test.YtkkpjonfaflkmaaGreatDoorCScanBack18
import Derived.Test.YtkkpjonfaflkmaaGreatDoorCScanBack7

namespace Go.Proofs.YtkkpjonfaflkmaaGreatDoor.S
set_option linter.unusedSimpArgs false
set_option linter.unusedVariables false
abbrev KT := Nat × List Int
def spk (x : KT) : List Int := if x.1 = 2 then quote x.2 else x.2
def spl (l : List KT) : List Int := l.flatMap spk
theorem spl_cons (x : KT) (l : List KT) : spl (x :: l) = spk x ++ spl l := by simp [spl]
theorem spl_app (l m : List KT) : spl (l ++ m) = spl l ++ spl m := by simp [spl]
theorem spk_two (t : List Int) : spk (2, t) = quote t := if_pos rfl
theorem spk_ne {k : Nat} {t : List Int} (h : k ≠ 2) : spk (k, t) = t := if_neg h
theorem qOf_le (v : List Int) (q : Int) (hq : q = 39 ∨ q = 34) : v.count (qOf v) ≤ v.count q := by
  unfold qOf
  by_cases h : v.count 34 < v.count 39
  · rw [if_pos h]; rcases hq with rfl | rfl <;> omega
  · rw [if_neg h]; rcases hq with rfl | rfl <;> omega
theorem count_two : ∀ v : List Int, v.count 34 + v.count 39 ≤ v.length
  | [] => by simp
  | c :: v => by
    have := count_two v
    rw [List.count_cons, List.count_cons, List.length_cons]
    by_cases h : c = 34
    · subst h
      rw [if_pos (by decide), if_neg (by decide)]; omega
    · rw [if_neg (by simpa using h)]
      split <;> omega
theorem qOf_half (v : List Int) : 2 * v.count (qOf v) ≤ v.length := by
  have h1 := qOf_le v 39 (.inl rfl)
  have h2 := qOf_le v 34 (.inr rfl)
  have h3 := count_two v
  omega
theorem lit_len (q : Int) : ∀ (xs : List Int) (i : Nat) (acc v : List Int) (j : Nat), lit q xs i acc = some (v, j) → ∃ w, v = acc ++ w ∧ j = i + w.length + w.count q
  | [], _, _, _, _ => fun h => by cases h
  | [c], i, acc, v, j => fun h => by
    rw [lit] at h
    by_cases h1 : c = 10
    · rw [if_pos h1] at h; cases h
    · rw [if_neg h1] at h
      by_cases h2 : c = q
      · rw [if_pos h2] at h; cases h
        exact ⟨[], by simp, by simp⟩
      · rw [if_neg h2] at h; cases h
  | c :: d :: t, i, acc, v, j => fun h => by
    rw [lit] at h
    by_cases h1 : c = 10
    · rw [if_pos h1] at h; cases h
    · rw [if_neg h1] at h
      by_cases h2 : c = q
      · rw [if_pos h2] at h
        by_cases h3 : d = q
        · rw [if_pos h3] at h
          obtain ⟨w, e1, e2⟩ := lit_len q t (i + 2) (acc ++ [q]) v j h
          refine ⟨q :: w, by rw [e1]; simp, ?_⟩
          rw [e2, List.length_cons, List.count_cons_self]; omega
        · rw [if_neg h3] at h; cases h
          exact ⟨[], by simp, by simp⟩
      · rw [if_neg h2] at h
        obtain ⟨w, e1, e2⟩ := lit_len q (d :: t) (i + 1) (acc ++ [c]) v j h
        refine ⟨c :: w, by rw [e1]; simp, ?_⟩
        rw [e2, List.length_cons, List.count_cons_of_ne (by simpa using h2)]; omega
theorem decK_length (base : Int) (w : Nat) : ∀ (k : Nat) (xs v : List Int), decK base w k xs = some v → v.length = k
  | 0, xs, v, h => by cases h; rfl
  | k + 1, xs, v, h => by
    rw [decK] at h
    cases hg : decG base (xs.take w) 0 with
    | none => rw [hg] at h; cases h
    | some n =>
      rw [hg] at h
      simp only at h
      by_cases hp : prn n = true
      · rw [if_pos hp] at h
        cases hr : decK base w k (xs.drop w) with
        | none => rw [hr] at h; cases h
        | some u =>
          rw [hr] at h
          simp only [Option.map_some, Option.some.injEq] at h
          subst h
          rw [List.length_cons, decK_length base w k _ u hr]
      · rw [if_neg hp] at h; cases h
theorem litDec_length {v u : List Int} {sx : Nat} (h : litDec v sx = some u) : 2 * u.length ≤ v.length := by
  have key : ∀ (b : Int) (w : Nat), 2 ≤ w → decode b w v = some u → 2 * u.length ≤ v.length := by
    intro b w hw h
    unfold decode at h
    by_cases hm : v.length % w ≠ 0
    · rw [if_pos hm] at h; cases h
    · rw [if_neg hm] at h
      rw [decK_length _ _ _ _ _ h]
      have h1 := Nat.div_mul_le_self v.length w
      have h2 : v.length / w * 2 ≤ v.length / w * w := Nat.mul_le_mul_left _ hw
      omega
  unfold litDec at h
  by_cases hs : sx = 4
  · rw [if_pos hs] at h; exact key _ _ (by omega) h
  · rw [if_neg hs] at h; exact key _ _ (by omega) h
theorem step_kinds {xs t : List Int} {k n : Nat} (h : step xs = .tok k t n) : ∃ c r, xs = c :: r ∧ c ≠ 10 ∧ c ≠ 32 ∧ starts2 xs = false ∧
    ((k = 2 ∧ (c = 39 ∨ c = 34) ∧ litTok xs = .ok t n) ∨ (k = 1 ∧ ¬ (c = 39 ∨ c = 34) ∧ sym c = true ∧ symTok xs = .ok t n) ∨ (k = 3 ∧ ¬ (c = 39 ∨ c = 34) ∧ sym c = false ∧ signTok xs = .ok t n)) := by
  rcases xs with _ | ⟨c, r⟩
  · cases h
  refine ⟨c, r, rfl, ?_⟩
  simp only [step] at h
  by_cases h1 : c = 10
  · rw [if_pos h1] at h; cases h
  rw [if_neg h1] at h
  by_cases h2 : c = 32
  · rw [if_pos h2] at h; cases h
  rw [if_neg h2] at h
  by_cases h3 : starts2 (c :: r) = true
  · rw [if_pos h3] at h; exact (cmtStep_ne h).elim
  rw [if_neg h3] at h
  refine ⟨h1, h2, by simpa using h3, ?_⟩
  by_cases h4 : c = 39 ∨ c = 34
  · rw [if_pos h4] at h
    obtain ⟨rfl, hr⟩ := tokStep_tok h
    exact .inl ⟨rfl, h4, hr⟩
  rw [if_neg h4] at h
  by_cases h5 : sym c = true
  · rw [if_pos h5] at h
    obtain ⟨rfl, hr⟩ := tokStep_tok h
    exact .inr (.inl ⟨rfl, h4, h5, hr⟩)
  rw [if_neg h5] at h
  obtain ⟨rfl, hr⟩ := tokStep_tok h
  exact .inr (.inr ⟨rfl, h4, by simpa using h5, hr⟩)
theorem step_mk_lit {c : Int} {r t : List Int} {n : Nat} (hc : c = 39 ∨ c = 34) (h : litTok (c :: r) = .ok t n) : step (c :: r) = .tok 2 t n := by
  have h3 : starts2 (c :: r) = false := by
    rcases r with _ | ⟨d, r⟩
    · rfl
    · rcases hc with rfl | rfl <;> rfl
  simp only [step]
  rw [if_neg (by omega), if_neg (by omega), if_neg (by rw [h3]; decide), if_pos hc, h]
  rfl
theorem sym_facts {c : Int} (h : sym c = true) : c ≠ 10 ∧ c ≠ 32 ∧ c ≠ 47 ∧ c ≠ 42 ∧ ¬ (c = 39 ∨ c = 34) := by
  refine ⟨?_, ?_, ?_, ?_, ?_⟩
  · rintro rfl; cases h
  · rintro rfl; cases h
  · rintro rfl; cases h
  · rintro rfl; cases h
  · rintro (rfl | rfl) <;> cases h
theorem starts2_ne {c : Int} {r : List Int} (h : c ≠ 47) : starts2 (c :: r) = false := by
  rcases r with _ | ⟨d, r⟩
  · rfl
  · simp [starts2, h]
theorem step_mk_sym {c : Int} {r t : List Int} {n : Nat} (hc : sym c = true) (h : symTok (c :: r) = .ok t n) : step (c :: r) = .tok 1 t n := by
  obtain ⟨f1, f2, f3, f4, f5⟩ := sym_facts hc
  simp only [step]
  rw [if_neg f1, if_neg f2, if_neg (by rw [starts2_ne f3]; decide), if_neg f5, if_pos hc, h]
  rfl
theorem step_mk_sign {c : Int} {r t : List Int} {n : Nat} (h1 : c ≠ 10) (h2 : c ≠ 32) (h3 : starts2 (c :: r) = false) (h4 : ¬ (c = 39 ∨ c = 34)) (h5 : sym c = false) (h : signTok (c :: r) = .ok t n) : step (c :: r) = .tok 3 t n := by
  simp only [step]
  rw [if_neg h1, if_neg h2, if_neg (by rw [h3]; decide), if_neg h4, if_neg (by rw [h5]; decide), h]
  rfl
theorem symTok_inv {xs t : List Int} {n : Nat} (h : symTok xs = .ok t n) : n = symLen xs ∧ t = (xs.take n).map up ∧ n ≤ 40 := by
  unfold symTok at h
  by_cases h4 : 40 < symLen xs
  · rw [if_pos h4] at h; cases h
  · rw [if_neg h4] at h; cases h
    exact ⟨rfl, rfl, by omega⟩
theorem signTok_inv {xs t : List Int} {n : Nat} (h : signTok xs = .ok t n) : t ∈ signs ∧ n = t.length ∧ t.isPrefixOf xs = true := by
  unfold signTok at h
  cases hf : signs.find? (fun x => x.isPrefixOf xs) with
  | none => rw [hf] at h; cases h
  | some l =>
    rw [hf] at h
    cases h
    exact ⟨List.mem_of_find?_eq_some hf, rfl, by simpa using List.find?_some hf⟩
theorem step_len {xs t : List Int} {k n : Nat} (hb : ∀ x ∈ xs, 0 ≤ x ∧ x < 256) (h : step xs = .tok k t n) : (spk (k, t)).length ≤ n := by
  obtain ⟨c, r, rfl, -, -, -, hk⟩ := step_kinds h
  rcases hk with ⟨rfl, hq, hl⟩ | ⟨rfl, -, -, hs⟩ | ⟨rfl, -, -, hs⟩
  · rw [spk_two, quote_length]
    simp only [litTok] at hl
    cases hlit : lit c r 1 [] with
    | none => rw [hlit] at hl; cases hl
    | some p =>
      obtain ⟨v, i⟩ := p
      rw [hlit] at hl
      simp only at hl
      obtain ⟨w, e1, e2⟩ := lit_len c r 1 [] v i hlit
      rw [List.nil_append] at e1
      subst e1
      by_cases hp : v.all prn = true
      · rw [if_pos hp] at hl
        by_cases hsx : sfx ((c :: r).drop (i + 1)) = 0
        · rw [if_pos hsx] at hl
          obtain ⟨rfl, rfl⟩ := litEnd_ok hl
          have := qOf_le t c hq
          omega
        · rw [if_neg hsx] at hl
          cases hd : litDec v (sfx ((c :: r).drop (i + 1))) with
          | none => rw [hd] at hl; cases hl
          | some u =>
            rw [hd] at hl
            obtain ⟨rfl, rfl⟩ := litEnd_ok hl
            have h1 := litDec_length hd
            have h2 := qOf_half t
            omega
      · rw [if_neg hp] at hl; cases hl
  · obtain ⟨e1, e2, e3⟩ := symTok_inv hs
    rw [spk_ne (by decide), e2, List.length_map, List.length_take]
    omega
  · obtain ⟨e1, e2, e3⟩ := signTok_inv hs
    rw [spk_ne (by decide)]; omega
def pcs : Nat → List Int → Option (List KT)
  | 0, _ => none
  | f + 1, xs => match step xs with
    | .fin => some []
    | .line => pcs f (xs.drop 1)
    | .blank => pcs f (xs.drop 1)
    | .cmt n _ => pcs f (xs.drop n)
    | .tok k t n => (pcs f (xs.drop n)).map ((k, t) :: ·)
    | .err _ _ => none
theorem bytes_drop {xs : List Int} (hb : ∀ x ∈ xs, 0 ≤ x ∧ x < 256) (n : Nat) : ∀ x ∈ xs.drop n, 0 ≤ x ∧ x < 256 := fun x hx => hb x (List.mem_of_mem_drop hx)
theorem pcs_len : ∀ (f : Nat) (xs : List Int) (l : List KT), (∀ x ∈ xs, 0 ≤ x ∧ x < 256) → pcs f xs = some l → (spl l).length ≤ xs.length
  | 0, _, _, _, h => by cases h
  | f + 1, xs, l, hb, h => by
    rw [pcs] at h
    cases hs : step xs with
    | fin => rw [hs] at h; cases h; simp [spl]
    | line => rw [hs] at h; have := pcs_len f _ l (bytes_drop hb 1) h; rw [List.length_drop] at this; omega
    | blank => rw [hs] at h; have := pcs_len f _ l (bytes_drop hb 1) h; rw [List.length_drop] at this; omega
    | cmt n d => rw [hs] at h; have := pcs_len f _ l (bytes_drop hb n) h; rw [List.length_drop] at this; omega
    | err c d => rw [hs] at h; cases h
    | tok k t n =>
      rw [hs] at h
      simp only at h
      cases hr : pcs f (xs.drop n) with
      | none => rw [hr] at h; cases h
      | some l' =>
        rw [hr] at h
        cases h
        have h1 := pcs_len f _ l' (bytes_drop hb n) hr
        have h2 := step_len hb hs
        have h3 := (step_tok hb hs).2.1
        rw [List.length_drop] at h1
        rw [spl_cons, List.length_append]
        omega
def Rd : List KT → Prop
  | [] => True
  | x :: l => step (spk x ++ spl l) = .tok x.1 x.2 (spk x).length ∧ Rd l
theorem rd_of_pcs : ∀ (f : Nat) (l : List KT), (∀ x ∈ spl l, 0 ≤ x ∧ x < 256) → pcs f (spl l) = some l → Rd l
  | 0, _, _, h => by cases h
  | f + 1, [], hb, h => trivial
  | f + 1, x :: l, hb, h => by
    rw [pcs] at h
    have hpos : step (spl (x :: l)) ≠ .fin → 1 ≤ (spl (x :: l)).length := step_some
    cases hs : step (spl (x :: l)) with
    | fin => rw [hs] at h; cases h
    | line =>
      rw [hs] at h hpos; have h1 := pcs_len f _ _ (bytes_drop hb 1) h; rw [List.length_drop] at h1
      have := hpos (by simp); omega
    | blank =>
      rw [hs] at h hpos; have h1 := pcs_len f _ _ (bytes_drop hb 1) h; rw [List.length_drop] at h1
      have := hpos (by simp); omega
    | cmt n d =>
      rw [hs] at h hpos; have h1 := pcs_len f _ _ (bytes_drop hb n) h; rw [List.length_drop] at h1
      have := hpos (by simp)
      have := step_cmt hs; omega
    | err c d => rw [hs] at h; cases h
    | tok k t n =>
      rw [hs] at h
      simp only at h
      cases hr : pcs f ((spl (x :: l)).drop n) with
      | none => rw [hr] at h; cases h
      | some l' =>
        rw [hr] at h
        simp only [Option.map_some, Option.some.injEq, List.cons.injEq] at h
        obtain ⟨rfl, rfl⟩ := h
        have h1 := pcs_len f _ _ (bytes_drop hb n) hr
        have h2 := step_len hb hs
        have h3 := (step_tok hb hs).2.1
        rw [List.length_drop] at h1
        have hsl : (spl ((k, t) :: l')).length = (spk (k, t)).length + (spl l').length := by rw [spl_cons, List.length_append]
        have hn : n = (spk (k, t)).length := by omega
        subst hn
        rw [spl_cons, List.drop_left] at hr
        rw [spl_cons] at hs
        exact ⟨hs, rd_of_pcs f l' (fun x hx => hb x (by rw [spl_cons]; exact List.mem_append_right _ hx)) hr⟩
theorem pcs_of_rd : ∀ (f : Nat) (l : List KT), (∀ x ∈ spl l, 0 ≤ x ∧ x < 256) → (spl l).length < f → Rd l → pcs f (spl l) = some l
  | 0, _, _, h, _ => absurd h (Nat.not_lt_zero _)
  | f + 1, [], hb, h, _ => rfl
  | f + 1, x :: l, hb, hf, h => by
    obtain ⟨h1, h2⟩ := h
    rw [spl_cons] at hb hf ⊢
    rw [pcs, h1]
    simp only
    rw [List.drop_left]
    have h3 := (step_tok hb h1).1
    rw [pcs_of_rd f l (fun x hx => hb x (List.mem_append_right _ hx)) (by rw [List.length_append] at hf; omega) h2]
    rfl
theorem sym_up (c : Int) : sym (up c) = sym c := by
  unfold up
  by_cases h : 97 ≤ c ∧ c ≤ 122
  · rw [if_pos h]
    have h1 : sym c = true := by simp [sym, h.1, h.2]
    have h2 : sym (c - 32) = true := by
      have a : (65 : Int) ≤ c - 32 := by omega
      have b : c - 32 ≤ 90 := by omega
      simp [sym, a, b]
    rw [h1, h2]
  · rw [if_neg h]
theorem up_small {c : Int} (h : ¬ (97 ≤ c ∧ c ≤ 122)) : up c = c := if_neg h
theorem dig_up (c : Int) : dig (up c) = dig c := by
  unfold up
  by_cases h : 97 ≤ c ∧ c ≤ 122
  · rw [if_pos h]
    have a : ¬ c ≤ 57 := by omega
    have b : ¬ c - 32 ≤ 57 := by omega
    simp [dig, a, b]
  · rw [if_neg h]
theorem up_eq (d : Int) (hd : ¬ (65 ≤ d ∧ d ≤ 90)) (hd2 : ¬ (97 ≤ d ∧ d ≤ 122)) (c : Int) : decide (up c = d) = decide (c = d) := by
  unfold up
  by_cases h : 97 ≤ c ∧ c ≤ 122
  · rw [if_pos h]; exact decide_eq_decide.2 (by omega)
  · rw [if_neg h]
theorem up_e (c : Int) : (decide (up c = 69) || decide (up c = 101)) = (decide (c = 69) || decide (c = 101)) := by
  unfold up
  by_cases h : 97 ≤ c ∧ c ≤ 122
  · rw [if_pos h, ← Bool.decide_or, ← Bool.decide_or]; exact decide_eq_decide.2 (by omega)
  · rw [if_neg h]
theorem up_up (c : Int) : up (up c) = up c := by
  have : ¬ (97 ≤ up c ∧ up c ≤ 122) := by
    unfold up
    by_cases h : 97 ≤ c ∧ c ≤ 122
    · rw [if_pos h]; omega
    · rw [if_neg h]; exact h
  exact up_small this
theorem run_up (p : Int → Bool) (hp : ∀ c, p (up c) = p c) : ∀ xs : List Int, run p (xs.map up) = run p xs
  | [] => rfl
  | c :: xs => by rw [List.map_cons, run, run, hp, run_up p hp xs]
theorem expo_up (xs : List Int) : expo (xs.map up) = expo xs := by
  rcases xs with _ | ⟨c, _ | ⟨d, t⟩⟩
  · rfl
  · rfl
  · simp only [List.map_cons, expo]
    rw [dig_up, up_eq 43 (by omega) (by omega), up_eq 45 (by omega) (by omega)]
theorem count_up : ∀ xs : List Int, (xs.map up).count 46 = xs.count 46
  | [] => rfl
  | c :: xs => by
    rw [List.map_cons, List.count_cons, List.count_cons, count_up xs]
    have h := decide_eq_decide.1 (up_eq 46 (by omega) (by omega) c)
    by_cases e : c = 46
    · rw [if_pos (beq_iff_eq.2 (h.2 e)), if_pos (beq_iff_eq.2 e)]
    · rw [if_neg (fun x => e (h.1 (beq_iff_eq.1 x))), if_neg (fun x => e (beq_iff_eq.1 x))]
theorem mant_up (xs : List Int) : mant (xs.map up) = mant xs := by
  unfold mant
  rw [List.getLast?_map]
  cases xs.getLast? with
  | none => rfl
  | some e =>
    simp only [Option.map_some]
    rw [up_e, ← List.map_dropLast, count_up, List.all_map, List.any_map]
    congr 2
    · congr 1
      apply List.all_congr rfl
      intro c
      simp only [Function.comp]
      rw [dig_up, up_eq 46 (by omega) (by omega)]
    · apply List.any_congr rfl
      intro c
      simp only [Function.comp]
      exact dig_up c
theorem symLen_up (xs : List Int) : symLen (xs.map up) = symLen xs := by
  unfold symLen
  rw [run_up sym sym_up, ← List.map_take, ← List.map_drop, ← List.map_drop, mant_up, expo_up, run_up dig dig_up]
theorem symLen_cut (xs : List Int) : symLen (xs.take (symLen xs)) = symLen xs ∧ symLen xs ≤ xs.length := by
  obtain ⟨M, R, e1, hM, hR, hor⟩ := symLen_parts xs
  rcases hor with ⟨hl, hx⟩ | ⟨g, D, S, rfl, hm, hg, hD, hd, hS, hl⟩
  · rw [hl]
    subst e1
    rw [List.take_left]
    have := symLen_plain (M := M) (R := []) hM (fun e s h => by cases h) (fun h => by simp [expo] at h)
    rw [List.append_nil] at this
    exact ⟨this, by simp⟩
  · rw [hl]
    have e2 : xs = (M ++ g :: D) ++ S := by rw [e1]; simp
    have e3 : (M ++ g :: D).length = M.length + 1 + D.length := by simp; omega
    rw [← e3]
    have := symLen_expo (M := M) (D := D) (S := []) hM hm hg hD hd (fun e s h => by cases h)
    rw [List.append_nil] at this
    rw [e2, List.take_left, this, e3]
    exact ⟨rfl, by rw [List.length_append]; omega⟩
theorem signs_step : ∀ t ∈ signs, step t = .tok 3 t t.length := by decide
theorem all_quote {v : List Int} (hp : v.all prn = true) (hl : v.length ≤ 1000) : ∀ R : List Int, R.head? ≠ some (qOf v) → sfx R = 0 → litTok (quote v ++ R) = .ok v (quote v).length := by
  have hq : qOf v ≠ 10 := by rcases qOf_or v with e | e <;> rw [e] <;> decide
  have hn : ∀ x ∈ v, x ≠ 10 := fun x hx e => by
    subst e; have := List.all_eq_true.1 hp 10 hx; cases this
  have key : ∀ (q : Int), q ≠ 10 → ∀ (xs acc : List Int) (i : Nat) (R : List Int), (∀ x ∈ xs, x ≠ 10) → R.head? ≠ some q → lit q (dbl q xs ++ (q :: R)) i acc = some (acc ++ xs, i + (dbl q xs).length) := by
    intro q hq xs
    induction xs with
    | nil =>
      intro acc i R _ hR
      show lit q (q :: R) i acc = _
      rcases R with _ | ⟨d, t⟩
      · simp [lit, hq, dbl]
      · simp only [List.head?_cons, ne_eq, Option.some.injEq] at hR
        simp [lit, hq, hR, dbl]
    | cons c xs ih =>
      intro acc i R h hR
      have ih := fun acc i => ih acc i R (fun x hx => h x (by simp [hx])) hR
      rw [dbl_cons]
      by_cases e : c = q
      · subst e
        rw [if_pos rfl]
        show lit c (c :: c :: (dbl c xs ++ (c :: R))) i acc = _
        rw [lit, if_neg hq, if_pos rfl, if_pos rfl, ih]
        simp; omega
      · rw [if_neg e]
        show lit q (c :: (dbl q xs ++ (q :: R))) i acc = _
        obtain ⟨d, t, hdt⟩ : ∃ d t, dbl q xs ++ (q :: R) = d :: t := by
          cases dbl q xs with
          | nil => exact ⟨_, _, rfl⟩
          | cons a b => exact ⟨_, _, rfl⟩
        have ih2 := ih (acc ++ [c]) (i + 1)
        rw [hdt] at ih2 ⊢
        rw [lit, if_neg (h c (by simp)), if_neg e, ih2]
        simp; omega
  intro R hR hs
  have h := key (qOf v) hq v [] 1 R hn hR
  have hd : (quote v ++ R).drop (1 + (dbl (qOf v) v).length + 1) = R := by
    have : (quote v).length = 1 + (dbl (qOf v) v).length + 1 := by unfold quote; simp; omega
    rw [← this, List.drop_left]
  have hqt : quote v ++ R = qOf v :: (dbl (qOf v) v ++ (qOf v :: R)) := by unfold quote; simp
  rw [hqt] at hd ⊢
  rw [List.nil_append] at h
  simp only [litTok, h, hp, if_true]
  rw [hd, if_pos hs]
  unfold litEnd
  rw [if_neg (by omega)]
  congr 1
  unfold quote
  simp; omega
def Good (x : KT) : Prop := step (spk x) = .tok x.1 x.2 (spk x).length ∧ x ≠ (3, [59]) ∧ ∀ y ∈ spk x, 0 ≤ y ∧ y < 256
theorem litTok_val {q : Int} {r t : List Int} {n : Nat} (h : litTok (q :: r) = .ok t n) : t.all prn = true ∧ t.length ≤ 1000 := by
  have he : ∀ {v : List Int} {m : Nat}, litEnd v m = .ok t n → t = v ∧ t.length ≤ 1000 := fun {v m} h => by
    unfold litEnd at h
    by_cases hv : 1000 < v.length
    · rw [if_pos hv] at h; cases h
    · rw [if_neg hv] at h; cases h; exact ⟨rfl, by omega⟩
  simp only [litTok] at h
  cases hl : lit q r 1 [] with
  | none => rw [hl] at h; cases h
  | some p =>
    obtain ⟨v, i⟩ := p
    rw [hl] at h
    simp only at h
    by_cases hp : v.all prn = true
    · rw [if_pos hp] at h
      by_cases hs : sfx ((q :: r).drop (i + 1)) = 0
      · rw [if_pos hs] at h
        obtain ⟨rfl, h2⟩ := he h
        exact ⟨hp, h2⟩
      · rw [if_neg hs] at h
        cases hd : litDec v (sfx ((q :: r).drop (i + 1))) with
        | none => rw [hd] at h; cases h
        | some u =>
          rw [hd] at h
          obtain ⟨rfl, h2⟩ := he h
          refine ⟨List.all_eq_true.2 ?_, h2⟩
          have key : ∀ (b : Int) (w : Nat), decode b w v = some t → ∀ x ∈ t, prn x = true := by
            intro b w h x hx
            unfold decode at h
            by_cases hm : v.length % w ≠ 0
            · rw [if_pos hm] at h; cases h
            · rw [if_neg hm] at h; exact decK_prn _ _ _ _ _ h x hx
          unfold litDec at hd
          by_cases hx : sfx ((q :: r).drop (i + 1)) = 4
          · rw [if_pos hx] at hd; exact key _ _ hd
          · rw [if_neg hx] at hd; exact key _ _ hd
    · rw [if_neg hp] at h; cases h
theorem good_of_step {xs t : List Int} {k n : Nat} (hb : ∀ x ∈ xs, 0 ≤ x ∧ x < 256) (h : step xs = .tok k t n) (hne : ¬ (k = 3 ∧ t = [59])) : Good (k, t) := by
  obtain ⟨b1, b2, b3, b4, b5⟩ := step_tok hb h
  have hby : ∀ y ∈ spk (k, t), 0 ≤ y ∧ y < 256 := by
    by_cases e : k = 2
    · subst e; rw [spk_two]; exact quote_bytes b3
    · rw [spk_ne e]; exact b3
  refine ⟨?_, fun e => hne (by cases e; exact ⟨rfl, rfl⟩), hby⟩
  obtain ⟨c, r, rfl, c1, c2, c3, hk⟩ := step_kinds h
  rcases hk with ⟨rfl, hq, hl⟩ | ⟨rfl, -, hc, hs⟩ | ⟨rfl, -, -, hs⟩
  · rw [spk_two]
    obtain ⟨h1, h2⟩ := litTok_val hl
    have := all_quote h1 h2 [] (by simp) rfl
    rw [List.append_nil] at this
    have hqo : qOf t = 39 ∨ qOf t = 34 := (qOf_or t).symm
    unfold quote at this ⊢
    exact step_mk_lit hqo this
  · rw [spk_ne (by decide)]
    obtain ⟨e1, e2, e3⟩ := symTok_inv hs
    obtain ⟨g1, g2⟩ := symLen_cut (c :: r)
    rw [← e1] at g1 g2
    have hsl : symLen t = t.length := by
      rw [e2, symLen_up, g1, List.length_map, List.length_take, Nat.min_eq_left g2]
    have htl : t.length = n := by rw [e2, List.length_map, List.length_take, Nat.min_eq_left g2]
    have hst : symTok t = .ok t t.length := by
      unfold symTok
      rw [hsl, if_neg (by omega), List.take_length]
      congr 1
      rw [e2, List.map_map]
      exact List.map_congr_left fun a _ => up_up a
    obtain ⟨m, rfl⟩ : ∃ m, n = m + 1 := ⟨n - 1, by omega⟩
    have hct : t = up c :: (r.take m).map up := by rw [e2]; rfl
    rw [hct] at hst ⊢
    exact step_mk_sym (by rw [sym_up]; exact hc) hst
  · rw [spk_ne (by decide)]
    exact signs_step t (signTok_inv hs).1
end Go.Proofs.YtkkpjonfaflkmaaGreatDoor.S

namespace Go.Proofs.YtkkpjonfaflkmaaGreatDoor.S
set_option linter.unusedSimpArgs false
set_option linter.unusedVariables false
theorem sfx_more {C : List Int} (hC : C ≠ []) (h : sfx C = 0) (R : List Int) : sfx (C ++ R) = 0 := by
  rcases C with _ | ⟨c, _ | ⟨d, C⟩⟩
  · exact absurd rfl hC
  · have h' : sfxOf c = 0 := h
    rcases R with _ | ⟨e, s⟩
    · exact h'
    · show sfx (c :: e :: s) = 0
      simp only [sfx]
      split
      · rfl
      · exact h'
  · exact h
theorem sign_two : ∀ p ∈ signs, p.length = 3 → p.take 2 ∈ signs := by decide
theorem sign_long : ∀ (xs : List Int) (t : List Int) (n : Nat), signTok xs = .ok t n → ∀ p ∈ signs, p.isPrefixOf xs = true → p.length ≤ n := by
  intro xs t n h p hp hx
  have key : ∀ (l : List (List Int)), l.Pairwise (fun a b => b.length ≤ a.length) → ∀ a, l.find? (fun x => x.isPrefixOf xs) = some a → ∀ p ∈ l, p.isPrefixOf xs = true → p.length ≤ a.length := by
    intro l
    induction l with
    | nil => intro _ a h; cases h
    | cons b l ih =>
      intro hl a ha p hp hx
      rw [List.pairwise_cons] at hl
      by_cases hb : b.isPrefixOf xs = true
      · rw [List.find?_cons_of_pos (p := fun x : List Int => x.isPrefixOf xs) hb] at ha
        cases ha
        rcases List.mem_cons.1 hp with rfl | hp
        · exact Nat.le_refl _
        · exact hl.1 p hp
      · rw [List.find?_cons_of_neg (p := fun x : List Int => x.isPrefixOf xs) hb] at ha
        rcases List.mem_cons.1 hp with rfl | hp
        · exact absurd hx hb
        · exact ih hl.2 a ha p hp hx
  unfold signTok at h
  cases hf : signs.find? (fun x => x.isPrefixOf xs) with
  | none => rw [hf] at h; cases h
  | some l =>
    rw [hf] at h
    cases h
    exact key signs (by decide) _ hf p hp hx
theorem starts2_more {a : Int} {A R : List Int} (hA : A ≠ []) : starts2 (a :: (A ++ R)) = starts2 (a :: A) := by
  rcases A with _ | ⟨b, A⟩
  · exact absurd rfl hA
  · rfl
theorem take_pre {p A B : List Int} (h : p.isPrefixOf (A ++ B) = true) (hl : A.length ≤ p.length) : p.take A.length = A := by
  have := prefix_eq _ _ h
  have h2 : (A ++ B).take A.length = A := List.take_left
  rw [this, List.take_append_of_le_length hl] at h2
  exact h2
theorem step_behind {A C x : List Int} {k : Nat} (hA : A ≠ []) (hC : C ≠ []) (h1 : k = 1 → 2 ≤ C.length) (h : step (A ++ C) = .tok k x A.length) (R : List Int) : step (A ++ (C ++ R)) = .tok k x A.length := by
  rcases A with _ | ⟨a, A⟩
  · exact absurd rfl hA
  obtain ⟨c, r, e, c1, c2, c3, hk⟩ := step_kinds h
  rw [List.cons_append] at e
  injection e with e1 e2
  subst e1
  have hr : A ++ C ≠ [] := by simp [hC]
  have hs2 : starts2 (a :: (A ++ (C ++ R))) = false := by
    rw [← List.append_assoc, starts2_more hr]
    rw [List.cons_append] at c3; exact c3
  rcases hk with ⟨rfl, hq, hl⟩ | ⟨rfl, -, hc, hs⟩ | ⟨rfl, hq, hc, hs⟩
  · rw [List.cons_append] at hl ⊢
    refine step_mk_lit hq ?_
    obtain ⟨v, U, S, e3, e4, e5, e6⟩ := litTok_parts hl
    rcases e6 with ⟨hx, hn⟩ | ⟨hx, hn⟩
    · obtain ⟨hA2, hS⟩ : A = U ++ [a] ∧ C = S := List.append_inj (s₁ := A) (s₂ := U ++ [a]) (by rw [e3]; simp) (by simp only [List.length_cons] at hn; simp; omega)
      subst hA2 hS
      have hh : (C ++ R).head? ≠ some a := by
        rcases C with _ | ⟨d, C⟩
        · exact absurd rfl hC
        · simpa using e4
      have := litTok_eq a U C (C ++ R) v (e5 _ e4) (e5 _ hh) (by rw [sfx_more hC hx, hx])
      rw [List.append_assoc] at hl ⊢
      exact this.trans hl
    · rcases S with _ | ⟨b, S⟩
      · exact absurd rfl hx
      obtain ⟨hA2, hS⟩ : A = U ++ [a, b] ∧ C = S := List.append_inj (s₁ := A) (s₂ := U ++ [a, b]) (by rw [e3]; simp) (by simp only [List.length_cons] at hn; simp; omega)
      subst hA2 hS
      have hsx : sfx (b :: (C ++ R)) = sfx (b :: C) := by
        rcases C with _ | ⟨d, C⟩
        · exact absurd rfl hC
        · rfl
      have := litTok_eq a U (b :: C) (b :: (C ++ R)) v (e5 _ e4) (e5 _ (by simpa using e4)) hsx
      rw [List.append_assoc] at hl ⊢
      exact this.trans hl
  · rw [List.cons_append] at hs ⊢
    refine step_mk_sym hc ?_
    obtain ⟨g1, g2, g3⟩ := symTok_inv hs
    have h2 := h1 rfl
    have hsl : symLen ((a :: A) ++ (C ++ R)) = (a :: A).length := by
      obtain ⟨M, S, e3, hM, hS, hor⟩ := symLen_parts ((a :: A) ++ C)
      have g1' : symLen ((a :: A) ++ C) = (a :: A).length := g1.symm
      rw [g1'] at hor
      rcases hor with ⟨hl, hx⟩ | ⟨g, D, T, rfl, hm, hg, hD, hd, hT, hl⟩
      · obtain ⟨hM2, hS2⟩ := List.append_inj e3 hl
        subst hS2
        rw [hM2]
        refine symLen_plain hM (fun e s he => ?_) fun ⟨q1, q2⟩ => hx ⟨q1, ?_⟩
        · rcases C with _ | ⟨d, C⟩
          · exact absurd rfl hC
          · cases he; exact hS e _ rfl
        · rcases C with _ | ⟨d, _ | ⟨f, C⟩⟩
          · exact absurd rfl hC
          · simp at h2
          · exact q2
      · obtain ⟨hA2, hB2⟩ : a :: A = M ++ g :: D ∧ C = T := List.append_inj (s₁ := a :: A) (s₂ := M ++ g :: D) (by rw [e3]; simp) (by simp only [List.length_cons] at hl ⊢; simp only [List.length_append, List.length_cons]; omega)
        subst hB2
        rw [hA2]
        have := symLen_expo (M := M) (D := D) (S := C ++ R) hM hm hg hD hd (fun e s he => by
          rcases C with _ | ⟨d, C⟩
          · exact absurd rfl hC
          · cases he; exact hT e _ rfl)
        rw [List.append_assoc, List.cons_append, this]
        simp; omega
    have hgo : symTok ((a :: A) ++ (C ++ R)) = symTok ((a :: A) ++ C) := by
      refine symTok_eq ?_ ?_
      · rw [hsl]; exact g1
      · have g1' : symLen ((a :: A) ++ C) = (a :: A).length := g1.symm
        rw [g1', List.take_left, List.take_left]
    exact hgo.trans hs
  · rw [List.cons_append] at hs ⊢
    refine step_mk_sign c1 c2 hs2 hq hc ?_
    have hlong := sign_long _ _ _ hs
    obtain ⟨g1, g2, g3⟩ := signTok_inv hs
    unfold signTok at hs ⊢
    cases hf : signs.find? (fun x => x.isPrefixOf (a :: (A ++ C))) with
    | none => rw [hf] at hs; cases hs
    | some l =>
      rw [hf] at hs
      simp only [TR.ok.injEq] at hs
      obtain ⟨rfl, -⟩ := hs
      have hpre : l.isPrefixOf (a :: (A ++ (C ++ R))) = true := by
        have := prefix_app l (a :: (A ++ C)) R g3
        rw [List.cons_append, List.append_assoc] at this
        exact this
      rw [find_keep _ (fun y => y.isPrefixOf (a :: (A ++ (C ++ R)))) signs l hf (fun p hps hpx => ?_) hpre]
      · rw [g2]
      have hpx2 : p.isPrefixOf ((a :: (A ++ C)) ++ R) = true := by
        rw [List.cons_append, List.append_assoc]; exact hpx
      by_cases hlen : p.length ≤ (a :: (A ++ C)).length
      · exact prefix_cut _ _ _ hpx2 hlen
      · exfalso
        have h3 := signs_len p hps
        have hCl : 1 ≤ C.length := List.length_pos_iff.2 hC
        have hlc : (a :: (A ++ C)).length = A.length + C.length + 1 := by simp
        have hA0 : A.length = 0 := by omega
        have hC1 : C.length = 1 := by omega
        have hp3 : p.length = 3 := by omega
        have ht := take_pre hpx2 (by omega)
        rw [hlc, hA0, hC1] at ht
        have hm2 : p.take 2 ∈ signs := sign_two p hps hp3
        have := hlong (p.take 2) hm2 (by rw [show p.take 2 = a :: (A ++ C) from ht]; exact prefix_self _)
        rw [List.length_take, hp3] at this
        simp only [List.length_cons] at this
        omega
def bodyT (l : List Tk) : List Tk := l.filter fun t => !decide (t.kind = 4)
def kt (t : Tk) : KT := (t.kind, t.text)
def cutK (l : List KT) : List KT := if l.getLast? = some (3, [44]) then l.dropLast else l
def noSemi (P : List KT) : List KT := P.filter fun x => !decide (x = (3, [59]))
def own (cur P : List KT) : List KT := if P = [] then cutK cur else cur ++ (if P.getLast? = some (3, [44]) then (noSemi P).dropLast else noSemi P)
theorem comma_kt (l : List Tk) : comma l = decide ((l.map kt).getLast? = some (3, [44])) := by
  unfold comma
  rw [List.getLast?_map]
  cases l.getLast? with
  | none => rfl
  | some t =>
    simp only [Option.map_some, Option.some.injEq, kt, Prod.mk.injEq]
    rw [← Bool.decide_and]
theorem cut_kt (l : List Tk) : (cut l).map kt = cutK (l.map kt) := by
  unfold cut cutK
  rw [comma_kt]
  by_cases h : (l.map kt).getLast? = some (3, [44])
  · rw [if_pos h, if_pos (decide_eq_true h), List.map_dropLast]
  · rw [if_neg h, if_neg (by simpa using h)]
theorem bodyT_self {l : List Tk} (h : ∀ t ∈ l, t.kind ≠ 4) : bodyT l = l := by
  unfold bodyT
  exact List.filter_eq_self.2 fun t ht => by simp [h t ht]
theorem bodyT_app (l m : List Tk) : bodyT (l ++ m) = bodyT l ++ bodyT m := List.filter_append ..
theorem bodyT_emit {l : List Tk} (h : ∀ t ∈ l, t.kind ≠ 4) (i j n : Nat) : bodyT (emit l i j n).flatten = l := by
  unfold emit
  by_cases e : l = []
  · subst e; rfl
  · rw [if_neg e]
    simp only [List.flatten_cons, List.flatten_nil, List.append_nil]
    rw [bodyT_app, bodyT_self h]
    simp [bodyT, endTk]
theorem cut_mem {l : List Tk} {t : Tk} (h : t ∈ cut l) : t ∈ l := by
  unfold cut at h
  split at h
  · exact (List.dropLast_sublist l).subset h
  · exact h
theorem noSemi_cons {x : KT} (h : x ≠ (3, [59])) (P : List KT) : noSemi (x :: P) = x :: noSemi P := by
  unfold noSemi
  rw [List.filter_cons_of_pos (by simpa using h)]
theorem noSemi_semi (P : List KT) : noSemi ((3, [59]) :: P) = noSemi P := by
  unfold noSemi
  rw [List.filter_cons_of_neg (by simp)]
theorem last_cons (x : KT) {P : List KT} (h : P ≠ []) : (x :: P).getLast? = P.getLast? := by
  rcases P with _ | ⟨a, P⟩
  · exact absurd rfl h
  · rw [List.getLast?_cons_cons]
theorem last_noSemi : ∀ {P : List KT}, P.getLast? = some (3, [44]) → ∃ Q, noSemi P = Q ++ [(3, [44])]
  | [], h => by cases h
  | [x], h => by
    simp only [List.getLast?_singleton, Option.some.injEq] at h
    subst h
    exact ⟨[], by decide⟩
  | x :: y :: P, h => by
    rw [last_cons x (by simp)] at h
    obtain ⟨Q, hQ⟩ := last_noSemi h
    by_cases e : x = (3, [59])
    · subst e; rw [noSemi_semi]; exact ⟨Q, hQ⟩
    · rw [noSemi_cons e, hQ]; exact ⟨x :: Q, rfl⟩
theorem own_semi (cur P : List KT) : own cur ((3, [59]) :: P) = cur ++ own [] P := by
  by_cases h : P = []
  · subst h
    have : own cur [(3, [59])] = cur ++ [] := by
      unfold own
      rw [if_neg (by simp), if_neg (by decide)]
      rfl
    rw [this]; rfl
  · unfold own
    rw [if_neg (by simp), if_neg h, last_cons _ h, noSemi_semi, List.nil_append]
theorem own_keep {x : KT} (h1 : x ≠ (3, [59])) (h2 : x ≠ (3, [44])) (cur P : List KT) : own cur (x :: P) = cur ++ [x] ++ own [] P := by
  by_cases h : P = []
  · subst h
    have e1 : own cur [x] = cur ++ [x] := by
      unfold own
      rw [if_neg (by simp), if_neg (by simpa using h2), noSemi_cons h1]
      rfl
    have e2 : own [] [] = [] := rfl
    rw [e1, e2, List.append_nil]
  · unfold own
    rw [if_neg (by simp), if_neg h, last_cons _ h, noSemi_cons h1, List.nil_append, List.append_assoc]
    by_cases hl : P.getLast? = some (3, [44])
    · rw [if_pos hl, if_pos hl]
      obtain ⟨Q, hQ⟩ := last_noSemi hl
      rw [hQ]
      congr 1
      rw [← List.cons_append, List.dropLast_concat, List.dropLast_concat]; rfl
    · rw [if_neg hl, if_neg hl]; rfl
theorem own_put {x : KT} (h1 : x ≠ (3, [59])) (cur P : List KT) : own cur (x :: P) = own (cur ++ [x]) P := by
  by_cases h : P = []
  · subst h
    unfold own cutK
    rw [if_neg (by simp), if_pos rfl, List.getLast?_concat, List.getLast?_singleton, noSemi_cons h1]
    by_cases e : x = (3, [44])
    · subst e
      rw [if_pos rfl, if_pos rfl, List.dropLast_concat]
      show cur ++ [] = cur
      rw [List.append_nil]
    · rw [if_neg (by simpa using e), if_neg (by simpa using e)]; rfl
  · unfold own
    rw [if_neg (by simp), if_neg h, last_cons _ h, noSemi_cons h1, List.append_assoc]
    by_cases hl : P.getLast? = some (3, [44])
    · rw [if_pos hl, if_pos hl]
      obtain ⟨Q, hQ⟩ := last_noSemi hl
      rw [hQ]
      congr 1
      rw [← List.cons_append, List.dropLast_concat, List.dropLast_concat]; rfl
    · rw [if_neg hl, if_neg hl]; rfl
def Told (o : Out) (cur : List KT) (p : Option (List KT)) : Prop := match p with
  | none => o.err ≠ none
  | some P => o.err = none ∧ (bodyT o.cl.flatten).map kt = own cur P
theorem pre_told {o : Out} {l : List Tk} {cls : List (List Tk)} {p : Option (List KT)} {cur c2 : List KT} (h : Told o c2 p) (hl : (bodyT cls.flatten) = l) (f : List KT → List KT) (hf : ∀ P, own cur (f P) = l.map kt ++ own c2 P) : Told (o.pre cls) cur (p.map f) := by
  cases p with
  | none => exact h
  | some P =>
    refine ⟨h.1, ?_⟩
    show (bodyT (cls ++ o.cl).flatten).map kt = _
    rw [List.flatten_append, bodyT_app, List.map_append, hl, h.2, hf]
theorem go_pcs : ∀ (f : Nat) (xs : List Int) (i line : Nat) (cur : List Tk) (gap : Bool), (∀ x ∈ xs, 0 ≤ x ∧ x < 256) → (10 : Int) ∉ xs → xs.length < f → (∀ t ∈ cur, t.kind ≠ 4) → Told (go f xs i line cur gap) (cur.map kt) (pcs f xs)
  | 0, xs, i, line, cur, gap, _, _, h, _ => absurd h (Nat.not_lt_zero _)
  | f + 1, xs, i, line, cur, gap, hb, h10, hf, hk => by
    have hbd : ∀ n, ∀ x ∈ xs.drop n, 0 ≤ x ∧ x < 256 := fun n x hx => hb x (List.mem_of_mem_drop hx)
    have h10d : ∀ n, (10 : Int) ∉ xs.drop n := fun n hx => h10 (List.mem_of_mem_drop hx)
    have ih := fun n (h1 : 1 ≤ n) (h2 : n ≤ xs.length) i line cur gap hk => go_pcs f (xs.drop n) i line cur gap (hbd n) (h10d n) (by rw [List.length_drop]; omega) hk
    rw [go, pcs]
    cases hs : step xs with
    | fin =>
      refine ⟨rfl, ?_⟩
      show (bodyT (emit (cut cur) i i line).flatten).map kt = _
      rw [bodyT_emit (fun t ht => hk t (cut_mem ht)), cut_kt]
      rfl
    | line => obtain ⟨t, rfl⟩ := step_line hs; exact absurd List.mem_cons_self h10
    | blank =>
      have hx : 1 ≤ xs.length := step_some (by rw [hs]; intro e; cases e)
      exact ih 1 (Nat.le_refl _) hx _ _ _ _ hk
    | cmt n dl =>
      obtain ⟨g1, g2, -⟩ := step_cmt hs
      exact ih n g1 g2 _ _ _ _ hk
    | err c dl => exact fun e => by cases e
    | tok k t n =>
      obtain ⟨g1, g2, -, g3, g4⟩ := step_tok hb hs
      simp only
      by_cases hsc : k = 3 ∧ t = [59]
      · rw [if_pos hsc]
        obtain ⟨rfl, rfl⟩ := hsc
        exact pre_told (ih n g1 g2 _ _ [] _ (fun _ h => by cases h)) (bodyT_emit hk _ _ _) _ (fun P => own_semi _ _)
      · rw [if_neg hsc]
        have hx : (k, t) ≠ ((3, [59]) : KT) := fun e => hsc (by cases e; exact ⟨rfl, rfl⟩)
        have hk2 : ∀ (g : Bool), ∀ u ∈ cur ++ [(⟨k, t, g, line, i, i + n⟩ : Tk)], u.kind ≠ 4 := fun g u hu => by
          rcases List.mem_append.1 hu with e | e
          · exact hk u e
          · rw [List.mem_singleton.1 e]; show k ≠ 4; omega
        by_cases hl : label (cur ++ [⟨k, t, gap && !decide (cur = []), line, i, i + n⟩]) = true
        · rw [if_pos hl]
          have hx2 : (k, t) ≠ ((3, [44]) : KT) := fun e => by
            cases e
            rcases cur with _ | ⟨a, _ | ⟨b, cur⟩⟩
            · simp [label] at hl
            · simp [label] at hl
            · simp [label] at hl
          refine pre_told (ih n g1 g2 _ _ [] _ (fun _ h => by cases h)) (bodyT_emit (hk2 _) _ _ _) _ (fun P => ?_)
          rw [own_keep hx hx2, List.map_append]; rfl
        · rw [if_neg hl]
          have := ih n g1 g2 (i + n) line (cur ++ [⟨k, t, gap && !decide (cur = []), line, i, i + n⟩]) false (hk2 _)
          cases hp : pcs f (xs.drop n) with
          | none => rw [hp] at this; exact this
          | some P =>
            rw [hp] at this
            refine ⟨this.1, ?_⟩
            rw [this.2, own_put hx, List.map_append]
            rfl
theorem scan_pcs {xs : List Int} (hb : ∀ x ∈ xs, 0 ≤ x ∧ x < 256) (h10 : (10 : Int) ∉ xs) : Told (scan xs) [] (pcs (xs.length + 1) xs) :=
  go_pcs _ xs 0 1 [] false hb h10 (Nat.lt_succ_self _) (fun _ h => by cases h)
theorem last_comma {xs t : List Int} {k n : Nat} (h : step xs = .tok k t n) (hl : (xs.take n).getLast? = some 44) : k = 3 ∧ t = [44] := by
  obtain ⟨c, r, rfl, c1, c2, c3, hk⟩ := step_kinds h
  rcases hk with ⟨rfl, hq, hl2⟩ | ⟨rfl, -, hc, hs⟩ | ⟨rfl, hq, hc, hs⟩
  · exfalso
    obtain ⟨v, U, S, e3, e4, e5, e6⟩ := litTok_parts hl2
    rcases e6 with ⟨hx, hn⟩ | ⟨hx, hn⟩
    · have : (c :: r).take n = (c :: U) ++ [c] := by
        rw [e3, hn, show c :: (U ++ c :: S) = ((c :: U) ++ [c]) ++ S by simp]
        exact List.take_left' (by simp)
      rw [this, List.getLast?_concat] at hl
      simp only [Option.some.injEq] at hl
      omega
    · rcases S with _ | ⟨b, S⟩
      · exact absurd rfl hx
      have : (c :: r).take n = (c :: (U ++ [c])) ++ [b] := by
        rw [e3, hn, show c :: (U ++ c :: b :: S) = ((c :: (U ++ [c])) ++ [b]) ++ S by simp]
        exact List.take_left' (by simp)
      rw [this, List.getLast?_concat] at hl
      simp only [Option.some.injEq] at hl
      subst hl
      apply hx
      rcases S with _ | ⟨e, S⟩
      · rfl
      · exact sfx_ns (by decide)
  · exfalso
    obtain ⟨g1, g2, g3⟩ := symTok_inv hs
    obtain ⟨M, S, e3, hM, hS, hor⟩ := symLen_parts (c :: r)
    rw [← g1] at hor
    rcases hor with ⟨hl2, hx⟩ | ⟨g, D, T, rfl, hm, hg, hD, hd, hT, hl2⟩
    · have : (c :: r).take n = M := by rw [e3, hl2]; exact List.take_left
      rw [this] at hl
      have := hM 44 (List.mem_of_getLast? hl)
      cases this
    · have : (c :: r).take n = M ++ g :: D := by
        rw [e3, show M ++ g :: (D ++ T) = (M ++ g :: D) ++ T by simp]
        exact List.take_left' (by simp; omega)
      rw [this] at hl
      rcases List.eq_nil_or_concat D with rfl | ⟨D', d, rfl⟩
      · exact hD rfl
      · rw [List.concat_eq_append, show M ++ g :: (D' ++ [d]) = (M ++ g :: D') ++ [d] by simp, List.getLast?_concat] at hl
        simp only [Option.some.injEq] at hl
        subst hl
        have := hd 44 (by simp)
        cases this
  · obtain ⟨g1, g2, g3⟩ := signTok_inv hs
    have he := prefix_eq _ _ g3
    rw [he, g2, List.take_left] at hl
    have key : ∀ p ∈ signs, p.getLast? = some 44 → p = [44] := by decide
    exact ⟨rfl, key t g1 hl⟩
theorem cmt_end : ∀ (xs : List Int) (i d l b i' l' b' : Nat), cmt xs i d l b = .done i' l' b' → (xs.take (i' - i)).getLast? = some 47
  | [], _, _, _, _, _, _, _ => fun h => by cases h
  | [_], _, _, _, _, _, _, _ => fun h => by cases h
  | c :: e :: t, i, d, l, b, i', l', b' => fun h => by
    have hbd := cmt_bounds _ _ _ _ _ _ _ _ h
    rw [cmt] at h
    by_cases h1 : c = 47 ∧ e = 42
    · rw [if_pos h1] at h
      have h2 := cmt_end t _ _ _ _ _ _ _ h
      have h3 := cmt_bounds t _ _ _ _ _ _ _ h
      rw [show i' - i = (i' - (i + 2)) + 1 + 1 by omega, List.take_succ_cons, List.take_succ_cons]
      rw [List.getLast?_cons, List.getLast?_cons, h2]; rfl
    · rw [if_neg h1] at h
      by_cases h2 : c = 42 ∧ e = 47
      · rw [if_pos h2] at h
        by_cases h3 : d = 1
        · rw [if_pos h3] at h; cases h
          rw [show i + 2 - i = 2 by omega]
          simp [h2.2]
        · rw [if_neg h3] at h
          have h2 := cmt_end t _ _ _ _ _ _ _ h
          have h3 := cmt_bounds t _ _ _ _ _ _ _ h
          rw [show i' - i = (i' - (i + 2)) + 1 + 1 by omega, List.take_succ_cons, List.take_succ_cons]
          rw [List.getLast?_cons, List.getLast?_cons, h2]; rfl
      · rw [if_neg h2] at h
        have h2 := cmt_end (e :: t) _ _ _ _ _ _ _ h
        have h3 := cmt_bounds (e :: t) _ _ _ _ _ _ _ h
        rw [show i' - i = (i' - (i + 1)) + 1 by omega, List.take_succ_cons, List.getLast?_cons, h2]; rfl
  termination_by xs => xs.length
theorem step_cmt_inv {xs : List Int} {n dl : Nat} (h : step xs = .cmt n dl) : ∃ l b, cmt xs 0 0 1 0 = .done n l b := by
  rcases xs with _ | ⟨c, r⟩
  · cases h
  simp only [step] at h
  have key : ∀ k R, tokStep k R ≠ .cmt n dl := fun k R e => by cases R <;> cases e
  by_cases h1 : c = 10
  · rw [if_pos h1] at h; cases h
  rw [if_neg h1] at h
  by_cases h2 : c = 32
  · rw [if_pos h2] at h; cases h
  rw [if_neg h2] at h
  by_cases h3 : starts2 (c :: r) = true
  · rw [if_pos h3] at h
    cases hR : cmt (c :: r) 0 0 1 0 with
    | eof => rw [hR] at h; cases h
    | done i l b =>
      rw [hR] at h
      simp only [cmtStep] at h
      by_cases hb : b = 0
      · rw [if_pos hb] at h
        cases h
        exact ⟨_, _, rfl⟩
      · rw [if_neg hb] at h; cases h
  rw [if_neg h3] at h
  by_cases h4 : c = 39 ∨ c = 34
  · rw [if_pos h4] at h; exact (key _ _ h).elim
  rw [if_neg h4] at h
  by_cases h5 : sym c = true
  · rw [if_pos h5] at h; exact (key _ _ h).elim
  rw [if_neg h5] at h; exact (key _ _ h).elim
theorem step_nofin2 (a : Int) (t : List Int) : step (a :: t) ≠ .fin := by
  have ht : ∀ k r, tokStep k r ≠ .fin := fun k r => by cases r <;> simp [tokStep]
  have hc : ∀ r, cmtStep r ≠ .fin := fun r => by
    cases r with
    | eof => simp [cmtStep]
    | done i l b => simp only [cmtStep]; split <;> simp
  simp only [step]
  split
  · simp
  · split
    · simp
    · split
      · exact hc _
      · split
        · exact ht _ _
        · split
          · exact ht _ _
          · exact ht _ _
theorem last_drop {xs : List Int} {n : Nat} (h : xs.drop n ≠ []) : (xs.drop n).getLast? = xs.getLast? := by
  conv => { rhs; rw [← List.take_append_drop n xs] }
  rw [List.getLast?_append]
  cases hg : (xs.drop n).getLast? with
  | none => exact absurd (List.getLast?_eq_none_iff.1 hg) h
  | some y => rfl
theorem pcs_comma : ∀ (f : Nat) (xs : List Int) (P : List KT), (∀ x ∈ xs, 0 ≤ x ∧ x < 256) → pcs f xs = some P → xs.getLast? = some 44 → P.getLast? = some (3, [44])
  | 0, _, _, _, h, _ => by cases h
  | f + 1, xs, P, hb, h, hl => by
    rw [pcs] at h
    have hne : ∀ n, (xs.take n).getLast? = some 44 ∨ xs.drop n ≠ [] := fun n => by
      by_cases e : xs.drop n = []
      · left
        have := List.take_append_drop n xs
        rw [e, List.append_nil] at this
        rw [this]; exact hl
      · exact .inr e
    have ih := fun n (hn : xs.drop n ≠ []) (P : List KT) (hp : pcs f (xs.drop n) = some P) => pcs_comma f (xs.drop n) P (fun x hx => hb x (List.mem_of_mem_drop hx)) hp (by rw [last_drop hn]; exact hl)
    cases hs : step xs with
    | fin =>
      rcases xs with _ | ⟨a, t⟩
      · cases hl
      · exact absurd hs (step_nofin2 a t)
    | line =>
      rw [hs] at h
      obtain ⟨t, rfl⟩ := step_line hs
      rcases hne 1 with e | e
      · simp at e
      · exact ih 1 e P h
    | blank =>
      rw [hs] at h
      obtain ⟨t, rfl⟩ := step_blank hs
      rcases hne 1 with e | e
      · simp at e
      · exact ih 1 e P h
    | cmt n dl =>
      rw [hs] at h
      rcases hne n with e | e
      · obtain ⟨l, b, hc⟩ := step_cmt_inv hs
        have := cmt_end xs 0 0 1 0 n l b hc
        rw [Nat.sub_zero, e] at this
        cases this
      · exact ih n e P h
    | err c dl => rw [hs] at h; cases h
    | tok k t n =>
      rw [hs] at h
      simp only at h
      cases hr : pcs f (xs.drop n) with
      | none => rw [hr] at h; cases h
      | some P' =>
        rw [hr] at h
        cases h
        rcases hne n with e | e
        · obtain ⟨rfl, rfl⟩ := last_comma hs e
          by_cases hd : xs.drop n = []
          · rw [hd] at hr
            have : P' = [] := by
              cases f with
              | zero => cases hr
              | succ f => simp only [pcs, step] at hr; cases hr; rfl
            subst this
            rfl
          · rw [last_cons]
            · exact ih n hd P' hr
            · intro e2
              subst e2
              have := ih n hd [] hr
              cases this
        · rw [last_cons]
          · exact ih n e P' hr
          · intro e2
            subst e2
            have := ih n e [] hr
            cases this
end Go.Proofs.YtkkpjonfaflkmaaGreatDoor.S

namespace Go.Proofs.YtkkpjonfaflkmaaGreatDoor.S
set_option linter.unusedSimpArgs false
set_option linter.unusedVariables false
def commaK (l : List KT) : Bool := decide (l.getLast? = some (3, [44]))
def mergS (l : List KT) : Bool :=
  (scan (spl l)).err.isSome || !decide ((bodyT (tokens (spl l))).map kt = if commaK l = true ∧ (bodyT (tokens (spl l))).length + 1 = l.length then l.take (l.length - 1) else l)
theorem spl_noSemi : ∀ P : List KT, (spl (noSemi P)).length + P.count (3, [59]) = (spl P).length
  | [] => rfl
  | x :: P => by
    have ih := spl_noSemi P
    by_cases e : x = (3, [59])
    · subst e
      rw [noSemi_semi, List.count_cons_self, spl_cons, List.length_append, show (spk (3, [59])).length = 1 from rfl]
      omega
    · rw [noSemi_cons e, List.count_cons_of_ne (by simpa using e), spl_cons, spl_cons, List.length_append, List.length_append]
      omega
theorem noSemi_self {P : List KT} (h : P.count (3, [59]) = 0) : noSemi P = P := by
  unfold noSemi
  refine List.filter_eq_self.2 fun x hx => ?_
  rw [List.count_eq_zero] at h
  by_cases e : x = (3, [59])
  · subst e; exact absurd hx h
  · simpa using e
theorem mergS_iff {l : List KT} (hb : ∀ x ∈ spl l, 0 ≤ x ∧ x < 256) (h10 : (10 : Int) ∉ spl l) (hs : ((3, [59]) : KT) ∉ l) : mergS l = false ↔ Rd l := by
  have ht := scan_pcs hb h10
  unfold mergS
  constructor
  · intro h
    rw [Bool.or_eq_false_iff] at h
    obtain ⟨h1, h2⟩ := h
    cases hp : pcs ((spl l).length + 1) (spl l) with
    | none =>
      rw [hp] at ht
      have ht : (scan (spl l)).err ≠ none := ht
      cases he : (scan (spl l)).err with
      | none => exact absurd he ht
      | some p => rw [he] at h1; cases h1
    | some P =>
      rw [hp] at ht
      obtain ⟨h3, h4⟩ := ht
      have h4 : (bodyT (tokens (spl l))).map kt = own [] P := h4
      have h2 : (bodyT (tokens (spl l))).map kt = if commaK l = true ∧ (bodyT (tokens (spl l))).length + 1 = l.length then l.take (l.length - 1) else l := by simpa using h2
      rw [h4] at h2
      have hlen := pcs_len _ _ _ hb hp
      have hcnt := spl_noSemi P
      have hP : noSemi P = l → P = l := fun e => by
        rw [e] at hcnt
        rw [← e, noSemi_self (by omega)]
      refine rd_of_pcs ((spl l).length + 1) l hb ?_
      rw [hp]
      congr 1
      by_cases hc : commaK l = true ∧ (bodyT (tokens (spl l))).length + 1 = l.length
      · rw [if_pos hc] at h2
        have hlast : l.getLast? = some (3, [44]) := of_decide_eq_true hc.1
        obtain ⟨l', rfl⟩ : ∃ l', l = l' ++ [(3, [44])] := by
          rcases List.eq_nil_or_concat l with rfl | ⟨a, x, rfl⟩
          · cases hlast
          · rw [List.concat_eq_append] at hlast ⊢
            rw [List.getLast?_concat] at hlast
            cases hlast
            exact ⟨a, rfl⟩
        have hx : (spl (l' ++ [(3, [44])])).getLast? = some 44 := by
          rw [spl_app]
          show (spl l' ++ [44]).getLast? = _
          exact List.getLast?_concat
        have hPl := pcs_comma _ _ _ hb hp hx
        have hPn : P ≠ [] := fun e => by subst e; cases hPl
        unfold own at h2
        rw [if_neg hPn, if_pos hPl, List.nil_append, List.length_append, List.length_singleton, Nat.add_sub_cancel, List.take_left] at h2
        obtain ⟨Q, hQ⟩ := last_noSemi hPl
        apply hP
        rw [hQ] at h2 ⊢
        rw [List.dropLast_concat] at h2
        rw [h2]
      · rw [if_neg hc] at h2
        apply hP
        by_cases hPn : P = []
        · subst hPn; exact h2
        · unfold own at h2
          rw [if_neg hPn, List.nil_append] at h2
          by_cases hPl : P.getLast? = some (3, [44])
          · rw [if_pos hPl] at h2
            obtain ⟨Q, hQ⟩ := last_noSemi hPl
            rw [hQ, List.dropLast_concat] at h2
            subst h2
            rw [hQ, spl_app] at hcnt
            have : (spl Q ++ spl [(3, [44])]).length = (spl Q).length + 1 := by rw [List.length_append]; rfl
            omega
          · rw [if_neg hPl] at h2; exact h2
  · intro h
    have hp := pcs_of_rd ((spl l).length + 1) l hb (Nat.lt_succ_self _) h
    rw [hp] at ht
    obtain ⟨h3, h4⟩ := ht
    have h4 : (bodyT (tokens (spl l))).map kt = own [] l := h4
    have h5 := congrArg List.length h4
    rw [List.length_map] at h5
    rw [h3, h4, h5]
    have hns : noSemi l = l := noSemi_self (List.count_eq_zero.2 hs)
    by_cases hl : l = []
    · subst hl; decide
    · by_cases hc : l.getLast? = some (3, [44])
      · have ho : own [] l = l.take (l.length - 1) := by
          unfold own
          rw [if_neg hl, if_pos hc, hns, List.nil_append, List.dropLast_eq_take]
        have hlp : 0 < l.length := List.length_pos_iff.2 hl
        rw [ho, if_pos ⟨decide_eq_true hc, by rw [List.length_take]; omega⟩]
        simp
      · have ho : own [] l = l := by
          unfold own
          rw [if_neg hl, if_neg hc, hns, List.nil_append]
        rw [ho, if_neg (fun e => hc (of_decide_eq_true e.1))]
        simp
def SlOK (p x : Tk) : Prop := kt p = (3, [47]) → x.gap = false → ∀ c r, spk (kt x) = c :: r → c ≠ 47 ∧ c ≠ 42
def Slash : List Tk → Prop
  | p :: x :: l => SlOK p x ∧ Slash (x :: l)
  | _ => True
theorem slash_snoc : ∀ (l : List Tk) (x : Tk), Slash l → (∀ p, l.getLast? = some p → SlOK p x) → Slash (l ++ [x])
  | [], _, _, _ => trivial
  | [p], x, _, h => ⟨h p rfl, trivial⟩
  | p :: q :: l, x, h, hx => ⟨h.1, slash_snoc (q :: l) x h.2 (fun r hr => hx r (by rw [List.getLast?_cons_cons]; exact hr))⟩
theorem slash_pre : ∀ (l m : List Tk), Slash (l ++ m) → Slash l
  | [], _, _ => trivial
  | [p], _, _ => trivial
  | p :: q :: l, m, h => ⟨h.1, slash_pre (q :: l) m h.2⟩
theorem slash_at : ∀ (l : List Tk) (p x : Tk) (m : List Tk), Slash (l ++ p :: x :: m) → SlOK p x
  | [], _, _, _, h => h.1
  | [a], _, _, _, h => h.2.1
  | a :: b :: l, p, x, m, h => slash_at (b :: l) p x m h.2
structure ClsOK (b : List Tk) : Prop where
  good : ∀ t ∈ b, Good (kt t)
  lab : ∀ j, j < b.length → label (b.take j) = false
  hd : ∀ t, b.head? = some t → t.gap = false
  sl : Slash b
structure CurOK (cur : List Tk) (gap : Bool) (xs : List Int) : Prop where
  cls : ClsOK cur
  lab : label cur = false
  lnk : ∀ p, cur.getLast? = some p → kt p = (3, [47]) → gap = true ∨ ∀ c r, xs = c :: r → c ≠ 47 ∧ c ≠ 42
theorem ClsOK.pre {a b : List Tk} (h : ClsOK (a ++ b)) : ClsOK a := by
  refine ⟨fun t ht => h.good t (List.mem_append_left _ ht), fun j hj => ?_, fun t ht => h.hd t ?_, slash_pre a b h.sl⟩
  · have := h.lab j (by rw [List.length_append]; omega)
    rwa [List.take_append_of_le_length (by omega)] at this
  · rw [List.head?_append, ht]; rfl
theorem ClsOK.dropLast {a : List Tk} (h : ClsOK a) : ClsOK a.dropLast := by
  rcases List.eq_nil_or_concat a with rfl | ⟨l, x, rfl⟩
  · exact h
  · rw [List.concat_eq_append] at h ⊢
    rw [List.dropLast_concat]; exact h.pre
theorem CurOK.nil (gap : Bool) (xs : List Int) : CurOK [] gap xs := ⟨⟨by simp, by simp, by simp, trivial⟩, rfl, by simp⟩
theorem CurOK.all {cur : List Tk} {gap : Bool} {xs : List Int} (h : CurOK cur gap xs) : ∀ j, label (cur.take j) = false := fun j => by
  by_cases e : j < cur.length
  · exact h.cls.lab j e
  · rw [List.take_of_length_le (by omega)]; exact h.lab
theorem sign_slash {r : List Int} {t : List Int} {n : Nat} (h : signTok (47 :: 47 :: r) = .ok t n) : t = [47, 47] := by
  have : signTok (47 :: 47 :: r) = .ok [47, 47] 2 := by simp [signTok, signs, List.find?, List.isPrefixOf]
  rw [this] at h
  cases h; rfl
theorem CurOK.put {cur : List Tk} {gap : Bool} {xs t : List Int} {k n line i : Nat} (hb : ∀ x ∈ xs, 0 ≤ x ∧ x < 256) (h : CurOK cur gap xs) (hs : step xs = .tok k t n) (hne : ¬ (k = 3 ∧ t = [59])) :
    ClsOK (cur ++ [⟨k, t, gap && !decide (cur = []), line, i, i + n⟩]) ∧ ∀ p, (cur ++ [(⟨k, t, gap && !decide (cur = []), line, i, i + n⟩ : Tk)]).getLast? = some p → kt p = (3, [47]) → ∀ c r, xs.drop n = c :: r → c ≠ 47 ∧ c ≠ 42 := by
  have hg := good_of_step hb hs hne
  obtain ⟨c, r, rfl, c1, c2, c3, hk⟩ := step_kinds hs
  refine ⟨⟨fun u hu => ?_, fun j hj => ?_, fun u hu => ?_, slash_snoc _ _ h.cls.sl fun p hp he hgp => ?_⟩, fun p hp he => ?_⟩
  · rcases List.mem_append.1 hu with e | e
    · exact h.cls.good u e
    · rw [List.mem_singleton.1 e]; exact hg
  · have := h.all j
    rw [List.length_append, List.length_singleton] at hj
    rw [List.take_append_of_le_length (by omega)]
    exact this
  · cases cur with
    | nil => simp only [List.nil_append, List.head?_cons, Option.some.injEq] at hu; subst hu; simp
    | cons a l => exact h.cls.hd u hu
  · have hcur : cur ≠ [] := fun e => by subst e; cases hp
    have hgp : gap = false := by
      have hgp : (gap && !decide (cur = [])) = false := hgp
      rw [decide_eq_false hcur] at hgp
      simpa using hgp
    have hx : c ≠ 47 ∧ c ≠ 42 := by
      rcases h.lnk p hp he with e | e
      · rw [hgp] at e; cases e
      · exact e c r rfl
    intro d s hd
    have hd : spk (k, t) = d :: s := hd
    rcases hk with ⟨rfl, hq, hl⟩ | ⟨rfl, -, hc, hs⟩ | ⟨rfl, hq, hc, hs⟩
    · rw [spk_two] at hd
      unfold quote at hd
      injection hd with e1 e2
      rcases qOf_or t with e | e <;> rw [e] at e1 <;> omega
    · rw [spk_ne (by decide)] at hd
      obtain ⟨g1, g2, g3⟩ := symTok_inv hs
      rw [g2] at hd
      cases n with
      | zero => simp at hd
      | succ n =>
        simp only [List.take_succ_cons, List.map_cons, List.cons.injEq] at hd
        rw [← hd.1]
        have := sym_facts (c := up c) (by rw [sym_up]; exact hc)
        exact ⟨this.2.2.1, this.2.2.2.1⟩
    · rw [spk_ne (by decide)] at hd
      obtain ⟨g1, g2, g3⟩ := signTok_inv hs
      have := prefix_eq _ _ g3
      rw [hd] at this
      simp only [List.cons_append, List.cons.injEq] at this
      rw [← this.1]; exact hx
  · rw [List.getLast?_concat] at hp
    simp only [Option.some.injEq] at hp
    subst hp
    simp only [kt, Prod.mk.injEq] at he
    obtain ⟨rfl, rfl⟩ := he
    rcases hk with ⟨h2, -⟩ | ⟨h2, -⟩ | ⟨-, hq, hc, hs⟩
    · cases h2
    · cases h2
    obtain ⟨g1, g2, g3⟩ := signTok_inv hs
    have he := prefix_eq _ _ g3
    simp only [List.length_cons, List.length_nil, List.cons_append, List.nil_append, List.cons.injEq] at he g2
    obtain ⟨rfl, -⟩ := he
    subst g2
    intro d s hd
    simp only [Nat.zero_add, List.drop_succ_cons, List.drop_zero] at hd
    subst hd
    refine ⟨?_, ?_⟩
    · rintro rfl
      have := sign_slash hs
      cases this
    · rintro rfl
      cases c3
def ClOK (cl : List Tk) : Prop := ∃ b e, cl = b ++ [e] ∧ b ≠ [] ∧ ClsOK b ∧ e.kind = 4 ∧ e.text = [] ∧ e.gap = false
theorem emit_ok {b : List Tk} (h : ClsOK b) (i j l : Nat) : ∀ cl ∈ emit b i j l, ClOK cl := by
  intro cl hc
  unfold emit at hc
  by_cases e : b = []
  · rw [if_pos e] at hc; cases hc
  · rw [if_neg e, List.mem_singleton] at hc
    exact ⟨b, _, hc, e, h, rfl, rfl, rfl⟩
theorem go_cls : ∀ (f : Nat) (xs : List Int) (i line : Nat) (cur : List Tk) (gap : Bool), (∀ x ∈ xs, 0 ≤ x ∧ x < 256) → CurOK cur gap xs → (go f xs i line cur gap).err = none → ∀ cl ∈ (go f xs i line cur gap).cl, ClOK cl
  | 0, xs, i, line, cur, gap, _, _, _ => by simp [go]
  | f + 1, xs, i, line, cur, gap, hb, h, he => by
    have hbd : ∀ n, ∀ x ∈ xs.drop n, 0 ≤ x ∧ x < 256 := fun n x hx => hb x (List.mem_of_mem_drop hx)
    have ih := fun n i line cur gap hc he => go_cls f (xs.drop n) i line cur gap (hbd n) hc he
    rw [go] at he ⊢
    cases hs : step xs with
    | fin =>
      refine emit_ok ?_ _ _ _
      unfold cut
      split
      · exact h.cls.dropLast
      · exact h.cls
    | err c dl => rw [hs] at he; cases he
    | line =>
      rw [hs] at he
      simp only at he ⊢
      by_cases hc : comma cur = true
      · rw [if_pos hc] at he ⊢
        refine ih 1 _ _ _ _ ⟨h.cls.dropLast, ?_, fun _ _ _ => .inl rfl⟩ he
        rw [List.dropLast_eq_take]; exact h.all _
      · rw [if_neg hc] at he ⊢
        intro cl hcl
        rcases List.mem_append.1 hcl with e | e
        · exact emit_ok h.cls _ _ _ cl e
        · exact ih 1 _ _ _ _ (CurOK.nil _ _) he cl e
    | blank =>
      rw [hs] at he
      exact ih 1 _ _ _ _ ⟨h.cls, h.lab, fun _ _ _ => .inl rfl⟩ he
    | cmt n dl =>
      rw [hs] at he
      refine ih n _ _ _ _ ⟨h.cls, h.lab, fun p hp hk => ?_⟩ he
      rcases h.lnk p hp hk with e | e
      · exact .inl e
      · exfalso
        obtain ⟨l, b, hc⟩ := step_cmt_inv hs
        rcases xs with _ | ⟨c, r⟩
        · cases hs
        have hx := e c r rfl
        simp only [step] at hs
        have key : ∀ k R, tokStep k R ≠ .cmt n dl := fun k R e => by cases R <;> cases e
        by_cases h1 : c = 10
        · rw [if_pos h1] at hs; cases hs
        rw [if_neg h1] at hs
        by_cases h2 : c = 32
        · rw [if_pos h2] at hs; cases hs
        rw [if_neg h2, if_neg (by rw [starts2_ne hx.1]; decide)] at hs
        by_cases h4 : c = 39 ∨ c = 34
        · rw [if_pos h4] at hs; exact (key _ _ hs).elim
        rw [if_neg h4] at hs
        by_cases h5 : sym c = true
        · rw [if_pos h5] at hs; exact (key _ _ hs).elim
        rw [if_neg h5] at hs; exact (key _ _ hs).elim
    | tok k t n =>
      rw [hs] at he
      simp only at he ⊢
      by_cases hsc : k = 3 ∧ t = [59]
      · rw [if_pos hsc] at he ⊢
        intro cl hcl
        rcases List.mem_append.1 hcl with e | e
        · exact emit_ok h.cls _ _ _ cl e
        · exact ih n _ _ _ _ (CurOK.nil _ _) he cl e
      · rw [if_neg hsc] at he ⊢
        obtain ⟨p1, p2⟩ := h.put (line := line) (i := i) hb hs hsc
        by_cases hl : label (cur ++ [⟨k, t, gap && !decide (cur = []), line, i, i + n⟩]) = true
        · rw [if_pos hl] at he ⊢
          intro cl hcl
          rcases List.mem_append.1 hcl with e | e
          · exact emit_ok p1 _ _ _ cl e
          · exact ih n _ _ _ _ (CurOK.nil _ _) he cl e
        · rw [if_neg hl] at he ⊢
          exact ih n _ _ _ _ ⟨p1, by simpa using hl, fun p hp hk => .inr (p2 p hp hk)⟩ he
theorem scan_cls {xs : List Int} (hb : ∀ x ∈ xs, 0 ≤ x ∧ x < 256) (he : (scan xs).err = none) : ∀ cl ∈ (scan xs).cl, ClOK cl :=
  go_cls _ _ _ _ _ _ hb (CurOK.nil _ _) he
end Go.Proofs.YtkkpjonfaflkmaaGreatDoor.S
