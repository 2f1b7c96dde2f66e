/- Part 4 of the proof of ScanCase: the functions that it calls return what their plain descriptions say. -/
import Derived.Test.YtkkpjonfaflkmaaGreatDoorCScanCase3
import Derived.Test.YtkkpjonfaflkmaaGreatDoorCScanCase2
import Derived.Lib.LaidU8
import Derived.Shelf.LaysM
import Derived.Lib.Hide
import Derived.Shelf.Strings.SlTrimAscii
import Derived.WalkMore
import Derived.BigQuiet

namespace Go.Proofs.YtkkpjonfaflkmaaGreatDoor.S
set_option linter.unusedSimpArgs false
set_option linter.unusedVariables false
def oc (c : Int) : Int := if 97 ≤ c ∧ c ≤ 122 then c - 32 else if 65 ≤ c ∧ c ≤ 90 then c + 32 else c
def turn (p : Nat → Bool) : Nat → List Int → List Int
  | _, [] => []
  | i, c :: t => (if p i = true then c else oc c) :: turn p (i + 1) t
def Eqc (c d : Int) : Prop := d = c ∨ d = oc c
def Sim : List Int → List Int → Prop
  | [], [] => True
  | c :: t, d :: s => Eqc c d ∧ Sim t s
  | _, _ => False
theorem oc_cases (c : Int) : (97 ≤ c ∧ c ≤ 122 ∧ oc c = c - 32) ∨ (65 ≤ c ∧ c ≤ 90 ∧ oc c = c + 32) ∨ (¬ (97 ≤ c ∧ c ≤ 122) ∧ ¬ (65 ≤ c ∧ c ≤ 90) ∧ oc c = c) := by
  unfold oc
  split
  · rename_i h; exact .inl ⟨h.1, h.2, rfl⟩
  · split
    · rename_i h; exact .inr (.inl ⟨h.1, h.2, rfl⟩)
    · rename_i h1 h2; exact .inr (.inr ⟨h1, h2, rfl⟩)
theorem Eqc.or {c d : Int} (h : Eqc c d) : d = c ∨ (97 ≤ c ∧ c ≤ 122 ∧ d = c - 32) ∨ (65 ≤ c ∧ c ≤ 90 ∧ d = c + 32) := by
  rcases h with h | h
  · exact .inl h
  · rcases oc_cases c with ⟨a, b, e⟩ | ⟨a, b, e⟩ | ⟨a, b, e⟩
    · exact .inr (.inl ⟨a, b, h.trans e⟩)
    · exact .inr (.inr ⟨a, b, h.trans e⟩)
    · exact .inl (h.trans e)
theorem bool_eq {a b : Bool} (h : (a = true) ↔ (b = true)) : a = b := Bool.eq_iff_iff.2 h
theorem Eqc.sym {c d : Int} (h : Eqc c d) : sym d = sym c := by
  apply bool_eq
  simp only [S.sym, Bool.or_eq_true, Bool.and_eq_true, decide_eq_true_eq]
  have := h.or
  omega
theorem Eqc.dig {c d : Int} (h : Eqc c d) : dig d = dig c := by
  apply bool_eq
  simp only [S.dig, Bool.and_eq_true, decide_eq_true_eq]
  have := h.or
  omega
theorem Eqc.prn {c d : Int} (h : Eqc c d) : prn d = prn c := by
  apply bool_eq
  simp only [S.prn, Bool.and_eq_true, decide_eq_true_eq]
  have := h.or
  omega
theorem Eqc.up {c d : Int} (h : Eqc c d) : up d = up c := by
  unfold S.up
  have := h.or
  split <;> split <;> omega
theorem Eqc.iff {c d : Int} (h : Eqc c d) (k : Int) (hk : ¬ (97 ≤ k ∧ k ≤ 122) ∧ ¬ (65 ≤ k ∧ k ≤ 90)) : (d = k) ↔ (c = k) := by
  have := h.or
  omega
theorem Eqc.e {c d : Int} (h : Eqc c d) : (d = 69 ∨ d = 101) ↔ (c = 69 ∨ c = 101) := by
  have := h.or
  omega
theorem Eqc.sfx {c d : Int} (h : Eqc c d) : sfxOf d = sfxOf c := by
  unfold sfxOf
  have := h.or
  by_cases h1 : c = 88 ∨ c = 120
  · rw [if_pos h1, if_pos (by omega)]
  · rw [if_neg h1, if_neg (by omega)]
    by_cases h2 : c = 66 ∨ c = 98
    · rw [if_pos h2, if_pos (by omega)]
    · rw [if_neg h2, if_neg (by omega)]
theorem Sim.refl : ∀ xs, Sim xs xs
  | [] => trivial
  | _ :: t => ⟨.inl rfl, Sim.refl t⟩
theorem Sim.len : ∀ {xs ys}, Sim xs ys → ys.length = xs.length
  | [], [], _ => rfl
  | _ :: _, _ :: _, h => by rw [List.length_cons, List.length_cons, Sim.len h.2]
theorem Sim.drop : ∀ {xs ys} (n : Nat), Sim xs ys → Sim (xs.drop n) (ys.drop n)
  | xs, ys, 0, h => h
  | [], [], _ + 1, _ => trivial
  | _ :: _, _ :: _, n + 1, h => Sim.drop n h.2
theorem Sim.take : ∀ {xs ys} (n : Nat), Sim xs ys → Sim (xs.take n) (ys.take n)
  | xs, ys, 0, h => by simp [Sim]
  | [], [], _ + 1, _ => by simp [Sim]
  | _ :: _, _ :: _, n + 1, h => ⟨h.1, Sim.take n h.2⟩
theorem turn_sim (p : Nat → Bool) : ∀ (xs : List Int) (i : Nat), Sim xs (turn p i xs)
  | [], _ => trivial
  | c :: t, i => by
    refine ⟨?_, turn_sim p t (i + 1)⟩
    unfold Eqc
    split
    · exact .inl rfl
    · exact .inr rfl
theorem turn_len (p : Nat → Bool) (xs : List Int) (i : Nat) : (turn p i xs).length = xs.length := (turn_sim p xs i).len
theorem turn_drop (p : Nat → Bool) : ∀ (n i : Nat) (xs : List Int), (turn p i xs).drop n = turn p (i + n) (xs.drop n)
  | 0, i, xs => rfl
  | n + 1, i, [] => rfl
  | n + 1, i, c :: t => by
    rw [turn, List.drop_succ_cons, List.drop_succ_cons, turn_drop p n (i + 1) t, show i + 1 + n = i + (n + 1) by omega]
theorem turn_take (p : Nat → Bool) : ∀ (n i : Nat) (xs : List Int), (∀ j, i ≤ j → j < i + n → p j = true) → (turn p i xs).take n = xs.take n
  | 0, i, xs, _ => by simp
  | n + 1, i, [], _ => by simp [turn]
  | n + 1, i, c :: t, h => by
    rw [turn, List.take_succ_cons, List.take_succ_cons, if_pos (h i (Nat.le_refl _) (by omega)), turn_take p n (i + 1) t (fun j h1 h2 => h j (by omega) (by omega))]
theorem cmt_sim : ∀ {xs ys : List Int} (i d l b : Nat), Sim xs ys → cmt ys i d l b = cmt xs i d l b
  | [], [], _, _, _, _, _ => rfl
  | [_], [_], _, _, _, _, _ => rfl
  | [_], _ :: _ :: _, _, _, _, _, h => h.2.elim
  | _ :: _ :: _, [_], _, _, _, _, h => h.2.elim
  | c :: e :: t, c' :: e' :: t', i, d, l, b, h => by
    obtain ⟨h1, h2, h3⟩ := h
    have k1 := h1.iff 47 (by decide)
    have k2 := h2.iff 42 (by decide)
    have k3 := h1.iff 42 (by decide)
    have k4 := h2.iff 47 (by decide)
    have k5 := h1.iff 10 (by decide)
    have k6 := h1.prn
    simp only [cmt, k1, k2, k3, k4, k5, k6, ne_eq]
    rw [cmt_sim _ _ _ _ h3, cmt_sim _ _ _ _ h3, cmt_sim (xs := e :: t) (ys := e' :: t') _ _ _ _ ⟨h2, h3⟩]
theorem run_sim (p : Int → Bool) (hp : ∀ {c d}, Eqc c d → p d = p c) : ∀ {xs ys : List Int}, Sim xs ys → run p ys = run p xs
  | [], [], _ => rfl
  | c :: t, d :: s, h => by simp only [run, hp h.1, run_sim p hp h.2]
theorem all_sim (p : Int → Bool) (hp : ∀ {c d}, Eqc c d → p d = p c) : ∀ {xs ys : List Int}, Sim xs ys → ys.all p = xs.all p
  | [], [], _ => rfl
  | c :: t, d :: s, h => by simp only [List.all_cons, hp h.1, all_sim p hp h.2]
theorem any_sim (p : Int → Bool) (hp : ∀ {c d}, Eqc c d → p d = p c) : ∀ {xs ys : List Int}, Sim xs ys → ys.any p = xs.any p
  | [], [], _ => rfl
  | c :: t, d :: s, h => by simp only [List.any_cons, hp h.1, any_sim p hp h.2]
theorem count_sim (k : Int) (hk : ¬ (97 ≤ k ∧ k ≤ 122) ∧ ¬ (65 ≤ k ∧ k ≤ 90)) : ∀ {xs ys : List Int}, Sim xs ys → ys.count k = xs.count k
  | [], [], _ => rfl
  | c :: t, d :: s, h => by
    have e := h.1.iff k hk
    rw [List.count_cons, List.count_cons, count_sim k hk h.2]
    by_cases hc : c = k
    · rw [if_pos (beq_iff_eq.2 hc), if_pos (beq_iff_eq.2 (e.2 hc))]
    · rw [if_neg (fun x => hc (beq_iff_eq.1 x)), if_neg (fun x => hc (e.1 (beq_iff_eq.1 x)))]
theorem up_sim : ∀ {xs ys : List Int}, Sim xs ys → ys.map up = xs.map up
  | [], [], _ => rfl
  | c :: t, d :: s, h => by simp only [List.map_cons, h.1.up, up_sim h.2]
theorem last_sim : ∀ {xs ys : List Int}, Sim xs ys → (xs = [] ∧ ys = []) ∨ ∃ a b x y, xs = a ++ [x] ∧ ys = b ++ [y] ∧ Sim a b ∧ Eqc x y
  | [], [], _ => .inl ⟨rfl, rfl⟩
  | c :: t, d :: s, h => by
    rcases last_sim h.2 with ⟨rfl, rfl⟩ | ⟨a, b, x, y, rfl, rfl, h1, h2⟩
    · exact .inr ⟨[], [], c, d, rfl, rfl, trivial, h.1⟩
    · exact .inr ⟨c :: a, d :: b, x, y, rfl, rfl, ⟨h.1, h1⟩, h2⟩
theorem mant_sim {xs ys : List Int} (h : Sim xs ys) : mant ys = mant xs := by
  rcases last_sim h with ⟨rfl, rfl⟩ | ⟨a, b, x, y, rfl, rfl, h1, h2⟩
  · rfl
  · have he : (decide (y = 69) || decide (y = 101)) = (decide (x = 69) || decide (x = 101)) := by
      apply bool_eq
      simp only [Bool.or_eq_true, decide_eq_true_eq]
      exact h2.e
    have ha : b.all (fun c => dig c || decide (c = 46)) = a.all (fun c => dig c || decide (c = 46)) := all_sim _ (fun hc => by
      show (dig _ || decide _) = (dig _ || decide _)
      rw [hc.dig, decide_eq_decide.2 (hc.iff 46 (by decide))]) h1
    unfold mant
    rw [List.getLast?_concat, List.getLast?_concat]
    simp only [List.dropLast_concat]
    rw [he, ha, any_sim dig (fun hc => hc.dig) h1, count_sim 46 (by decide) h1]
theorem expo_sim : ∀ {xs ys : List Int}, Sim xs ys → expo ys = expo xs
  | [], [], _ => rfl
  | [_], [_], _ => rfl
  | [_], _ :: _ :: _, h => h.2.elim
  | _ :: _ :: _, [_], h => h.2.elim
  | c :: e :: t, c' :: e' :: t', h => by
    simp only [expo]
    rw [h.2.1.dig, decide_eq_decide.2 (h.1.iff 43 (by decide)), decide_eq_decide.2 (h.1.iff 45 (by decide))]
theorem symLen_sim {xs ys : List Int} (h : Sim xs ys) : symLen ys = symLen xs := by
  have r := run_sim sym (fun hc => hc.sym) h
  unfold symLen
  rw [r, mant_sim (h.take (run sym xs)), expo_sim (h.drop (run sym xs)), run_sim dig (fun hc => hc.dig) (h.drop (run sym xs + 1))]
theorem symTok_sim {xs ys : List Int} (h : Sim xs ys) : symTok ys = symTok xs := by
  unfold symTok
  rw [symLen_sim h, up_sim (h.take (symLen xs))]
def NoL (x : List Int) : Prop := ∀ k ∈ x, ¬ (97 ≤ k ∧ k ≤ 122) ∧ ¬ (65 ≤ k ∧ k ≤ 90)
theorem pre_sim : ∀ {x xs ys : List Int}, NoL x → Sim xs ys → x.isPrefixOf ys = x.isPrefixOf xs
  | [], _, _, _, _ => by simp [List.isPrefixOf]
  | k :: x, [], [], _, _ => rfl
  | k :: x, c :: t, d :: s, hx, h => by
    have e := h.1.iff k (hx k (by simp))
    simp only [List.isPrefixOf]
    rw [pre_sim (fun j hj => hx j (by simp [hj])) h.2]
    congr 1
    apply bool_eq
    rw [beq_iff_eq, beq_iff_eq]
    constructor
    · intro a; exact (e.1 a.symm).symm
    · intro a; exact (e.2 a.symm).symm
theorem find_sim {xs ys : List Int} (h : Sim xs ys) : ∀ l : List (List Int), (∀ x ∈ l, NoL x) → l.find? (fun x => x.isPrefixOf ys) = l.find? (fun x => x.isPrefixOf xs)
  | [], _ => rfl
  | x :: l, hl => by
    rw [List.find?_cons, List.find?_cons, pre_sim (hl x (by simp)) h, find_sim h l (fun y hy => hl y (by simp [hy]))]
theorem signs_no : ∀ x ∈ signs, NoL x := by
  unfold NoL
  decide
theorem signTok_sim {xs ys : List Int} (h : Sim xs ys) : signTok ys = signTok xs := by
  unfold signTok
  rw [find_sim h signs signs_no]
theorem starts_sim : ∀ {xs ys : List Int}, Sim xs ys → starts2 ys = starts2 xs
  | [], [], _ => rfl
  | [_], [_], _ => rfl
  | [_], _ :: _ :: _, h => h.2.elim
  | _ :: _ :: _, [_], h => h.2.elim
  | c :: e :: t, c' :: e' :: t', h => by
    simp only [starts2]
    rw [decide_eq_decide.2 (h.1.iff 47 (by decide)), decide_eq_decide.2 (h.2.1.iff 42 (by decide))]
theorem step_sim : ∀ {xs ys : List Int}, Sim xs ys → (∀ q t, xs = q :: t → q ≠ 39 ∧ q ≠ 34) → step ys = step xs
  | [], [], _, _ => rfl
  | c :: t, d :: s, h, hq => by
    obtain ⟨q1, q2⟩ := hq c t rfl
    have k1 := h.1.iff 10 (by decide)
    have k2 := h.1.iff 32 (by decide)
    have k3 := h.1.iff 39 (by decide)
    have k4 := h.1.iff 34 (by decide)
    simp only [step, k1, k2, k3, k4, q1, q2, starts_sim h, cmt_sim 0 0 1 0 h, h.1.sym, symTok_sim h, signTok_sim h, or_self, reduceIte]
theorem sfx_sim : ∀ {xs ys : List Int}, Sim xs ys → sfx ys = sfx xs
  | [], [], _ => rfl
  | [c], [d], h => h.1.sfx
  | [_], _ :: _ :: _, h => h.2.elim
  | _ :: _ :: _, [_], h => h.2.elim
  | c :: e :: t, c' :: e' :: t', h => by simp only [sfx, h.1.sfx, h.2.1.sym]
theorem head_sim {xs ys : List Int} (h : Sim xs ys) {q : Int} (hq : q = 39 ∨ q = 34) (hx : xs.head? ≠ some q) : ys.head? ≠ some q := by
  rcases xs with _ | ⟨c, t⟩ <;> rcases ys with _ | ⟨d, s⟩
  · exact hx
  · exact h.elim
  · exact h.elim
  · simp only [List.head?_cons, ne_eq, Option.some.injEq] at hx ⊢
    rcases hq with rfl | rfl
    · exact fun e => hx ((h.1.iff 39 (by decide)).1 e)
    · exact fun e => hx ((h.1.iff 34 (by decide)).1 e)
theorem lit_sim {q : Int} {t s x : List Int} {n : Nat} (hq : q = 39 ∨ q = 34) (h : litTok (q :: t) = .ok x n) (hs : Sim t s) (he : (q :: s).take n = (q :: t).take n) : litTok (q :: s) = .ok x n := by
  obtain ⟨v, U, R, rfl, e3, e4, e5⟩ := litTok_parts h
  have hn : U.length + 2 ≤ n := by omega
  have h1 : (q :: s).take (U.length + 2) = (q :: (U ++ q :: R)).take (U.length + 2) := by
    have := congrArg (List.take (U.length + 2)) he
    rw [List.take_take, List.take_take, Nat.min_eq_left hn] at this
    exact this
  have h2 : s = U ++ q :: s.drop (U.length + 1) := by
    simp only [List.take_succ_cons, List.cons.injEq, true_and] at h1
    have h3 : (U ++ q :: R).take (U.length + 1) = U ++ [q] := by
      rw [List.take_append, List.take_of_length_le (by omega), show U.length + 1 - U.length = 1 by omega]; rfl
    rw [h3] at h1
    conv => lhs; rw [← List.take_append_drop (U.length + 1) s, h1]
    simp
  have h4 : Sim R (s.drop (U.length + 1)) := by
    have := hs.drop (U.length + 1)
    rw [List.drop_append, List.drop_eq_nil_of_le (by omega), show U.length + 1 - U.length = 1 by omega] at this
    exact this
  rw [h2]
  exact (litTok_eq q U R _ v (e4 _ e3) (e4 _ (head_sim h4 hq e3)) (sfx_sim h4)).trans h
theorem step_quote {q : Int} {t : List Int} (hq : q = 39 ∨ q = 34) : step (q :: t) = tokStep 2 (litTok (q :: t)) := by
  have h1 : q ≠ 10 := by omega
  have h2 : q ≠ 32 := by omega
  have h3 : starts2 (q :: t) = false := by
    rcases t with _ | ⟨d, t⟩
    · rfl
    · simp only [starts2]; rw [decide_eq_false (by omega), Bool.false_and]
  simp only [step, if_neg h1, if_neg h2, h3, if_pos hq]
  rfl
theorem cur_in : ∀ (f : Nat) (xs : List Int) (i line : Nat) (cur : List Tk) (gap : Bool), (∀ x ∈ xs, 0 ≤ x ∧ x < 256) → xs.length < f → ∀ t ∈ cur, t.kind = 2 → t ∈ (go f xs i line cur gap).cl.flatten
  | 0, xs, _, _, _, _, _, h, _, _, _ => absurd h (Nat.not_lt_zero _)
  | f + 1, xs, i, line, cur, gap, hb, hf, t, ht, hk => by
    have hd : ∀ n, ∀ x ∈ xs.drop n, 0 ≤ x ∧ x < 256 := fun n x hx => hb x (List.mem_of_mem_drop hx)
    have hemit : ∀ (c : List Tk) (a b l : Nat), t ∈ c → t ∈ (emit c a b l).flatten := fun c a b l hc => by
      unfold emit
      rw [if_neg (fun e => by subst e; cases hc)]
      simp [hc]
    have hdl : comma cur = true → t ∈ cur.dropLast := fun hc => by
      rcases List.eq_nil_or_concat cur with rfl | ⟨a, u, rfl⟩
      · cases ht
      · rw [List.concat_eq_append] at ht hc ⊢
        rw [List.dropLast_concat]
        rcases List.mem_append.1 ht with h | h
        · exact h
        · obtain rfl : t = u := by simpa using h
          unfold comma at hc
          rw [List.getLast?_concat] at hc
          simp only [Bool.and_eq_true, decide_eq_true_eq] at hc
          omega
    have hcut : t ∈ cut cur := by
      unfold cut
      split
      · rename_i hc; exact hdl hc
      · exact ht
    have pre : ∀ (l : List (List Tk)) (o : Out), t ∈ l.flatten → t ∈ (o.pre l).cl.flatten := fun l o h => by
      show t ∈ (l ++ o.cl).flatten
      rw [List.flatten_append]; exact List.mem_append_left _ h
    have hl : ∀ n, 1 ≤ n → 1 ≤ xs.length → (xs.drop n).length < f := fun n h1 h2 => by rw [List.length_drop]; omega
    rw [go]
    cases hS : step xs with
    | fin => exact hemit _ _ _ _ hcut
    | line =>
      have := step_some (xs := xs) (by rw [hS]; simp)
      simp only
      split
      · rename_i hc; exact cur_in f _ _ _ _ _ (hd 1) (hl 1 (Nat.le_refl _) this) t (hdl hc) hk
      · exact pre _ _ (hemit _ _ _ _ ht)
    | blank =>
      have := step_some (xs := xs) (by rw [hS]; simp)
      exact cur_in f _ _ _ _ _ (hd 1) (hl 1 (Nat.le_refl _) this) t ht hk
    | cmt n dl =>
      obtain ⟨a, b, _⟩ := step_cmt hS
      exact cur_in f _ _ _ _ _ (hd n) (hl n a (by omega)) t ht hk
    | tok k x n =>
      obtain ⟨a, b, _⟩ := step_tok hb hS
      simp only
      split
      · exact pre _ _ (hemit _ _ _ _ ht)
      · split
        · exact pre _ _ (hemit _ _ _ _ (List.mem_append_left _ ht))
        · exact cur_in f _ _ _ _ _ (hd n) (hl n a (by omega)) t (List.mem_append_left _ ht) hk
    | err c dl =>
      simp only
      rw [if_neg (fun e => by subst e; cases ht)]
      simpa using ht
theorem go_turn (p : Nat → Bool) : ∀ (f : Nat) (xs : List Int) (i line : Nat) (cur : List Tk) (gap : Bool), (∀ x ∈ xs, 0 ≤ x ∧ x < 256) → xs.length < f →
    (∀ t ∈ (go f xs i line cur gap).cl.flatten, t.kind = 2 → i ≤ t.at_ → ∀ j, t.at_ ≤ j → j < t.to → p j = true) →
    ((go f xs i line cur gap).err ≠ none → (39 : Int) ∉ xs ∧ (34 : Int) ∉ xs) → go f (turn p i xs) i line cur gap = go f xs i line cur gap
  | 0, xs, _, _, _, _, _, h, _, _ => absurd h (Nat.not_lt_zero _)
  | f + 1, xs, i, line, cur, gap, hb, hf, hT, hE => by
    have hd : ∀ n, ∀ x ∈ xs.drop n, 0 ≤ x ∧ x < 256 := fun n x hx => hb x (List.mem_of_mem_drop hx)
    have hl : ∀ n, 1 ≤ n → 1 ≤ xs.length → (xs.drop n).length < f := fun n h1 h2 => by rw [List.length_drop]; omega
    have hne : ∀ n, ((39 : Int) ∉ xs ∧ (34 : Int) ∉ xs) → (39 : Int) ∉ xs.drop n ∧ (34 : Int) ∉ xs.drop n := fun n h => ⟨fun e => h.1 (List.mem_of_mem_drop e), fun e => h.2 (List.mem_of_mem_drop e)⟩
    have hpre : ∀ (l : List (List Tk)) (o : Out) (t : Tk), t ∈ o.cl.flatten → t ∈ (o.pre l).cl.flatten := fun l o t h => by
      show t ∈ (l ++ o.cl).flatten
      rw [List.flatten_append]; exact List.mem_append_right _ h
    have hstep : step (turn p i xs) = step xs := by
      by_cases hq : ∃ q t, xs = q :: t ∧ (q = 39 ∨ q = 34)
      · obtain ⟨q, t, rfl, hq⟩ := hq
        have hS := step_quote (t := t) hq
        cases hL : litTok (q :: t) with
        | err c =>
          exfalso
          have : (go (f + 1) (q :: t) i line cur gap).err ≠ none := by rw [go, hS, hL]; simp [tokStep]
          have := hE this
          rcases hq with rfl | rfl
          · exact this.1 (by simp)
          · exact this.2 (by simp)
        | ok x n =>
          rw [hL] at hS
          have hin : ∃ g, (⟨2, x, g, line, i, i + n⟩ : Tk) ∈ (go (f + 1) (q :: t) i line cur gap).cl.flatten := by
            refine ⟨gap && !decide (cur = []), ?_⟩
            obtain ⟨a, b, _⟩ := step_tok hb hS
            rw [go, hS]
            simp only [tokStep]
            rw [if_neg (fun e => absurd e.1 (by decide))]
            split
            · show _ ∈ (emit _ _ _ _ ++ _).flatten
              rw [List.flatten_append]
              refine List.mem_append_left _ ?_
              unfold emit
              rw [if_neg (by simp)]
              simp
            · exact cur_in f _ _ _ _ _ (hd n) (hl n a (by omega)) _ (by simp) rfl
          obtain ⟨g, hin⟩ := hin
          have hk := hT _ hin rfl (Nat.le_refl _)
          have hlit : litTok (turn p i (q :: t)) = .ok x n := by
            have ht := turn_take p n i (q :: t) (fun j h1 h2 => hk j h1 h2)
            have hn : 1 ≤ n := (step_tok hb hS).1
            have hpi : p i = true := hk i (Nat.le_refl _) (by show i < i + n; omega)
            rw [turn, if_pos hpi] at ht ⊢
            exact lit_sim hq hL (turn_sim p t (i + 1)) ht
          have hpi : ∃ s, turn p i (q :: t) = q :: s := by
            have hn : 1 ≤ n := (step_tok hb hS).1
            rw [turn, if_pos (hk i (Nat.le_refl _) (by show i < i + n; omega))]
            exact ⟨_, rfl⟩
          obtain ⟨s, hs⟩ := hpi
          rw [hs] at hlit ⊢
          rw [step_quote hq, hlit, hS]
      · exact step_sim (turn_sim p xs i) (fun q t e => ⟨fun e1 => hq ⟨q, t, e, .inl e1⟩, fun e1 => hq ⟨q, t, e, .inr e1⟩⟩)
    rw [go] at hT hE
    rw [go, go, hstep]
    cases hS : step xs with
    | fin => rfl
    | line =>
      have h1 := step_some (xs := xs) (by rw [hS]; simp)
      rw [hS] at hT hE
      simp only at hT hE ⊢
      rw [turn_drop]
      by_cases hc : comma cur = true
      · rw [if_pos hc] at hT hE
        rw [if_pos hc, if_pos hc]
        exact go_turn p f _ _ _ _ _ (hd 1) (hl 1 (Nat.le_refl _) h1) (fun t ht hk hi => hT t ht hk (by omega)) (fun h => hne 1 (hE h))
      · rw [if_neg hc] at hT hE
        rw [if_neg hc, if_neg hc]
        rw [go_turn p f _ _ _ _ _ (hd 1) (hl 1 (Nat.le_refl _) h1) (fun t ht hk hi => hT t (hpre _ _ _ ht) hk (by omega)) (fun h => hne 1 (hE h))]
    | blank =>
      have h1 := step_some (xs := xs) (by rw [hS]; simp)
      rw [hS] at hT hE
      simp only at hT hE ⊢
      rw [turn_drop]
      exact go_turn p f _ _ _ _ _ (hd 1) (hl 1 (Nat.le_refl _) h1) (fun t ht hk hi => hT t ht hk (by omega)) (fun h => hne 1 (hE h))
    | cmt n dl =>
      obtain ⟨a, b, _⟩ := step_cmt hS
      rw [hS] at hT hE
      simp only at hT hE ⊢
      rw [turn_drop]
      exact go_turn p f _ _ _ _ _ (hd n) (hl n a (by omega)) (fun t ht hk hi => hT t ht hk (by omega)) (fun h => hne n (hE h))
    | tok k x n =>
      obtain ⟨a, b, _⟩ := step_tok hb hS
      rw [hS] at hT hE
      simp only at hT hE ⊢
      rw [turn_drop]
      by_cases h1 : k = 3 ∧ x = [59]
      · rw [if_pos h1] at hT hE
        rw [if_pos h1, if_pos h1]
        rw [go_turn p f _ _ _ _ _ (hd n) (hl n a (by omega)) (fun t ht hk hi => hT t (hpre _ _ _ ht) hk (by omega)) (fun h => hne n (hE h))]
      · rw [if_neg h1] at hT hE
        rw [if_neg h1, if_neg h1]
        by_cases h2 : label (cur ++ [⟨k, x, gap && !decide (cur = []), line, i, i + n⟩]) = true
        · rw [if_pos h2] at hT hE
          rw [if_pos h2, if_pos h2]
          rw [go_turn p f _ _ _ _ _ (hd n) (hl n a (by omega)) (fun t ht hk hi => hT t (hpre _ _ _ ht) hk (by omega)) (fun h => hne n (hE h))]
        · rw [if_neg h2] at hT hE
          rw [if_neg h2, if_neg h2]
          exact go_turn p f _ _ _ _ _ (hd n) (hl n a (by omega)) (fun t ht hk hi => hT t ht hk (by omega)) (fun h => hne n (hE h))
    | err c dl => rfl
theorem scan_turn (p : Nat → Bool) (xs : List Int) (hb : ∀ x ∈ xs, 0 ≤ x ∧ x < 256) (hT : ∀ t ∈ tokens xs, t.kind = 2 → ∀ j, t.at_ ≤ j → j < t.to → p j = true) (hE : (scan xs).err ≠ none → (39 : Int) ∉ xs ∧ (34 : Int) ∉ xs) :
    scan (turn p 0 xs) = scan xs := by
  unfold scan
  rw [turn_len]
  exact go_turn p _ xs 0 1 [] false hb (by omega) (fun t ht hk _ => hT t ht hk) hE
end Go.Proofs.YtkkpjonfaflkmaaGreatDoor.S

namespace Go.Proofs.YtkkpjonfaflkmaaGreatDoor.T
set_option linter.unusedSimpArgs false
set_option linter.unusedVariables false
open Go.RowKit Go.Proofs.YtkkpjonfaflkmaaGreatDoorW.PrintWords Go.Proofs.YtkkpjonfaflkmaaGreatDoorW.PrintLast Go.Proofs.YtkkpjonfaflkmaaGreatDoorW.PrintMore
theorem Buf.lt {g : Nat} {xs : List Int} {W : World} (h : Buf g xs W) : g < W.heap.size := by
  obtain ⟨c, t, lo, hi, hg, _⟩ := h
  exact (Array.getElem?_eq_some_iff.1 hg).1
def litOne (x : Int) (t : S53) : Bool := decide (t.f0 = 2) && decide (t.f4 ≤ x) && decide (x < t.f5)
def litAt (l : List S53) (x : Int) : Bool := l.any (litOne x)
theorem litAt_no {l : List S53} {x : Int} (h : ∀ (j : Nat) t, j < l.length → l[j]? = some t → litOne x t = false) : litAt l x = false := by
  unfold litAt
  rw [List.any_eq_false]
  intro t ht
  obtain ⟨j, hj, rfl⟩ := List.mem_iff_getElem.1 ht
  simp [h j _ hj (List.getElem?_eq_getElem hj)]
theorem rd_at (l : List S53) (k : Nat) (hk : k < l.length) : l[k]? = some (rd_T53 l (k : Int)) := by
  unfold rd_T53
  rw [Int.toNat_natCast, List.getD_eq_getElem?_getD, List.getElem?_eq_getElem hk]; rfl
set_option maxHeartbeats 4000000 in
set_option maxRecDepth 100000 in
theorem keep.calls (A : Option Addr) (c : Nat) (l : List S53) (b : Nat) (x : Int) (w : World) (hb : w.heap[b]? = some (.cells #[.slice A l.length c] 24 (0, 0))) (hr : Kd.C k53 w A l.length l) (hs : l.length ≤ 1000000) :
    Calls Tryz.prog 42 #[.int .i64 x, .pointer (some ⟨b, 0, none⟩)] w fun e w' => e = .returned (.bool (litAt l x)) ∧ w' = w := by
  have HR := Aside0.mk hr
  clear hr
  have c0 : w.cell? ⟨b, 0, none⟩ = some (.slice A l.length c) := (blk_cell hb 0).trans rfl
  clear hb
  obtain ⟨n, hn⟩ : ∃ n, l.length = n := ⟨_, rfl⟩
  have HN := Aside0.mk hn
  rw [hn] at c0 hs
  clear hn
  go_enter Tryz.func42, Tryz.ntmps42
  go_wp2
  go_loopg [4] n (fun gg s4 wr => ∃ kk : Nat, kk ≤ n ∧ n - kk ≤ gg ∧ s4 = .int .i64 kk ∧ wr = w ∧ Aside0 (∀ (j : Nat) t, j < kk → l[j]? = some t → litOne x t = false))
  case atStart => exact ⟨0, Nat.zero_le _, by omega, rfl, rfl, ⟨fun j t hj => absurd hj (Nat.not_lt_zero _)⟩⟩
  case round =>
    obtain ⟨kk, hkk, hg, rfl, rfl, HA⟩ := hrel
    by_cases hlt : kk < n
    · have hltz : (kk : Int) < (n : Int) := by omega
      have hz0 : (0 : Int) ≤ (kk : Int) := by omega
      have hw1 : IntKind.i64.wrap ((kk : Int) + 1) = ((kk + 1 : Nat) : Int) := by rw [(i64_w _).trans (show wrap64 _ = (kk : Int) + 1 by unfold wrap64; omega)]; omega
      obtain ⟨ad, rfl, x0, x1, x2, x3, x4, x5⟩ := at_T53 HR.out (kk : Int) hz0 (by rw [HN.out]; exact hltz)
      have hrd := rd_at l kk (by have := HN.out; omega)
      simp only [Int.toNat_natCast] at x0 x1 x2 x3 x4 x5
      generalize rd_T53 l (kk : Int) = t at *
      have HRD := Aside0.mk hrd
      clear hrd x1 x2 x3
      have next : litOne x t = false → Aside0 (∀ (j : Nat) u, j < kk + 1 → l[j]? = some u → litOne x u = false) := fun h => ⟨fun j u hj hu => by
        by_cases e : j = kk
        · subst e
          have := HRD.out.symm.trans hu
          cases this
          exact h
        · exact HA.out j u (by omega) hu⟩
      by_cases h1 : t.f0 = 2
      · have e1 : (t.f0 == 2) = true := beq_iff_eq.2 h1
        by_cases h2 : t.f4 ≤ x
        · have e2 : decide (t.f4 ≤ x) = true := decide_eq_true h2
          by_cases h3 : x < t.f5
          · have e3 : decide (x < t.f5) = true := decide_eq_true h3
            have HL : Aside0 (litAt l x = true) := ⟨by
              unfold litAt
              rw [List.any_eq_true]
              refine ⟨t, List.mem_of_getElem? HRD.out, ?_⟩
              unfold litOne
              rw [decide_eq_true h1, e2, e3]; rfl⟩
            clear h1 h2 h3 next
            go_wp2
            go_ret
            exact ⟨by rw [HL.out]; rfl, rfl⟩
          · have e3 : decide (x < t.f5) = false := decide_eq_false h3
            have HX := next (by unfold litOne; rw [e3, Bool.and_false])
            clear h1 h2 h3 next
            go_wp2
            go_roundg (n - (kk + 1))
            case measure => omega
            case rel => exact ⟨kk + 1, by omega, by omega, by go_num, rfl, HX⟩
        · have e2 : decide (t.f4 ≤ x) = false := decide_eq_false h2
          have HX := next (by unfold litOne; rw [e2, Bool.and_false, Bool.false_and])
          clear h1 h2 next
          go_wp2
          go_roundg (n - (kk + 1))
          case measure => omega
          case rel => exact ⟨kk + 1, by omega, by omega, by go_num, rfl, HX⟩
      · have e1 : (t.f0 == 2) = false := beq_eq_false_iff_ne.2 h1
        have HX := next (by unfold litOne; rw [decide_eq_false h1, Bool.false_and, Bool.false_and])
        clear h1 next
        go_wp2
        go_roundg (n - (kk + 1))
        case measure => omega
        case rel => exact ⟨kk + 1, by omega, by omega, by go_num, rfl, HX⟩
    · obtain rfl : kk = n := by omega
      have HL : Aside0 (litAt l x = false) := ⟨litAt_no fun j t hj ht => HA.out j t (by have := HN.out; omega) ht⟩
      go_wp2
      go_ret
      exact ⟨by rw [HL.out]; rfl, rfl⟩
def tpart (p : Nat → Bool) (k : Nat) (xs : List Int) : List Int := (S.turn p 0 xs).take k ++ xs.drop k
theorem tpart_length (p : Nat → Bool) (k : Nat) (xs : List Int) : (tpart p k xs).length = xs.length := by
  unfold tpart
  rw [List.length_append, List.length_take, List.length_drop, S.turn_len]; omega
theorem tpart_zero (p : Nat → Bool) (xs : List Int) : tpart p 0 xs = xs := by simp [tpart]
theorem tpart_all (p : Nat → Bool) (xs : List Int) : tpart p xs.length xs = S.turn p 0 xs := by
  unfold tpart
  rw [List.drop_length, List.append_nil, List.take_of_length_le (by rw [S.turn_len]; exact Nat.le_refl _)]
theorem turn_get (p : Nat → Bool) : ∀ (xs : List Int) (i k : Nat), (S.turn p i xs)[k]? = (xs[k]?).map fun c => if p (i + k) = true then c else S.oc c
  | [], _, _ => by simp [S.turn]
  | c :: t, i, 0 => by simp [S.turn]
  | c :: t, i, k + 1 => by
    rw [S.turn, List.getElem?_cons_succ, List.getElem?_cons_succ, turn_get p t (i + 1) k, show i + 1 + k = i + (k + 1) by omega]
theorem tpart_at (p : Nat → Bool) (k : Nat) (xs : List Int) (hk : k < xs.length) : (tpart p k xs).getD k 0 = xs.getD k 0 := by
  unfold tpart
  have hl : ((S.turn p 0 xs).take k).length = k := by rw [List.length_take, S.turn_len]; omega
  rw [List.getD_eq_getElem?_getD, List.getElem?_append_right (by omega), hl, Nat.sub_self, List.getElem?_drop, List.getD_eq_getElem?_getD, Nat.add_zero]
theorem tpart_set (p : Nat → Bool) (k : Nat) (xs : List Int) (hk : k < xs.length) : (tpart p k xs).set k (if p k = true then xs.getD k 0 else S.oc (xs.getD k 0)) = tpart p (k + 1) xs := by
  have hl : ((S.turn p 0 xs).take k).length = k := by rw [List.length_take, S.turn_len]; omega
  have hg : (S.turn p 0 xs)[k]? = some (if p k = true then xs.getD k 0 else S.oc (xs.getD k 0)) := by
    rw [turn_get, List.getElem?_eq_getElem hk, List.getD_eq_getElem?_getD, List.getElem?_eq_getElem hk, Nat.zero_add]; rfl
  unfold tpart
  rw [List.set_append_right _ _ (by omega), hl, Nat.sub_self, List.drop_eq_getElem_cons hk, List.set_cons_zero, List.take_add_one, hg, List.append_assoc]
  rfl
def turnS (p : Int → Bool) (s : ByteArray) : ByteArray := strOfNums (S.turn (fun i => p (i : Int)) 0 (bytesOf s))
set_option maxHeartbeats 4000000 in
set_option maxRecDepth 100000 in
theorem turned.calls (a0 : ByteArray) (g : Nat) (lb : Array Value) (p : Int → Bool) (w : World) (eg : ∀ args w, (callFunc g args).run Tryz.prog w = .ok (.enter g args) w)
    (hp : Pays g lb (fun x => Value.int .i64 x) p (fun _ => True) w) (ha : a0.size ≤ 1000000) :
    Calls Tryz.prog 41 #[.string a0, .func (.func g) #[] lb] w fun e w' => e = .returned (.string (turnS p a0)) ∧ Below w.heap.size w w' := by
  have HP := Aside0.mk hp
  clear hp
  unfold turnS
  obtain ⟨q, hq⟩ : ∃ q : Nat → Bool, (fun i : Nat => p (i : Int)) = q := ⟨_, rfl⟩
  have HQ : Aside0 (∀ i : Nat, p (i : Int) = q i) := ⟨fun i => by rw [← hq]⟩
  rw [hq]
  clear hq
  obtain ⟨n, hn⟩ : ∃ n, a0.size = n := ⟨_, rfl⟩
  have HB0 := Aside0.mk (Buf.new w a0)
  have HL0 := Aside0.mk (bytes_below (Below.refl w.heap.size w) (Nat.le_refl _) 5 a0)
  have HN : Aside0 ((bytesOf a0).length = n) := ⟨by rw [bytesOf_length]; exact hn⟩
  have kb := fun W => print_bytes (P := Tryz.prog) 9 100 5 Tryz.underlying9 Tryz.underlying100 Tryz.underlying5 a0 W
  rw [hn] at kb ha
  have kc := fun W c => string_of_reads (P := Tryz.prog) (w := W) (src := 100) (dst := 9) (e := 5) (A := some ⟨w.heap.size, 0, none⟩) (n := n) (c := c) (xs := S.turn q 0 (bytesOf a0)) Tryz.underlying100 Tryz.underlying5 Tryz.underlying9
  have HKC := Lib.hid kc
  clear kc
  go_enter Tryz.func41, Tryz.ntmps41
  go_wp2
  go_loopg [6] n (fun gg s6 wr => ∃ kk : Nat, kk ≤ n ∧ n - kk ≤ gg ∧ s6 = .int .i64 kk ∧ Aside0 (Below w.heap.size w wr) ∧ Aside0 (Buf w.heap.size (tpart q kk (bytesOf a0)) wr))
  case atStart => exact ⟨0, Nat.zero_le _, by omega, rfl, HL0, ⟨by rw [tpart_zero]; exact HB0.out⟩⟩
  case round =>
    obtain ⟨kk, hkk, hg, rfl, HB, HF⟩ := hrel
    by_cases hlt : kk < n
    · have hltz : (kk : Int) < (n : Int) := by omega
      have hz0 : (0 : Int) ≤ (kk : Int) := by omega
      have hl : kk < (bytesOf a0).length := by have := HN.out; omega
      have hcall := HP.out wr (kk : Int) trivial HB.out
      have hset := tpart_set q kk (bytesOf a0) hl
      have hat := tpart_at q kk (bytesOf a0) hl
      have hlen := tpart_length q kk (bytesOf a0)
      obtain ⟨hx0, hx1⟩ := bo_range a0 _ (getD_mem _ kk hl)
      generalize (bytesOf a0).getD kk 0 = y at hset hat hx0 hx1
      have HSET := Aside0.mk hset
      have HAT := Aside0.mk hat
      have HLEN := Aside0.mk (hlen.symm ▸ hl : kk < (tpart q kk (bytesOf a0)).length)
      rw [HQ.out] at hcall
      clear hset hat hlen hl
      have same : ∀ W2, Below wr.heap.size wr W2 → (q kk = true ∨ S.oc y = y) → Aside0 (Buf w.heap.size (tpart q (kk + 1) (bytesOf a0)) W2) := fun W2 hb h => ⟨by
        have e : (if q kk = true then y else S.oc y) = y := by
          rcases h with h | h
          · rw [if_pos h]
          · split
            · rfl
            · exact h
        have hs := HSET.out
        rw [e] at hs
        have hh := set_same _ kk HLEN.out
        rw [HAT.out] at hh
        rw [← hs, hh]
        refine HF.out.blk (hb.block _ ?_)
        exact Buf.lt HF.out⟩
      cases hq : q kk with
      | true =>
        rw [hq] at hcall
        have HC := Lib.hid hcall
        clear hcall
        go_upto_region 4 with (go_at_fn g; refine HC.out.mono ?_; rintro e w2 ⟨rfl, hb⟩)
        have HX := same w2 hb (.inl hq)
        have HB2 := Aside0.mk (below_step HB.out hb)
        clear same hb hq
        go_wp2
        go_roundg (n - (kk + 1))
        case measure => omega
        case rel => exact ⟨kk + 1, by omega, by omega, by go_num, HB2, HX⟩
      | false =>
        rw [hq] at hcall
        have HC := Lib.hid hcall
        clear hcall
        go_upto_region 6 with (go_at_fn g; refine HC.out.mono ?_; rintro e w2 ⟨rfl, hb⟩)
        have HF2 : Aside0 (Buf w.heap.size (tpart q kk (bytesOf a0)) w2) := ⟨by
          refine HF.out.blk (hb.block _ ?_)
          exact Buf.lt HF.out⟩
        have hcell0 := HF2.out.cell kk HLEN.out
        have hfree := HF2.out.free kk HLEN.out
        rw [HAT.out] at hcell0
        have HB2 := Aside0.mk (below_step HB.out hb)
        by_cases c1 : 97 ≤ y
        · have d1 : decide (97 ≤ y) = true := decide_eq_true c1
          by_cases c2 : y ≤ 122
          · have d2 : decide (y ≤ 122) = true := decide_eq_true c2
            have hw1 : IntKind.u8.wrap (y - 97) = y - 97 := wrapU8 _ (by omega) (by omega)
            have hw2 : IntKind.u8.wrap (y - 97 + 65) = y - 32 := by rw [wrapU8 _ (by omega) (by omega)]; omega
            have HX : Aside0 (Buf w.heap.size (tpart q (kk + 1) (bytesOf a0)) (w2.setCell ⟨w.heap.size, kk, none⟩ (.int .u8 (y - 32)))) := ⟨by
              have hs := HSET.out
              rw [hq, if_neg Bool.false_ne_true, show S.oc y = y - 32 from by unfold S.oc; rw [if_pos ⟨c1, c2⟩]] at hs
              rw [← hs]
              exact HF2.out.set kk _ HLEN.out⟩
            clear c1 c2 hx0 hx1 same hb hq
            go_wp2
            go_roundg (n - (kk + 1))
            case measure => omega
            case rel => exact ⟨kk + 1, by omega, by omega, by go_num, ⟨below_set HB2.out (Nat.le_refl _)⟩, HX⟩
          · have d2 : decide (y ≤ 122) = false := decide_eq_false c2
            have d3 : decide (65 ≤ y) = true := decide_eq_true (by omega)
            have d4 : decide (y ≤ 90) = false := decide_eq_false (by omega)
            have HX := same w2 hb (.inr (by unfold S.oc; rw [if_neg (by omega), if_neg (by omega)]))
            clear c1 c2 hx0 hx1 same hb hq
            go_wp2
            go_roundg (n - (kk + 1))
            case measure => omega
            case rel => exact ⟨kk + 1, by omega, by omega, by go_num, HB2, HX⟩
        · have d1 : decide (97 ≤ y) = false := decide_eq_false c1
          by_cases c3 : 65 ≤ y
          · have d3 : decide (65 ≤ y) = true := decide_eq_true c3
            by_cases c4 : y ≤ 90
            · have d4 : decide (y ≤ 90) = true := decide_eq_true c4
              have hw1 : IntKind.u8.wrap (y - 65) = y - 65 := wrapU8 _ (by omega) (by omega)
              have hw2 : IntKind.u8.wrap (y - 65 + 97) = y + 32 := by rw [wrapU8 _ (by omega) (by omega)]; omega
              have HX : Aside0 (Buf w.heap.size (tpart q (kk + 1) (bytesOf a0)) (w2.setCell ⟨w.heap.size, kk, none⟩ (.int .u8 (y + 32)))) := ⟨by
                have hs := HSET.out
                rw [hq, if_neg Bool.false_ne_true, show S.oc y = y + 32 from by unfold S.oc; rw [if_neg (by omega), if_pos ⟨c3, c4⟩]] at hs
                rw [← hs]
                exact HF2.out.set kk _ HLEN.out⟩
              clear c1 c3 c4 hx0 hx1 same hb hq
              go_wp2
              go_roundg (n - (kk + 1))
              case measure => omega
              case rel => exact ⟨kk + 1, by omega, by omega, by go_num, ⟨below_set HB2.out (Nat.le_refl _)⟩, HX⟩
            · have d4 : decide (y ≤ 90) = false := decide_eq_false c4
              have HX := same w2 hb (.inr (by unfold S.oc; rw [if_neg (by omega), if_neg (by omega)]))
              clear c1 c3 c4 hx0 hx1 same hb hq
              go_wp2
              go_roundg (n - (kk + 1))
              case measure => omega
              case rel => exact ⟨kk + 1, by omega, by omega, by go_num, HB2, HX⟩
          · have d3 : decide (65 ≤ y) = false := decide_eq_false c3
            have HX := same w2 hb (.inr (by unfold S.oc; rw [if_neg (by omega), if_neg (by omega)]))
            clear c1 c3 hx0 hx1 same hb hq
            go_wp2
            go_roundg (n - (kk + 1))
            case measure => omega
            case rel => exact ⟨kk + 1, by omega, by omega, by go_num, HB2, HX⟩
    · obtain rfl : kk = n := by omega
      have HR : Aside0 (Buf w.heap.size (S.turn q 0 (bytesOf a0)) wr) := ⟨by have := HF.out; rw [← HN.out, tpart_all] at this; exact this⟩
      have hconv := fun c => HKC.out wr c (by have := HR.out.reads (by rw [S.turn_len]; have := HN.out; omega); rw [S.turn_len, HN.out] at this; exact this)
      go_wp2
      go_ret
      exact ⟨rfl, HB.out⟩
end Go.Proofs.YtkkpjonfaflkmaaGreatDoor.T

namespace Go.Proofs.YtkkpjonfaflkmaaGreatDoor.T
set_option linter.unusedSimpArgs false
set_option linter.unusedVariables false
open Go.RowKit Go.Proofs.YtkkpjonfaflkmaaGreatDoorW.PrintWords Go.Proofs.YtkkpjonfaflkmaaGreatDoorW.PrintLast Go.Proofs.YtkkpjonfaflkmaaGreatDoorW.PrintMore
structure But (A : Nat → Prop) (w w' : World) : Prop where
  os : w'.os = w.os
  tape : w'.tape = w.tape
  output : w'.output = w.output
  size : w.heap.size ≤ w'.heap.size
  block : ∀ k, k < w.heap.size → ¬ A k → w'.heap[k]? = w.heap[k]?
theorem But.refl (A : Nat → Prop) (w : World) : But A w w := ⟨rfl, rfl, rfl, Nat.le_refl _, fun _ _ _ => rfl⟩
theorem But.trans {A B C : Nat → Prop} {w w' w'' : World} (h : But A w w') (h' : But B w' w'') (hA : ∀ k, k < w.heap.size → A k → C k) (hB : ∀ k, k < w.heap.size → B k → C k) : But C w w'' :=
  ⟨h'.os.trans h.os, h'.tape.trans h.tape, h'.output.trans h.output, Nat.le_trans h.size h'.size, fun k hk hc => (h'.block k (Nat.lt_of_lt_of_le hk h.size) (fun e => hc (hB k hk e))).trans (h.block k hk (fun e => hc (hA k hk e)))⟩
theorem But.trans' {A : Nat → Prop} {w w' w'' : World} (h : But A w w') (h' : But A w' w'') : But A w w'' := h.trans h' (fun _ _ e => e) (fun _ _ e => e)
theorem But.mono {A B : Nat → Prop} {w w' : World} (h : But A w w') (hA : ∀ k, k < w.heap.size → A k → B k) : But B w w' := ⟨h.os, h.tape, h.output, h.size, fun k hk hb => h.block k hk (fun e => hb (hA k hk e))⟩
theorem But.of_below {A : Nat → Prop} {w w' : World} (h : Below w.heap.size w w') : But A w w' := ⟨h.os, h.tape, h.output, h.size, fun k hk _ => h.block k hk⟩
theorem But.below {w w' : World} (h : But (fun _ => False) w w') : Below w.heap.size w w' := ⟨h.os, h.tape, h.output, h.size, fun k hk => h.block k hk (fun e => e)⟩
theorem But.belowB {A : Nat → Prop} {B : Nat} {w w' : World} (h : But A w w') (hB : B ≤ w.heap.size) (hA : ∀ k, k < B → ¬ A k) : Below B w w' := ⟨h.os, h.tape, h.output, h.size, fun k hk => h.block k (by omega) (hA k hk)⟩
theorem But.then {A : Nat → Prop} {w w' w'' : World} (h : But A w w') (h' : Below w'.heap.size w' w'') : But A w w'' := h.trans' (.of_below h')
theorem But.set {A : Nat → Prop} {w w' : World} (h : But A w w') (a : Addr) (v : Value) (ha : A a.block) : But A w (w'.setCell a v) := by
  have hg : w'.grownBy (w'.setCell a v) (some a.block) := ⟨rfl, rfl, rfl, by simp [World.setCell], fun k _ hk => Below.heap_setCell w' a v k (fun e => hk (by rw [e]))⟩
  exact ⟨hg.os.trans h.os, hg.tape.trans h.tape, hg.output.trans h.output, Nat.le_trans h.size hg.size, fun k hk hn => (hg.block k (Nat.lt_of_lt_of_le hk h.size) (fun e => hn (by cases e; exact ha))).trans (h.block k hk hn)⟩
theorem But.drewN {A : Nat → Prop} {w w' : World} (h : But A w w') (n : Nat) : But A w (w'.drewN n) := ⟨h.os, h.tape, h.output, h.size, h.block⟩
theorem But.drew {A : Nat → Prop} {w w' : World} (h : But A w w') : But A w w'.drew := ⟨h.os, h.tape, h.output, h.size, h.block⟩
theorem But.drawn {A : Nat → Prop} {w w' w'' : World} (h : But A w w') (hd : Drawn0 w' w'') : But A w w'' := by obtain ⟨n, rfl⟩ := hd.out; exact h.drewN n
theorem But.alloc {A : Nat → Prop} {w w' : World} (h : But A w w') (o : Obj) : But A w (w'.alloc o) := h.then (below_alloc (Below.refl _ _) o)
end Go.Proofs.YtkkpjonfaflkmaaGreatDoor.T

namespace Go.Proofs.YtkkpjonfaflkmaaGreatDoor.T
set_option linter.unusedSimpArgs false
set_option linter.unusedVariables false
open Go.RowKit Go.Proofs.YtkkpjonfaflkmaaGreatDoorW.PrintWords Go.Proofs.YtkkpjonfaflkmaaGreatDoorW.PrintLast Go.Proofs.YtkkpjonfaflkmaaGreatDoorW.PrintMore
structure TabOK (w : World) : Prop where
  most : ∃ m, w.cell? ⟨0, 0, none⟩ = some (.int .i64 m)
  space : Lib.TabIs Tryz.prog w "strings.asciiSpace" .u8 Lib.asciiSpaceTab
  white : Lib.WhiteTab 2 w
theorem TabOK.of_below {w w' : World} (h : TabOK w) (hb : Below w.heap.size w w') : TabOK w' where
  most := by
    obtain ⟨m, hm⟩ := h.most
    exact ⟨m, pw_cell_below hb hm⟩
  space := by
    have h := h.space
    have hgn : Tryz.prog.globalNamed "strings.asciiSpace" = some 1 := by kernel_rfl
    unfold Lib.TabIs World.var? at h ⊢
    rw [hgn] at h ⊢
    simp only [Option.bind_some] at h ⊢
    have hlt : 1 < w.heap.size := by
      rcases Nat.lt_or_ge 1 w.heap.size with h' | h'
      · exact h'
      · rw [Array.getElem?_eq_none h'] at h; cases h
    rw [hb.block 1 hlt]
    exact h
  white := WhiteTab_below h.white hb
theorem tabIs_of_reads {P : Program} {W : World} {name : String} {k : IntKind} {zs : List Int} {g : Nat} {t e : TypeId} {n : Nat}
    (hg : P.globalNamed name = some g) (hty : (P.globals[g]?).map (·.type) = some t) (ht : P.underlying t = some (.array n e)) (he : P.underlying e = some (.int k)) (hce : P.cellsOf e = 1) (hct : P.cellsOf t = n)
    (h : Lib.VarReads P W name (Lib.tabData k zs)) : Lib.TabIs P W name k zs := by
  obtain ⟨g', t', cs, fuel, p, hg', ht', hvar, hd⟩ := h
  obtain rfl := Option.some.inj (hg.symm.trans hg')
  obtain rfl := Option.some.inj (hty.symm.trans ht')
  unfold Lib.TabIs
  rw [hvar, ← Lib.cells_of_tab ht he hce hct hd]
theorem tabOK_of (W : World) (hsh : W.ShapedOpen Tryz.prog) (h1 : Lib.VarReads Tryz.prog W "strings.asciiSpace" (Lib.tabData .u8 Lib.asciiSpaceTab)) (h2 : Lib.VarReads Tryz.prog W "unicode.White_Space" Lib.whiteData) : TabOK W where
  most := Tryz.laysM155.s1_3 W hsh
  space := tabIs_of_reads (g := 1) (t := 146) (e := 5) (n := 256) (by kernel_rfl) (by kernel_rfl) (by kernel_rfl) Tryz.underlying5 (by kernel_rfl) (by kernel_rfl) h1
  white := whiteTab_of_reads Tryz.lays199 ⟨by kernel_rfl, by kernel_rfl, by kernel_rfl, by kernel_rfl, by kernel_rfl, by kernel_rfl, by kernel_rfl, by kernel_rfl⟩ h2
end Go.Proofs.YtkkpjonfaflkmaaGreatDoor.T

namespace Go.Proofs.YtkkpjonfaflkmaaGreatDoor.T
set_option linter.unusedSimpArgs false
set_option linter.unusedVariables false
open Go.RowKit Go.Proofs.YtkkpjonfaflkmaaGreatDoorW.PrintWords Go.Proofs.YtkkpjonfaflkmaaGreatDoorW.PrintLast Go.Proofs.YtkkpjonfaflkmaaGreatDoorW.PrintMore
def strings_IndexByte.f (a0 : ByteArray) (a1 : Int) : Option Int := some (Lib.indexByte a0.data.toList a1.toNat.toUInt8)
theorem strings_IndexByte.calls (a0 : ByteArray) (a1 : Int) (r : Int) (w : World) (h : strings_IndexByte.f a0 a1 = some r) :
    Calls Tryz.prog 93 #[.string a0, .int .u8 a1] w fun e w' => e = .returned (.int .i64 r) ∧ Drawn0 w w' := by
  obtain rfl := Option.some.inj h
  refine (Tryz.strings_IndexByte a0 a1 w).mono ?_
  rintro e w' ⟨rfl, rfl⟩
  exact ⟨rfl, .refl _⟩
def strings_HasPrefix.f (a0 a1 : ByteArray) : Option Bool := some (Lib.hasPrefix a0.data.toList a1.data.toList)
theorem strings_HasPrefix.calls (a0 a1 : ByteArray) (r : Bool) (w : World) (h : strings_HasPrefix.f a0 a1 = some r) :
    Calls Tryz.prog 123 #[.string a0, .string a1] w fun e w' => e = .returned (.bool r) ∧ Drawn0 w w' := by
  obtain rfl := Option.some.inj h
  refine (Tryz.strings_HasPrefix a0 a1 w).mono ?_
  rintro e w' ⟨rfl, rfl⟩
  exact ⟨rfl, .refl _⟩
def strings_Count.f (a0 a1 : ByteArray) : Option Int :=
  match a1 with
  | ⟨⟨[c]⟩⟩ => some (Lib.countByte a0.data.toList c)
  | _ => none
theorem strings_Count.calls (a0 a1 : ByteArray) (r : Int) (w : World) (h : strings_Count.f a0 a1 = some r) :
    Calls Tryz.prog 77 #[.string a0, .string a1] w fun e w' => e = .returned (.int .i64 r) ∧ Drawn0 w w' := by
  unfold strings_Count.f at h
  split at h
  · next c =>
    obtain rfl := Option.some.inj h
    refine (Tryz.strings_Count_one a0 c w).mono ?_
    rintro e w' ⟨rfl, rfl⟩
    exact ⟨rfl, .refl _⟩
  · cases h
def strings_TrimRight.f (a0 a1 : ByteArray) : Option ByteArray :=
  if a0.size ≤ 100000 ∧ a1.size ≤ 1000 ∧ a1.data.toList.all (fun b => decide (b.toNat < 128)) = true then some ⟨(Lib.trimRightS a0.data.toList a1.data.toList).toArray⟩ else none
theorem ascii_all (a1 : ByteArray) (h : a1.data.toList.all (fun b => decide (b.toNat < 128)) = true) : ∀ (j : Nat) b, a1.data.toList[j]? = some b → b.toNat < 128 := fun j b hb =>
  of_decide_eq_true (List.all_eq_true.1 h b (List.mem_of_getElem? hb))
theorem strings_TrimRight.calls (a0 a1 : ByteArray) (r : ByteArray) (w : World) (h : strings_TrimRight.f a0 a1 = some r) :
    Calls Tryz.prog 127 #[.string a0, .string a1] w fun e w' => e = .returned (.string r) ∧ Below w.heap.size w w' := by
  unfold strings_TrimRight.f at h
  split at h
  · next hc =>
    obtain rfl := Option.some.inj h
    exact Any.strings_TrimRight_laid Tryz.lays162 (by kernel_rfl) a0 a1 w (by omega) (by omega) (ascii_all a1 hc.2.2)
  · cases h
def strings_Trim.f (a0 a1 : ByteArray) : Option ByteArray :=
  if a0.size ≤ 100000 ∧ a1.size ≤ 1000 ∧ a1.data.toList.all (fun b => decide (b.toNat < 128)) = true then some ⟨(Lib.trimS a0.data.toList a1.data.toList).toArray⟩ else none
theorem strings_Trim.calls (a0 a1 : ByteArray) (r : ByteArray) (w : World) (h : strings_Trim.f a0 a1 = some r) :
    Calls Tryz.prog 128 #[.string a0, .string a1] w fun e w' => e = .returned (.string r) ∧ Below w.heap.size w w' := by
  unfold strings_Trim.f at h
  split at h
  · next hc =>
    obtain rfl := Option.some.inj h
    exact Any.strings_Trim_laid Tryz.lays160 (by kernel_rfl) a0 a1 w (by omega) (by omega) (ascii_all a1 hc.2.2)
  · cases h
def strings_ReplaceAll.f (a0 a1 a2 : ByteArray) : Option ByteArray :=
  if a0.size ≤ 100000 ∧ 1 ≤ a1.size ∧ a0.size + Lib.countB a0 a1 * a2.size ≤ 100000000 then some ⟨(Lib.replaceAll a0.data.toList a1.data.toList a2.data.toList).toArray⟩ else none
theorem strings_ReplaceAll.calls (a0 a1 a2 : ByteArray) (r : ByteArray) (w : World) (hT : TabOK w) (h : strings_ReplaceAll.f a0 a1 a2 = some r) :
    Calls Tryz.prog 105 #[.string a0, .string a1, .string a2] w fun e w' => e = .returned (.string r) ∧ Below w.heap.size w w' := by
  unfold strings_ReplaceAll.f at h
  split at h
  · next hc =>
    obtain rfl := Option.some.inj h
    obtain ⟨m, hm⟩ := hT.most
    exact Tryz.strings_ReplaceAll a0 a1 a2 m w (by omega) hm hc.2.1 (by omega)
  · cases h
def strings_Cut.f (a0 a1 : ByteArray) : Option (ByteArray × ByteArray × Bool) :=
  if a0.size ≤ 100000 then some (⟨(Lib.cut a0.data.toList a1.data.toList).1.toArray⟩, ⟨(Lib.cut a0.data.toList a1.data.toList).2.1.toArray⟩, (Lib.cut a0.data.toList a1.data.toList).2.2) else none
theorem strings_Cut.calls (a0 a1 : ByteArray) (r1 r2 : ByteArray) (r3 : Bool) (w : World) (hT : TabOK w) (h : strings_Cut.f a0 a1 = some (r1, r2, r3)) :
    Calls Tryz.prog 61 #[.string a0, .string a1] w fun e w' => e = .returned (.tuple #[.string r1, .string r2, .bool r3]) ∧ Drawn0 w w' := by
  unfold strings_Cut.f at h
  split at h
  · next hc =>
    have h := Option.some.inj h
    simp only [Prod.mk.injEq] at h
    obtain ⟨rfl, rfl, rfl⟩ := h
    obtain ⟨m, hm⟩ := hT.most
    refine (Tryz.strings_Cut a0 a1 m w (by omega) hm).mono ?_
    rintro e w' ⟨rfl, n, rfl⟩
    exact ⟨rfl, ⟨⟨n, rfl⟩⟩⟩
  · cases h
end Go.Proofs.YtkkpjonfaflkmaaGreatDoor.T

namespace Go.Proofs.YtkkpjonfaflkmaaGreatDoor.T
set_option linter.unusedSimpArgs false
set_option linter.unusedVariables false
open Go.RowKit Go.Proofs.YtkkpjonfaflkmaaGreatDoorW.PrintWords Go.Proofs.YtkkpjonfaflkmaaGreatDoorW.PrintLast Go.Proofs.YtkkpjonfaflkmaaGreatDoorW.PrintMore
def nums (l : List UInt8) : List Int := l.map fun b => (b.toNat : Int)
theorem bytesOf_nums (s : ByteArray) : bytesOf s = nums s.data.toList := rfl
theorem u8_inj {a b : UInt8} (h : (a.toNat : Int) = (b.toNat : Int)) : a = b := UInt8.toNat_inj.1 (by omega)
theorem nums_inj : ∀ {a b : List UInt8}, nums a = nums b → a = b
  | [], [], _ => rfl
  | [], _ :: _, h => by simp [nums] at h
  | _ :: _, [], h => by simp [nums] at h
  | x :: a, y :: b, h => by
    simp only [nums, List.map_cons, List.cons.injEq] at h
    rw [u8_inj h.1, nums_inj (a := a) (b := b) h.2]
theorem bytesOf_inj {a b : ByteArray} (h : bytesOf a = bytesOf b) : a = b := by
  apply ByteArray.ext
  apply Array.toList_inj.1
  exact nums_inj h
theorem str_eq (s : ByteArray) (l : List UInt8) : (s.toList == l) = decide (bytesOf s = nums l) := by
  rw [Lib.toList_data, bytesOf_nums]
  by_cases h : s.data.toList = l
  · subst h; simp
  · have h2 : ¬ nums s.data.toList = nums l := fun e => h (nums_inj e)
    simp [h, h2]
theorem str_empty (s : ByteArray) : (s.toList == ([] : List UInt8)) = decide (bytesOf s = []) := str_eq s []
theorem bytesOf_rest (s : ByteArray) (k : Nat) : bytesOf (s.extract k s.size) = (bytesOf s).drop k := by
  simp only [bytesOf]
  rw [ByteArray.data_extract, Array.toList_extract, List.extract_eq_take_drop, List.take_of_length_le (by rw [List.length_drop, data_length]; exact Nat.le_refl _), List.map_drop]
theorem bytesOf_extract (s : ByteArray) (i j : Nat) : bytesOf (s.extract i j) = ((bytesOf s).drop i).take (j - i) := by
  simp only [bytesOf]
  rw [ByteArray.data_extract, Array.toList_extract, List.extract_eq_take_drop, List.map_take, List.map_drop]
theorem bytesOf_append (a b : ByteArray) : bytesOf (a ++ b) = bytesOf a ++ bytesOf b := by
  simp only [bytesOf]
  rw [ByteArray.data_append, Array.toList_append, List.map_append]
theorem prefix_nums : ∀ (p l : List UInt8), p.isPrefixOf l = (nums p).isPrefixOf (nums l)
  | [], _ => rfl
  | _ :: _, [] => rfl
  | x :: p, y :: l => by
    show (x == y && p.isPrefixOf l) = (((x.toNat : Int) == (y.toNat : Int)) && (nums p).isPrefixOf (nums l))
    rw [prefix_nums p l]
    congr 1
    by_cases h : x = y
    · subst h; simp
    · have : ¬ (x.toNat : Int) = (y.toNat : Int) := fun e => h (u8_inj e)
      rw [beq_eq_false_iff_ne.2 h, beq_eq_false_iff_ne.2 this]
theorem hasPrefix_nums (s p : ByteArray) : Lib.hasPrefix s.data.toList p.data.toList = (bytesOf p).isPrefixOf (bytesOf s) := prefix_nums _ _
theorem st2_prefix (a b : UInt8) (xs : List Int) : ([(a.toNat : Int), (b.toNat : Int)] : List Int).isPrefixOf xs = S.st2 a.toNat b.toNat xs := by
  rcases xs with _ | ⟨c, _ | ⟨d, t⟩⟩
  · rfl
  · simp [S.st2, List.isPrefixOf]
  · simp only [S.st2, List.isPrefixOf, Bool.and_true]
    by_cases h1 : c = (a.toNat : Int) <;> by_cases h2 : d = (b.toNat : Int) <;> simp [h1, h2] <;> omega
theorem prefix2.calls (rs : ByteArray) (a b : UInt8) (r : Bool) (hr : S.st2 a.toNat b.toNat (bytesOf rs) = r) (W : World) :
    Calls Tryz.prog 123 #[.string rs, .string ⟨#[a, b]⟩] W fun e W' => e = .returned (.bool r) ∧ W' = W := by
  have h := Tryz.strings_HasPrefix rs ⟨#[a, b]⟩ W
  rw [hasPrefix_nums] at h
  have e : bytesOf ⟨#[a, b]⟩ = [(a.toNat : Int), (b.toNat : Int)] := rfl
  rw [e, st2_prefix, hr] at h
  exact h
theorem first_byte (rs : ByteArray) (y : Int) (t : List Int) (h : bytesOf rs = y :: t) : ∃ hz : 0 < rs.size, ((rs[0]'hz).toNat : Int) = y := by
  have hz : 0 < rs.size := by rw [← bytesOf_length, h]; simp
  refine ⟨hz, ?_⟩
  have h1 := bt_getD rs 0 hz
  rw [h] at h1
  have h2 : bt rs ((0 : Nat) : Int) = ((rs[0]'hz).toNat : Int) := by simp [bt, hz]
  rw [h2] at h1
  simpa using h1
theorem nth_byte (rs : ByteArray) (k : Nat) (hz : k < rs.size) : ((rs[k]'hz).toNat : Int) = (bytesOf rs).getD k 0 := by
  have h1 := bt_getD rs k hz
  have h2 : bt rs (k : Int) = ((rs[k]'hz).toNat : Int) := by simp [bt, hz]
  rw [h2] at h1
  exact h1
theorem w64 (x : Int) (h0 : -9223372036854775808 ≤ x) (h1 : x ≤ 9223372036854775807) : IntKind.i64.wrap x = x := (i64_w _).trans (by unfold wrap64; omega)
theorem bytesOf_str (L : List Int) (h : ∀ x ∈ L, 0 ≤ x ∧ x < 256) : bytesOf (strOfNums L) = L := by
  have e : (strOfNums L).data.toList = L.map fun x => UInt8.ofNat x.toNat := by simp [strOfNums]
  rw [bytesOf_nums, e]
  unfold nums
  rw [List.map_map]
  refine (List.map_congr_left fun x hx => ?_).trans (List.map_id L)
  obtain ⟨h0, h1⟩ := h x hx
  simp only [Function.comp_apply]
  rw [UInt8.toNat_ofNat_of_lt' (by simp [UInt8.size]; omega)]
  show ((x.toNat : Nat) : Int) = x
  omega
theorem wp_region_cls {P : Program} {id : Nat} {Q : Exit → Act → World → Prop} {a : Act} {w : World} {l : List Oper} (C : World → Prop) (hm : P.follows .mixedOrders = true) (hB : Region.lexB .any l.toArray = true) (hC : C w.drew)
    (h : wpQuiet P l.toArray C (fun a' => ∀ w', C w' → Q .normal a' w') l a) : (Code.region id l.toArray true).wp P Q a w :=
  wp_region_quiet (C := C) hm hB hC (by simpa using h)
structure ScC (s : Nat) (src : ByteArray) (i line : Int) (m : Value) (w : World) where
  world : World
  sc : Sc s src i line m world
  but : But (· = s) w world
theorem ScC.c0 {s : Nat} {src : ByteArray} {i line : Int} {m : Value} {w : World} (x : ScC s src i line m w) : x.world.cell? ⟨s, 0, none⟩ = some (.string src) := x.sc.c0
theorem ScC.c1 {s : Nat} {src : ByteArray} {i line : Int} {m : Value} {w : World} (x : ScC s src i line m w) : x.world.cell? ⟨s, 1, none⟩ = some (.int .i64 i) := x.sc.c1
theorem ScC.c2 {s : Nat} {src : ByteArray} {i line : Int} {m : Value} {w : World} (x : ScC s src i line m w) : x.world.cell? ⟨s, 2, none⟩ = some (.int .i64 line) := x.sc.c2
theorem ScC.c3 {s : Nat} {src : ByteArray} {i line : Int} {m : Value} {w : World} (x : ScC s src i line m w) : x.world.cell? ⟨s, 3, none⟩ = some m := x.sc.c3
theorem ScC.ret {s : Nat} {src : ByteArray} {i line : Int} {m : Value} {w w' : World} (x : ScC s src i line m w) (hb : Below x.world.heap.size x.world w') : ∃ y : ScC s src i line m w, w' = y.world := ⟨⟨w', x.sc.below hb, x.but.then hb⟩, rfl⟩
end Go.Proofs.YtkkpjonfaflkmaaGreatDoor.T
