/- Part 20 of the proof of ScanBack: the functions that it calls return what their plain descriptions say. -/
import Derived.Test.YtkkpjonfaflkmaaGreatDoorCScanBack19
import Derived.Test.YtkkpjonfaflkmaaGreatDoorCScanBack14
import Derived.Test.YtkkpjonfaflkmaaGreatDoorCScanBack18
import Derived.Test.YtkkpjonfaflkmaaGreatDoorCScanBack12

namespace Go.Proofs.YtkkpjonfaflkmaaGreatDoor.S
set_option linter.unusedSimpArgs false
set_option linter.unusedVariables false
theorem Good.step {x : KT} (h : Good x) : step (spk x) = .tok x.1 x.2 (spk x).length := h.1
theorem Good.ne {x : KT} (h : Good x) : spk x ≠ [] := fun e => by
  have := h.1
  rw [e] at this
  cases this
theorem Good.no10 {x : KT} (h : Good x) : (10 : Int) ∉ spk x := by
  have := (tok_no10 h.1).1
  rwa [List.take_length] at this
theorem good_spl {l : List KT} (h : ∀ x ∈ l, Good x) : (∀ x ∈ spl l, 0 ≤ x ∧ x < 256) ∧ (10 : Int) ∉ spl l ∧ ((3, [59]) : KT) ∉ l := by
  refine ⟨fun y hy => ?_, fun hy => ?_, fun hy => (h _ hy).2.1 rfl⟩
  · obtain ⟨x, hx, hy⟩ := List.mem_flatMap.1 hy
    exact (h x hx).2.2 y hy
  · obtain ⟨x, hx, hy⟩ := List.mem_flatMap.1 hy
    exact (h x hx).no10 hy
theorem good_iff {l : List KT} (h : ∀ x ∈ l, Good x) : mergS l = false ↔ Rd l := by
  obtain ⟨h1, h2, h3⟩ := good_spl h
  exact mergS_iff h1 h2 h3
theorem good_last {x : KT} (h : Good x) (hl : (spk x).getLast? = some 47) : x = (3, [47]) ∨ x = (3, [47, 47]) := by
  obtain ⟨k, t⟩ := x
  have hs := h.1
  obtain ⟨c, r, e, c1, c2, c3, hk⟩ := step_kinds hs
  rcases hk with ⟨rfl, hq, hl2⟩ | ⟨rfl, -, hc, hs⟩ | ⟨rfl, hq, hc, hs⟩
  · exfalso
    rw [spk_two] at hl
    unfold quote at hl
    rw [← List.cons_append, List.getLast?_concat] at hl
    simp only [Option.some.injEq] at hl
    rcases qOf_or t with e | e <;> omega
  · exfalso
    rw [spk_ne (by decide)] at hl hs e
    obtain ⟨g1, g2, g3⟩ := symTok_inv hs
    obtain ⟨M, S, e3, hM, hS, hor⟩ := symLen_parts t
    rw [← g1] at hor
    rcases hor with ⟨hl2, hx⟩ | ⟨g, D, T, rfl, hm, hg, hD, hd, hT, hl2⟩
    · have : t = M := by
        have h1 : S.length = 0 := by have := congrArg List.length e3; rw [List.length_append] at this; omega
        rw [e3, List.length_eq_zero_iff.1 h1, List.append_nil]
      rw [this] at hl
      have := hM 47 (List.mem_of_getLast? hl)
      cases this
    · have : t = M ++ g :: D := by
        have h1 : T.length = 0 := by have := congrArg List.length e3; simp only [List.length_append, List.length_cons] at this; omega
        rw [e3, List.length_eq_zero_iff.1 h1, List.append_nil]
      rw [this] at hl
      rcases List.eq_nil_or_concat D with rfl | ⟨D', d, rfl⟩
      · exact hD rfl
      · rw [List.concat_eq_append, show M ++ g :: (D' ++ [d]) = (M ++ g :: D') ++ [d] by simp, List.getLast?_concat] at hl
        simp only [Option.some.injEq] at hl
        subst hl
        have := hd 47 (by simp)
        cases this
  · rw [spk_ne (by decide)] at hl hs
    obtain ⟨g1, g2, g3⟩ := signTok_inv hs
    have key : ∀ p ∈ signs, p.getLast? = some 47 → p = [47] ∨ p = [47, 47] := by decide
    rcases key t g1 hl with rfl | rfl
    · exact .inl rfl
    · exact .inr rfl
theorem tok_neutral {x : KT} (h : Good x) {c : Int} (hc : Neutral c) (h47 : c = 47 → x ≠ (3, [47])) (R : List Int) : step (spk x ++ c :: R) = .tok x.1 x.2 (spk x).length := by
  by_cases e : c = 47 ∧ x = (3, [47, 47])
  · obtain ⟨rfl, rfl⟩ := e
    rfl
  · have := step_loc (A := spk x) (C := []) (R2 := []) (R3 := R) (x := x.2) (c := c) (k := x.1) hc (fun d _ _ e s h => by cases h) h.ne (fun hc47 _ hl => by
      rcases good_last h hl with e2 | e2
      · exact h47 hc47 e2
      · exact e ⟨hc47, e2⟩) (by rw [List.append_nil, List.append_nil]; exact h.1)
    exact this
theorem tok_slash (c : Int) (r : List Int) (h1 : c ≠ 47) (h2 : c ≠ 42) : step (47 :: c :: r) = .tok 3 [47] 1 := by
  have h47 : ((47 : Int) == c) = false := by simpa using Ne.symm h1
  have hs : signTok (47 :: c :: r) = .ok [47] 1 := by simp [signTok, signs, List.find?, List.isPrefixOf, h47]
  exact step_mk_sign (by decide) (by decide) (by simp [starts2, h2]) (by decide) (by decide) hs
theorem slash_apart {x y : Tk} (hx : Good (kt x)) (hy : Good (kt y)) (he : kt x = (3, [47])) (hs : SlOK x y) (hg : y.gap = false) : mergS [kt x, kt y] = false ∧ ∀ r : Tk, Good (kt r) → r.kind = 1 → mergS [kt r, kt x, kt y] = false := by
  obtain ⟨c, r, hcr⟩ : ∃ c r, spk (kt y) = c :: r := by
    cases h : spk (kt y) with
    | nil => exact absurd h hy.ne
    | cons c r => exact ⟨c, r, rfl⟩
  have hc := hs he hg c r hcr
  have h1 : Rd [kt x, kt y] := by
    refine ⟨?_, ?_, trivial⟩
    · rw [he]
      show step (47 :: spl [kt y]) = _
      rw [show spl [kt y] = spk (kt y) by simp [spl], hcr]
      exact tok_slash c r hc.1 hc.2
    · rw [show spl [] = [] from rfl, List.append_nil]; exact hy.1
  refine ⟨(good_iff fun z hz => ?_).2 h1, fun q hq hk => (good_iff fun z hz => ?_).2 ⟨?_, h1⟩⟩
  · simp only [List.mem_cons, List.not_mem_nil, or_false] at hz
    rcases hz with rfl | rfl
    · exact hx
    · exact hy
  · simp only [List.mem_cons, List.not_mem_nil, or_false] at hz
    rcases hz with rfl | rfl | rfl
    · exact hq
    · exact hx
    · exact hy
  · rw [show spl [kt x, kt y] = 47 :: spl [kt y] by rw [spl_cons, he]; rfl]
    refine tok_neutral hq (.inr (.inr (.inl rfl))) (fun _ e => ?_) _
    have : q.kind = 3 := congrArg Prod.fst e
    omega
def sepS : List Tk → Tk → Bool
  | [], _ => false
  | [p], x => mergS [kt p, kt x]
  | p :: r :: _, x => mergS [kt p, kt x] || (!p.gap && decide (r.kind = 1) && mergS [kt r, kt p, kt x])
def gapS (prev : List Tk) (x : Tk) : List Int := if prev = [] then [] else if x.gap = true then [32] else if sepS prev x = true then [47, 42, 42, 47] else []
def endS (prev : List Tk) : List Int := (if comma prev.reverse = true then [59] else []) ++ [10]
def wtail : List Tk → List Tk → List Int
  | prev, [] => endS prev
  | prev, x :: l => gapS prev x ++ (spk (kt x) ++ wtail (x :: prev) l)
theorem endS_head (prev : List Tk) (R : List Int) : ∃ c S, endS prev ++ R = c :: S ∧ (c = 10 ∨ c = 59) := by
  unfold endS
  split
  · exact ⟨59, _, rfl, .inr rfl⟩
  · exact ⟨10, _, rfl, .inl rfl⟩
theorem sepS_two {p x : Tk} {ps : List Tk} (h : sepS (p :: ps) x = false) : mergS [kt p, kt x] = false := by
  rcases ps with _ | ⟨r, ps⟩
  · exact h
  · exact (Bool.or_eq_false_iff.1 h).1
theorem sepS_three {p r x : Tk} {ps : List Tk} (h : sepS (p :: r :: ps) x = false) (hg : p.gap = false) (hk : r.kind = 1) : mergS [kt r, kt p, kt x] = false := by
  have := (Bool.or_eq_false_iff.1 h).2
  rw [hg, hk] at this
  simpa using this
theorem read_tok (prev : List Tk) (x : Tk) (l : List Tk) (h : ClsOK (prev.reverse ++ x :: l)) (R : List Int) : step (spk (kt x) ++ (wtail (x :: prev) l ++ R)) = .tok x.kind x.text (spk (kt x)).length := by
  have hx : Good (kt x) := h.good x (by simp)
  have hnl : ∀ {c : Int}, (c = 10 ∨ c = 59) → Neutral c := fun hc => by
    rcases hc with rfl | rfl
    · exact .inl rfl
    · exact .inr (.inl rfl)
  rcases l with _ | ⟨y, l⟩
  · obtain ⟨c, S, e, hc⟩ := endS_head (x :: prev) R
    show step (spk (kt x) ++ (endS (x :: prev) ++ R)) = _
    rw [e]
    exact tok_neutral hx (hnl hc) (fun e => by omega) S
  have hy : Good (kt y) := h.good y (by simp)
  show step (spk (kt x) ++ ((gapS (x :: prev) y ++ (spk (kt y) ++ wtail (y :: x :: prev) l)) ++ R)) = _
  unfold gapS
  rw [if_neg (by simp)]
  by_cases hyg : y.gap = true
  · rw [if_pos hyg]
    exact tok_neutral hx (.inr (.inr (.inr (.inl rfl)))) (fun e => by omega) _
  rw [if_neg hyg]
  have hyg : y.gap = false := by simpa using hyg
  by_cases hsep : sepS (x :: prev) y = true
  · rw [if_pos hsep]
    refine tok_neutral hx (.inr (.inr (.inl rfl))) (fun _ e => ?_) _
    have hsl := slash_at prev.reverse x y l h.sl
    obtain ⟨h1, h2⟩ := slash_apart hx hy e hsl hyg
    rcases prev with _ | ⟨r, prev⟩
    · have : mergS [kt x, kt y] = true := hsep
      rw [h1] at this; cases this
    · have hh : (mergS [kt x, kt y] || (!x.gap && decide (r.kind = 1) && mergS [kt r, kt x, kt y])) = true := hsep
      rw [h1, Bool.false_or] at hh
      simp only [Bool.and_eq_true, decide_eq_true_eq] at hh
      rw [h2 r (h.good r (by simp)) hh.1.2] at hh
      cases hh.2
  rw [if_neg hsep]
  have hsep : sepS (x :: prev) y = false := by simpa using hsep
  have hxy : Rd [kt x, kt y] := (good_iff fun z hz => by
    simp only [List.mem_cons, List.not_mem_nil, or_false] at hz
    rcases hz with rfl | rfl
    · exact hx
    · exact hy).1 (sepS_two hsep)
  have hst : step (spk (kt x) ++ spk (kt y)) = .tok x.kind x.text (spk (kt x)).length := by
    have := hxy.1
    rw [show spl [kt y] = spk (kt y) by simp [spl]] at this
    exact this
  have hneu : ∀ (c : Int) (S : List Int), Neutral c → step (spk (kt x) ++ (spk (kt y) ++ c :: S)) = .tok x.kind x.text (spk (kt x)).length := fun c S hc =>
    step_loc (A := spk (kt x)) (C := spk (kt y)) (R2 := []) (R3 := S) (x := x.text) (c := c) (k := x.kind) hc (fun d _ _ e s h => by cases h) hx.ne (fun _ e => absurd e hy.ne) (by rw [List.append_nil]; exact hst)
  rw [List.nil_append, List.append_assoc]
  rcases l with _ | ⟨z, l⟩
  · obtain ⟨c, S, e, hc⟩ := endS_head (y :: x :: prev) R
    show step (spk (kt x) ++ (spk (kt y) ++ (endS (y :: x :: prev) ++ R))) = _
    rw [e]
    exact hneu c S (hnl hc)
  have hz : Good (kt z) := h.good z (by simp)
  show step (spk (kt x) ++ (spk (kt y) ++ ((gapS (y :: x :: prev) z ++ (spk (kt z) ++ wtail (z :: y :: x :: prev) l)) ++ R))) = _
  unfold gapS
  rw [if_neg (by simp)]
  by_cases hzg : z.gap = true
  · rw [if_pos hzg]
    exact hneu 32 _ (.inr (.inr (.inr (.inl rfl))))
  rw [if_neg hzg]
  by_cases hsep2 : sepS (y :: x :: prev) z = true
  · rw [if_pos hsep2]
    exact hneu 47 _ (.inr (.inr (.inl rfl)))
  rw [if_neg hsep2, List.nil_append]
  have hsep2 : sepS (y :: x :: prev) z = false := by simpa using hsep2
  have hyl : 0 < (spk (kt y)).length := List.length_pos_iff.2 hy.ne
  have hzl : 0 < (spk (kt z)).length := List.length_pos_iff.2 hz.ne
  by_cases hk : x.kind = 1
  · have h3 := sepS_three hsep2 hyg hk
    have hr : Rd [kt x, kt y, kt z] := (good_iff fun u hu => by
      simp only [List.mem_cons, List.not_mem_nil, or_false] at hu
      rcases hu with rfl | rfl | rfl
      · exact hx
      · exact hy
      · exact hz).1 h3
    have hst3 : step (spk (kt x) ++ spl [kt y, kt z]) = .tok x.kind x.text (spk (kt x)).length := hr.1
    rw [show spl [kt y, kt z] = spk (kt y) ++ spk (kt z) by simp [spl]] at hst3
    have := step_behind (k := x.kind) hx.ne (show spk (kt y) ++ spk (kt z) ≠ [] by simp [hy.ne]) (fun _ => by rw [List.length_append]; omega) hst3 (wtail (z :: y :: x :: prev) l ++ R)
    simpa only [List.append_assoc] using this
  · exact step_behind (k := x.kind) hx.ne hy.ne (fun e => absurd e hk) hst _
theorem step_note (Z : List Int) : step (47 :: 42 :: 42 :: 47 :: Z) = .cmt 4 0 := by
  have hc : cmt (47 :: 42 :: 42 :: 47 :: Z) 0 0 1 0 = .done 4 1 0 := by simp [cmt]
  simp only [step]
  rw [if_neg (by decide), if_neg (by decide), if_pos (by rfl), hc]
  rfl
theorem read_gap (prev : List Tk) (x : Tk) (Z : List Int) (cur : List Tk) (hc : cur = [] ↔ prev = []) (hx : prev = [] → x.gap = false) (f i line : Nat) (hf : (gapS prev x ++ Z).length < f) :
    ∃ f' i' g, go f (gapS prev x ++ Z) i line cur false = go f' Z i' line cur g ∧ Z.length < f' ∧ (g && !decide (cur = [])) = x.gap := by
  unfold gapS at hf ⊢
  by_cases hp : prev = []
  · rw [if_pos hp] at hf ⊢
    exact ⟨f, i, false, rfl, hf, by rw [hx hp]; rfl⟩
  rw [if_neg hp] at hf ⊢
  have hcn : decide (cur = []) = false := decide_eq_false fun e => hp (hc.1 e)
  by_cases hg : x.gap = true
  · rw [if_pos hg] at hf ⊢
    obtain ⟨f, rfl⟩ : ∃ f', f = f' + 1 := ⟨f - 1, by simp at hf; omega⟩
    refine ⟨f, i + 1, true, ?_, by simp at hf; omega, by rw [hcn, hg]; rfl⟩
    have hs : step ([32] ++ Z) = .blank := by simp [step]
    rw [go, hs]
    rfl
  rw [if_neg hg] at hf ⊢
  have hg : x.gap = false := by simpa using hg
  by_cases hsp : sepS prev x = true
  · rw [if_pos hsp] at hf ⊢
    obtain ⟨f, rfl⟩ : ∃ f', f = f' + 1 := ⟨f - 1, by simp at hf; omega⟩
    refine ⟨f, i + 4, false, ?_, by simp at hf; omega, by rw [hg]; rfl⟩
    rw [go, show step ([47, 42, 42, 47] ++ Z) = .cmt 4 0 from step_note Z]
    rfl
  · rw [if_neg hsp] at hf ⊢
    exact ⟨f, i, false, rfl, hf, by rw [hg]; rfl⟩
theorem step_semi (R : List Int) : step (59 :: R) = .tok 3 [59] 1 := by
  have hs : signTok (59 :: R) = .ok [59] 1 := by simp [signTok, signs, List.find?, List.isPrefixOf]
  exact step_mk_sign (by decide) (by decide) (starts2_ne (by decide)) (by decide) (by decide) hs
theorem pre_pre (o : Out) (a b : List (List Tk)) : (o.pre a).pre b = o.pre (b ++ a) := by simp [Out.pre]
theorem emit_ne {cur : List Tk} (h : cur ≠ []) (i j l : Nat) : emit cur i j l = [cur ++ [endTk i j l]] := if_neg h
theorem go_lf (f : Nat) (R : List Int) (i line : Nat) (cur : List Tk) (hc : comma cur = false) : go (f + 1) (10 :: R) i line cur false = (go f R (i + 1) (line + 1) [] false).pre (emit cur i (i + 1) line) := by
  have hs : step (10 :: R) = .line := by simp [step]
  rw [go, hs]
  simp only
  rw [hc, if_neg (by decide)]
  rfl
theorem read_tail : ∀ (l prev : List Tk), prev.reverse ++ l ≠ [] → ClsOK (prev.reverse ++ l) → ∀ (R : List Int) (cur : List Tk), cur.map key = prev.reverse.map key → ∀ (f i line : Nat), (wtail prev l ++ R).length < f →
    ∃ cls f' i' line', go f (wtail prev l ++ R) i line cur false = (go f' R i' line' [] false).pre cls ∧ R.length < f' ∧ cls.flatten.map key = (prev.reverse ++ l).map key ++ [(4, [], false)]
  | [], prev, hne, h, R, cur, hk, f, i, line, hf => by
    rw [List.append_nil] at hne ⊢
    have hcn : cur ≠ [] := fun e => hne ((nil_key hk).1 e)
    have hkey : ∀ i j n, (emit cur i j n).flatten.map key = prev.reverse.map key ++ [(4, [], false)] := fun i j n => by
      rw [emit_ne hcn]
      simp only [List.flatten_cons, List.flatten_nil, List.append_nil, List.map_append, hk]
      rfl
    have hf2 : (endS prev ++ R).length < f := hf
    show ∃ cls f' i' line', go f (endS prev ++ R) i line cur false = _ ∧ _
    unfold endS at hf2 ⊢
    by_cases hc : comma prev.reverse = true
    · rw [if_pos hc] at hf2 ⊢
      obtain ⟨f, rfl⟩ : ∃ f', f = f' + 2 := ⟨f - 2, by simp at hf2; omega⟩
      refine ⟨emit cur i (i + 1) line, f, i + 1 + 1, line + 1, ?_, by simp at hf2; omega, hkey _ _ _⟩
      have hs : step (59 :: 10 :: R) = .tok 3 [59] 1 := step_semi (10 :: R)
      show go (f + 2) (59 :: 10 :: R) i line cur false = _
      rw [go, hs]
      simp only
      rw [if_pos (by decide)]
      show (go (f + 1) (10 :: R) (i + 1) line [] false).pre _ = _
      rw [go_lf f R (i + 1) line [] rfl]
      rw [pre_pre]
      simp [emit]
    · rw [if_neg hc] at hf2 ⊢
      obtain ⟨f, rfl⟩ : ∃ f', f = f' + 1 := ⟨f - 1, by simp at hf2; omega⟩
      refine ⟨emit cur i (i + 1) line, f, i + 1, line + 1, ?_, by simp at hf2; omega, hkey _ _ _⟩
      exact go_lf f R i line cur (by rw [comma_key hk]; simpa using hc)
  | x :: l, prev, hne, h, R, cur, hk, f, i, line, hf => by
    have hcp : cur = [] ↔ prev = [] := by
      rw [nil_key hk]; simp
    have hx : Good (kt x) := h.good x (by simp)
    have e1 : wtail prev (x :: l) ++ R = gapS prev x ++ (spk (kt x) ++ (wtail (x :: prev) l ++ R)) := by simp [wtail]
    rw [e1] at hf ⊢
    obtain ⟨f1, i1, g, h1, h2, h3⟩ := read_gap prev x (spk (kt x) ++ (wtail (x :: prev) l ++ R)) cur hcp (fun e => by subst e; exact h.hd x rfl) f i line hf
    rw [h1]
    obtain ⟨f1, rfl⟩ : ∃ f', f1 = f' + 1 := ⟨f1 - 1, by omega⟩
    have hst := read_tok prev x l h R
    have hns : ¬ (x.kind = 3 ∧ x.text = [59]) := fun e => hx.2.1 (Prod.ext e.1 e.2)
    have hkey : ∀ (a b c : Nat), (cur ++ [(⟨x.kind, x.text, x.gap, a, b, c⟩ : Tk)]).map key = (x :: prev).reverse.map key := fun a b c => by
      rw [List.map_append, hk, List.reverse_cons, List.map_append]; rfl
    have hlen : (wtail (x :: prev) l ++ R).length < f1 := by
      have : 0 < (spk (kt x)).length := List.length_pos_iff.2 hx.ne
      rw [List.length_append] at h2
      omega
    have hdr : (spk (kt x) ++ (wtail (x :: prev) l ++ R)).drop (spk (kt x)).length = wtail (x :: prev) l ++ R := List.drop_left
    rw [go, hst]
    simp only
    rw [if_neg hns, h3, hdr]
    by_cases hl : label (cur ++ [⟨x.kind, x.text, x.gap, line, i1, i1 + (spk (kt x)).length⟩]) = true
    · rw [if_pos hl]
      have hl2 := (label_key (hkey line i1 (i1 + (spk (kt x)).length))).symm.trans hl
      have hl0 : l = [] := by
        rcases l with _ | ⟨y, l⟩
        · rfl
        · have := h.lab (prev.length + 1) (by simp)
          rw [show prev.reverse ++ x :: y :: l = (x :: prev).reverse ++ (y :: l) by simp, List.take_left' (by simp), hl2] at this
          cases this
      subst hl0
      have hcm : comma (x :: prev).reverse = false := by
        generalize (x :: prev).reverse = m at hl2
        rcases m with _ | ⟨a, _ | ⟨b, _ | ⟨c, m⟩⟩⟩
        · rfl
        · cases hl2
        · simp only [label, Bool.and_eq_true, decide_eq_true_eq] at hl2
          simp [comma, hl2.2]
        · cases hl2
      have e2 : wtail (x :: prev) [] ++ R = 10 :: R := by
        show endS (x :: prev) ++ R = _
        unfold endS
        rw [hcm]; rfl
      rw [e2] at hlen ⊢
      obtain ⟨f1, rfl⟩ : ∃ f', f1 = f' + 1 := ⟨f1 - 1, by omega⟩
      rw [go_lf f1 R _ _ [] rfl, pre_pre]
      refine ⟨_, f1, _, _, rfl, by simp at hlen; omega, ?_⟩
      rw [emit_ne (by simp)]
      simp only [emit, if_true, List.append_nil, List.flatten_cons, List.flatten_nil]
      rw [List.map_append, hkey, List.reverse_cons]
      rfl
    · rw [if_neg hl]
      obtain ⟨cls, f2, i2, l2, g1, g2, g3⟩ := read_tail l (x :: prev) (by simp) (by simpa using h) R _ (hkey line i1 (i1 + (spk (kt x)).length)) f1 (i1 + (spk (kt x)).length) line hlen
      refine ⟨cls, f2, i2, l2, g1, g2, ?_⟩
      rw [g3]
      simp
def wcl (cls : List (List Tk)) : List Int := cls.flatMap fun cl => wtail [] cl.dropLast
theorem read_all : ∀ (cls : List (List Tk)), (∀ cl ∈ cls, ClOK cl) → ∀ (f i line : Nat), (wcl cls).length < f → (go f (wcl cls) i line [] false).err = none ∧ (go f (wcl cls) i line [] false).cl.flatten.map key = cls.flatten.map key
  | [], _, f, i, line, hf => by
    obtain ⟨f, rfl⟩ : ∃ f', f = f' + 1 := ⟨f - 1, by omega⟩
    exact ⟨rfl, rfl⟩
  | cl :: cls, h, f, i, line, hf => by
    obtain ⟨b, e, rfl, hb, hc, e1, e2, e3⟩ := h cl (by simp)
    have hw : wcl ((b ++ [e]) :: cls) = wtail [] b ++ wcl cls := by
      unfold wcl
      rw [List.flatMap_cons, List.dropLast_concat]
    rw [hw] at hf ⊢
    obtain ⟨c2, f2, i2, l2, g1, g2, g3⟩ := read_tail b [] (by simpa using hb) (by simpa using hc) (wcl cls) [] rfl f i line hf
    obtain ⟨k1, k2⟩ := read_all cls (fun cl hcl => h cl (by simp [hcl])) f2 i2 l2 g2
    rw [g1]
    refine ⟨k1, ?_⟩
    show (c2 ++ _).flatten.map key = _
    rw [List.flatten_append, List.map_append, g3, k2, List.flatten_cons, List.map_append, List.map_append]
    have : key e = (4, [], false) := by unfold key; rw [e1, e2, e3]
    simp [this]
theorem back {xs : List Int} (hb : ∀ x ∈ xs, 0 ≤ x ∧ x < 256) (he : (scan xs).err = none) : (scan (wcl (scan xs).cl)).err = none ∧ (tokens (wcl (scan xs).cl)).map key = (tokens xs).map key :=
  read_all _ (scan_cls hb he) _ _ _ (Nat.lt_succ_self _)
end Go.Proofs.YtkkpjonfaflkmaaGreatDoor.S

namespace Go.Proofs.YtkkpjonfaflkmaaGreatDoor.S
set_option linter.unusedSimpArgs false
set_option linter.unusedVariables false
theorem good_bytes {x : KT} (h : Good x) : ∀ y ∈ x.2, 0 ≤ y ∧ y < 256 := by
  intro y hy
  obtain ⟨k, t⟩ := x
  have hb := h.2.2
  by_cases e : k = 2
  · subst e
    rw [spk_two] at hb
    refine hb y ?_
    unfold quote dbl
    refine List.mem_cons_of_mem _ (List.mem_append_left _ (List.mem_flatMap.2 ⟨y, hy, ?_⟩))
    by_cases e : y = qOf t
    · rw [if_pos e, e]; simp
    · rw [if_neg e]; simp
  · rw [spk_ne e] at hb; exact hb y hy
def tsum (l : List Tk) : Nat := (l.map fun t => t.text.length).sum
theorem tsum_app (l m : List Tk) : tsum (l ++ m) = tsum l + tsum m := by simp [tsum]
theorem tsum_emit (l : List Tk) (i j n : Nat) : tsum (emit l i j n).flatten = tsum l := by
  unfold emit
  by_cases e : l = []
  · subst e; rfl
  · rw [if_neg e]
    simp only [List.flatten_cons, List.flatten_nil, List.append_nil]
    rw [tsum_app]; rfl
theorem tsum_cut (l : List Tk) : tsum (cut l) ≤ tsum l ∧ tsum l.dropLast ≤ tsum l := by
  have h : tsum l.dropLast ≤ tsum l := by
    rcases List.eq_nil_or_concat l with rfl | ⟨a, x, rfl⟩
    · exact Nat.le_refl _
    · rw [List.concat_eq_append, List.dropLast_concat, tsum_app]; omega
  refine ⟨?_, h⟩
  unfold cut
  split
  · exact h
  · exact Nat.le_refl _
theorem text_le (k : Nat) (t : List Int) : t.length ≤ (spk (k, t)).length := by
  by_cases e : k = 2
  · subst e; rw [spk_two, quote_length]; omega
  · rw [spk_ne e]; exact Nat.le_refl _
theorem go_tsum : ∀ (f : Nat) (xs : List Int) (i line : Nat) (cur : List Tk) (gap : Bool), (∀ x ∈ xs, 0 ≤ x ∧ x < 256) → tsum (go f xs i line cur gap).cl.flatten ≤ tsum cur + xs.length
  | 0, xs, i, line, cur, gap, _ => by simp [go, tsum]
  | f + 1, xs, i, line, cur, gap, hb => by
    have hbd : ∀ n, ∀ x ∈ xs.drop n, 0 ≤ x ∧ x < 256 := fun n x hx => hb x (List.mem_of_mem_drop hx)
    have ih := fun n i line cur gap => go_tsum f (xs.drop n) i line cur gap (hbd n)
    have hpre : ∀ (o : Out) (l : List (List Tk)), tsum (o.pre l).cl.flatten = tsum l.flatten + tsum o.cl.flatten := fun o l => by
      show tsum (l ++ o.cl).flatten = _
      rw [List.flatten_append, tsum_app]
    have hc := tsum_cut cur
    rw [go]
    cases hs : step xs with
    | fin =>
      simp only
      rw [tsum_emit]; omega
    | err c dl =>
      simp only
      by_cases e : cur = []
      · rw [if_pos e]; simp [tsum]
      · rw [if_neg e]; simp only [List.flatten_cons, List.flatten_nil, List.append_nil]; omega
    | line =>
      simp only
      have h0 : tsum [] = 0 := rfl
      split
      · have := ih 1 (i + 1) (line + 1) cur.dropLast true
        rw [List.length_drop] at this; omega
      · rw [hpre, tsum_emit]
        have := ih 1 (i + 1) (line + 1) [] false
        rw [List.length_drop] at this; omega
    | blank =>
      simp only
      have := ih 1 (i + 1) line cur true
      rw [List.length_drop] at this; omega
    | cmt n dl =>
      simp only
      have := ih n (i + n) (line + dl) cur gap
      rw [List.length_drop] at this; omega
    | tok k t n =>
      simp only
      have h0 : tsum [] = 0 := rfl
      have h1 := step_len hb hs
      have h2 := text_le k t
      have h3 := (step_tok hb hs).2.1
      have h4 : ∀ g, tsum (cur ++ [(⟨k, t, g, line, i, i + n⟩ : Tk)]) = tsum cur + t.length := fun g => by rw [tsum_app]; rfl
      split
      · rw [hpre, tsum_emit]
        have := ih n (i + n) line [] false
        rw [List.length_drop] at this; omega
      · split
        · rw [hpre, tsum_emit, h4]
          have := ih n (i + n) line [] false
          rw [List.length_drop] at this; omega
        · have := ih n (i + n) line (cur ++ [⟨k, t, gap && !decide (cur = []), line, i, i + n⟩]) false
          rw [List.length_drop, h4] at this; omega
theorem tokens_tsum {xs : List Int} (hb : ∀ x ∈ xs, 0 ≤ x ∧ x < 256) : tsum (tokens xs) ≤ xs.length := by
  have := go_tsum (xs.length + 1) xs 0 1 [] false hb
  have h0 : tsum [] = 0 := rfl
  rw [h0, Nat.zero_add] at this
  exact this
end Go.Proofs.YtkkpjonfaflkmaaGreatDoor.S
namespace Go.Proofs.YtkkpjonfaflkmaaGreatDoor.T
set_option linter.unusedSimpArgs false
set_option linter.unusedVariables false
open Go.RowKit Go.Proofs.YtkkpjonfaflkmaaGreatDoorW.PrintWords Go.Proofs.YtkkpjonfaflkmaaGreatDoorW.PrintLast Go.Proofs.YtkkpjonfaflkmaaGreatDoorW.PrintMore
theorem str_eq2 (a b : ByteArray) : (a.toList == b.toList) = decide (bytesOf a = bytesOf b) := by
  rw [str_eq, bytesOf_nums b, Lib.toList_data]
theorem like_kt {a b : S.Tk} (ha : Bytes a) (hb : Bytes b) : likeB (toS a) (toS b) = decide (S.kt a = S.kt b) := by
  unfold likeB
  show (decide ((a.kind : Int) = (b.kind : Int)) && ((strOfNums a.text).toList == (strOfNums b.text).toList)) = _
  rw [str_eq2, bytesOf_str _ ha, bytesOf_str _ hb, ← Bool.decide_and]
  refine decide_eq_decide.2 ?_
  simp only [S.kt, Prod.mk.injEq]
  exact ⟨fun h => ⟨by omega, h.2⟩, fun h => ⟨by omega, h.2⟩⟩
theorem eqF_like : ∀ (l m : List S.Tk), (∀ t ∈ l, Bytes t) → (∀ t ∈ m, Bytes t) → eqF likeB (l.map toS) (m.map toS) = decide (l.map S.kt = m.map S.kt)
  | [], [], _, _ => rfl
  | [], _ :: _, _, _ => rfl
  | _ :: _, [], _, _ => rfl
  | a :: l, b :: m, hl, hm => by
    have ih := eqF_like l m (fun t ht => hl t (by simp [ht])) (fun t ht => hm t (by simp [ht]))
    simp only [List.map_cons, eqF]
    rw [ih, like_kt (hl a (by simp)) (hm b (by simp)), ← Bool.decide_and]
    refine decide_eq_decide.2 ?_
    simp
theorem same_key {a b : S.Tk} (ha : Bytes a) (hb : Bytes b) : sameB (toS a) (toS b) = decide (S.key a = S.key b) := by
  unfold sameB
  rw [like_kt ha hb]
  show (decide (S.kt a = S.kt b) && (a.gap == b.gap)) = _
  rw [show (a.gap == b.gap) = decide (a.gap = b.gap) from rfl, ← Bool.decide_and]
  refine decide_eq_decide.2 ?_
  simp only [S.kt, S.key, Prod.mk.injEq]
  exact ⟨fun h => ⟨h.1.1, h.1.2, h.2⟩, fun h => ⟨⟨h.1, h.2.1⟩, h.2.2⟩⟩
theorem eqF_same : ∀ (l m : List S.Tk), (∀ t ∈ l, Bytes t) → (∀ t ∈ m, Bytes t) → eqF sameB (l.map toS) (m.map toS) = decide (l.map S.key = m.map S.key)
  | [], [], _, _ => rfl
  | [], _ :: _, _, _ => rfl
  | _ :: _, [], _, _ => rfl
  | a :: l, b :: m, hl, hm => by
    have ih := eqF_same l m (fun t ht => hl t (by simp [ht])) (fun t ht => hm t (by simp [ht]))
    simp only [List.map_cons, eqF]
    rw [ih, same_key (hl a (by simp)) (hm b (by simp)), ← Bool.decide_and]
    refine decide_eq_decide.2 ?_
    simp
theorem sp_kt {t : S.Tk} (h : Bytes t) : spN (toS t) = S.spk (S.kt t) := by
  unfold spN S.spk
  show (if ((t.kind : Nat) : Int) = 2 then S.quote (bytesOf (strOfNums t.text)) else bytesOf (strOfNums t.text)) = _
  rw [bytesOf_str _ h]
  by_cases e : t.kind = 2
  · rw [if_pos (by omega)]; exact (if_pos e).symm
  · rw [if_neg (by omega)]; exact (if_neg e).symm
theorem spL_kt : ∀ (l : List S.Tk), (∀ t ∈ l, Bytes t) → spL (l.map toS) = S.spl (l.map S.kt)
  | [], _ => rfl
  | a :: l, h => by
    have ih := spL_kt l (fun t ht => h t (by simp [ht]))
    rw [List.map_cons, List.map_cons, S.spl_cons, ← ih, ← sp_kt (h a (by simp))]
    simp [spL]
theorem commaB_kt (l : List S.Tk) (h : ∀ t ∈ l, Bytes t) : commaB (l.map toS) = S.commaK (l.map S.kt) := by
  unfold commaB S.commaK
  rw [List.getLast?_map, List.getLast?_map]
  cases hl : l.getLast? with
  | none => rfl
  | some t =>
    have ht := h t (List.mem_of_getLast? hl)
    simp only [Option.map_some, Option.some.injEq, S.kt, Prod.mk.injEq]
    show (decide (((t.kind : Nat) : Int) = 3) && ((strOfNums t.text).toList == [44])) = _
    rw [text_eq ht, ← Bool.decide_and]
    exact decide_eq_decide.2 (by
      have : ((UInt8.toNat 44 : Nat) : Int) = 44 := rfl
      rw [this]; exact ⟨fun h => ⟨by omega, h.2⟩, fun h => ⟨by omega, h.2⟩⟩)
theorem tok_bytes {xs : List Int} (hb : ∀ x ∈ xs, 0 ≤ x ∧ x < 256) (he : (S.scan xs).err = none) : ∀ t ∈ S.tokens xs, Bytes t := by
  intro t ht
  obtain ⟨cl, hcl, ht⟩ := List.mem_flatten.1 ht
  obtain ⟨b, e, rfl, h1, h2, h3, h4, h5⟩ := S.scan_cls hb he cl hcl
  rcases List.mem_append.1 ht with e2 | e2
  · exact S.good_bytes (h2.good t e2)
  · rw [List.mem_singleton.1 e2]
    intro x hx
    rw [h4] at hx; cases hx
theorem merges_kt (l : List S.Tk) (h : ∀ t ∈ l, Bytes t) (hg : ∀ t ∈ l, S.Good (S.kt t)) : mergesB (l.map toS) = S.mergS (l.map S.kt) := by
  unfold mergesB S.mergS
  rw [spL_kt l h, commaB_kt l h]
  cases he : (S.scan (S.spl (l.map S.kt))).err with
  | some p => rfl
  | none =>
    have hb : ∀ x ∈ S.spl (l.map S.kt), 0 ≤ x ∧ x < 256 := (S.good_spl (fun x hx => by
      obtain ⟨t, ht, rfl⟩ := List.mem_map.1 hx
      exact hg t ht)).1
    have hm := tok_bytes hb he
    have hn : ∀ t ∈ noEnd (S.tokens (S.spl (l.map S.kt))), Bytes t := fun t ht => hm t (List.mem_filter.1 ht).1
    show (false || _) = (false || _)
    rw [Bool.false_or, Bool.false_or]
    have hne : noEnd (S.tokens (S.spl (l.map S.kt))) = S.bodyT (S.tokens (S.spl (l.map S.kt))) := rfl
    rw [← hne]
    congr 1
    rw [List.length_map, List.length_map]
    by_cases hc : S.commaK (l.map S.kt) = true ∧ (noEnd (S.tokens (S.spl (l.map S.kt)))).length + 1 = l.length
    · rw [if_pos hc, if_pos hc, ← List.map_take, ← List.map_take]
      exact eqF_like _ _ hn (fun t ht => h t (List.mem_of_mem_take ht))
    · rw [if_neg hc, if_neg hc]
      exact eqF_like _ _ hn h
theorem tkAt_map {l : List S.Tk} {i : Nat} {t : S.Tk} (h : l[i]? = some t) : tkAt (l.map toS) i = toS t := by
  unfold tkAt rd_T53
  rw [Int.toNat_natCast, List.getD_eq_getElem?_getD, List.getElem?_map, h]; rfl
theorem wr_clause (P b : List S.Tk) (e : S.Tk) (Z : List S.Tk) (hb : ∀ t ∈ b, S.Good (S.kt t)) (hk : ∀ t ∈ b, t.kind ≠ 4) (he : e.kind = 4) :
    ∀ (b2 b1 : List S.Tk), b = b1 ++ b2 → ∀ txt, wrN ((P ++ (b ++ e :: Z)).map toS) (P.length + b1.length) = (P.length, txt) → wrN ((P ++ (b ++ e :: Z)).map toS) (P.length + b.length + 1) = (P.length + b.length + 1, txt ++ S.wtail b1.reverse b2)
  | [], b1, hbb, txt, hw => by
    rw [List.append_nil] at hbb
    subst hbb
    have hat : tkAt ((P ++ (b ++ e :: Z)).map toS) (P.length + b.length) = toS e := tkAt_map (by
      rw [List.getElem?_append_right (by omega), List.getElem?_append_right (by omega), show P.length + b.length - P.length - b.length = 0 by omega]; rfl)
    rw [wrN, hw, wrStep, hat, if_pos (by show ((e.kind : Nat) : Int) = 4; omega)]
    have hd : (((P ++ (b ++ e :: Z)).map toS).drop P.length).take (P.length + b.length - P.length) = b.map toS := by
      rw [List.map_append, List.drop_left' (by simp), List.map_append, Nat.add_sub_cancel_left, List.take_left' (by simp)]
    simp only
    unfold endN
    rw [hd, commaB_kt b (fun t ht => S.good_bytes (hb t ht))]
    show _ = (_, txt ++ S.endS b.reverse)
    unfold S.endS
    rw [List.reverse_reverse, S.comma_kt]
    rfl
  | x :: b3, b1, hbb, txt, hw => by
    subst hbb
    have hgb : ∀ t ∈ b1 ++ x :: b3, Bytes t := fun t ht => S.good_bytes (hb t ht)
    have hx := hb x (by simp)
    have hget : ∀ (i : Nat) (t : S.Tk), (b1 ++ x :: b3)[i]? = some t → tkAt ((P ++ ((b1 ++ x :: b3) ++ e :: Z)).map toS) (P.length + i) = toS t := fun i t ht => tkAt_map (by
      have hi : i < (b1 ++ x :: b3).length := (List.getElem?_eq_some_iff.1 ht).1
      rw [List.getElem?_append_right (by omega), Nat.add_sub_cancel_left, List.getElem?_append_left hi]; exact ht)
    have hat := hget b1.length x (by rw [List.getElem?_append_right (Nat.le_refl _), Nat.sub_self]; rfl)
    have ih := wr_clause P (b1 ++ x :: b3) e Z hb hk he b3 (b1 ++ [x]) (by simp) (txt ++ S.gapS b1.reverse x ++ S.spk (S.kt x))
    have hw2 : wrN ((P ++ ((b1 ++ x :: b3) ++ e :: Z)).map toS) (P.length + (b1 ++ [x]).length) = (P.length, txt ++ S.gapS b1.reverse x ++ S.spk (S.kt x)) := by
      rw [show P.length + (b1 ++ [x]).length = P.length + b1.length + 1 by simp; omega, wrN, hw, wrStep, hat, if_neg (by
        show ¬ ((x.kind : Nat) : Int) = 4
        have := hk x (by simp); omega), sp_kt (hgb x (by simp))]
      simp only
      congr 3
      unfold gapN S.gapS
      by_cases h0 : b1 = []
      · subst h0
        rw [if_pos (by simp), if_pos (by simp)]
      · have hl0 : 0 < b1.length := List.length_pos_iff.2 h0
        have h0r : ¬ b1.reverse = [] := by simpa using h0
        rw [if_neg (by omega), if_neg h0r, hat]
        show (if x.gap = true then _ else _) = _
        by_cases hg : x.gap = true
        · rw [if_pos hg, if_pos hg]
        · rw [if_neg hg, if_neg hg]
          have hsep : sepB ((P ++ ((b1 ++ x :: b3) ++ e :: Z)).map toS) (P.length + b1.length) P.length = S.sepS b1.reverse x := by
            obtain ⟨c, p, rfl⟩ : ∃ c p, b1 = c ++ [p] := by
              rcases List.eq_nil_or_concat b1 with h | ⟨c, p, h⟩
              · exact absurd h h0
              · exact ⟨c, p, by rw [h, List.concat_eq_append]⟩
            have hp := hget c.length p (by rw [List.append_assoc, List.getElem?_append_right (Nat.le_refl _), Nat.sub_self]; rfl)
            unfold sepB
            rw [hat, show P.length + (c ++ [p]).length - 1 = P.length + c.length by simp, hp]
            have m1 := merges_kt [p, x] (fun t ht => hgb t (by simp at ht ⊢; rcases ht with rfl | rfl <;> simp)) (fun t ht => hb t (by simp at ht ⊢; rcases ht with rfl | rfl <;> simp))
            simp only [List.map_cons, List.map_nil] at m1
            rw [m1]
            rcases List.eq_nil_or_concat c with rfl | ⟨d, r, h⟩
            · rw [decide_eq_false (by simp)]
              simp only [Bool.false_and, Bool.or_false]
              rfl
            · rw [List.concat_eq_append] at h
              subst h
              have hr := hget d.length r (by rw [List.append_assoc, List.append_assoc, List.getElem?_append_right (Nat.le_refl _), Nat.sub_self]; rfl)
              rw [show P.length + (d ++ [r] ++ [p]).length - 2 = P.length + d.length by simp only [List.length_append, List.length_singleton]; omega, hr]
              have m2 := merges_kt [r, p, x] (fun t ht => hgb t (by simp at ht ⊢; rcases ht with rfl | rfl | rfl <;> simp)) (fun t ht => hb t (by simp at ht ⊢; rcases ht with rfl | rfl | rfl <;> simp))
              simp only [List.map_cons, List.map_nil] at m2
              rw [m2, decide_eq_true (by simp), Bool.true_and]
              have hrev : (d ++ [r] ++ [p]).reverse = p :: r :: d.reverse := by simp
              rw [hrev]
              show _ = (S.mergS [S.kt p, S.kt x] || (!p.gap && decide (r.kind = 1) && S.mergS [S.kt r, S.kt p, S.kt x]))
              have h1 : decide ((toS r).f0 = 1) = decide (r.kind = 1) := decide_eq_decide.2 (by show ((r.kind : Nat) : Int) = 1 ↔ _; omega)
              rw [h1]
              rfl
          rw [hsep]
    rw [ih hw2]
    simp [S.wtail]
theorem wr_all : ∀ (cls : List (List S.Tk)), (∀ cl ∈ cls, S.ClOK cl) → ∀ (P Z : List S.Tk) (txt : List Int), wrN ((P ++ (cls.flatten ++ Z)).map toS) P.length = (P.length, txt) → wrN ((P ++ (cls.flatten ++ Z)).map toS) (P.length + cls.flatten.length) = (P.length + cls.flatten.length, txt ++ S.wcl cls)
  | [], _, P, Z, txt, hw => by
    show wrN _ P.length = (P.length, _)
    rw [hw]
    simp [S.wcl]
  | cl :: cls, h, P, Z, txt, hw => by
    obtain ⟨b, e, rfl, h1, h2, h3, h4, h5⟩ := h cl (by simp)
    have hk : ∀ t ∈ b, t.kind ≠ 4 := fun t ht => by
      have := S.step_tok (h2.good t ht).2.2 (h2.good t ht).1
      have h4 : t.kind ≤ 3 := this.2.2.2.2
      omega
    have e1 : P ++ (((b ++ [e]) :: cls).flatten ++ Z) = P ++ (b ++ e :: (cls.flatten ++ Z)) := by simp
    have e2 : P ++ (b ++ e :: (cls.flatten ++ Z)) = (P ++ (b ++ [e])) ++ (cls.flatten ++ Z) := by simp
    rw [e1] at hw ⊢
    have hc := wr_clause P b e (cls.flatten ++ Z) h2.good hk h3 b [] rfl txt (by simpa using hw)
    rw [e2] at hc ⊢
    have ih := wr_all cls (fun cl hcl => h cl (by simp [hcl])) (P ++ (b ++ [e])) Z (txt ++ S.wtail [] b) (by
      rw [show (P ++ (b ++ [e])).length = P.length + b.length + 1 by simp; omega]
      exact hc)
    rw [show P.length + ((b ++ [e]) :: cls).flatten.length = (P ++ (b ++ [e])).length + cls.flatten.length by simp; omega, ih]
    congr 1
    unfold S.wcl
    rw [List.flatMap_cons, List.dropLast_concat, List.append_assoc]
theorem written_cls {cls : List (List S.Tk)} (h : ∀ cl ∈ cls, S.ClOK cl) : writtenN (cls.flatten.map toS) = S.wcl cls := by
  have := wr_all cls h [] [] [] rfl
  simp only [List.nil_append, List.append_nil, List.length_nil, Nat.zero_add] at this
  unfold writtenN
  rw [List.length_map, this]
end Go.Proofs.YtkkpjonfaflkmaaGreatDoor.T

namespace Go.Proofs.YtkkpjonfaflkmaaGreatDoor.T
set_option linter.unusedSimpArgs false
set_option linter.unusedVariables false
open Go.RowKit Go.Proofs.YtkkpjonfaflkmaaGreatDoorW.PrintWords Go.Proofs.YtkkpjonfaflkmaaGreatDoorW.PrintLast Go.Proofs.YtkkpjonfaflkmaaGreatDoorW.PrintMore
def er (x : S53) : S53 := ⟨x.f0, x.f1, x.f2, 0, 0, 0⟩
theorem spL_er (l : List S53) : spL (l.map er) = spL l := by
  unfold spL
  rw [List.flatMap_map]; rfl
theorem eqF_er (X : List S53) : ∀ l : List S53, eqF likeB X (l.map er) = eqF likeB X l := by
  induction X with
  | nil => intro l; cases l <;> rfl
  | cons x X ih =>
    intro l
    cases l with
    | nil => rfl
    | cons a l => simp only [List.map_cons, eqF]; rw [ih]; rfl
theorem commaB_er (l : List S53) : commaB (l.map er) = commaB l := by
  unfold commaB
  rw [List.getLast?_map]
  cases l.getLast? <;> rfl
theorem merges_er (l : List S53) : mergesB (l.map er) = mergesB l := by
  unfold mergesB
  rw [spL_er, commaB_er, List.length_map]
  congr 2
  split
  · rw [← List.map_take, eqF_er]
  · rw [eqF_er]
theorem tkAt_er {l : List S53} {i : Nat} (h : i < l.length) : tkAt (l.map er) i = er (tkAt l i) := by
  unfold tkAt rd_T53
  rw [Int.toNat_natCast, List.getD_eq_getElem?_getD, List.getD_eq_getElem?_getD, List.getElem?_map, List.getElem?_eq_getElem h]; rfl
theorem sep_er {l : List S53} {i first : Nat} (h : i < l.length) : sepB (l.map er) i first = sepB l i first := by
  unfold sepB
  rw [tkAt_er h, tkAt_er (i := i - 1) (by omega), tkAt_er (i := i - 2) (by omega)]
  have h2 := fun a b => merges_er [a, b]
  have h3 := fun a b c => merges_er [a, b, c]
  simp only [List.map_cons, List.map_nil] at h2 h3
  rw [h2, h3]
  rfl
theorem wrN_er (l : List S53) : ∀ k, k ≤ l.length → wrN (l.map er) k = wrN l k
  | 0, _ => rfl
  | k + 1, h => by
    rw [wrN, wrN, wrN_er l k (by omega), wrStep, wrStep, tkAt_er (by omega)]
    have e1 : gapN (l.map er) k (wrN l k).1 = gapN l k (wrN l k).1 := by
      unfold gapN
      rw [tkAt_er (by omega), sep_er (by omega)]; rfl
    have e2 : endN (l.map er) k (wrN l k).1 = endN l k (wrN l k).1 := by
      unfold endN
      rw [← List.map_drop, ← List.map_take, commaB_er]
    rw [e1, e2]
    rfl
theorem written_er (l : List S53) : writtenN (l.map er) = writtenN l := by
  unfold writtenN
  rw [List.length_map, wrN_er l _ (Nat.le_refl _)]
theorem er_key {A B : List S.Tk} (h : A.map S.key = B.map S.key) : (A.map toS).map er = (B.map toS).map er := by
  have e : ∀ l : List S.Tk, (l.map toS).map er = (l.map S.key).map fun p => (⟨(p.1 : Nat), strOfNums p.2.1, p.2.2, 0, 0, 0⟩ : S53) := fun l => by
    rw [List.map_map, List.map_map]; rfl
  rw [e, e, h]
theorem written_key {A B : List S.Tk} (h : A.map S.key = B.map S.key) : writtenN (A.map toS) = writtenN (B.map toS) := by
  rw [← written_er (A.map toS), er_key h, written_er]
theorem szL_toS : ∀ (l : List S.Tk), szL (l.map toS) = 2 * S.tsum l + 2 * l.length
  | [] => rfl
  | a :: l => by
    have ih := szL_toS l
    have hs : (toS a).f1.size = a.text.length := by show (strOfNums a.text).size = _; simp [strOfNums, ByteArray.size]
    simp only [szL, S.tsum, List.map_cons, List.sum_cons, List.length_cons] at ih ⊢
    rw [hs]; omega
theorem tsum_key {A B : List S.Tk} (h : A.map S.key = B.map S.key) : S.tsum A = S.tsum B := by
  have e : ∀ l : List S.Tk, S.tsum l = ((l.map S.key).map fun p => p.2.1.length).sum := fun l => by
    rw [List.map_map]; rfl
  rw [e, e, h]
theorem write_toks {xs : List Int} (hb : ∀ x ∈ xs, 0 ≤ x ∧ x < 256) (he : (S.scan xs).err = none) {U : List S.Tk} (hU : U.map S.key = (S.tokens xs).map S.key) (hUb : ∀ t ∈ U, Bytes t) (hl : xs.length ≤ 3000) :
    scan_Write.f (U.map toS) = if 20000 < (S.wcl (S.scan xs).cl).length then some (⟨#[]⟩, 3) else some (strOfNums (S.wcl (S.scan xs).cl), 0) := by
  have hlen : U.length = (S.tokens xs).length := by have := congrArg List.length hU; simpa using this
  have h1 := S.tokens_length hb
  have h2 := S.tokens_tsum hb
  have h3 : S.tsum U = S.tsum (S.tokens xs) := tsum_key hU
  have hw : writtenN (U.map toS) = S.wcl (S.scan xs).cl := (written_key hU).trans (written_cls (S.scan_cls hb he))
  obtain ⟨b1, b2⟩ := S.back hb he
  have hsame : eqF sameB ((S.tokens (S.wcl (S.scan xs).cl)).map toS) (U.map toS) = true := by
    have hwb : ∀ x ∈ S.wcl (S.scan xs).cl, 0 ≤ x ∧ x < 256 := by
      rw [← hw]
      exact (wrN_facts _ _ (Nat.le_refl _)).2.2
    rw [eqF_same _ _ (tok_bytes hwb b1) hUb]
    exact decide_eq_true (b2.trans hU.symm)
  unfold scan_Write.f
  rw [if_pos ⟨by rw [List.length_map]; omega, by rw [szL_toS]; omega⟩, hw, if_neg]
  rw [b1, hsame]
  simp
theorem scan_back_pure : qanatlaw03_ScanBack.Pure := by
  intro a0 ha
  refine ⟨100000, ?_⟩
  have hsan : ∀ k x, qanatlaw03_ScanBack.j0 (k + 1) x true = some true := fun k x => by
    rw [qanatlaw03_ScanBack.j0, if_pos rfl]; rfl
  unfold qanatlaw03_ScanBack.f
  have hsm : qanatlaw03_small.f a0 = some (decide ((a0.size : Int) ≤ 3000)) := rfl
  by_cases hs : a0.size ≤ 3000
  · rw [tokens_g a0 (by omega), Option.bind_some, hsm, Option.bind_some, if_pos (decide_eq_true (by omega))]
    cases he : (S.scan (bytesOf a0)).err with
    | some p =>
      rw [if_neg (fun e => by cases e)]
      exact hsan _ _
    | none =>
      rw [if_pos rfl]
      have hb := bo_range a0
      have hl : (bytesOf a0).length ≤ 3000 := by rw [bytesOf_length]; exact hs
      have hw1 := write_toks hb he rfl (tok_bytes hb he) hl
      obtain ⟨b1, b2⟩ := S.back hb he
      have hwb : ∀ x ∈ S.wcl (S.scan (bytesOf a0)).cl, 0 ≤ x ∧ x < 256 := by
        rw [← written_cls (S.scan_cls hb he)]
        exact (wrN_facts _ _ (Nat.le_refl _)).2.2
      have hw2 := write_toks hb he b2 (tok_bytes hwb b1) hl
      have htl := S.tokens_length hb
      obtain ⟨W, hW⟩ : ∃ W, S.wcl (S.scan (bytesOf a0)).cl = W := ⟨_, rfl⟩
      rw [hW] at hw1 hw2 b1 b2 hwb
      show qanatlaw03_ScanBack.j0 (99999 + 1) _ false = some true
      rw [qanatlaw03_ScanBack.j0, if_neg Bool.false_ne_true, hw1]
      by_cases h2 : 20000 < W.length
      · rw [if_pos h2, Option.bind_some, if_pos rfl]; rfl
      · rw [if_neg h2, Option.bind_some, if_neg (show ¬ (0 : Int) = 3 by decide)]
        have hsz : (strOfNums W).size = W.length := by simp [strOfNums, ByteArray.size]
        have ht2 := tokens_g (strOfNums W) (by omega)
        rw [bytesOf_str _ hwb, b1, if_pos rfl] at ht2
        have hsame := sameTz_f (S.tokens (bytesOf a0)) (S.tokens W) b2.symm (by omega) 99999 (by omega)
        simp only []
        rw [ht2, Option.bind_some]
        simp only []
        rw [hw2, if_neg h2, Option.bind_some]
        simp only []
        rw [hsame]
        simp only [qanatlaw03_sanity.f, Option.bind_some]
        rw [if_pos trivial, if_pos trivial, if_pos trivial, if_pos trivial, if_pos trivial, beq_self_eq_true]
  · by_cases h2 : a0.size ≤ 20000
    · rw [tokens_g a0 h2, Option.bind_some, hsm, Option.bind_some, if_neg (by rw [decide_eq_false (by omega)]; decide)]
      exact hsan _ _
    · have : scan_Tokens.f a0 = some ([], 0, 0, 3) := if_neg h2
      rw [this, Option.bind_some, hsm, Option.bind_some, if_neg (by rw [decide_eq_false (by omega)]; decide)]
      exact hsan _ _
end Go.Proofs.YtkkpjonfaflkmaaGreatDoor.T
