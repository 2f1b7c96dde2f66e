/- Part 7 of the proof of ScanComments: the functions that it calls return what their plain descriptions say. -/
import Derived.Test.YtkkpjonfaflkmaaGreatDoorCScanComments6
import Derived.Test.YtkkpjonfaflkmaaGreatDoorCScanComments2

/- A comment between tokens: the proof. -/
namespace Go.Proofs.YtkkpjonfaflkmaaGreatDoor.S
set_option linter.unusedSimpArgs false
set_option linter.unusedVariables false

theorem cmt_take : ∀ (xs Y : List Int) (i d l b i' l' b' : Nat), cmt xs i d l b = .done i' l' b' → cmt (xs.take (i' - i) ++ Y) i d l b = .done i' l' b'
  | [], _, _, _, _, _, _, _, _, h => by cases h
  | [_], _, _, _, _, _, _, _, _, h => by cases h
  | c :: e :: t, Y, i, d, l, b, i', l', b', h => by
    rw [cmt] at h
    by_cases h1 : c = 47 ∧ e = 42
    · rw [if_pos h1] at h
      have hb2 := cmt_bounds _ _ _ _ _ _ _ _ h
      have ih := cmt_take t Y _ _ _ _ _ _ _ h
      rw [show i' - i = (i' - (i + 2)) + 1 + 1 by omega, List.take_succ_cons, List.take_succ_cons]
      show cmt (c :: e :: (t.take (i' - (i + 2)) ++ Y)) i d l b = _
      rw [cmt, if_pos h1]; exact ih
    · rw [if_neg h1] at h
      by_cases h2 : c = 42 ∧ e = 47
      · rw [if_pos h2] at h
        by_cases h3 : d = 1
        · rw [if_pos h3] at h
          have hi : i' = i + 2 := by cases h; rfl
          rw [show i' - i = 0 + 1 + 1 by omega, List.take_succ_cons, List.take_succ_cons, List.take_zero]
          show cmt (c :: e :: Y) i d l b = _
          rw [cmt, if_neg h1, if_pos h2, if_pos h3]; exact h
        · rw [if_neg h3] at h
          have hb2 := cmt_bounds _ _ _ _ _ _ _ _ h
          have ih := cmt_take t Y _ _ _ _ _ _ _ h
          rw [show i' - i = (i' - (i + 2)) + 1 + 1 by omega, List.take_succ_cons, List.take_succ_cons]
          show cmt (c :: e :: (t.take (i' - (i + 2)) ++ Y)) i d l b = _
          rw [cmt, if_neg h1, if_pos h2, if_neg h3]; exact ih
      · rw [if_neg h2] at h
        have hb2 := cmt_bounds _ _ _ _ _ _ _ _ h
        have ih := cmt_take (e :: t) Y _ _ _ _ _ _ _ h
        obtain ⟨m, hm⟩ : ∃ m, i' - (i + 1) = m + 1 := ⟨i' - (i + 1) - 1, by omega⟩
        rw [hm, List.take_succ_cons] at ih
        rw [show i' - i = m + 1 + 1 by omega, List.take_succ_cons, List.take_succ_cons]
        show cmt (c :: e :: (t.take m ++ Y)) i d l b = _
        rw [cmt, if_neg h1, if_neg h2]; exact ih
theorem step_cmt_loc {xs : List Int} {n dl : Nat} (h : step xs = .cmt n dl) (Y : List Int) : step (xs.take n ++ Y) = .cmt n dl := by
  have hn := step_cmt h
  rcases xs with _ | ⟨a, t⟩
  · cases h
  simp only [step] at h
  by_cases h1 : a = 10
  · rw [if_pos h1] at h; cases h
  rw [if_neg h1] at h
  by_cases h2 : a = 32
  · rw [if_pos h2] at h; cases h
  rw [if_neg h2] at h
  by_cases h3 : starts2 (a :: t) = true
  · rw [if_pos h3] at h
    cases hc : cmt (a :: t) 0 0 1 0 with
    | eof => rw [hc] at h; cases h
    | done i l b =>
      rw [hc] at h
      simp only [cmtStep] at h
      split at h
      · rename_i hb0
        cases h
        have hb2 := cmt_bounds _ _ _ _ _ _ _ _ hc
        have ht := cmt_take (a :: t) Y 0 0 1 0 _ l b hc
        rw [Nat.sub_zero] at ht
        obtain ⟨m, rfl⟩ : ∃ m, n = m + 1 := ⟨n - 1, by omega⟩
        rw [List.take_succ_cons] at ht ⊢
        have hst : starts2 (a :: (t.take m ++ Y)) = true := by
          rcases t with _ | ⟨e, t⟩
          · cases hc
          · rcases m with _ | m
            · exfalso
              -- a comment has two bytes at least
              simp only [starts2, Bool.and_eq_true, decide_eq_true_eq] at h3
              rw [cmt, if_pos h3] at hc
              have := cmt_bounds _ _ _ _ _ _ _ _ hc
              omega
            · rw [List.take_succ_cons]; exact h3
        rw [List.cons_append] at ht ⊢
        simp only [step, if_neg h1, if_neg h2, if_pos hst, ht, cmtStep, if_pos hb0]
      · cases h
  rw [if_neg h3] at h
  have key : ∀ k r, tokStep k r ≠ .cmt n dl := fun k r e => by cases r <;> cases e
  by_cases h4 : a = 39 ∨ a = 34
  · rw [if_pos h4] at h; exact (key _ _ h).elim
  rw [if_neg h4] at h
  by_cases h5 : sym a = true
  · rw [if_pos h5] at h; exact (key _ _ h).elim
  · rw [if_neg h5] at h; exact (key _ _ h).elim
/-- A symbol's second byte is no place of a rule. -/
theorem vis_sym {f i : Nat} {d e : Int} {s : List Int} (hd : sym d = true) (he : sym e = true) (h : vis f (d :: e :: s) i (i + 1)) : False := by
  cases f with
  | zero => exact h.elim
  | succ f =>
    rcases h with h | h
    · omega
    · have n10 : d ≠ 10 := fun q => by subst q; cases hd
      have n32 : d ≠ 32 := fun q => by subst q; cases hd
      have n39 : ¬ (d = 39 ∨ d = 34) := fun q => by rcases q with rfl | rfl <;> cases hd
      have nst : ¬ starts2 (d :: e :: s) = true := fun q => by
        simp only [starts2, Bool.and_eq_true, decide_eq_true_eq] at q
        rw [q.1] at hd; cases hd
      have hst : step (d :: e :: s) = tokStep 1 (symTok (d :: e :: s)) := by
        simp only [step, if_neg n10, if_neg n32, if_neg nst, if_neg n39, if_pos hd]
      rw [hst] at h
      cases hq : symTok (d :: e :: s) with
      | err c => rw [hq] at h; exact h.elim
      | ok t n =>
        rw [hq] at h
        have hv : vis f ((d :: e :: s).drop n) (i + n) (i + 1) := h
        have hge := vis_ge _ _ _ _ hv
        have hn : n = symLen (d :: e :: s) := by
          unfold symTok at hq
          split at hq
          · cases hq
          · simp only [TR.ok.injEq] at hq; exact hq.2.symm
        have hl : 2 ≤ symLen (d :: e :: s) := by
          have hr : 2 ≤ run sym (d :: e :: s) := by
            rw [run, if_pos hd, run, if_pos he]; omega
          unfold symLen
          split <;> omega
        omega
theorem ins (com' : List Int) (hcom : ∀ Y, step (47 :: (com' ++ Y)) = .cmt (com'.length + 1) 0) : ∀ (f : Nat) (xs : List Int) (i line : Nat) (cur : List Tk) (gap : Bool) (m f' : Nat), (∀ x ∈ xs, 0 ≤ x ∧ x < 256) → xs.length < f → m ≤ xs.length → vis f xs i (i + m) → (0 < m → xs[m - 1]? ≠ some 47) →
    xs.length + com'.length + 1 < f' → (go f xs i line cur gap).err = none →
    (go f' (xs.take m ++ 47 :: (com' ++ xs.drop m)) i line cur gap).err = none ∧ (go f' (xs.take m ++ 47 :: (com' ++ xs.drop m)) i line cur gap).cl.flatten.map key = (go f xs i line cur gap).cl.flatten.map key
  | 0, xs, i, line, cur, gap, m, f', _, h, _, _, _, _, _ => absurd h (Nat.not_lt_zero _)
  | f + 1, xs, i, line, cur, gap, m, 0, _, _, _, _, _, h, _ => absurd h (Nat.not_lt_zero _)
  | f + 1, xs, i, line, cur, gap, 0, f' + 1, hb, hf, hm, hv, h47, hf', he => by
    rw [List.take_zero, List.drop_zero, List.nil_append]
    have hd : (47 :: (com' ++ xs)).drop (com'.length + 1) = xs := by
      rw [List.drop_succ_cons, List.drop_left]
    have hk := go_key (f + 1) xs i line (i + (com'.length + 1)) (line + 0) cur cur gap f' rfl hb hf (by omega) he
    have hgo : go (f' + 1) (47 :: (com' ++ xs)) i line cur gap = go f' xs (i + (com'.length + 1)) (line + 0) cur gap := by
      rw [go, hcom xs]
      simp only [hd]
    rw [hgo]; exact hk
  | f + 1, xs, i, line, cur, gap, m + 1, f' + 1, hb, hf, hm, hv, h47, hf', he => by
    have hbd : ∀ n, ∀ x ∈ xs.drop n, 0 ≤ x ∧ x < 256 := fun n x hx => hb x (List.mem_of_mem_drop hx)
    have hv2 : (match step xs with
    | .fin => False
    | .err _ _ => False
    | .line => vis f (xs.drop 1) (i + 1) (i + (m + 1))
    | .blank => vis f (xs.drop 1) (i + 1) (i + (m + 1))
    | .cmt n _ => vis f (xs.drop n) (i + n) (i + (m + 1))
    | .tok _ _ n => vis f (xs.drop n) (i + n) (i + (m + 1))) := by
      rcases hv with h | h
      · omega
      · exact h
    have hpre : ∀ (l l' : List (List Tk)) (o o' : Out), l.flatten.map key = l'.flatten.map key → o.err = none ∧ o.cl.flatten.map key = o'.cl.flatten.map key → (o.pre l).err = none ∧ (o.pre l).cl.flatten.map key = (o'.pre l').cl.flatten.map key := fun l l' o o' h1 h2 => by
      refine ⟨h2.1, ?_⟩
      unfold Out.pre
      simp only [List.flatten_append, List.map_append, h1, h2.2]
    -- what stands behind the first rule
    have hdrop : ∀ n, n ≤ m + 1 → (xs.take (m + 1) ++ 47 :: (com' ++ xs.drop (m + 1))).drop n = (xs.drop n).take (m + 1 - n) ++ 47 :: (com' ++ (xs.drop n).drop (m + 1 - n)) := fun n hn => by
      rw [List.drop_append_of_le_length (by rw [List.length_take]; omega), List.drop_take, List.drop_drop, show n + (m + 1 - n) = m + 1 by omega]
    have hidx : ∀ n, n ≤ m + 1 → 0 < m + 1 - n → (xs.drop n)[m + 1 - n - 1]? ≠ some 47 := fun n hn hp => by
      rw [List.getElem?_drop, show n + (m + 1 - n - 1) = m + 1 - 1 by omega]
      exact h47 (by omega)
    have ih := fun n line cur gap (hn : n ≤ m + 1) (hn1 : 1 ≤ n) (hvn : vis f (xs.drop n) (i + n) (i + (m + 1))) he => ins com' hcom f (xs.drop n) (i + n) line cur gap (m + 1 - n) f' (hbd n) (by rw [List.length_drop]; omega) (by rw [List.length_drop]; omega) (by rw [show i + n + (m + 1 - n) = i + (m + 1) by omega]; exact hvn) (hidx n hn) (by rw [List.length_drop]; omega) he
    have hys : step (xs.take (m + 1) ++ 47 :: (com' ++ xs.drop (m + 1))) = step xs := by
      cases hs : step xs with
      | fin => rw [hs] at hv2; exact hv2.elim
      | err c d => rw [hs] at hv2; exact hv2.elim
      | line =>
        obtain ⟨t, rfl⟩ := step_line hs
        rw [List.take_succ_cons, List.cons_append]
        simp [step]
      | blank =>
        obtain ⟨t, rfl⟩ := step_blank hs
        rw [List.take_succ_cons, List.cons_append]
        simp [step]
      | cmt n dl =>
        rw [hs] at hv2
        have hle : n ≤ m + 1 := by have := vis_ge _ _ _ _ hv2; omega
        have := step_cmt_loc hs ((xs.drop n).take (m + 1 - n) ++ 47 :: (com' ++ xs.drop (m + 1)))
        rw [← List.append_assoc, ← List.take_add, show n + (m + 1 - n) = m + 1 by omega] at this
        exact this
      | tok k t n =>
        rw [hs] at hv2
        replace hv2 : vis f (xs.drop n) (i + n) (i + (m + 1)) := hv2
        obtain ⟨g1, g2, -⟩ := step_tok hb hs
        have hle : n ≤ m + 1 := by have := vis_ge _ _ _ _ hv2; omega
        have hxs : xs = xs.take n ++ ((xs.drop n).take (m + 1 - n) ++ xs.drop (m + 1)) := by
          rw [← List.append_assoc, ← List.take_add, show n + (m + 1 - n) = m + 1 by omega, List.take_append_drop]
        have hAl : (xs.take n).length = n := by rw [List.length_take]; omega
        have hloc := step_loc (A := xs.take n) (C := (xs.drop n).take (m + 1 - n)) (R2 := xs.drop (m + 1)) (R3 := com' ++ xs.drop (m + 1)) (x := t) (c := 47) (k := k) (.inr (.inr rfl)) (fun d hC hd e s hR => ?_) (fun e => by rw [e] at hAl; simp at hAl; omega) (fun _ hC => ?_) (by rw [← hxs, hAl]; exact hs)
        · rw [← List.append_assoc, ← List.take_add, show n + (m + 1 - n) = m + 1 by omega, hAl] at hloc
          exact hloc
        · -- a single byte between: no symbol goes on behind it
          cases hse : sym e with
          | false => rfl
          | true =>
            exfalso
            have hlen : m + 1 - n = 1 := by
              have := congrArg List.length hC
              rw [List.length_take, List.length_drop, List.length_singleton] at this
              omega
            have hdn : xs.drop n = d :: e :: s := by
              rw [← List.take_append_drop (m + 1 - n) (xs.drop n), hC, List.drop_drop, show n + (m + 1 - n) = m + 1 by omega, hR]
              rfl
            rw [hdn, show i + (m + 1) = i + n + 1 by omega] at hv2
            exact vis_sym hd hse hv2
        · intro hl
          have hnm : n = m + 1 := by
            have := congrArg List.length hC
            rw [List.length_take, List.length_drop, List.length_nil] at this
            omega
          subst hnm
          apply h47 (by omega)
          rw [List.getLast?_eq_getElem?, hAl, List.getElem?_take_of_lt (by omega)] at hl
          exact hl
    rw [go] at he ⊢
    conv => { rhs; rhs; rw [go] }
    rw [hys]
    cases hs : step xs with
    | fin => rw [hs] at hv2; exact hv2.elim
    | err c d => rw [hs] at hv2; exact hv2.elim
    | line =>
      rw [hs] at he hv2
      simp only at he hv2 ⊢
      rw [hdrop 1 (by omega)]
      by_cases hc : comma cur = true
      · rw [if_pos hc] at he ⊢
        rw [if_pos hc]
        exact ih 1 _ _ _ (by omega) (by omega) hv2 he
      · rw [if_neg hc] at he ⊢
        rw [if_neg hc]
        exact hpre _ _ _ _ rfl (ih 1 _ _ _ (by omega) (by omega) hv2 he)
    | blank =>
      rw [hs] at he hv2
      simp only at he hv2 ⊢
      rw [hdrop 1 (by omega)]
      exact ih 1 _ _ _ (by omega) (by omega) hv2 he
    | cmt n dl =>
      obtain ⟨g1, g2, -⟩ := step_cmt hs
      rw [hs] at he hv2
      simp only at he hv2 ⊢
      have hle : n ≤ m + 1 := by have := vis_ge _ _ _ _ hv2; omega
      rw [hdrop n hle]
      exact ih n _ _ _ hle g1 hv2 he
    | tok k t n =>
      obtain ⟨g1, g2, -⟩ := step_tok hb hs
      rw [hs] at he hv2
      simp only at he hv2 ⊢
      have hle : n ≤ m + 1 := by have := vis_ge _ _ _ _ hv2; omega
      rw [hdrop n hle]
      by_cases hsc : k = 3 ∧ t = [59]
      · rw [if_pos hsc] at he ⊢
        rw [if_pos hsc]
        exact hpre _ _ _ _ rfl (ih n _ _ _ hle g1 hv2 he)
      · rw [if_neg hsc] at he ⊢
        rw [if_neg hsc]
        by_cases hl : label (cur ++ [⟨k, t, gap && !decide (cur = []), line, i, i + n⟩]) = true
        · rw [if_pos hl] at he ⊢
          rw [if_pos hl]
          exact hpre _ _ _ _ rfl (ih n _ _ _ hle g1 hv2 he)
        · rw [if_neg hl] at he ⊢
          rw [if_neg hl]
          exact ih n _ _ _ hle g1 hv2 he
end Go.Proofs.YtkkpjonfaflkmaaGreatDoor.S

/- Small laws on bytes and strings that the pure laws share. -/
namespace Go.Proofs.YtkkpjonfaflkmaaGreatDoor.T
set_option linter.unusedSimpArgs false
set_option linter.unusedVariables false
open Go.RowKit Go.Proofs.YtkkpjonfaflkmaaGreatDoorW.PrintWords Go.Proofs.YtkkpjonfaflkmaaGreatDoorW.PrintLast Go.Proofs.YtkkpjonfaflkmaaGreatDoorW.PrintMore

theorem w64n {i : Nat} (h : i ≤ 1000000000000) : wrap64 ((i : Int) + 1) = ((i + 1 : Nat) : Int) := by unfold wrap64; omega
theorem drop_bt (a0 : ByteArray) {i : Nat} (h : i < a0.size) : (bytesOf a0).drop i = bt a0 (i : Int) :: (bytesOf a0).drop (i + 1) := by
  rw [bt_getD a0 i h]
  exact drop_at _ _ (by rw [bytesOf_length]; exact h)
theorem prn_all_str (L : List Int) (h : ∀ x ∈ L, 0 ≤ x ∧ x < 256) : (strOfNums L).size = L.length := by simp [strOfNums, ByteArray.size]
theorem bt_str {q : Int} {L : List Int} (h : ∀ x ∈ q :: L, 0 ≤ x ∧ x < 256) : bt (strOfNums (q :: L)) 0 = q := by
  have hs : 0 < (strOfNums (q :: L)).size := by rw [prn_all_str _ h]; simp
  have := bt_getD (strOfNums (q :: L)) 0 hs
  rw [bytesOf_str _ h] at this
  exact this
theorem str_bytes (a0 : ByteArray) : strOfNums (bytesOf a0) = a0 := by
  apply bytesOf_inj
  rw [bytesOf_str _ (bo_range a0)]
end Go.Proofs.YtkkpjonfaflkmaaGreatDoor.T

/- ScanComments: the statement. -/
namespace Go.Proofs.YtkkpjonfaflkmaaGreatDoor.S
set_option linter.unusedSimpArgs false
set_option linter.unusedVariables false
theorem cmt_word : ∀ (w Y : List Int) (i : Nat), (∀ x ∈ w, 97 ≤ x ∧ x ≤ 122) → cmt (w ++ 42 :: 47 :: Y) i 1 1 0 = .done (i + w.length + 2) 1 0
  | [], Y, i, _ => by simp [cmt]
  | c :: w, Y, i, h => by
    obtain ⟨h1, h2⟩ := h c (by simp)
    have ih := cmt_word w Y (i + 1) (fun x hx => h x (by simp [hx]))
    have hp : prn c = true := by unfold prn; rw [decide_eq_true (by omega), decide_eq_true (by omega)]; rfl
    obtain ⟨e, s, hes⟩ : ∃ e s, w ++ 42 :: 47 :: Y = e :: s := by
      rcases w with _ | ⟨e, w⟩
      · exact ⟨_, _, rfl⟩
      · exact ⟨_, _, rfl⟩
    rw [List.cons_append, hes, cmt, if_neg (by omega), if_neg (by omega), if_neg (by omega), if_neg (by rw [hp]; simp), ← hes, ih]
    simp only [List.length_cons]
    rw [show i + 1 + w.length + 2 = i + (w.length + 1) + 2 by omega]
theorem step_word (w Y : List Int) (h : ∀ x ∈ w, 97 ≤ x ∧ x ≤ 122) : step (47 :: ((42 :: (w ++ [42, 47])) ++ Y)) = .cmt ((42 :: (w ++ [42, 47])).length + 1) 0 := by
  have hc : cmt (47 :: 42 :: (w ++ 42 :: 47 :: Y)) 0 0 1 0 = .done (0 + 2 + w.length + 2) 1 0 := by
    rw [cmt, if_pos ⟨rfl, rfl⟩]
    exact cmt_word w Y (0 + 2) h
  have e : 47 :: ((42 :: (w ++ [42, 47])) ++ Y) = 47 :: 42 :: (w ++ 42 :: 47 :: Y) := by simp
  rw [e]
  simp only [step]
  rw [if_neg (by decide), if_neg (by decide), if_pos (by rfl), hc]
  simp only [cmtStep, if_true, List.length_cons, List.length_append, List.length_nil]
  congr 1
  omega
end Go.Proofs.YtkkpjonfaflkmaaGreatDoor.S
namespace Go.Proofs.YtkkpjonfaflkmaaGreatDoor.T
set_option linter.unusedSimpArgs false
set_option linter.unusedVariables false
open Go.RowKit Go.Proofs.YtkkpjonfaflkmaaGreatDoorW.PrintWords Go.Proofs.YtkkpjonfaflkmaaGreatDoorW.PrintLast Go.Proofs.YtkkpjonfaflkmaaGreatDoorW.PrintMore

theorem sameTk_l0 (l m : List S.Tk) (hk : l.map S.key = m.map S.key) (hl : l.length ≤ 1000000) : ∀ (n k i : Nat), i + n = l.length → n < k → qanatref03_Same.l0 k (l.map toS) (m.map toS) (i : Int) = some true
  | n, 0, i, _, h => absurd h (Nat.not_lt_zero _)
  | 0, k + 1, i, h, _ => by rw [qanatref03_Same.l0, if_neg (by rw [List.length_map]; omega)]
  | n + 1, k + 1, i, h, hkk => by
    have ih := sameTk_l0 l m hk hl n k (i + 1) (by omega) (by omega)
    have hlen : l.length = m.length := by have := congrArg List.length hk; simpa using this
    have hi : i < l.length := by omega
    have hi2 : i < m.length := by omega
    have hkey : S.key (l[i]'hi) = S.key (m[i]'hi2) := by
      have e1 : (l.map S.key)[i]? = some (S.key (l[i]'hi)) := by rw [List.getElem?_map, List.getElem?_eq_getElem hi]; rfl
      have e2 : (m.map S.key)[i]? = some (S.key (m[i]'hi2)) := by rw [List.getElem?_map, List.getElem?_eq_getElem hi2]; rfl
      rw [hk, e2] at e1
      exact (Option.some.inj e1).symm
    have hr1 : rd_T53 (l.map toS) (i : Int) = toS (l[i]'hi) := by
      unfold rd_T53
      rw [Int.toNat_natCast, List.getD_eq_getElem?_getD, List.getElem?_map, List.getElem?_eq_getElem hi]; rfl
    have hr2 : rd_T53 (m.map toS) (i : Int) = toS (m[i]'hi2) := by
      unfold rd_T53
      rw [Int.toNat_natCast, List.getD_eq_getElem?_getD, List.getElem?_map, List.getElem?_eq_getElem hi2]; rfl
    simp only [S.key, Prod.mk.injEq] at hkey
    rw [qanatref03_Same.l0, if_pos (by rw [List.length_map]; omega), if_pos (by omega), if_pos (by rw [List.length_map]; omega), hr1, hr2, w64n (by omega), ih]
    simp only [toS, hkey.1, hkey.2.1, hkey.2.2, if_true]
    simp
theorem sameTk_f (l m : List S.Tk) (hk : l.map S.key = m.map S.key) (hl : l.length ≤ 1000000) (k : Nat) (hkk : l.length < k) : qanatref03_Same.f k (l.map toS) (m.map toS) = some true := by
  have hlen : l.length = m.length := by have := congrArg List.length hk; simpa using this
  unfold qanatref03_Same.f
  rw [if_pos (by rw [List.length_map, List.length_map, hlen])]
  exact sameTk_l0 l m hk hl l.length k 0 (by omega) hkk
theorem comments_l0 (x0 x3 : ByteArray) (x1 : Int) (x2 : Bool) (x9 : List S53) (hs : x3.size ≤ 20) (K : Nat) (hK : 1 ≤ K) (fin : (∀ x ∈ bytesOf x3, 97 ≤ x ∧ x ≤ 122) → ∀ k, K ≤ k → qanatlaw03_ScanComments.l0 k x0 x1 x2 x3 x9 (x3.size : Int) = some true) :
    ∀ (m k i : Nat), i + m = x3.size → K + m ≤ k → 0 < k → (∀ x ∈ (bytesOf x3).take i, 97 ≤ x ∧ x ≤ 122) → qanatlaw03_ScanComments.l0 k x0 x1 x2 x3 x9 (i : Int) = some true
  | 0, k, i, h, hk, _, hl => by
    obtain rfl : i = x3.size := by omega
    refine fin (fun x hx => hl x ?_) k (by omega)
    rw [List.take_of_length_le (by rw [bytesOf_length]; exact Nat.le_refl _)]
    exact hx
  | m + 1, 0, i, _, _, h0, _ => absurd h0 (Nat.lt_irrefl _)
  | m + 1, k + 1, i, h, hk, _, hl => by
    rw [qanatlaw03_ScanComments.l0, if_pos (by omega), if_pos (by omega)]
    by_cases h1 : bt x3 (i : Int) < 97
    · rw [if_pos h1]; rfl
    · rw [if_neg h1]
      by_cases h2 : bt x3 (i : Int) > 122
      · rw [if_pos h2]; rfl
      · rw [if_neg h2, w64n (by omega)]
        by_cases hk0 : 0 < k
        · refine comments_l0 x0 x3 x1 x2 x9 hs K hK fin m k (i + 1) (by omega) (by omega) hk0 (fun x hx => ?_)
          rw [List.take_add_one, List.getElem?_eq_getElem (by rw [bytesOf_length]; omega)] at hx
          rcases List.mem_append.1 hx with e | e
          · exact hl x e
          · simp only [Option.toList_some, List.mem_singleton] at e
            have hb := bt_getD x3 i (by omega)
            rw [List.getD_eq_getElem?_getD, List.getElem?_eq_getElem (by rw [bytesOf_length]; omega)] at hb
            simp only [Option.getD_some] at hb
            rw [e, ← hb]
            omega
        · exfalso
          omega
theorem scan_comments_pure : qanatlaw03_ScanComments.Pure := fun a0 a1 a2 a3 _ hw _ => by
  refine ⟨60030, ?_⟩
  have hw1 : 0 ≤ a1 ∧ a1 ≤ 65535 := by
    simp [Lit.wf, IntKind.min, IntKind.max, IntKind.bits, IntKind.signed] at hw
    omega
  unfold qanatlaw03_ScanComments.f qanatlaw03_small.f
  have hx : ∃ r, scan_Tokens.f a0 = some r := by
    unfold scan_Tokens.f
    split
    · split <;> exact ⟨_, rfl⟩
    · exact ⟨_, rfl⟩
  obtain ⟨r, hr⟩ := hx
  rw [hr]
  simp only [Option.bind_some]
  have triv : ∀ l, qanatlaw03_ScanComments.j0 (60029 + 1) a0 a1 a2 a3 l true = some true := fun l => rfl
  by_cases h0 : (a0.size : Int) ≤ 3000
  · rw [decide_eq_true h0, if_pos rfl]
    by_cases he : r.2.2.2 = 0
    · rw [if_pos he]
      by_cases hl : (r.1.length : Int) = 0
      · rw [if_pos hl]; exact triv _
      · rw [if_neg hl]
        by_cases h3 : (a3.size : Int) > 20
        · rw [decide_eq_true h3]; exact triv _
        · rw [decide_eq_false h3]
          -- the source has no error
          have hlen : (bytesOf a0).length = a0.size := bytesOf_length a0
          obtain ⟨hne, hr1⟩ : (S.scan (bytesOf a0)).err = none ∧ r.1 = (S.tokens (bytesOf a0)).map toS := by
            unfold scan_Tokens.f at hr
            rw [if_pos (by omega)] at hr
            cases hsc : (S.scan (bytesOf a0)).err with
            | none =>
              rw [hsc, if_pos (show errC none = 0 from rfl)] at hr
              exact ⟨rfl, by rw [← Option.some.inj hr]⟩
            | some p =>
              exfalso
              have hp := S.scan_err (c := p.1) (ln := p.2) hsc
              rw [hsc, if_neg (show ¬ errC (some p) = 0 from fun e => hp (Int.ofNat_eq_zero.1 e))] at hr
              rw [← Option.some.inj hr] at he
              cases he
          rw [hr1] at hl ⊢
          rw [List.length_map] at hl
          have htl := S.tokens_length (bo_range a0)
          obtain ⟨toks, htoks⟩ : ∃ toks, S.tokens (bytesOf a0) = toks := ⟨_, rfl⟩
          rw [htoks] at hl htl ⊢
          show qanatlaw03_ScanComments.j0 (60029 + 1) a0 a1 a2 a3 (toks.map toS) false = some true
          rw [qanatlaw03_ScanComments.j0, if_neg Bool.false_ne_true]
          refine comments_l0 a0 a3 a1 a2 (toks.map toS) (by omega) 60000 (by omega) ?_ a3.size 60029 0 (by omega) (by omega) (by omega) (by simp)
          intro hword k hk
          obtain ⟨k, rfl⟩ : ∃ k', k = k' + 3 := ⟨k - 3, by omega⟩
          have hidx : Int.tmod (wrap64 a1) ((toks.map toS).length : Int) = ((a1.toNat % toks.length : Nat) : Int) := by
            rw [List.length_map, show wrap64 a1 = (a1.toNat : Int) by unfold wrap64; omega]
            exact (Int.ofNat_tmod a1.toNat toks.length).symm
          have hlt : a1.toNat % toks.length < toks.length := Nat.mod_lt _ (by omega)
          obtain ⟨ix, hix⟩ : ∃ ix, a1.toNat % toks.length = ix := ⟨_, rfl⟩
          rw [hix] at hidx hlt
          have hrd : rd_T53 (toks.map toS) (ix : Int) = toS (toks[ix]'hlt) := by
            unfold rd_T53
            rw [Int.toNat_natCast, List.getD_eq_getElem?_getD, List.getElem?_map, List.getElem?_eq_getElem hlt]; rfl
          have hmem : toks[ix]'hlt ∈ toks := List.getElem_mem hlt
          generalize toks[ix]'hlt = tk at hrd hmem
          -- the places of a token
          have hv : S.vis ((bytesOf a0).length + 1) (bytesOf a0) 0 tk.at_ ∧ S.vis ((bytesOf a0).length + 1) (bytesOf a0) 0 tk.to := by
            have := S.tok_vis ((bytesOf a0).length + 1) (bytesOf a0) 0 1 [] false (bo_range a0) (Nat.lt_succ_self _) hne tk (by rw [← htoks] at hmem; exact hmem)
            rcases this with e | e
            · cases e
            · exact e
          have hto : tk.at_ ≤ a0.size ∧ tk.to ≤ a0.size := by
            obtain ⟨e', ln', g1, g2, g3⟩ := S.scan_cov (bo_range a0) hne
            rw [htoks] at g1
            have key : ∀ (l : List S.Tk) (e ln e' ln' : Nat), S.Pre (bytesOf a0) e ln l e' ln' → ∀ t ∈ l, t.at_ ≤ t.to ∧ t.to ≤ a0.size := fun l => by
              induction l with
              | nil => intro _ _ _ _ _ t ht; cases ht
              | cons u l ih =>
                intro e ln e' ln' hp t ht
                rcases List.mem_cons.1 ht with rfl | ht
                · exact ⟨hp.1.h2, by have := hp.1.h3; omega⟩
                · exact ih _ _ _ _ hp.2 t ht
            have := key toks 0 1 e' ln' g1 tk hmem
            omega
          -- what comes of it
          have fin : ∀ n : Nat, S.vis ((bytesOf a0).length + 1) (bytesOf a0) 0 n → n ≤ a0.size → qanatlaw03_ScanComments.j2 (k + 2) a0 a3 (toks.map toS) (n : Int) = some true := fun n hvn hn => by
            have j3t : qanatlaw03_ScanComments.j3 (k + 1) a0 a3 (toks.map toS) (n : Int) true = some true := by
              rw [qanatlaw03_ScanComments.j3, if_pos rfl]
              unfold qanatlaw03_sanity.f
              simp only [Option.bind_some, if_true]
              rw [if_pos (by omega), decide_eq_true (by omega)]
            have j3f : (0 < n → (bytesOf a0)[n - 1]? ≠ some 47) → qanatlaw03_ScanComments.j3 (k + 1) a0 a3 (toks.map toS) (n : Int) false = some true := fun h47 => by
              have e1 : (a0.extract 0 n).size = n := by rw [ByteArray.size_extract]; omega
              have e2 : (a0.extract n a0.size).size = a0.size - n := by rw [ByteArray.size_extract]; omega
              have e3 : (⟨#[47, 42]⟩ : ByteArray).size = 2 := rfl
              have e4 : (⟨#[42, 47]⟩ : ByteArray).size = 2 := rfl
              have s1 : ((a0.extract 0 n) ++ (⟨#[47, 42]⟩ : ByteArray)).size = n + 2 := by rw [ByteArray.size_append, e1, e3]
              have s2 : (((a0.extract 0 n) ++ (⟨#[47, 42]⟩ : ByteArray)) ++ a3).size = n + 2 + a3.size := by rw [ByteArray.size_append, s1]
              have s3 : ((((a0.extract 0 n) ++ (⟨#[47, 42]⟩ : ByteArray)) ++ a3) ++ (⟨#[42, 47]⟩ : ByteArray)).size = n + 2 + a3.size + 2 := by rw [ByteArray.size_append, s2, e4]
              have s4 : (((((a0.extract 0 n) ++ (⟨#[47, 42]⟩ : ByteArray)) ++ a3) ++ (⟨#[42, 47]⟩ : ByteArray)) ++ (a0.extract n a0.size)).size = n + 2 + a3.size + 2 + (a0.size - n) := by rw [ByteArray.size_append, s3, e2]
              rw [qanatlaw03_ScanComments.j3, if_neg Bool.false_ne_true, if_pos (by omega), if_pos (by omega), Int.toNat_natCast, if_pos (by omega), if_pos (by omega), if_pos (by omega), if_pos (by omega)]
              have hby : bytesOf (((((a0.extract 0 n) ++ (⟨#[47, 42]⟩ : ByteArray)) ++ a3) ++ (⟨#[42, 47]⟩ : ByteArray)) ++ (a0.extract n a0.size)) = (bytesOf a0).take n ++ 47 :: ((42 :: (bytesOf a3 ++ [42, 47])) ++ (bytesOf a0).drop n) := by
                rw [bytesOf_append, bytesOf_append, bytesOf_append, bytesOf_append, bytesOf_rest, bytesOf_extract, List.drop_zero, Nat.sub_zero]
                have b1 : bytesOf (⟨#[47, 42]⟩ : ByteArray) = [47, 42] := rfl
                have b2 : bytesOf (⟨#[42, 47]⟩ : ByteArray) = [42, 47] := rfl
                rw [b1, b2]
                simp
              have hins := S.ins (42 :: (bytesOf a3 ++ [42, 47])) (fun Y => S.step_word (bytesOf a3) Y hword) ((bytesOf a0).length + 1) (bytesOf a0) 0 1 [] false n (((bytesOf a0).take n ++ 47 :: ((42 :: (bytesOf a3 ++ [42, 47])) ++ (bytesOf a0).drop n)).length + 1) (bo_range a0) (Nat.lt_succ_self _) (by omega) (by rw [Nat.zero_add]; exact hvn) h47 (by simp only [List.length_append, List.length_cons, List.length_take, List.length_drop, List.length_nil]; omega) hne
              have hscan : (S.scan (bytesOf (((((a0.extract 0 n) ++ (⟨#[47, 42]⟩ : ByteArray)) ++ a3) ++ (⟨#[42, 47]⟩ : ByteArray)) ++ (a0.extract n a0.size)))).err = none ∧ (S.tokens (bytesOf (((((a0.extract 0 n) ++ (⟨#[47, 42]⟩ : ByteArray)) ++ a3) ++ (⟨#[42, 47]⟩ : ByteArray)) ++ (a0.extract n a0.size)))).map S.key = toks.map S.key := by
                rw [hby, ← htoks]; exact hins
              have hf : scan_Tokens.f (((((a0.extract 0 n) ++ (⟨#[47, 42]⟩ : ByteArray)) ++ a3) ++ (⟨#[42, 47]⟩ : ByteArray)) ++ (a0.extract n a0.size)) = some ((S.tokens (bytesOf (((((a0.extract 0 n) ++ (⟨#[47, 42]⟩ : ByteArray)) ++ a3) ++ (⟨#[42, 47]⟩ : ByteArray)) ++ (a0.extract n a0.size)))).map toS, 0, 0, 0) := by
                unfold scan_Tokens.f
                rw [if_pos (by omega), hscan.1]; rfl
              rw [hf]
              unfold qanatlaw03_sanity.f
              simp only [Option.bind_some, if_true]
              rw [sameTk_f toks _ hscan.2.symm (by omega) k (by omega)]
              rfl
            rw [qanatlaw03_ScanComments.j2, if_neg (by omega), if_neg (by omega)]
            by_cases hn0 : n = 0
            · subst hn0
              rw [if_neg (by omega)]
              exact j3f (fun e => absurd e (Nat.lt_irrefl _))
            · rw [if_pos (by omega), show wrap64 ((n : Int) - 1) = ((n - 1 : Nat) : Int) by unfold wrap64; omega, if_pos (by omega), if_pos (by omega)]
              have hb := bt_getD a0 (n - 1) (by omega)
              by_cases h47 : bt a0 ((n - 1 : Nat) : Int) = 47
              · rw [h47]; exact j3t
              · rw [show (bt a0 ((n - 1 : Nat) : Int) == 47) = false from beq_eq_false_iff_ne.2 h47]
                refine j3f (fun _ e => h47 ?_)
                rw [hb, List.getD_eq_getElem?_getD, e]; rfl
          rw [qanatlaw03_ScanComments.l0, if_neg (by omega), hidx, if_neg (by rw [List.length_map]; omega), if_pos (by omega), if_pos (by rw [List.length_map]; omega), hrd]
          cases a2 with
          | true => rw [if_pos rfl]; exact fin tk.to hv.2 hto.2
          | false => rw [if_neg Bool.false_ne_true]; exact fin tk.at_ hv.1 hto.1
    · rw [if_neg he]; exact triv _
  · rw [decide_eq_false h0, if_neg Bool.false_ne_true]; exact triv _
end Go.Proofs.YtkkpjonfaflkmaaGreatDoor.T
