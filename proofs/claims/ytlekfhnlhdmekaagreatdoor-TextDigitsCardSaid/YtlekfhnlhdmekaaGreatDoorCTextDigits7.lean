/- Part 7 of the proof of TextDigits: the functions that it calls return what their plain descriptions say. -/
import Derived.Test.YtlekfhnlhdmekaaGreatDoorCTextDigits6
import Derived.Test.YtlekfhnlhdmekaaGreatDoorCTextDigits2
import Derived.Test.YtlekfhnlhdmekaaGreatDoorCTextDigits4
import Derived.Test.YtlekfhnlhdmekaaGreatDoorCTextDigits3
import Derived.Test.YtlekfhnlhdmekaaGreatDoorCTextDigits5
import Derived.Lib.SpaceUEq

/- Where the words of a string stand, and the words themselves. -/
namespace Go.Proofs.YtlekfhnlhdmekaaGreatDoor.T
set_option linter.unusedSimpArgs false
set_option linter.unusedVariables false
open Go.RowKit Go.Proofs.YtlekfhnlhdmekaaGreatDoorW.PrintWords Go.Proofs.YtlekfhnlhdmekaaGreatDoorW.PrintLast Go.Proofs.YtlekfhnlhdmekaaGreatDoorW.PrintMore
/-- The bytes of a string. -/
def by8 (s : ByteArray) : List UInt8 := s.data.toList
theorem by8_length (s : ByteArray) : (by8 s).length = s.size := data_length s
theorem by8_drop (s : ByteArray) (i : Nat) (hi : i < s.size) : ∃ b : UInt8, (by8 s).drop i = b :: (by8 s).drop (i + 1) ∧ bt s (i : Int) = (b.toNat : Int) := by
  have hl : i < (by8 s).length := by rw [by8_length]; exact hi
  refine ⟨(by8 s)[i], List.drop_eq_getElem_cons hl, ?_⟩
  rw [bt_getD s i hi]
  have hl' : i < s.data.toList.length := hl
  simp [bytesOf, by8, List.getD_eq_getElem?_getD, List.getElem?_eq_getElem hl']
theorem b32 (b : UInt8) : b = 32 ↔ (b.toNat : Int) = 32 := by
  constructor
  · rintro rfl; rfl
  · intro h; apply UInt8.toNat_inj.1; have : (32 : UInt8).toNat = 32 := rfl; omega
theorem wend_all (s : ByteArray) (i : Nat) (hi : i ≤ s.size) : ∀ b ∈ ((by8 s).drop i).take (wend s i - i), b ≠ 32 := by
  by_cases h : i < s.size ∧ bt s (i : Int) ≠ 32
  · obtain ⟨b, hb, hv⟩ := by8_drop s i h.1
    have hg := wend_gt s i h.1 h.2
    rw [hb, show wend s i - i = (wend s i - (i + 1)) + 1 by omega, List.take_succ_cons]
    intro x hx
    rcases List.mem_cons.1 hx with rfl | hx
    · intro e; rw [b32, ← hv] at e; exact h.2 e
    · rw [wend_next s i h.1 h.2] at hx
      exact wend_all s (i + 1) (by omega) x hx
  · rw [wend_stop s i h]
    simp
termination_by s.size - i
theorem wend_at (s : ByteArray) (i : Nat) (hi : i ≤ s.size) : Stops ((by8 s).drop (wend s i)) := by
  by_cases h : i < s.size ∧ bt s (i : Int) ≠ 32
  · rw [wend_next s i h.1 h.2]
    exact wend_at s (i + 1) (by omega)
  · rw [wend_stop s i h]
    by_cases hlt : i < s.size
    · obtain ⟨b, hb, hv⟩ := by8_drop s i hlt
      have : bt s (i : Int) = 32 := Classical.byContradiction fun hn => h ⟨hlt, hn⟩
      rw [hb, (b32 b).2 (by rw [← hv]; exact this)]
      exact .inr ⟨_, rfl⟩
    · rw [List.drop_eq_nil_of_le (by rw [by8_length]; omega)]
      exact .inl rfl
termination_by s.size - i
/-- A word. -/
def wt (s : ByteArray) (x : S105) : List UInt8 := ((by8 s).drop x.f0.toNat).take (x.f1.toNat - x.f0.toNat)
theorem part_drop (l : List UInt8) (i e : Nat) (h : i ≤ e) : l.drop i = (l.drop i).take (e - i) ++ l.drop e := by
  have := List.take_append_drop (e - i) (l.drop i)
  rw [List.drop_drop, show i + (e - i) = e by omega] at this
  exact this.symm
theorem wd_ne (s : ByteArray) (i : Nat) (h : i < s.size) (hb : bt s (i : Int) ≠ 32) : ((by8 s).drop i).take (wend s i - i) ≠ [] := by
  obtain ⟨b, h1, hv⟩ := by8_drop s i h
  have hg := wend_gt s i h hb
  rw [h1, show wend s i - i = (wend s i - (i + 1)) + 1 by omega, List.take_succ_cons]
  simp
theorem wd_drop (s : ByteArray) (i : Nat) (hi : i ≤ s.size) : fw [] ((by8 s).drop i) = (wds s i).map (wt s) := by
  by_cases h : i < s.size
  · by_cases hb : bt s (i : Int) = 32
    · obtain ⟨b, h1, hv⟩ := by8_drop s i h
      rw [wds_blank s i h hb, h1, (b32 b).2 (by rw [← hv]; exact hb), fw_blank]
      exact wd_drop s (i + 1) (by omega)
    · have h1 := wend_gt s i h hb
      have h2 := wend_le s i hi
      rw [wds_word s i h hb, part_drop (by8 s) i (wend s i) (by omega), fw_one _ _ (wd_ne s i h hb) (wend_all s i hi) (wend_at s i hi), wd_drop s (wend s i) h2]
      simp [wt]
  · rw [wds_end s i h, List.drop_eq_nil_of_le (by rw [by8_length]; omega)]
    rfl
termination_by s.size - i
theorem wds_at (s : ByteArray) (i k : Nat) (hi : i ≤ s.size) (x : S105) (hx : (wds s i)[k]? = some x) : (i : Int) ≤ x.f0 ∧ x.f0 < x.f1 ∧ x.f1 ≤ s.size :=
  wds_mem s i hi x (List.mem_of_getElem? hx)
theorem starts_app (u v : List UInt8) (h : Starts v) (hv : v ≠ []) : Starts (u ++ v) := by
  rcases h with rfl | ⟨t, rfl⟩
  · exact absurd rfl hv
  · exact .inr ⟨u ++ t, by rw [List.append_assoc]⟩
theorem wd_pre (s : ByteArray) (i : Nat) (hi : i ≤ s.size) : ∀ (k : Nat) (x : S105), (wds s i)[k]? = some x →
    fw [] (((by8 s).drop i).take (x.f0.toNat - i)) = ((wds s i).map (wt s)).take k ∧ Starts (((by8 s).drop i).take (x.f0.toNat - i)) := by
  intro k x hx
  by_cases h : i < s.size
  · by_cases hb : bt s (i : Int) = 32
    · obtain ⟨b, h1, hv⟩ := by8_drop s i h
      rw [wds_blank s i h hb] at hx ⊢
      have hr := wds_at s (i + 1) k (by omega) x hx
      have ih := wd_pre s (i + 1) (by omega) k x hx
      rw [h1, (b32 b).2 (by rw [← hv]; exact hb), show x.f0.toNat - i = (x.f0.toNat - (i + 1)) + 1 by omega, List.take_succ_cons, fw_blank]
      refine ⟨ih.1, ?_⟩
      by_cases hn : ((by8 s).drop (i + 1)).take (x.f0.toNat - (i + 1)) = []
      · rw [hn]; exact .inr ⟨[], rfl⟩
      · exact starts_app [32] _ ih.2 hn
    · have h1 := wend_gt s i h hb
      have h2 := wend_le s i hi
      rw [wds_word s i h hb] at hx ⊢
      cases k with
      | zero =>
        have : x = ⟨(i : Int), (wend s i : Int)⟩ := by simpa using hx.symm
        subst this
        simp [fw, Starts]
      | succ k =>
        have hx : (wds s (wend s i))[k]? = some x := by simpa using hx
        have hr := wds_at s (wend s i) k h2 x hx
        have ih := wd_pre s (wend s i) h2 k x hx
        have hst := wend_at s i hi
        have hlt : wend s i < x.f0.toNat := by
          rcases Nat.lt_or_ge (wend s i) x.f0.toNat with h' | h'
          · exact h'
          · exfalso
            have he : wend s i < s.size := by omega
            obtain ⟨b, h3, hv⟩ := by8_drop s (wend s i) he
            rcases hst with h4 | ⟨t, h4⟩
            · rw [h3] at h4; cases h4
            · rw [h3] at h4
              have hb2 : bt s (wend s i : Int) = 32 := by rw [hv]; exact (b32 b).1 (by injection h4)
              rw [wds_blank s _ he hb2] at hx
              have := wds_at s (wend s i + 1) k (by omega) x hx
              omega
        have e1 : ((by8 s).drop i).take (x.f0.toNat - i) = ((by8 s).drop i).take (wend s i - i) ++ ((by8 s).drop (wend s i)).take (x.f0.toNat - wend s i) := by
          have hlen : (((by8 s).drop i).take (wend s i - i)).length = wend s i - i := by
            rw [List.length_take, List.length_drop, by8_length]; omega
          conv => lhs; rw [part_drop (by8 s) i (wend s i) (by omega)]
          rw [List.take_append, hlen, List.take_of_length_le (by omega), show x.f0.toNat - i - (wend s i - i) = x.f0.toNat - wend s i by omega]
        have hne : ((by8 s).drop (wend s i)).take (x.f0.toNat - wend s i) ≠ [] := by
          intro e
          have := congrArg List.length e
          rw [List.length_take, List.length_drop, by8_length] at this
          simp at this; omega
        have hst2 : Stops (((by8 s).drop (wend s i)).take (x.f0.toNat - wend s i)) := by
          rcases hst with h4 | ⟨t, h4⟩
          · rw [h4]; simp [Stops]
          · rw [h4, show x.f0.toNat - wend s i = (x.f0.toNat - wend s i - 1) + 1 by omega, List.take_succ_cons]
            exact .inr ⟨_, rfl⟩
        rw [e1, fw_one _ _ (wd_ne s i h hb) (wend_all s i hi) hst2, ih.1]
        refine ⟨?_, starts_app _ _ ih.2 hne⟩
        simp [wt]
  · rw [wds_end s i h] at hx
    simp at hx
termination_by s.size - i
theorem wd_post (s : ByteArray) (i : Nat) (hi : i ≤ s.size) : ∀ (k : Nat) (x : S105), (wds s i)[k]? = some x →
    fw [] ((by8 s).drop x.f1.toNat) = ((wds s i).map (wt s)).drop (k + 1) ∧ Stops ((by8 s).drop x.f1.toNat) := by
  intro k x hx
  by_cases h : i < s.size
  · by_cases hb : bt s (i : Int) = 32
    · rw [wds_blank s i h hb] at hx ⊢
      exact wd_post s (i + 1) (by omega) k x hx
    · have h1 := wend_gt s i h hb
      have h2 := wend_le s i hi
      rw [wds_word s i h hb] at hx ⊢
      cases k with
      | zero =>
        have : x = ⟨(i : Int), (wend s i : Int)⟩ := by simpa using hx.symm
        subst this
        simp only [Int.toNat_natCast]
        exact ⟨by rw [wd_drop s (wend s i) h2]; simp, wend_at s i hi⟩
      | succ k =>
        have hx : (wds s (wend s i))[k]? = some x := by simpa using hx
        have ih := wd_post s (wend s i) h2 k x hx
        rw [ih.1]
        exact ⟨by simp, ih.2⟩
  · rw [wds_end s i h] at hx
    simp at hx
termination_by s.size - i
end Go.Proofs.YtlekfhnlhdmekaaGreatDoor.T

-- Written by a program of this session (mp.py over the kit's print.py), out of the translation.
namespace Go.Proofs.YtlekfhnlhdmekaaGreatDoor.T
set_option linter.unusedSimpArgs false
open Go.RowKit Go.Proofs.YtlekfhnlhdmekaaGreatDoorW.PrintWords Go.Proofs.YtlekfhnlhdmekaaGreatDoorW.PrintLast Go.Proofs.YtlekfhnlhdmekaaGreatDoorW.PrintMore
attribute [local go_sem] max2_int min2_int max_two min_two max_three min_three max_four min_four   -- for this text's walks alone
set_option linter.unusedVariables false
set_option linter.unusedSimpArgs false

/-! ### qanatref02_whole: function 102 -/
def qanatref02_whole.f (a0 : Int) (a1 : Int) (a2 : Bool) : Option (Bool) := if a0 ≥ a1 then (some true) else (if a2 = true then (some (a0 == (-1))) else (some false))
set_option maxHeartbeats 8000000 in
set_option maxRecDepth 100000 in
theorem qanatref02_whole.calls (a0 : Int) (a1 : Int) (a2 : Bool) (r : Bool) (w : World) (h : qanatref02_whole.f a0 a1 a2 = some r) :
    Calls Tryz.prog 102 #[.int .i64 a0, .int .i64 a1, .bool a2] w fun e w' => e = .returned (.bool r) ∧ Drawn0 w w' := by
  have H : (if a0 ≥ a1 then (some true) else (if a2 = true then (some (a0 == (-1))) else (some false))) = some r := h
  clear h
  by_cases c4 : a0 ≥ a1
  · rw [if_pos c4] at H
    have c4b0 : decide (a1 ≤ a0) = true := decide_eq_true c4
    clear c4
    obtain rfl := Option.some.inj H
    go_enter Tryz.func102, Tryz.ntmps102
    go_wp2
    go_ret
    exact ⟨by first | rfl | (simp; done) | (simp [*]; done), by repeat (first | exact Drawn0.refl _ | apply Drawn0.step)⟩
  · rw [if_neg c4] at H
    have c4b0 : decide (a1 ≤ a0) = false := decide_eq_false c4
    clear c4
    by_cases c5 : a2 = true
    · subst c5
      have H1 : (some (a0 == (-1))) = some r := by rw [if_pos rfl] at H; exact H
      clear H
      have H := H1
      clear H1
      obtain rfl := Option.some.inj H
      go_enter Tryz.func102, Tryz.ntmps102
      go_wp2
      go_ret
      exact ⟨by first | rfl | (simp; done) | (simp [*]; done), by repeat (first | exact Drawn0.refl _ | apply Drawn0.step)⟩
    · replace c5 := Bool.eq_false_iff.mpr c5
      subst c5
      have H1 : (some false) = some r := by rw [if_neg (show ¬ (false = true) by decide)] at H; exact H
      clear H
      have H := H1
      clear H1
      obtain rfl := Option.some.inj H
      go_enter Tryz.func102, Tryz.ntmps102
      go_wp2
      go_ret
      exact ⟨by first | rfl | (simp; done) | (simp [*]; done), by repeat (first | exact Drawn0.refl _ | apply Drawn0.step)⟩

end Go.Proofs.YtlekfhnlhdmekaaGreatDoor.T

-- Written by a program of this session (mp.py over the kit's print.py), out of the translation.
namespace Go.Proofs.YtlekfhnlhdmekaaGreatDoor.T
set_option linter.unusedSimpArgs false
open Go.RowKit Go.Proofs.YtlekfhnlhdmekaaGreatDoorW.PrintWords Go.Proofs.YtlekfhnlhdmekaaGreatDoorW.PrintLast Go.Proofs.YtlekfhnlhdmekaaGreatDoorW.PrintMore
attribute [local go_sem] max2_int min2_int max_two min_two max_three min_three max_four min_four   -- for this text's walks alone
set_option linter.unusedVariables false
set_option linter.unusedSimpArgs false

/-! ### qanatlaw02_num: function 34 -/
def qanatlaw02_num.f (a0 : Int) (a1 : Int) (a2_0 : Int) (a2_1 : Int) : Option (Bool) := if a0 = a2_0 then (some (a1 == a2_1)) else (some false)
set_option maxHeartbeats 8000000 in
set_option maxRecDepth 100000 in
theorem qanatlaw02_num.calls (a0 : Int) (a1 : Int) (a2_0 : Int) (a2_1 : Int) (r : Bool) (w : World) (h : qanatlaw02_num.f a0 a1 a2_0 a2_1 = some r) :
    Calls Tryz.prog 34 #[.int .i64 a0, .int .i64 a1, .agg #[.int .i64 a2_0, .int .i64 a2_1]] w fun e w' => e = .returned (.bool r) ∧ Below w.heap.size w w' := by
  have hu49 := Tryz.underlying49
  have HB := Aside0.mk (Below.refl w.heap.size w)
  have H : (if a0 = a2_0 then (some (a1 == a2_1)) else (some false)) = some r := h
  clear h
  by_cases c4 : a0 = a2_0
  · rw [if_pos c4] at H
    have c4b0 : (a0 == a2_0) = true := beq_iff_eq.mpr c4
    have c4b1 : (a0 != a2_0) = false := bne_eq_false_iff_eq.mpr c4
    clear c4
    obtain rfl := Option.some.inj H
    go_enter Tryz.func34, Tryz.ntmps34
    go_wp2_with (first | ((with_reducible refine gate_dst (N := 5) rfl ?_); refine box_event ?hg (N := 5) ?hd (cs := #[.int .i64 a2_0, .int .i64 a2_1]) (t := 49) ?hr ?_; (case hd => rfl); (case hg => rfl); (case hr => first | (go_simp; done) | (go_simp; rfl)); intro gb277 hg w5 hbox hb; have n0_ := Aside0.mk (below_step (by repeat (first | (with_reducible first | exact HB.out | apply below_alloc | apply pw_below_drewN | apply below_drew1) | exact HB.out)) hb); have n1_ := Aside0.mk (hbox); have n2_ := Aside0.mk ((by rw [hg]; exact (below_size (by repeat (first | (with_reducible first | exact HB.out | apply below_alloc | apply pw_below_drewN | apply below_drew1) | exact HB.out))) : w.heap.size ≤ gb277)); have n3_ := Aside0.mk ((by rw [hg]; exact (below_size (by repeat (first | (with_reducible first | exact HB.out | apply below_alloc | apply pw_below_drewN | apply below_drew1) | exact HB.out))) : w.heap.size ≤ gb277)); clear HB; have HB := n0_; have BK277 := n1_; have GW277 := n2_; have GE277 := n3_; clear n0_ n1_ n2_ n3_; clear hb hbox hg; have hcz6_0 : w5.cell? ⟨gb277, 0, none⟩ = some (.int .i64 a2_0) := (blk_cell BK277.out 0).trans rfl; have hcz6_1 : w5.cell? ⟨gb277, 1, none⟩ = some (.int .i64 a2_1) := (blk_cell BK277.out 1).trans rfl; have hfz6_0 := blk_frozen BK277.out 0; have hfz6_1 := blk_frozen BK277.out 1))
    go_ret
    exact ⟨by first | rfl | (simp [errW_none, errW_some] <;> rfl) | (simp [*, errW_none, errW_some] <;> rfl), by repeat (first | (with_reducible first | exact HB.out | apply below_alloc | apply pw_below_drewN | apply below_drew1 | refine below_set ?_ GE277.out) | exact HB.out)⟩
  · rw [if_neg c4] at H
    have c4b0 : (a0 == a2_0) = false := beq_eq_false_iff_ne.mpr c4
    have c4b1 : (a0 != a2_0) = true := bne_iff_ne.mpr c4
    obtain rfl := Option.some.inj H
    go_enter Tryz.func34, Tryz.ntmps34
    go_wp2_with (first | ((with_reducible refine gate_dst (N := 5) rfl ?_); refine box_event ?hg (N := 5) ?hd (cs := #[.int .i64 a2_0, .int .i64 a2_1]) (t := 49) ?hr ?_; (case hd => rfl); (case hg => rfl); (case hr => first | (go_simp; done) | (go_simp; rfl)); intro gb277 hg w7 hbox hb; have n0_ := Aside0.mk (below_step (by repeat (first | (with_reducible first | exact HB.out | apply below_alloc | apply pw_below_drewN | apply below_drew1) | exact HB.out)) hb); have n1_ := Aside0.mk (hbox); have n2_ := Aside0.mk ((by rw [hg]; exact (below_size (by repeat (first | (with_reducible first | exact HB.out | apply below_alloc | apply pw_below_drewN | apply below_drew1) | exact HB.out))) : w.heap.size ≤ gb277)); have n3_ := Aside0.mk ((by rw [hg]; exact (below_size (by repeat (first | (with_reducible first | exact HB.out | apply below_alloc | apply pw_below_drewN | apply below_drew1) | exact HB.out))) : w.heap.size ≤ gb277)); clear HB; have HB := n0_; have BK277 := n1_; have GW277 := n2_; have GE277 := n3_; clear n0_ n1_ n2_ n3_; clear hb hbox hg; have hcz8_0 : w7.cell? ⟨gb277, 0, none⟩ = some (.int .i64 a2_0) := (blk_cell BK277.out 0).trans rfl; have hcz8_1 : w7.cell? ⟨gb277, 1, none⟩ = some (.int .i64 a2_1) := (blk_cell BK277.out 1).trans rfl; have hfz8_0 := blk_frozen BK277.out 0; have hfz8_1 := blk_frozen BK277.out 1))
    go_ret
    exact ⟨by first | rfl | (simp [errW_none, errW_some] <;> rfl) | (simp [*, errW_none, errW_some] <;> rfl), by repeat (first | (with_reducible first | exact HB.out | apply below_alloc | apply pw_below_drewN | apply below_drew1 | refine below_set ?_ GE277.out) | exact HB.out)⟩

end Go.Proofs.YtlekfhnlhdmekaaGreatDoor.T

/- Small laws that the pure laws share. -/
namespace Go.Proofs.YtlekfhnlhdmekaaGreatDoor.T
set_option linter.unusedSimpArgs false
set_option linter.unusedVariables false
open Go.RowKit Go.Proofs.YtlekfhnlhdmekaaGreatDoorW.PrintWords Go.Proofs.YtlekfhnlhdmekaaGreatDoorW.PrintLast Go.Proofs.YtlekfhnlhdmekaaGreatDoorW.PrintMore
namespace B
theorem str_eq (s : ByteArray) (e : Int) : qanatlaw02_str.f s e s e = some true := by
  unfold qanatlaw02_str.f
  rw [if_pos rfl]
  simp
theorem num_eq (n e : Int) : qanatlaw02_num.f n e n e = some true := by
  unfold qanatlaw02_num.f
  rw [if_pos rfl]
  simp
theorem i64 {x : Int} (h : (Lit.int .i64 x).wf = true) : -9223372036854775808 ≤ x ∧ x ≤ 9223372036854775807 := by
  simp [Lit.wf, IntKind.min, IntKind.max, IntKind.bits, IntKind.signed] at h
  omega
theorem size {s : ByteArray} (h : vld s = true) : s.size ≤ 1000 := by
  simp [vld] at h; exact h.1
theorem all {s : ByteArray} (h : vld s = true) : ∀ x ∈ bytesOf s, goodI x = true := by
  simp only [vld, Bool.and_eq_true, List.all_eq_true] at h
  exact h.2
theorem mk {s : ByteArray} (h1 : s.size ≤ 1000) (h2 : ∀ x ∈ bytesOf s, goodI x = true) : vld s = true := by
  simp only [vld, Bool.and_eq_true, List.all_eq_true, decide_eq_true_eq]
  exact ⟨h1, h2⟩
theorem good (x : Int) : goodI x = true ↔ 32 ≤ x ∧ x ≤ 126 := by simp [goodI]
theorem valid1 (s : ByteArray) : text_valid.f [s] = some (if vld s = true then 0 else 1) := by
  unfold text_valid.f
  by_cases h : vld s = true <;> simp [h]
theorem valid2 (s t : ByteArray) : text_valid.f [s, t] = some (if vld s = true ∧ vld t = true then 0 else 1) := by
  unfold text_valid.f
  by_cases h : vld s = true <;> by_cases h' : vld t = true <;> simp [h, h']
theorem valid3 (s t u : ByteArray) : text_valid.f [s, t, u] = some (if vld s = true ∧ vld t = true ∧ vld u = true then 0 else 1) := by
  unfold text_valid.f
  by_cases h : vld s = true <;> by_cases h' : vld t = true <;> by_cases h'' : vld u = true <;> simp [h, h', h'']
theorem pads1 (p : Int) : text_pads.f [p] = some (if goodI p = true then 0 else 1) := by
  unfold text_pads.f
  by_cases h : goodI p = true <;> simp [h]
theorem least1 (n x : Int) : text_least.f n [x] = some (if n ≤ x then 0 else 1) := by
  unfold text_least.f
  by_cases h : n ≤ x <;> simp [h]
theorem first2 (b c : Prop) [Decidable b] [Decidable c] : text_first.f [if b then 0 else 1, if c then 0 else 1] = some (if b ∧ c then 0 else 1) := by
  by_cases h1 : b <;> by_cases h2 : c <;> simp [h1, h2] <;> rfl
theorem first3 (b c d : Prop) [Decidable b] [Decidable c] [Decidable d] : text_first.f [if b then 0 else 1, if c then 0 else 1, if d then 0 else 1] = some (if b ∧ c ∧ d then 0 else 1) := by
  by_cases h1 : b <;> by_cases h2 : c <;> by_cases h3 : d <;> simp [h1, h2, h3] <;> rfl
theorem first4 (b c d e : Prop) [Decidable b] [Decidable c] [Decidable d] [Decidable e] : text_first.f [if b then 0 else 1, if c then 0 else 1, if d then 0 else 1, if e then 0 else 1] = some (if b ∧ c ∧ d ∧ e then 0 else 1) := by
  by_cases h1 : b <;> by_cases h2 : c <;> by_cases h3 : d <;> by_cases h4 : e <;> simp [h1, h2, h3, h4] <;> rfl
theorem whole (n lo : Int) : qanatref02_whole.f n lo false = some (decide (lo ≤ n)) := by
  unfold qanatref02_whole.f
  by_cases h : lo ≤ n
  · rw [if_pos (by omega)]; simp [h]
  · rw [if_neg (by omega)]; simp [h]
theorem wholeM (n : Int) : qanatref02_whole.f n 0 true = some (decide (-1 ≤ n)) := by
  unfold qanatref02_whole.f
  by_cases h : 0 ≤ n
  · rw [if_pos (by omega)]; simp; omega
  · rw [if_neg (by omega), if_pos rfl]
    by_cases e : n = -1
    · subst e; rfl
    · rw [show (n == -1) = false from beq_eq_false_iff_ne.mpr e, show decide (-1 ≤ n) = false from decide_eq_false (by omega)]
theorem toL (s : ByteArray) : s.toList = s.data.toList := Lib.toList_data s
theorem ext {a b : ByteArray} (h : a.data.toList = b.data.toList) : a = b := by
  apply ByteArray.ext
  exact Array.toList_inj.1 h
theorem sz (s : ByteArray) : s.size = s.data.toList.length := (data_length s).symm
theorem extract (s : ByteArray) (i j : Nat) : (s.extract i j).data.toList = (s.data.toList.drop i).take (j - i) := by
  rw [ByteArray.data_extract, Array.toList_extract, List.extract_eq_take_drop]
theorem append (a b : ByteArray) : (a ++ b).data.toList = a.data.toList ++ b.data.toList := by
  rw [ByteArray.data_append, Array.toList_append]
theorem vldA {a b : ByteArray} (ha : ∀ x ∈ bytesOf a, goodI x = true) (hb : ∀ x ∈ bytesOf b, goodI x = true) (h : (a ++ b).size ≤ 1000) : vld (a ++ b) = true := by
  refine mk h (fun x hx => ?_)
  unfold bytesOf at hx
  rw [append, List.map_append] at hx
  exact (List.mem_append.1 hx).elim (ha x) (hb x)
theorem vldE {a : ByteArray} (i j : Nat) (h : vld a = true) : vld (a.extract i j) = true := by
  refine mk ?_ (fun x hx => ?_)
  · have := size h; rw [ByteArray.size_extract]; omega
  · refine all h x ?_
    unfold bytesOf at hx ⊢
    rw [extract] at hx
    obtain ⟨b, hb, rfl⟩ := List.mem_map.1 hx
    exact List.mem_map.2 ⟨b, List.mem_of_mem_drop (List.mem_of_mem_take hb), rfl⟩
theorem made (s : ByteArray) (h : vld s = true) : text_made.f s = some (s, 0) := by
  rw [made_eq, if_neg (by have := size h; omega), if_pos h]
end B
end Go.Proofs.YtlekfhnlhdmekaaGreatDoor.T

/- Digits: what the program's digits and the reference's digits make of words. -/
namespace Go.Proofs.YtlekfhnlhdmekaaGreatDoor.T
set_option linter.unusedSimpArgs false
set_option linter.unusedVariables false
open Go.RowKit Go.Proofs.YtlekfhnlhdmekaaGreatDoorW.PrintWords Go.Proofs.YtlekfhnlhdmekaaGreatDoorW.PrintLast Go.Proofs.YtlekfhnlhdmekaaGreatDoorW.PrintMore
namespace Dg
/-- The value of a digit; -1 of what is none. -/
def dv (base b : Int) : Int := (text_digit.f 2 b base).getD 0
theorem tab16 : (List.range 256).all (fun b => decide (text_digit.f 2 (b : Int) 16 = some (dv 16 b)) && decide (qanatref02_digit.f 20 (b : Int) 16 = some (dv 16 b)) && decide (dv 16 b < 16)) = true := by kernel_rfl
theorem tab2 : (List.range 256).all (fun b => decide (text_digit.f 2 (b : Int) 2 = some (dv 2 b)) && decide (qanatref02_digit.f 20 (b : Int) 2 = some (dv 2 b)) && decide (dv 2 b < 2)) = true := by kernel_rfl
theorem tabs (base : Int) (hb : base = 16 ∨ base = 2) (b : UInt8) : text_digit.f 2 (b.toNat : Int) base = some (dv base b.toNat) ∧ qanatref02_digit.f 20 (b.toNat : Int) base = some (dv base b.toNat) ∧ dv base b.toNat < base := by
  have hm : b.toNat ∈ List.range 256 := List.mem_range.2 b.toNat_lt
  rcases hb with rfl | rfl
  · have := List.all_eq_true.1 tab16 _ hm
    simp only [Bool.and_eq_true, decide_eq_true_eq] at this
    exact ⟨this.1.1, this.1.2, this.2⟩
  · have := List.all_eq_true.1 tab2 _ hm
    simp only [Bool.and_eq_true, decide_eq_true_eq] at this
    exact ⟨this.1.1, this.1.2, this.2⟩
theorem t_dig (base : Int) (hb : base = 16 ∨ base = 2) (b : UInt8) (k : Nat) (hk : 2 ≤ k) : text_digit.f k (b.toNat : Int) base = some (dv base b.toNat) := by
  obtain ⟨d, rfl⟩ : ∃ d, k = 2 + d := ⟨k - 2, by omega⟩
  clear hk
  induction d with
  | zero => exact (tabs base hb b).1
  | succ d ih => exact text_digit.mono _ _ _ _ ih
theorem r_dig (base : Int) (hb : base = 16 ∨ base = 2) (b : UInt8) (k : Nat) (hk : 20 ≤ k) : qanatref02_digit.f k (b.toNat : Int) base = some (dv base b.toNat) := by
  obtain ⟨d, rfl⟩ : ∃ d, k = 20 + d := ⟨k - 20, by omega⟩
  clear hk
  induction d with
  | zero => exact (tabs base hb b).2.1
  | succ d ih => exact qanatref02_digit.mono _ _ _ _ ih
def okw (base : Int) (w : List UInt8) : Bool := w.all fun b => decide (0 ≤ dv base b.toNat)
def dg (base : Int) (w : List UInt8) : List Int := w.map fun b => dv base b.toNat
theorem dg_len (base : Int) (w : List UInt8) : (dg base w).length = w.length := List.length_map _
def tl (base : Int) (g : Nat) : List (List UInt8) → List Int → Option (List Int)
  | [], acc => some acc
  | w :: r, acc => if w.length % g = 0 ∧ okw base w = true then tl base g r (acc ++ dg base w) else none
def ou : Option (List Int) → List Int × Bool
  | some l => (l, true)
  | none => ([], false)
def fu : List (List UInt8) → Nat
  | [] => 1
  | w :: r => w.length + 30 + fu r
theorem t_l1 (base : Int) (hb : base = 16 ∨ base = 2) (g : Int) (w : ByteArray) (L : List ByteArray) (n i : Int) (hw : w.size ≤ 100000) : ∀ (d j k : Nat) (acc : List Int), w.size - j = d → j ≤ w.size → d + 3 ≤ k → acc.length + d ≤ 1000000 →
    text_digits.l1 k base g acc w L n i (w.size : Int) (j : Int) = if okw base ((by8 w).drop j) = true then text_digits.l0 (k - d - 1) base g (acc ++ dg base ((by8 w).drop j)) L n (wrap64 (i + 1)) else some ([], false)
  | d, j, 0, acc, _, _, h, _ => by omega
  | d, j, k + 1, acc, hd, hj, hk, ha => by
    rw [text_digits.l1]
    by_cases hlt : j < w.size
    · obtain ⟨b, e1, e2⟩ := by8_drop w j hlt
      rw [if_pos (by omega), if_pos (by omega), if_pos (by omega), e2, t_dig base hb b k (by omega), e1]
      simp only [Option.bind_some]
      by_cases hv : dv base b.toNat < 0
      · rw [if_pos hv, if_neg (by simp only [okw, List.all_cons, Bool.and_eq_true, decide_eq_true_eq]; omega)]
      · rw [if_neg hv, if_pos (by omega), wrap64_id _ (by omega) (by omega), show ((j : Int) + 1) = ((j + 1 : Nat) : Int) by omega,
          t_l1 base hb g w L n i hw (d - 1) (j + 1) k (acc ++ [dv base b.toNat]) (by omega) (by omega) (by omega) (by rw [List.length_append]; simp; omega)]
        have e3 : okw base (b :: (by8 w).drop (j + 1)) = okw base ((by8 w).drop (j + 1)) := by
          simp only [okw, List.all_cons, decide_eq_true (show 0 ≤ dv base b.toNat by omega), Bool.true_and]
        rw [e3, show k - (d - 1) - 1 = k + 1 - d - 1 by omega]
        simp only [dg, List.map_cons, List.append_assoc, List.singleton_append]
    · rw [if_neg (by omega), List.drop_of_length_le (by rw [by8_length]; omega)]
      rw [if_pos (by rfl), show k + 1 - d - 1 = k by omega]
      simp [dg]
theorem rdOf_nat (L : List ByteArray) (i : Nat) (hi : i < L.length) : rdOf ByteArray.empty L (i : Int) = L[i] := by
  unfold rdOf; rw [Int.toNat_natCast, List.getD_eq_getElem?_getD, List.getElem?_eq_getElem hi]; rfl
theorem t_l0 (base : Int) (hb : base = 16 ∨ base = 2) (g : Nat) (hg : g = 2 ∨ g = 4) (L : List ByteArray) (hL : L.length ≤ 100000) : ∀ (d i k : Nat) (acc : List Int), L.length - i = d → i ≤ L.length → 1 ≤ i → fu ((L.drop i).map by8) ≤ k → acc.length + Lib.lens ((L.drop i).map by8) ≤ 90000 →
    text_digits.l0 k base (g : Int) acc L (L.length : Int) (i : Int) = some (ou (tl base g ((L.drop i).map by8) acc))
  | 0, i, k, acc, hd, hi, h1, hk, ha => by
    rw [List.drop_of_length_le (by omega)] at hk ⊢
    obtain ⟨k, rfl⟩ : ∃ k', k = k' + 1 := ⟨k - 1, by simp [fu] at hk; omega⟩
    rw [text_digits.l0, if_neg (by omega)]
    rfl
  | d + 1, i, k, acc, hd, hi, h1, hk, ha => by
    have hlt : i < L.length := by omega
    rw [List.drop_eq_getElem_cons hlt] at hk ha ⊢
    rw [List.map_cons] at hk ha ⊢
    have hsz : (by8 L[i]).length = L[i].size := by8_length _
    simp only [fu] at hk
    simp only [Lib.lens, List.map_cons, List.sum_cons] at ha
    obtain ⟨k, rfl⟩ : ∃ k', k = k' + 2 := ⟨k - 2, by omega⟩
    rw [text_digits.l0, if_pos (by omega), if_pos (by omega), if_pos (by omega), if_neg (by omega), if_neg (by rcases hg with rfl | rfl <;> decide), rdOf_nat L i hlt, tl]
    by_cases hm : (by8 L[i]).length % g = 0
    · rw [if_pos (by rw [hsz] at hm; rcases hg with rfl | rfl <;> omega), text_digits.j1]
      have hl1 := t_l1 base hb (g : Int) L[i] L (L.length : Int) (i : Int) (by omega) L[i].size 0 k acc (by omega) (by omega) (by omega) (by omega)
      rw [show ((0 : Nat) : Int) = 0 from rfl, List.drop_zero] at hl1
      rw [hl1]
      by_cases ho : okw base (by8 L[i]) = true
      · rw [if_pos ho, if_pos ⟨hm, ho⟩, wrap64_id _ (by omega) (by omega), show ((i : Int) + 1) = ((i + 1 : Nat) : Int) by omega]
        exact t_l0 base hb g hg L hL d (i + 1) _ _ (by omega) (by omega) (by omega) (by omega) (by rw [List.length_append, dg_len]; simp only [Lib.lens]; omega)
      · rw [if_neg ho, if_neg (fun h => ho h.2)]; rfl
    · rw [if_neg (by rw [hsz] at hm; rcases hg with rfl | rfl <;> omega), if_neg (fun h => hm h.1)]; rfl
def padn (g len : Nat) : Nat := (g - len % g) % g
/-- What digits makes of the words, with what it fills up ahead. -/
def td (base : Int) (g : Nat) : List (List UInt8) → Option (List Int)
  | [] => some []
  | w :: r => if okw base w = true then tl base g r (List.replicate (padn g w.length) 0 ++ dg base w) else none
theorem t_all (base : Int) (hb : base = 16 ∨ base = 2) (g : Nat) (hg : g = 2 ∨ g = 4) (L : List ByteArray) (hL : L.length ≤ 100000) (hs : Lib.lens (L.map by8) ≤ 80000) (k : Nat) (hk : fu (L.map by8) ≤ k) :
    text_digits.l0 k base (g : Int) [] L (L.length : Int) 0 = some (ou (td base g (L.map by8))) := by
  cases L with
  | nil =>
    obtain ⟨k, rfl⟩ : ∃ k', k = k' + 1 := ⟨k - 1, by simp [fu] at hk; omega⟩
    rw [text_digits.l0, if_neg (by simp)]
    rfl
  | cons w r =>
    have hsz : (by8 w).length = w.size := by8_length _
    simp only [List.map_cons, fu] at hk
    simp only [List.map_cons, Lib.lens, List.sum_cons] at hs
    obtain ⟨k, rfl⟩ : ∃ k', k = k' + 2 := ⟨k - 2, by omega⟩
    have e0 : rdOf ByteArray.empty (w :: r) 0 = w := rfl
    have e1 : (Int.tmod (wrap64 ((g : Int) - (((w.size : Nat) : Int) % (g : Int)))) (g : Int)) = ((padn g w.size : Nat) : Int) := by
      unfold padn
      rcases hg with rfl | rfl
      · have : ((w.size : Int) % ((2 : Nat) : Int)) = ((w.size % 2 : Nat) : Int) := by omega
        rw [this, wrap64_id _ (by omega) (by omega), Int.tmod_eq_emod_of_nonneg (by omega)]
        omega
      · have : ((w.size : Int) % ((4 : Nat) : Int)) = ((w.size % 4 : Nat) : Int) := by omega
        rw [this, wrap64_id _ (by omega) (by omega), Int.tmod_eq_emod_of_nonneg (by omega)]
        omega
    have hp : padn g w.size ≤ 4 := by unfold padn; rcases hg with rfl | rfl <;> omega
    rw [text_digits.l0, if_pos (by simp), if_pos (by omega), if_pos (by simp), if_pos rfl, if_neg (by rcases hg with rfl | rfl <;> decide), e0, e1, if_pos (by omega), if_pos (by omega), Int.toNat_natCast, text_digits.j1]
    have hl1 := t_l1 base hb (g : Int) w (w :: r) ((w :: r).length : Int) 0 (by omega) w.size 0 k (List.replicate (padn g w.size) 0) (by omega) (by omega) (by omega) (by rw [List.length_replicate]; omega)
    rw [show ((0 : Nat) : Int) = 0 from rfl, List.drop_zero] at hl1
    rw [hl1, List.map_cons, td, hsz]
    by_cases ho : okw base (by8 w) = true
    · rw [if_pos ho, if_pos ho, show wrap64 (0 + 1) = ((1 : Nat) : Int) by unfold wrap64; omega]
      exact t_l0 base hb g hg (w :: r) hL r.length 1 _ _ (by simp) (by simp) (by omega) (by simp; omega) (by simp [dg_len, List.length_append]; simp only [Lib.lens] at *; omega)
    · rw [if_neg ho, if_neg ho]; rfl
end Dg
end Go.Proofs.YtlekfhnlhdmekaaGreatDoor.T

/- Digits, the whole: what digits of the program and of the reference return. -/
namespace Go.Proofs.YtlekfhnlhdmekaaGreatDoor.T
set_option linter.unusedSimpArgs false
set_option linter.unusedVariables false
open Go.RowKit Go.Proofs.YtlekfhnlhdmekaaGreatDoorW.PrintWords Go.Proofs.YtlekfhnlhdmekaaGreatDoorW.PrintLast Go.Proofs.YtlekfhnlhdmekaaGreatDoorW.PrintMore
namespace Dg
theorem r_l1 (base : Int) (hb : base = 16 ∨ base = 2) (g : Int) (s w : ByteArray) (sp : List S113) (i : Int) (hw : w.size ≤ 100000) : ∀ (d j k : Nat) (acc : List Int), w.size - j = d → j ≤ w.size → d + 21 ≤ k → acc.length + d ≤ 1000000 →
    qanatref02_digits.l1 k s base g acc sp i w (j : Int) = if okw base ((by8 w).drop j) = true then qanatref02_digits.l0 (k - d - 1) s base g (acc ++ dg base ((by8 w).drop j)) sp (wrap64 (i + 1)) else some ([], false)
  | d, j, 0, acc, _, _, h, _ => by omega
  | d, j, k + 1, acc, hd, hj, hk, ha => by
    rw [qanatref02_digits.l1]
    by_cases hlt : j < w.size
    · obtain ⟨b, e1, e2⟩ := by8_drop w j hlt
      rw [if_pos (by omega), if_pos (by omega), e2, r_dig base hb b k (by omega), e1]
      simp only [Option.bind_some]
      by_cases hv : dv base b.toNat < 0
      · rw [if_pos hv, if_neg (by simp only [okw, List.all_cons, Bool.and_eq_true, decide_eq_true_eq]; omega)]
      · rw [if_neg hv, if_pos (by omega), wrap64_id _ (by omega) (by omega), show ((j : Int) + 1) = ((j + 1 : Nat) : Int) by omega,
          r_l1 base hb g s w sp i hw (d - 1) (j + 1) k (acc ++ [dv base b.toNat]) (by omega) (by omega) (by omega) (by rw [List.length_append]; simp; omega)]
        have e3 : okw base (b :: (by8 w).drop (j + 1)) = okw base ((by8 w).drop (j + 1)) := by
          simp only [okw, List.all_cons, decide_eq_true (show 0 ≤ dv base b.toNat by omega), Bool.true_and]
        rw [e3, show k - (d - 1) - 1 = k + 1 - d - 1 by omega]
        simp only [dg, List.map_cons, List.append_assoc, List.singleton_append]
    · rw [if_neg (by omega), List.drop_of_length_le (by rw [by8_length]; omega)]
      rw [if_pos (by rfl), show k + 1 - d - 1 = k by omega]
      simp [dg]
theorem wt_by (s : ByteArray) (x : S105) : by8 (s.extract (cv x).f0.toNat (cv x).f1.toNat) = wt s x := B.extract s _ _
theorem wt_sz (s : ByteArray) (x : S105) : (s.extract (cv x).f0.toNat (cv x).f1.toNat).size = (wt s x).length := by rw [← by8_length, wt_by]
theorem rd113 (s : ByteArray) (i : Nat) (hi : i < (wds s 0).length) : rd_T113 ((wds s 0).map cv) (i : Int) = cv (wds s 0)[i] := by
  unfold rd_T113
  rw [Int.toNat_natCast, List.getD_eq_getElem?_getD, List.getElem?_map, List.getElem?_eq_getElem hi]; rfl
theorem r_l0 (base : Int) (hb : base = 16 ∨ base = 2) (g : Nat) (hg : g = 2 ∨ g = 4) (s : ByteArray) (hs : s.size ≤ 1200) : ∀ (d i k : Nat) (acc : List Int), (wds s 0).length - i = d → i ≤ (wds s 0).length → 1 ≤ i → fu (((wds s 0).drop i).map (wt s)) ≤ k → acc.length + Lib.lens (((wds s 0).drop i).map (wt s)) ≤ 90000 →
    qanatref02_digits.l0 k s base (g : Int) acc ((wds s 0).map cv) (i : Int) = some (ou (tl base g (((wds s 0).drop i).map (wt s)) acc))
  | 0, i, k, acc, hd, hi, h1, hk, ha => by
    rw [List.drop_of_length_le (by omega)] at hk ⊢
    obtain ⟨k, rfl⟩ : ∃ k', k = k' + 1 := ⟨k - 1, by simp [fu] at hk; omega⟩
    rw [qanatref02_digits.l0, List.length_map, if_neg (by omega)]
    rfl
  | d + 1, i, k, acc, hd, hi, h1, hk, ha => by
    have hlt : i < (wds s 0).length := by omega
    have hl := len_le s
    have q := wds_mem s 0 (by omega) _ (List.getElem_mem hlt)
    rw [List.drop_eq_getElem_cons hlt] at hk ha ⊢
    rw [List.map_cons] at hk ha ⊢
    obtain ⟨x, hx⟩ : ∃ x, (wds s 0)[i] = x := ⟨_, rfl⟩
    have hz := wt_sz s x
    have hz2 : (wt s x).length ≤ 1200 := by rw [← hz, ByteArray.size_extract]; omega
    rw [hx] at hk ha q ⊢
    simp only [fu] at hk
    simp only [Lib.lens, List.map_cons, List.sum_cons] at ha
    obtain ⟨k, rfl⟩ : ∃ k', k = k' + 2 := ⟨k - 2, by omega⟩
    rw [qanatref02_digits.l0, List.length_map, rd113 s i hlt, hx]
    rw [if_pos (by omega), if_pos (by omega), if_pos (show 0 ≤ (cv x).f0 from by simp only [cv]; omega), if_pos (show (cv x).f0 ≤ (cv x).f1 from by simp only [cv]; omega), if_pos (show (cv x).f1 ≤ (s.size : Int) from q.2.2), if_pos (by omega), if_neg (by rcases hg with rfl | rfl <;> decide), tl]
    generalize hw : s.extract (cv x).f0.toNat (cv x).f1.toNat = w at hz ⊢
    have hby : by8 w = wt s x := by rw [← hw]; exact wt_by s x
    by_cases hm : (wt s x).length % g = 0
    · rw [show (((w.size : Int) % (g : Int)) != 0) = false from by rw [bne_eq_false_iff_eq]; rw [← hz] at hm; rcases hg with rfl | rfl <;> omega, qanatref02_digits.j2, if_neg (by decide)]
      have hl1 := r_l1 base hb (g : Int) s w ((wds s 0).map cv) (i : Int) (by omega) w.size 0 k acc (by omega) (by omega) (by omega) (by omega)
      rw [show ((0 : Nat) : Int) = 0 from rfl, List.drop_zero, hby] at hl1
      rw [hl1]
      by_cases ho : okw base (wt s x) = true
      · rw [if_pos ho, if_pos ⟨hm, ho⟩, wrap64_id _ (by omega) (by omega), show ((i : Int) + 1) = ((i + 1 : Nat) : Int) by omega]
        exact r_l0 base hb g hg s hs d (i + 1) _ _ (by omega) (by omega) (by omega) (by omega) (by rw [List.length_append, dg_len]; simp only [Lib.lens]; omega)
      · rw [if_neg ho, if_neg (fun h => ho h.2)]; rfl
    · rw [show (((w.size : Int) % (g : Int)) != 0) = true from by rw [bne_iff_ne]; rw [← hz] at hm; rcases hg with rfl | rfl <;> omega, qanatref02_digits.j2, if_pos rfl, if_neg (fun h => hm h.1)]; rfl
/-- What the reference's digits makes of the words. -/
def rdd (base : Int) (g : Nat) : List (List UInt8) → Option (List Int)
  | [] => some []
  | w :: r => if okw base w = true then tl base g r (dg base w) else none
theorem r_all (base : Int) (hb : base = 16 ∨ base = 2) (g : Nat) (hg : g = 2 ∨ g = 4) (s : ByteArray) (hs : s.size ≤ 1200) (hn : Lib.lens ((wds s 0).map (wt s)) ≤ 80000) (k : Nat) (hk : fu ((wds s 0).map (wt s)) ≤ k) :
    qanatref02_digits.l0 k s base (g : Int) [] ((wds s 0).map cv) 0 = some (ou (rdd base g ((wds s 0).map (wt s)))) := by
  by_cases hlt : 0 < (wds s 0).length
  · have hl := len_le s
    have q := wds_mem s 0 (by omega) _ (List.getElem_mem hlt)
    have hd0 : wds s 0 = (wds s 0)[0] :: (wds s 0).drop 1 := by
      have := List.drop_eq_getElem_cons hlt
      rwa [List.drop_zero] at this
    obtain ⟨x, hx⟩ : ∃ x, (wds s 0)[0] = x := ⟨_, rfl⟩
    rw [hx] at hd0 q
    have hmap : (wds s 0).map (wt s) = wt s x :: ((wds s 0).drop 1).map (wt s) := by conv => lhs; rw [hd0, List.map_cons]
    have hz := wt_sz s x
    have hz2 : (wt s x).length ≤ 1200 := by rw [← hz, ByteArray.size_extract]; omega
    rw [hmap] at hk hn ⊢
    simp only [fu] at hk
    simp only [Lib.lens, List.map_cons, List.sum_cons] at hn
    obtain ⟨k, rfl⟩ : ∃ k', k = k' + 2 := ⟨k - 2, by omega⟩
    have hrd := rd113 s 0 hlt
    rw [hx, show ((0 : Nat) : Int) = 0 from rfl] at hrd
    rw [qanatref02_digits.l0, List.length_map, hrd]
    rw [if_pos (by omega), if_pos (by omega), if_pos (show 0 ≤ (cv x).f0 from by simp only [cv]; omega), if_pos (show (cv x).f0 ≤ (cv x).f1 from by simp only [cv]; omega), if_pos (show (cv x).f1 ≤ (s.size : Int) from q.2.2), if_neg (by omega), rdd]
    generalize hw : s.extract (cv x).f0.toNat (cv x).f1.toNat = w at hz ⊢
    have hby : by8 w = wt s x := by rw [← hw]; exact wt_by s x
    rw [qanatref02_digits.j2, if_neg (by decide)]
    have hl1 := r_l1 base hb (g : Int) s w ((wds s 0).map cv) 0 (by omega) w.size 0 k [] (by omega) (by omega) (by omega) (by simp; omega)
    rw [show ((0 : Nat) : Int) = 0 from rfl, List.drop_zero, hby, List.nil_append] at hl1
    rw [hl1]
    by_cases ho : okw base (wt s x) = true
    · rw [if_pos ho, if_pos ho, show wrap64 (0 + 1) = ((1 : Nat) : Int) by unfold wrap64; omega]
      exact r_l0 base hb g hg s hs ((wds s 0).length - 1) 1 _ _ (by omega) (by omega) (by omega) (by omega) (by rw [dg_len]; simp only [Lib.lens]; omega)
    · rw [if_neg ho, if_neg ho]; rfl
  · have e : wds s 0 = [] := List.eq_nil_of_length_eq_zero (by omega)
    rw [e] at hk ⊢
    obtain ⟨k, rfl⟩ : ∃ k', k = k' + 1 := ⟨k - 1, by simp [fu] at hk; omega⟩
    rw [qanatref02_digits.l0, if_neg (by simp)]
    rfl
/-! Trimming. -/
theorem dw_le (l : List UInt8) (c : UInt8) : (Lib.trimLeftB l c).length ≤ l.length := (List.dropWhile_suffix _).length_le
theorem tr_le (l : List UInt8) (c : UInt8) : (Lib.trimRightB l c).length ≤ l.length := by
  unfold Lib.trimRightB
  rw [List.length_reverse]
  have := (List.dropWhile_suffix (l := l.reverse) (· == c)).length_le
  rwa [List.length_reverse] at this
/-- A string that begins or ends with a blank. -/
def be (l : List UInt8) : Prop := (∃ t, l = 32 :: t) ∨ ∃ t, l = t ++ [32]
theorem trim_be (l : List UInt8) : Lib.trimB l 32 = l ↔ ¬ be l := by
  constructor
  · intro h hb
    have h1 := dw_le (Lib.trimRightB l 32) 32
    have h2 := tr_le l 32
    have h3 := congrArg List.length h
    unfold Lib.trimB at h3
    rcases hb with ⟨t, rfl⟩ | ⟨t, rfl⟩
    · cases hr : Lib.trimRightB (32 :: t) 32 with
      | nil => rw [hr] at h3; simp [Lib.trimLeftB] at h3
      | cons b u =>
        rw [hr] at h1 h2 h3
        have hpre : (b :: u) <+: (32 :: t) := by
          rw [← hr]
          unfold Lib.trimRightB
          have := (List.dropWhile_suffix (l := (32 :: t).reverse) (· == (32 : UInt8)))
          have h4 := List.reverse_prefix.2 this
          rwa [List.reverse_reverse] at h4
        obtain ⟨v, hv⟩ := hpre
        have hb32 : b = 32 := (List.cons.inj hv).1
        subst hb32
        have : (Lib.trimLeftB (32 :: u) 32).length ≤ u.length := by
          unfold Lib.trimLeftB
          rw [List.dropWhile_cons_of_pos (by rfl)]
          exact (List.dropWhile_suffix _).length_le
        simp at h1 h2 h3
        omega
    · have : (Lib.trimRightB (t ++ [32]) 32).length ≤ t.length := by
        unfold Lib.trimRightB
        rw [List.length_reverse, List.reverse_append, List.reverse_singleton, List.singleton_append, List.dropWhile_cons_of_pos (by rfl)]
        have := (List.dropWhile_suffix (l := t.reverse) (· == (32 : UInt8))).length_le
        rwa [List.length_reverse] at this
      simp at h3
      omega
  · intro h
    have h1 : Lib.trimRightB l 32 = l := by
      unfold Lib.trimRightB
      cases hr : l.reverse with
      | nil => rw [List.reverse_eq_nil_iff] at hr; rw [hr]; rfl
      | cons b u =>
        have hl : l = u.reverse ++ [b] := by rw [← List.reverse_reverse l, hr, List.reverse_cons]
        have hb : b ≠ 32 := fun e => h (.inr ⟨u.reverse, by rw [hl, e]⟩)
        rw [List.dropWhile_cons_of_neg (by simpa using hb), ← hr, List.reverse_reverse]
    unfold Lib.trimB
    rw [h1]
    unfold Lib.trimLeftB
    cases hl : l with
    | nil => rfl
    | cons b u =>
      have hb : b ≠ 32 := fun e => h (.inl ⟨u, by rw [hl, e]⟩)
      rw [List.dropWhile_cons_of_neg (by simpa using hb)]
end Dg
end Go.Proofs.YtlekfhnlhdmekaaGreatDoor.T

/- Digits, the whole: trimmed, with the words of the string; what is filled up. -/
namespace Go.Proofs.YtlekfhnlhdmekaaGreatDoor.T
set_option linter.unusedSimpArgs false
set_option linter.unusedVariables false
open Go.RowKit Go.Proofs.YtlekfhnlhdmekaaGreatDoorW.PrintWords Go.Proofs.YtlekfhnlhdmekaaGreatDoorW.PrintLast Go.Proofs.YtlekfhnlhdmekaaGreatDoorW.PrintMore
namespace Dg
theorem fldU : ∀ (f : Nat) (cur l : List UInt8), Lib.lens (Lib.fieldsGoU f cur l) ≤ cur.length + l.length ∧ (Lib.fieldsGoU f cur l).length ≤ l.length + 1
  | 0, cur, l => by
    simp only [Lib.fieldsGoU]
    split <;> simp [Lib.lens]
  | f + 1, cur, [] => by
    simp only [Lib.fieldsGoU]
    split <;> simp [Lib.lens]
  | f + 1, cur, b :: t => by
    simp only [Lib.fieldsGoU]
    split
    · have ih := fldU f (cur ++ [b]) t
      simp at ih ⊢; omega
    · rename_i h
      have ih := fldU f [] ((b :: t).drop (Lib.headSpace (b :: t)))
      have hd : ((b :: t).drop (Lib.headSpace (b :: t))).length + 1 ≤ (b :: t).length := by
        rw [List.length_drop]; simp; omega
      split
      · simp [Lib.lens] at ih hd ⊢; omega
      · simp [Lib.lens] at ih hd ⊢; omega
theorem fldD (l : List UInt8) : Lib.lens (Lib.fieldsD l) ≤ l.length ∧ (Lib.fieldsD l).length ≤ l.length + 1 := by
  rw [← Lib.fieldsU_eq]
  have := fldU (l.length + 1) [] l
  simpa [Lib.fieldsU] using this
theorem fu_eq (L : List (List UInt8)) : fu L = Lib.lens L + 30 * L.length + 1 := by
  induction L with
  | nil => rfl
  | cons w r ih => simp [fu, ih, Lib.lens]; omega
def ba (l : List UInt8) : ByteArray := ⟨l.toArray⟩
theorem map_by (L : List (List UInt8)) : (L.map fun x => (⟨x.toArray⟩ : ByteArray)).map by8 = L := by
  rw [List.map_map]
  conv => rhs; rw [← List.map_id L]
  exact List.map_congr_left (fun x _ => rfl)
theorem t_be (base : Int) (g : Int) (s : ByteArray) (hs : s.size ≤ 1200) (k : Nat) (h : be (by8 s)) : text_digits.f k s base g = some ([], false) := by
  unfold text_digits.f
  have e : strings_Trim.f s (⟨#[32]⟩ : ByteArray) = some ⟨(Lib.trimB s.data.toList 32).toArray⟩ := by
    unfold strings_Trim.f
    exact if_pos ⟨by decide, by omega⟩
  rw [e]
  simp only [Option.bind_some]
  rw [if_neg]
  intro h2
  rw [B.toL, B.toL] at h2
  exact (trim_be (by8 s)).1 h2.symm h
theorem t_ok (base : Int) (hb : base = 16 ∨ base = 2) (g : Nat) (hg : g = 2 ∨ g = 4) (s : ByteArray) (hs : s.size ≤ 1200) (k : Nat) (hk : 40000 ≤ k) (h : ¬ be (by8 s)) : text_digits.f k s base (g : Int) = some (ou (td base g (Lib.fieldsD (by8 s)))) := by
  unfold text_digits.f
  have e : strings_Trim.f s (⟨#[32]⟩ : ByteArray) = some ⟨(Lib.trimB s.data.toList 32).toArray⟩ := by
    unfold strings_Trim.f
    exact if_pos ⟨by decide, by omega⟩
  have hl := fldD (by8 s)
  rw [by8_length] at hl
  rw [e]
  simp only [Option.bind_some]
  rw [if_pos (by rw [B.toL, B.toL]; exact ((trim_be (by8 s)).2 h).symm)]
  unfold text_in.f
  rw [if_pos (by omega)]
  simp only [Option.bind_some]
  have := t_all base hb g hg ((Lib.fieldsD (by8 s)).map fun x => (⟨x.toArray⟩ : ByteArray)) (by rw [List.length_map]; omega) (by rw [map_by]; omega) k (by rw [map_by, fu_eq]; omega)
  rw [map_by] at this
  exact this
theorem r_lens (s : ByteArray) (hs : s.size ≤ 1200) : Lib.lens ((wds s 0).map (wt s)) ≤ 1201 ∧ ((wds s 0).map (wt s)).length ≤ 1201 := by
  have h1 := wd_drop s 0 (Nat.zero_le _)
  rw [List.drop_zero] at h1
  have h2 := fw_len (by8 s) []
  rw [h1, by8_length] at h2
  simp at h2 ⊢
  omega
theorem ends_be (s : ByteArray) (h0 : 0 < s.size) : be (by8 s) ↔ bt s 0 = 32 ∨ bt s ((s.size - 1 : Nat) : Int) = 32 := by
  obtain ⟨b, e1, e2⟩ := by8_drop s 0 h0
  obtain ⟨c, e3, e4⟩ := by8_drop s (s.size - 1) (by omega)
  rw [List.drop_zero] at e1
  rw [show ((0 : Nat) : Int) = 0 from rfl] at e2
  have e5 : (by8 s).drop (s.size - 1 + 1) = [] := List.drop_of_length_le (by rw [by8_length]; omega)
  rw [e5] at e3
  have e6 : by8 s = (by8 s).take (s.size - 1) ++ [c] := by
    conv => lhs; rw [← List.take_append_drop (s.size - 1) (by8 s), e3]
  rw [e2, e4, ← b32, ← b32]
  constructor
  · rintro (⟨t, ht⟩ | ⟨t, ht⟩)
    · rw [e1] at ht; exact .inl (List.cons.inj ht).1
    · rw [ht] at e6
      have := List.append_inj' e6 rfl
      exact .inr (List.cons.inj this.2).1.symm
  · rintro (h | h)
    · exact .inl ⟨_, by rw [e1, h]⟩
    · exact .inr ⟨_, by rw [e6, h]⟩
theorem r_be (base : Int) (g : Int) (s : ByteArray) (hs : s.size ≤ 1200) (k : Nat) (hk : 40000 ≤ k) (h : be (by8 s)) : qanatref02_digits.f k s base g = some ([], false) := by
  have h0 : 0 < s.size := by
    rcases h with ⟨t, ht⟩ | ⟨t, ht⟩
    · have := congrArg List.length ht; rw [by8_length] at this; simp at this; omega
    · have := congrArg List.length ht; rw [by8_length] at this; simp at this; omega
  unfold qanatref02_digits.f
  have hsp : qanatref02_Spans.f k s = some ((wds s 0).map cv) := by
    obtain ⟨d, rfl⟩ : ∃ d, k = 3602 + d := ⟨k - 3602, by omega⟩
    clear hk
    induction d with
    | zero => exact spans_eq s hs 3602 (by omega) (by omega)
    | succ d ih => exact qanatref02_Spans.mono s (3602 + d) _ ih
  rw [hsp]
  simp only [Option.bind_some]
  have hj : ∀ q : Bool, q = true → qanatref02_digits.j0 k s base g [] ((wds s 0).map cv) q = some ([], false) := by
    intro q hq
    obtain ⟨k, rfl⟩ : ∃ k', k = k' + 1 := ⟨k - 1, by omega⟩
    rw [qanatref02_digits.j0, if_pos hq]
  rw [if_pos (by omega), if_pos (by omega)]
  rcases (ends_be s h0).1 h with h1 | h1
  · rw [if_pos h1, hj _ rfl]
  · by_cases h2 : bt s 0 = 32
    · rw [if_pos h2, hj _ rfl]
    · rw [if_neg h2, wrap64_id _ (by omega) (by omega), if_pos (by omega), if_pos (by omega), show (s.size : Int) - 1 = ((s.size - 1 : Nat) : Int) by omega, hj _ (by rw [h1]; rfl)]
theorem r_ok (base : Int) (hb : base = 16 ∨ base = 2) (g : Nat) (hg : g = 2 ∨ g = 4) (s : ByteArray) (hs : s.size ≤ 1200) (k : Nat) (hk : 40001 ≤ k) (h : ¬ be (by8 s)) : qanatref02_digits.f k s base (g : Int) = some (ou (rdd base g ((wds s 0).map (wt s)))) := by
  unfold qanatref02_digits.f
  have hsp : qanatref02_Spans.f k s = some ((wds s 0).map cv) := by
    obtain ⟨d, rfl⟩ : ∃ d, k = 3602 + d := ⟨k - 3602, by omega⟩
    clear hk
    induction d with
    | zero => exact spans_eq s hs 3602 (by omega) (by omega)
    | succ d ih => exact qanatref02_Spans.mono s (3602 + d) _ ih
  rw [hsp]
  simp only [Option.bind_some]
  have hl := r_lens s hs
  have hj : ∀ q : Bool, q = false → qanatref02_digits.j0 k s base (g : Int) [] ((wds s 0).map cv) q = some (ou (rdd base g ((wds s 0).map (wt s)))) := by
    intro q hq
    obtain ⟨k, rfl⟩ : ∃ k', k = k' + 1 := ⟨k - 1, by omega⟩
    rw [qanatref02_digits.j0, if_neg (by rw [hq]; decide)]
    exact r_all base hb g hg s hs (by omega) k (by rw [fu_eq]; omega)
  by_cases h0 : 0 < s.size
  · rw [if_pos (by omega), if_pos (by omega)]
    have h1 : bt s 0 ≠ 32 := fun e => h ((ends_be s h0).2 (.inl e))
    have h2 : bt s ((s.size - 1 : Nat) : Int) ≠ 32 := fun e => h ((ends_be s h0).2 (.inr e))
    rw [if_neg h1, wrap64_id _ (by omega) (by omega), if_pos (by omega), if_pos (by omega), show (s.size : Int) - 1 = ((s.size - 1 : Nat) : Int) by omega, hj _ (beq_eq_false_iff_ne.mpr h2)]
  · rw [if_neg (by omega), hj _ rfl]
/-! What is filled up. -/
theorem tl_acc (base : Int) (g : Nat) : ∀ (r : List (List UInt8)) (a b : List Int), tl base g r (a ++ b) = (tl base g r b).map (a ++ ·)
  | [], a, b => rfl
  | w :: r, a, b => by
    rw [tl, tl]
    split
    · rw [List.append_assoc]; exact tl_acc base g r a _
    · rfl
theorem tl_some (base : Int) (hb : base = 16 ∨ base = 2) (g : Nat) : ∀ (r : List (List UInt8)) (acc l : List Int), tl base g r acc = some l → ∃ t, l = acc ++ t ∧ t.length = Lib.lens r ∧ t.length % g = 0 ∧ ∀ n ∈ t, 0 ≤ n ∧ n < base
  | [], acc, l, h => ⟨[], by simpa [tl] using h.symm, rfl, Nat.zero_mod _, fun n hn => by cases hn⟩
  | w :: r, acc, l, h => by
    rw [tl] at h
    split at h
    · rename_i hc
      obtain ⟨t, rfl, h2, h3, h4⟩ := tl_some base hb g r _ l h
      refine ⟨dg base w ++ t, by rw [List.append_assoc], by rw [List.length_append, dg_len, h2]; simp [Lib.lens], by rw [List.length_append, dg_len, Nat.add_mod, hc.1, h3]; simp, fun n hn => ?_⟩
      rcases List.mem_append.1 hn with hn | hn
      · obtain ⟨b, hb2, rfl⟩ := List.mem_map.1 hn
        have := List.all_eq_true.1 hc.2 b hb2
        exact ⟨of_decide_eq_true this, (tabs base hb b).2.2⟩
      · exact h4 n hn
    · cases h
def P (g : Nat) (l : List Int) : List Int := List.replicate (padn g l.length) 0 ++ l
theorem td_rdd (base : Int) (hb : base = 16 ∨ base = 2) (g : Nat) (hg : g = 2 ∨ g = 4) (L : List (List UInt8)) : td base g L = (rdd base g L).map (P g) := by
  cases L with
  | nil =>
    rcases hg with rfl | rfl <;> rfl
  | cons w r =>
    rw [td, rdd]
    split
    · rw [tl_acc]
      cases e : tl base g r (dg base w) with
      | none => rfl
      | some l =>
        obtain ⟨t, rfl, h2, h3, h4⟩ := tl_some base hb g r _ l e
        show some _ = some _
        have : padn g (dg base w ++ t).length = padn g w.length := by
          unfold padn
          rw [List.length_append, dg_len, Nat.add_mod, h3]
          simp
        rw [P, this]
    · rfl
theorem rdd_some (base : Int) (hb : base = 16 ∨ base = 2) (g : Nat) (L : List (List UInt8)) (l : List Int) (h : rdd base g L = some l) : l.length = Lib.lens L ∧ ∀ n ∈ l, 0 ≤ n ∧ n < base := by
  cases L with
  | nil => obtain rfl := Option.some.inj h; exact ⟨rfl, fun n hn => by cases hn⟩
  | cons w r =>
    rw [rdd] at h
    split at h
    · rename_i hc
      obtain ⟨t, rfl, h2, h3, h4⟩ := tl_some base hb g r _ l h
      refine ⟨by rw [List.length_append, dg_len, h2]; simp [Lib.lens], fun n hn => ?_⟩
      rcases List.mem_append.1 hn with hn | hn
      · obtain ⟨b, hb2, rfl⟩ := List.mem_map.1 hn
        have := List.all_eq_true.1 hc b hb2
        exact ⟨of_decide_eq_true this, (tabs base hb b).2.2⟩
      · exact h4 n hn
    · cases h
theorem padn_lt (g n : Nat) (hg : g = 2 ∨ g = 4) : padn g n < g ∧ (padn g n + n) % g = 0 := by
  unfold padn; rcases hg with rfl | rfl <;> omega
theorem P_len (g : Nat) (l : List Int) : (P g l).length = padn g l.length + l.length := by rw [P, List.length_append, List.length_replicate]
theorem P_mem (g : Nat) (base : Int) (hb : base = 16 ∨ base = 2) (l : List Int) (h : ∀ n ∈ l, 0 ≤ n ∧ n < base) : ∀ n ∈ P g l, 0 ≤ n ∧ n < base := by
  intro n hn
  rcases List.mem_append.1 hn with hn | hn
  · rw [List.eq_of_mem_replicate hn]; omega
  · exact h n hn
end Dg
end Go.Proofs.YtlekfhnlhdmekaaGreatDoor.T

/- The law TextDigits: C2X, X2C, X2B and B2X agree with the reference. -/
namespace Go.Proofs.YtlekfhnlhdmekaaGreatDoor.T
set_option linter.unusedSimpArgs false
set_option linter.unusedVariables false
open Go.RowKit Go.Proofs.YtlekfhnlhdmekaaGreatDoorW.PrintWords Go.Proofs.YtlekfhnlhdmekaaGreatDoorW.PrintLast Go.Proofs.YtlekfhnlhdmekaaGreatDoorW.PrintMore
namespace Dg
def H : ByteArray := ⟨#[48, 49, 50, 51, 52, 53, 54, 55, 56, 57, 65, 66, 67, 68, 69, 70]⟩
theorem tabX : (List.range 256).all (fun b => decide (Go.bits .and .u8 (b : Int) 15 = (b : Int) % 16) && decide ((Int.tdiv (b : Int) 16) % 256 = (b : Int) / 16) && decide (Int.tmod (b : Int) 16 = (b : Int) % 16)) = true := by kernel_rfl
theorem tabB : (List.range 16).all (fun n => nn4 (n : Int) && [8, 4, 2, 1].all (fun (x : Nat) => decide (0 ≤ Int.tmod (wrap64 (Int.tdiv (n : Int) (x : Int))) 2) && decide (Int.tmod (wrap64 (Int.tdiv (n : Int) (x : Int))) 2 < 16) && decide (bt H (Int.tmod (wrap64 (Int.tdiv (n : Int) (x : Int))) 2) = bit01 (n : Int) (x : Int)))) = true := by kernel_rfl
theorem bt_rng (s : ByteArray) (i : Int) : 0 ≤ bt s i ∧ bt s i < 256 := by
  have e : bt s i = (bytesOf s).getD i.toNat 0 := by rw [← rd_bytesOf]; rfl
  rw [e, List.getD_eq_getElem?_getD]
  by_cases h : i.toNat < (bytesOf s).length
  · rw [List.getElem?_eq_getElem h]
    have hm := List.getElem_mem h
    unfold bytesOf at hm ⊢
    obtain ⟨b, _, hb⟩ := List.mem_map.1 hm
    simp only [Option.getD_some]
    rw [← hb]
    have := b.toNat_lt
    omega
  · rw [List.getElem?_eq_none (by omega)]; simp
/-! C2X -/
def hx (b : Int) : List Int := [bt H (b / 16), bt H (b % 16)]
theorem tX (b : UInt8) : Go.bits .and .u8 (b.toNat : Int) 15 = (b.toNat : Int) % 16 ∧ (Int.tdiv (b.toNat : Int) 16) % 256 = (b.toNat : Int) / 16 ∧ Int.tmod (b.toNat : Int) 16 = (b.toNat : Int) % 16 := by
  have := List.all_eq_true.1 tabX _ (List.mem_range.2 b.toNat_lt)
  simp only [Bool.and_eq_true, decide_eq_true_eq] at this
  exact ⟨this.1.1, this.1.2, this.2⟩
def hxs (l : List UInt8) : List Int := l.flatMap fun b => hx (b.toNat : Int)
theorem hxs_rng (l : List UInt8) : ∀ x ∈ hxs l, 0 ≤ x ∧ x < 256 := by
  intro x hx2
  obtain ⟨b, _, hb⟩ := List.mem_flatMap.1 hx2
  simp only [hx, List.mem_cons, List.not_mem_nil, or_false] at hb
  rcases hb with rfl | rfl <;> exact bt_rng _ _
theorem bindp {α β : Type} (o : Option (α × β)) : (o.bind fun bt => some (bt.1, bt.2)) = o := by cases o <;> rfl
theorem t_c2x (s : ByteArray) (hs : s.size ≤ 1200) : ∀ (d i k : Nat) (acc : List Int), s.size - i = d → i ≤ s.size → d < k → acc.length + 2 * d ≤ 100000 → text_C2X.l0 k s acc (s.size : Int) (i : Int) = text_made.f (strOfNums (acc ++ hxs ((by8 s).drop i)))
  | d, i, 0, acc, _, _, h, _ => by omega
  | d, i, k + 1, acc, hd, hi, hk, ha => by
    rw [text_C2X.l0]
    by_cases hlt : i < s.size
    · obtain ⟨b, e1, e2⟩ := by8_drop s i hlt
      have hb := b.toNat_lt
      have hx1 := tX b
      rw [if_pos (by omega), if_pos (by omega), if_pos (by omega), e2, e1, hx1.1, if_pos (by omega), if_pos (by omega), if_pos (by omega), if_pos (by omega)]
      simp only [Option.bind_some]
      rw [if_pos (by simp; omega), wrap64_id _ (by omega) (by omega), show ((i : Int) + 1) = ((i + 1 : Nat) : Int) by omega, t_c2x s hs (d - 1) (i + 1) k _ (by omega) (by omega) (by omega) (by rw [List.length_append]; simp; omega), List.append_assoc]
      rfl
    · rw [if_neg (by omega), List.drop_of_length_le (by rw [by8_length]; omega), bindp]
      simp [hxs]
theorem r_c2x (s : ByteArray) (hs : s.size ≤ 1200) : ∀ (d i k : Nat) (acc : List Int), s.size - i = d → i ≤ s.size → d < k → acc.length + 2 * d ≤ 100000 → qanatref02_C2X.l0 k s acc (i : Int) = qanatref02_out.f (acc ++ hxs ((by8 s).drop i))
  | d, i, 0, acc, _, _, h, _ => by omega
  | d, i, k + 1, acc, hd, hi, hk, ha => by
    rw [qanatref02_C2X.l0]
    by_cases hlt : i < s.size
    · obtain ⟨b, e1, e2⟩ := by8_drop s i hlt
      have hb := b.toNat_lt
      have hx1 := tX b
      rw [if_pos (by omega), if_pos (by omega), e2, e1, hx1.2.1, hx1.2.2, if_pos (by omega), if_pos (by omega), if_pos (by omega), if_pos (by omega)]
      simp only [Option.bind_some]
      rw [if_pos (by simp; omega), wrap64_id _ (by omega) (by omega), show ((i : Int) + 1) = ((i + 1 : Nat) : Int) by omega, r_c2x s hs (d - 1) (i + 1) k _ (by omega) (by omega) (by omega) (by rw [List.length_append]; simp; omega), List.append_assoc]
      rfl
    · rw [if_neg (by omega), List.drop_of_length_le (by rw [by8_length]; omega), bindp]
      simp [hxs]
theorem made_some (x : ByteArray) : ∃ v e, text_made.f x = some (v, e) := by
  rw [made_eq]; split
  · exact ⟨_, _, rfl⟩
  · split <;> exact ⟨_, _, rfl⟩
theorem c2x_agree (s : ByteArray) (hs : s.size ≤ 1200) (k : Nat) (hk : 2000 ≤ k) : ∃ v e, text_C2X.f k s = some (v, e) ∧ qanatref02_C2X.f k s = some (v, e) := by
  unfold text_C2X.f qanatref02_C2X.f qanatref02_Valid.f
  simp only [B.valid1, Option.bind_some]
  by_cases h : vld s = true
  · rw [if_pos h, if_pos rfl, if_pos h]
    have h1 := t_c2x s hs s.size 0 k [] (by omega) (by omega) (by omega) (by simp; omega)
    have h2 := r_c2x s hs s.size 0 k [] (by omega) (by omega) (by omega) (by simp; omega)
    rw [List.drop_zero, List.nil_append, show ((0 : Nat) : Int) = 0 from rfl] at h1 h2
    rw [h1, h2, made_out _ (hxs_rng _)]
    obtain ⟨v, e, hv⟩ := made_some (strOfNums (hxs (by8 s)))
    rw [made_out _ (hxs_rng _)] at hv
    exact ⟨v, e, hv, hv⟩
  · rw [if_neg h, if_neg (by decide), if_neg h]
    exact ⟨_, _, rfl, rfl⟩
theorem rd_nat' (m : List Int) (i : Nat) (hi : i < m.length) : rd m (i : Int) = m[i] := by
  unfold rd; rw [Int.toNat_natCast, List.getD_eq_getElem?_getD, List.getElem?_eq_getElem hi]; rfl
theorem drop2 (m : List Int) (i : Nat) (hi : i + 1 < m.length) : m.drop i = m[i] :: m[i + 1] :: m.drop (i + 2) := by
  rw [List.drop_eq_getElem_cons (show i < m.length by omega), List.drop_eq_getElem_cons hi]
/-! X2C -/
def prs : List Int → List Int
  | a :: b :: r => (wrap64 (wrap64 (16 * a) + b)) % 256 :: prs r
  | _ => []
theorem prs_rng : ∀ (l : List Int), ∀ x ∈ prs l, 0 ≤ x ∧ x < 256
  | [], x, h => by cases h
  | [a], x, h => by cases h
  | a :: b :: r, x, h => by
    rcases List.mem_cons.1 h with rfl | h
    · omega
    · exact prs_rng r x h
theorem t_x2c (m : List Int) (hm : m.length ≤ 5000) : ∀ (d i k : Nat) (acc : List Int), m.length = i + 2 * d → d < k → acc.length + d ≤ 100000 → text_X2C.l0 k m acc (i : Int) = text_made.f (strOfNums (acc ++ prs (m.drop i)))
  | d, i, 0, acc, _, h, _ => by omega
  | 0, i, k + 1, acc, hd, hk, ha => by
    rw [text_X2C.l0, if_neg (by omega), List.drop_of_length_le (by omega), bindp]
    simp [prs]
  | d + 1, i, k + 1, acc, hd, hk, ha => by
    have h1 : i + 1 < m.length := by omega
    rw [text_X2C.l0, wrap64_id ((i : Int) + 1) (by omega) (by omega), wrap64_id ((i : Int) + 2) (by omega) (by omega), if_pos (by omega), if_pos (by omega), if_pos (by omega), if_pos (by omega), if_pos (by omega),
      rd_nat' m i (by omega), show ((i : Int) + 1) = ((i + 1 : Nat) : Int) by omega, rd_nat' m (i + 1) h1, show ((i : Int) + 2) = ((i + 2 : Nat) : Int) by omega, t_x2c m hm d (i + 2) k _ (by omega) (by omega) (by rw [List.length_append]; simp; omega), drop2 m i h1, prs, List.append_assoc]
    rfl
theorem r_x2c (m : List Int) (hm : m.length ≤ 5000) : ∀ (d i k : Nat) (acc : List Int), m.length = i + 2 * d → d < k → acc.length + d ≤ 100000 → qanatref02_X2C.l0 k m acc (i : Int) = qanatref02_out.f (acc ++ prs (m.drop i))
  | d, i, 0, acc, _, h, _ => by omega
  | 0, i, k + 1, acc, hd, hk, ha => by
    rw [qanatref02_X2C.l0, if_neg (by omega), List.drop_of_length_le (by omega), bindp]
    simp [prs]
  | d + 1, i, k + 1, acc, hd, hk, ha => by
    have h1 : i + 1 < m.length := by omega
    rw [qanatref02_X2C.l0, wrap64_id ((i : Int) + 1) (by omega) (by omega), wrap64_id ((i : Int) + 2) (by omega) (by omega), if_pos (by omega), if_pos (by omega), if_pos (by omega), if_pos (by omega), if_pos (by omega),
      rd_nat' m i (by omega), show ((i : Int) + 1) = ((i + 1 : Nat) : Int) by omega, rd_nat' m (i + 1) h1, show ((i : Int) + 2) = ((i + 2 : Nat) : Int) by omega, r_x2c m hm d (i + 2) k _ (by omega) (by omega) (by rw [List.length_append]; simp; omega), drop2 m i h1, prs, List.append_assoc]
    rfl
/-- What digits return: of the program and of the reference; the list when the string is right. -/
theorem both (base : Int) (hb : base = 16 ∨ base = 2) (g : Nat) (hg : g = 2 ∨ g = 4) (s : ByteArray) (hs : s.size ≤ 1200) (k : Nat) (hk : 40001 ≤ k) :
    (∃ t r, text_digits.f k s base (g : Int) = some t ∧ qanatref02_digits.f k s base (g : Int) = some r ∧ (vld s = true → t.2 = false ∧ r.2 = false)) ∨
    (∃ l, vld s = true ∧ text_digits.f k s base (g : Int) = some (P g l, true) ∧ qanatref02_digits.f k s base (g : Int) = some (l, true) ∧ l.length = Lib.lens (fw [] (by8 s)) ∧ ∀ n ∈ l, 0 ≤ n ∧ n < base) := by
  by_cases h : be (by8 s)
  · exact .inl ⟨_, _, t_be base g s hs k h, r_be base g s hs k (by omega) h, fun _ => ⟨rfl, rfl⟩⟩
  · have h1 := t_ok base hb g hg s hs k (by omega) h
    have h2 := r_ok base hb g hg s hs k hk h
    by_cases hv : vld s = true
    · have hw : Lib.fieldsD (by8 s) = fw [] (by8 s) := by
        refine fieldsD_fw _ (fun b hb2 => ?_)
        have := (B.good _).1 (B.all hv (b.toNat : Int) (by unfold bytesOf; exact List.mem_map.2 ⟨b, hb2, rfl⟩))
        omega
      have hw2 : (wds s 0).map (wt s) = fw [] (by8 s) := by
        have := wd_drop s 0 (Nat.zero_le _)
        rw [List.drop_zero] at this
        exact this.symm
      rw [hw, td_rdd base hb g hg] at h1
      rw [hw2] at h2
      cases e : rdd base g (fw [] (by8 s)) with
      | none =>
        rw [e] at h1 h2
        exact .inl ⟨_, _, h1, h2, fun _ => ⟨rfl, rfl⟩⟩
      | some l =>
        rw [e] at h1 h2
        have h3 := rdd_some base hb g _ l e
        exact .inr ⟨l, hv, h1, h2, h3.1, h3.2⟩
    · exact .inl ⟨_, _, h1, h2, fun h => absurd h hv⟩
theorem lens_fw (s : ByteArray) : Lib.lens (fw [] (by8 s)) ≤ s.size + 1 := by
  have := fw_len (by8 s) []
  rw [by8_length] at this
  simp at this
  omega
theorem P2 (l : List Int) : P 2 l = if ((l.length : Int) % 2) = 1 then [0] ++ l else l := by
  unfold P padn
  by_cases h : l.length % 2 = 1
  · rw [if_pos (by omega), show (2 - l.length % 2) % 2 = 1 by omega]; rfl
  · rw [if_neg (by omega), show (2 - l.length % 2) % 2 = 0 by omega]; rfl
theorem x2c_agree (s : ByteArray) (hs : s.size ≤ 1200) (k : Nat) (hk : 50000 ≤ k) : ∃ v e, text_X2C.f k s = some (v, e) ∧ qanatref02_X2C.f k s = some (v, e) := by
  obtain ⟨k, rfl⟩ : ∃ k', k = k' + 3 := ⟨k - 3, by omega⟩
  have jt : ∀ l q, q = true → text_X2C.j0 (k + 3) l q = some (⟨#[]⟩, 1) := fun l q hq => by rw [text_X2C.j0, if_pos hq]
  have jr : ∀ l q, q = true → qanatref02_X2C.j0 (k + 3) l q = some (⟨#[]⟩, 1) := fun l q hq => by rw [qanatref02_X2C.j0, if_pos hq]
  unfold text_X2C.f qanatref02_X2C.f qanatref02_Valid.f text_Valid.f
  rcases both 16 (.inl rfl) 2 (.inl rfl) s hs (k + 3) (by omega) with ⟨t, r, h1, h2, h3⟩ | ⟨l, hv, h1, h2, h3, h4⟩
  · rw [show ((2 : Nat) : Int) = 2 from rfl] at h1 h2
    rw [h1, h2]
    simp only [Option.bind_some]
    refine ⟨⟨#[]⟩, 1, ?_, ?_⟩
    · by_cases ht : t.2 = true
      · rw [if_pos ht]
        cases hv : vld s with
        | false => exact jt _ _ rfl
        | true => rw [(h3 hv).1] at ht; cases ht
      · rw [if_neg ht]; exact jt _ _ rfl
    · by_cases hv : vld s = true
      · rw [if_pos hv, (h3 hv).2]; exact jr _ _ rfl
      · rw [if_neg hv]; exact jr _ _ rfl
  · rw [show ((2 : Nat) : Int) = 2 from rfl] at h1 h2
    have hl := lens_fw s
    rw [h1, h2]
    simp only [Option.bind_some]
    rw [if_pos trivial, if_pos hv, hv, Bool.not_true, text_X2C.j0, if_neg (by decide), qanatref02_X2C.j0, if_neg (by decide)]
    have hp := padn_lt 2 l.length (.inl rfl)
    have hpl := P_len 2 l
    obtain ⟨d, hd⟩ : ∃ d, (P 2 l).length = 2 * d := ⟨(P 2 l).length / 2, by omega⟩
    have e1 := t_x2c (P 2 l) (by omega) d 0 (k + 2) [] (by omega) (by omega) (by simp; omega)
    have e2 : (if ((l.length : Int) % 2) = 1 then ((some (([0] : List Int) : List Int)).bind fun y906 => (if y906.length + l.length < 17592186044416 then (qanatref02_X2C.j1 (k + 2) (y906 ++ l) ([] : List Int)) else (none))) else (qanatref02_X2C.j1 (k + 2) l ([] : List Int))) = qanatref02_X2C.j1 (k + 2) (P 2 l) [] := by
      rw [P2]
      by_cases hc : ((l.length : Int) % 2) = 1
      · rw [if_pos hc, if_pos hc]
        simp only [Option.bind_some]
        rw [if_pos (by simp; omega)]
      · rw [if_neg hc, if_neg hc]
    have e3 := r_x2c (P 2 l) (by omega) d 0 (k + 1) [] (by omega) (by omega) (by simp; omega)
    rw [show ((0 : Nat) : Int) = 0 from rfl, List.nil_append, List.drop_zero] at e1 e3
    rw [e1, e2, qanatref02_X2C.j1, e3, made_out _ (prs_rng _)]
    obtain ⟨v, e, hv⟩ := made_some (strOfNums (prs (P 2 l)))
    rw [made_out _ (prs_rng _)] at hv
    exact ⟨v, e, hv, hv⟩
/-! B2X -/
def qv (a b c d : Int) : Int := wrap64 (wrap64 (wrap64 (wrap64 (8 * a) + wrap64 (4 * b)) + wrap64 (2 * c)) + d)
def qds : List Int → List Int
  | a :: b :: c :: d :: r => bt H (qv a b c d) :: qds r
  | _ => []
theorem qds_rng : ∀ (n : Nat) (l : List Int), l.length ≤ n → ∀ x ∈ qds l, 0 ≤ x ∧ x < 256
  | n, [], _, x, h => by cases h
  | n, [a], _, x, h => by cases h
  | n, [a, b], _, x, h => by cases h
  | n, [a, b, c], _, x, h => by cases h
  | 0, a :: b :: c :: d :: r, hl, x, h => by simp at hl
  | n + 1, a :: b :: c :: d :: r, hl, x, h => by
    rcases List.mem_cons.1 h with rfl | h
    · exact bt_rng _ _
    · exact qds_rng n r (by simp at hl; omega) x h
theorem qv_rng (a b c d : Int) (ha : 0 ≤ a ∧ a < 2) (hb : 0 ≤ b ∧ b < 2) (hc : 0 ≤ c ∧ c < 2) (hd : 0 ≤ d ∧ d < 2) : 0 ≤ qv a b c d ∧ qv a b c d < 16 := by
  unfold qv wrap64; omega
theorem drop4 (m : List Int) (i : Nat) (hi : i + 3 < m.length) : m.drop i = m[i] :: m[i + 1] :: m[i + 2] :: m[i + 3] :: m.drop (i + 4) := by
  rw [drop2 m i (by omega), drop2 m (i + 2) (by omega)]
theorem t_b2x (m : List Int) (hm : m.length ≤ 5000) (hr : ∀ n ∈ m, 0 ≤ n ∧ n < 2) : ∀ (d i k : Nat) (acc : List Int), m.length = i + 4 * d → d < k → acc.length + d ≤ 100000 → text_B2X.l0 k m acc (i : Int) = text_made.f (strOfNums (acc ++ qds (m.drop i)))
  | d, i, 0, acc, _, h, _ => by omega
  | 0, i, k + 1, acc, hd, hk, ha => by
    rw [text_B2X.l0, if_neg (by omega), List.drop_of_length_le (by omega), bindp]
    simp [qds]
  | d + 1, i, k + 1, acc, hd, hk, ha => by
    have h3 : i + 3 < m.length := by omega
    have q := qv_rng m[i] m[i + 1] m[i + 2] m[i + 3] (hr _ (List.getElem_mem _)) (hr _ (List.getElem_mem _)) (hr _ (List.getElem_mem _)) (hr _ (List.getElem_mem _))
    rw [text_B2X.l0, wrap64_id ((i : Int) + 1) (by omega) (by omega), wrap64_id ((i : Int) + 2) (by omega) (by omega), wrap64_id ((i : Int) + 3) (by omega) (by omega), wrap64_id ((i : Int) + 4) (by omega) (by omega), show ((i : Int) + 1) = ((i + 1 : Nat) : Int) by omega, show ((i : Int) + 2) = ((i + 2 : Nat) : Int) by omega, show ((i : Int) + 3) = ((i + 3 : Nat) : Int) by omega, show ((i : Int) + 4) = ((i + 4 : Nat) : Int) by omega,
      rd_nat' m i (by omega), rd_nat' m (i + 1) (by omega), rd_nat' m (i + 2) (by omega), rd_nat' m (i + 3) (by omega)]
    rw [if_pos (by omega), if_pos (by omega), if_pos (by omega), if_pos (by omega), if_pos (by omega), if_pos (by omega), if_pos (by omega), if_pos (by omega), if_pos (show 0 ≤ wrap64 (wrap64 (wrap64 (wrap64 (8 * m[i]) + wrap64 (4 * m[i + 1])) + wrap64 (2 * m[i + 2])) + m[i + 3]) from q.1), if_pos (show wrap64 (wrap64 (wrap64 (wrap64 (8 * m[i]) + wrap64 (4 * m[i + 1])) + wrap64 (2 * m[i + 2])) + m[i + 3]) < 16 from q.2), if_pos (by omega),
      t_b2x m hm hr d (i + 4) k _ (by omega) (by omega) (by rw [List.length_append]; simp; omega), drop4 m i h3, qds, List.append_assoc]
    rfl
theorem r_b2x (m : List Int) (hm : m.length ≤ 5000) (hr : ∀ n ∈ m, 0 ≤ n ∧ n < 2) : ∀ (d i k : Nat) (acc : List Int), m.length = i + 4 * d → d < k → acc.length + d ≤ 100000 → qanatref02_B2X.l1 k m acc (i : Int) = qanatref02_out.f (acc ++ qds (m.drop i))
  | d, i, 0, acc, _, h, _ => by omega
  | 0, i, k + 1, acc, hd, hk, ha => by
    rw [qanatref02_B2X.l1, if_neg (by omega), List.drop_of_length_le (by omega), bindp]
    simp [qds]
  | d + 1, i, k + 1, acc, hd, hk, ha => by
    have h3 : i + 3 < m.length := by omega
    have q := qv_rng m[i] m[i + 1] m[i + 2] m[i + 3] (hr _ (List.getElem_mem _)) (hr _ (List.getElem_mem _)) (hr _ (List.getElem_mem _)) (hr _ (List.getElem_mem _))
    rw [qanatref02_B2X.l1, wrap64_id ((i : Int) + 1) (by omega) (by omega), wrap64_id ((i : Int) + 2) (by omega) (by omega), wrap64_id ((i : Int) + 3) (by omega) (by omega), wrap64_id ((i : Int) + 4) (by omega) (by omega), show ((i : Int) + 1) = ((i + 1 : Nat) : Int) by omega, show ((i : Int) + 2) = ((i + 2 : Nat) : Int) by omega, show ((i : Int) + 3) = ((i + 3 : Nat) : Int) by omega, show ((i : Int) + 4) = ((i + 4 : Nat) : Int) by omega,
      rd_nat' m i (by omega), rd_nat' m (i + 1) (by omega), rd_nat' m (i + 2) (by omega), rd_nat' m (i + 3) (by omega)]
    rw [if_pos (by omega), if_pos (by omega), if_pos (by omega), if_pos (by omega), if_pos (by omega), if_pos (by omega), if_pos (by omega), if_pos (by omega), if_pos (show 0 ≤ wrap64 (wrap64 (wrap64 (wrap64 (8 * m[i]) + wrap64 (4 * m[i + 1])) + wrap64 (2 * m[i + 2])) + m[i + 3]) from q.1), if_pos (show wrap64 (wrap64 (wrap64 (wrap64 (8 * m[i]) + wrap64 (4 * m[i + 1])) + wrap64 (2 * m[i + 2])) + m[i + 3]) < 16 from q.2), if_pos (by omega),
      r_b2x m hm hr d (i + 4) k _ (by omega) (by omega) (by rw [List.length_append]; simp; omega), drop4 m i h3, qds, List.append_assoc]
    rfl
theorem r_pad (l : List Int) (hl : l.length ≤ 5000) (k : Nat) (hk : 10 ≤ k) : ∃ k', k - 5 ≤ k' ∧ qanatref02_B2X.l0 k l = qanatref02_B2X.l1 k' (P 4 l) [] 0 := by
  obtain ⟨k, rfl⟩ : ∃ k', k = k' + 4 := ⟨k - 4, by omega⟩
  have step : ∀ (q : Nat) (z : List Int), z.length ≤ 5010 → ¬ ((z.length : Int) % 4) = 0 → qanatref02_B2X.l0 (q + 1) z = qanatref02_B2X.l0 q ([0] ++ z) := by
    intro q z h1 h2
    rw [qanatref02_B2X.l0, if_neg h2]
    simp only [Option.bind_some]
    rw [if_pos (by simp; omega)]
  have stop : ∀ (q : Nat) (z : List Int), ((z.length : Int) % 4) = 0 → qanatref02_B2X.l0 (q + 1) z = qanatref02_B2X.l1 q z [] 0 := by
    intro q z h2
    rw [qanatref02_B2X.l0, if_pos h2]
  have hP : ∀ n, padn 4 l.length = n → P 4 l = List.replicate n 0 ++ l := fun n h => by rw [P, h]
  have hm : l.length % 4 = 0 ∨ l.length % 4 = 1 ∨ l.length % 4 = 2 ∨ l.length % 4 = 3 := by omega
  rcases hm with h | h | h | h
  · exact ⟨k + 3, by omega, by rw [hP 0 (by unfold padn; omega), stop (k + 3) l (by omega)]; rfl⟩
  · exact ⟨k, by omega, by rw [hP 3 (by unfold padn; omega), step (k + 3) l (by omega) (by omega), step (k + 2) _ (by simp; omega) (by simp; omega), step (k + 1) _ (by simp; omega) (by simp; omega), stop k _ (by simp; omega)]; rfl⟩
  · exact ⟨k + 1, by omega, by rw [hP 2 (by unfold padn; omega), step (k + 3) l (by omega) (by omega), step (k + 2) _ (by simp; omega) (by simp; omega), stop (k + 1) _ (by simp; omega)]; rfl⟩
  · exact ⟨k + 2, by omega, by rw [hP 1 (by unfold padn; omega), step (k + 3) l (by omega) (by omega), stop (k + 2) _ (by simp; omega)]; rfl⟩
theorem b2x_agree (s : ByteArray) (hs : s.size ≤ 1200) (k : Nat) (hk : 50000 ≤ k) : ∃ v e, text_B2X.f k s = some (v, e) ∧ qanatref02_B2X.f k s = some (v, e) := by
  obtain ⟨k, rfl⟩ : ∃ k', k = k' + 1 := ⟨k - 1, by omega⟩
  have jt : ∀ l q, q = true → text_B2X.j0 (k + 1) l q = some (⟨#[]⟩, 1) := fun l q hq => by rw [text_B2X.j0, if_pos hq]
  have jr : ∀ l q, q = true → qanatref02_B2X.j0 (k + 1) l q = some (⟨#[]⟩, 1) := fun l q hq => by rw [qanatref02_B2X.j0, if_pos hq]
  unfold text_B2X.f qanatref02_B2X.f qanatref02_Valid.f text_Valid.f
  rcases both 2 (.inr rfl) 4 (.inr rfl) s hs (k + 1) (by omega) with ⟨t, r, h1, h2, h3⟩ | ⟨l, hv, h1, h2, h3, h4⟩
  · rw [show ((4 : Nat) : Int) = 4 from rfl] at h1 h2
    rw [h1, h2]
    simp only [Option.bind_some]
    refine ⟨⟨#[]⟩, 1, ?_, ?_⟩
    · by_cases ht : t.2 = true
      · rw [if_pos ht]
        cases hv : vld s with
        | false => exact jt _ _ rfl
        | true => rw [(h3 hv).1] at ht; cases ht
      · rw [if_neg ht]; exact jt _ _ rfl
    · by_cases hv : vld s = true
      · rw [if_pos hv, (h3 hv).2]; exact jr _ _ rfl
      · rw [if_neg hv]; exact jr _ _ rfl
  · rw [show ((4 : Nat) : Int) = 4 from rfl] at h1 h2
    have hl := lens_fw s
    rw [h1, h2]
    simp only [Option.bind_some]
    rw [if_pos trivial, if_pos hv, hv, Bool.not_true, text_B2X.j0, if_neg (by decide), qanatref02_B2X.j0, if_neg (by decide)]
    have hp := padn_lt 4 l.length (.inr rfl)
    have hpl := P_len 4 l
    have hmem := P_mem 4 2 (.inr rfl) l h4
    obtain ⟨d, hd⟩ : ∃ d, (P 4 l).length = 4 * d := ⟨(P 4 l).length / 4, by omega⟩
    obtain ⟨k', hk', e2⟩ := r_pad l (by omega) k (by omega)
    have e1 := t_b2x (P 4 l) (by omega) hmem d 0 k [] (by omega) (by omega) (by simp; omega)
    have e3 := r_b2x (P 4 l) (by omega) hmem d 0 k' [] (by omega) (by omega) (by simp; omega)
    rw [show ((0 : Nat) : Int) = 0 from rfl, List.nil_append, List.drop_zero] at e1 e3
    rw [e1, e2, e3, made_out _ (qds_rng _ _ (Nat.le_refl _))]
    obtain ⟨v, e, hv⟩ := made_some (strOfNums (qds (P 4 l)))
    rw [made_out _ (qds_rng _ _ (Nat.le_refl _))] at hv
    exact ⟨v, e, hv, hv⟩
/-! X2B -/
theorem tB (n : Int) (h : 0 ≤ n ∧ n < 16) : nn4 n = true ∧ ∀ x : Nat, x = 8 ∨ x = 4 ∨ x = 2 ∨ x = 1 → 0 ≤ Int.tmod (wrap64 (Int.tdiv n (x : Int))) 2 ∧ Int.tmod (wrap64 (Int.tdiv n (x : Int))) 2 < 16 ∧ bt H (Int.tmod (wrap64 (Int.tdiv n (x : Int))) 2) = bit01 n (x : Int) := by
  obtain ⟨m, rfl⟩ := Int.eq_ofNat_of_zero_le h.1
  have := List.all_eq_true.1 tabB m (List.mem_range.2 (by omega))
  simp only [List.all_cons, List.all_nil, Bool.and_eq_true, decide_eq_true_eq, Bool.and_true] at this
  refine ⟨this.1, fun x hx => ?_⟩
  rcases hx with rfl | rfl | rfl | rfl
  · exact ⟨this.2.1.1.1, this.2.1.1.2, this.2.1.2⟩
  · exact ⟨this.2.2.1.1.1, this.2.2.1.1.2, this.2.2.1.2⟩
  · exact ⟨this.2.2.2.1.1.1, this.2.2.2.1.1.2, this.2.2.2.1.2⟩
  · exact ⟨this.2.2.2.2.1.1, this.2.2.2.2.1.2, this.2.2.2.2.2⟩
theorem b4_rng (l : List Int) : ∀ x ∈ l.flatMap b4, 0 ≤ x ∧ x < 256 := by
  intro x hx
  obtain ⟨n, _, hn⟩ := List.mem_flatMap.1 hx
  have hb : ∀ y, 0 ≤ bit01 n y ∧ bit01 n y < 256 := fun y => by unfold bit01; split <;> omega
  simp only [b4, List.mem_cons, List.not_mem_nil, or_false] at hn
  rcases hn with rfl | rfl | rfl | rfl <;> exact hb _
theorem r_bit (m : List Int) (i : Nat) (hi : i < m.length) (hm : 0 ≤ m[i] ∧ m[i] < 16) (x : Nat) (hx : x = 8 ∨ x = 4 ∨ x = 2 ∨ x = 1) (k : Nat) (acc : List Int) (ha : acc.length ≤ 1000000) :
    qanatref02_X2B.l1 (k + 1) m acc (i : Int) (x : Int) = qanatref02_X2B.l1 k m (acc ++ [bit01 m[i] (x : Int)]) (i : Int) ((x / 2 : Nat) : Int) := by
  have t := (tB m[i] hm).2 x hx
  have hd : wrap64 (Int.tdiv (x : Int) 2) = ((x / 2 : Nat) : Int) := by rcases hx with rfl | rfl | rfl | rfl <;> first | decide | kernel_rfl
  have hx0 : 0 < x := by omega
  rw [qanatref02_X2B.l1, if_pos (by omega), if_pos (by omega), if_pos (by omega), if_neg (by omega), rd_nat' m i hi, if_pos t.1, if_pos t.2.1, if_pos (by omega), hd, ← t.2.2]
  rfl
theorem r_x2b (m : List Int) (hm : m.length ≤ 5000) (hr : ∀ n ∈ m, 0 ≤ n ∧ n < 16) : ∀ (d i k : Nat) (acc : List Int), m.length = i + d → 7 * d + 2 ≤ k → acc.length + 4 * d ≤ 100000 → qanatref02_X2B.l0 k m acc (i : Int) = qanatref02_out.f (acc ++ (m.drop i).flatMap b4)
  | d, i, 0, acc, _, h, _ => by omega
  | 0, i, k + 1, acc, hd, hk, ha => by
    rw [qanatref02_X2B.l0, if_neg (by omega), List.drop_of_length_le (by omega), bindp]
    simp
  | d + 1, i, k + 1, acc, hd, hk, ha => by
    have hi : i < m.length := by omega
    have hv := hr _ (List.getElem_mem hi)
    obtain ⟨k, rfl⟩ : ∃ k', k = k' + 5 := ⟨k - 5, by omega⟩
    have e8 := r_bit m i hi hv 8 (.inl rfl) (k + 4) acc (by omega)
    have e4 := r_bit m i hi hv 4 (.inr (.inl rfl)) (k + 3) (acc ++ [bit01 m[i] 8]) (by rw [List.length_append]; simp; omega)
    have e2 := r_bit m i hi hv 2 (.inr (.inr (.inl rfl))) (k + 2) (acc ++ [bit01 m[i] 8] ++ [bit01 m[i] 4]) (by simp; omega)
    have e1 := r_bit m i hi hv 1 (.inr (.inr (.inr rfl))) (k + 1) (acc ++ [bit01 m[i] 8] ++ [bit01 m[i] 4] ++ [bit01 m[i] 2]) (by simp; omega)
    rw [qanatref02_X2B.l0, if_pos (by omega)]
    refine (e8.trans (e4.trans (e2.trans (e1.trans ?_))))
    rw [show ((1 / 2 : Nat) : Int) = 0 from rfl, qanatref02_X2B.l1, if_neg (by omega), wrap64_id _ (by omega) (by omega), show ((i : Int) + 1) = ((i + 1 : Nat) : Int) by omega,
      r_x2b m hm hr d (i + 1) k _ (by omega) (by omega) (by simp; omega), List.drop_eq_getElem_cons hi, List.flatMap_cons, b4]
    simp
/-! Blanks taken out. -/
theorem ix_blank (t : List UInt8) : Lib.index (32 :: t) [32] = 0 := by simp [Lib.index]
theorem ix_other (b : UInt8) (t : List UInt8) (h : b ≠ 32) : Lib.index (b :: t) [32] = if Lib.index t [32] == -1 then -1 else Lib.index t [32] + 1 := by
  rw [Lib.index, if_neg]
  simp
  exact fun e => h e.symm
theorem rk_other (b : UInt8) (t : List UInt8) (h : b ≠ 32) : ∀ k, Lib.replaceK [32] [] k (b :: t) = b :: Lib.replaceK [32] [] k t
  | 0 => rfl
  | k + 1 => by
    have hg := Lib.index_ge t [32]
    rw [Lib.replaceK, Lib.replaceK, ix_other b t h]
    by_cases e : Lib.index t [32] = -1
    · rw [e]; rfl
    · obtain ⟨i, hi⟩ : ∃ i : Nat, Lib.index t [32] = i := ⟨(Lib.index t [32]).toNat, by omega⟩
      have c1 : ((i : Int) == -1) = false := beq_eq_false_iff_ne.mpr (by omega)
      have c2 : ((i : Int) + 1 == -1) = false := beq_eq_false_iff_ne.mpr (by omega)
      rw [hi]
      simp only [c1, Bool.false_eq_true, if_false, c2]
      rw [show ((i : Int) + 1).toNat = i + 1 by omega, Int.toNat_natCast, show i + 1 + [(32 : UInt8)].length = (i + [(32 : UInt8)].length) + 1 by simp]
      rfl
theorem rk_all : ∀ l : List UInt8, (Lib.replaceK [32] [] (l.count 32) l).length = (l.filter fun b => !(b == 32)).length
  | [] => rfl
  | b :: t => by
    by_cases h : b = 32
    · subst h
      rw [List.count_cons_self, Lib.replaceK_hit [32] [] (t.count 32) (32 :: t) 0 (ix_blank t)]
      simp
      have := rk_all t
      simpa using this
    · rw [List.count_cons_of_ne (fun e => h e), rk_other b t h, List.filter_cons_of_pos (by simp [h]), List.length_cons, List.length_cons, rk_all t]
theorem fw_lens : ∀ (u cur : List UInt8), Lib.lens (fw cur u) = cur.length + (u.filter fun b => !(b == 32)).length
  | [], cur => by
    simp only [fw]
    split
    · rename_i h; simp [Lib.lens, h]
    · simp [Lib.lens]
  | b :: u, cur => by
    simp only [fw]
    split
    · rename_i hb
      have ih := fw_lens u []
      have e : ((b :: u).filter fun b => !(b == 32)) = u.filter fun b => !(b == 32) := by
        rw [List.filter_cons_of_neg]; simpa using hb
      rw [e]
      split
      · rename_i h; simp [h] at ih ⊢; omega
      · simp [Lib.lens] at ih ⊢; omega
    · rename_i hb
      have ih := fw_lens u (cur ++ [b])
      have e : ((b :: u).filter fun b => !(b == 32)) = b :: u.filter fun b => !(b == 32) := by
        rw [List.filter_cons_of_pos]; simpa using hb
      rw [e]
      simp at ih ⊢; omega
theorem repl (s : ByteArray) (hs : s.size ≤ 1200) : ∃ r, strings_ReplaceAll.f s ⟨#[32]⟩ ⟨#[]⟩ = some r ∧ r.size = Lib.lens (fw [] (by8 s)) := by
  refine ⟨⟨(Lib.replaceAll s.data.toList [32] []).toArray⟩, ?_, ?_⟩
  · unfold strings_ReplaceAll.f
    exact if_pos ⟨by omega, by decide, by rw [show (⟨#[]⟩ : ByteArray).size = 0 from rfl]; omega⟩
  · rw [B.sz]
    show (Lib.replaceAll s.data.toList [32] []).length = _
    rw [fw_lens, Lib.replaceAll, Lib.replace, if_neg (by decide), Lib.replaceNum, if_pos (.inl (by decide)), Lib.count_one]
    rw [List.length_nil, Nat.zero_add]
    exact rk_all (by8 s)
theorem x2b_agree (s : ByteArray) (hs : s.size ≤ 1200) (k : Nat) (hk : 60000 ≤ k) : ∃ v e, text_X2B.f k s = some (v, e) ∧ qanatref02_X2B.f k s = some (v, e) := by
  obtain ⟨k, rfl⟩ : ∃ k', k = k' + 1 := ⟨k - 1, by omega⟩
  have jr : ∀ l q, q = true → qanatref02_X2B.j0 (k + 1) l q = some (⟨#[]⟩, 1) := fun l q hq => by rw [qanatref02_X2B.j0, if_pos hq]
  unfold text_X2B.f qanatref02_X2B.f qanatref02_Valid.f
  rcases both 16 (.inl rfl) 2 (.inl rfl) s hs (k + 1) (by omega) with ⟨t, r, h1, h2, h3⟩ | ⟨l, hv, h1, h2, h3, h4⟩
  · rw [show ((2 : Nat) : Int) = 2 from rfl] at h1 h2
    rw [h1, h2]
    simp only [Option.bind_some]
    refine ⟨⟨#[]⟩, 1, ?_, ?_⟩
    · by_cases ht : t.2 = true
      · rw [if_pos ht]
        by_cases hv : vld s = true
        · rw [(h3 hv).1] at ht; cases ht
        · rw [if_neg hv]
      · rw [if_neg ht]
    · by_cases hv : vld s = true
      · rw [if_pos hv, (h3 hv).2]; exact jr _ _ rfl
      · rw [if_neg hv]; exact jr _ _ rfl
  · rw [show ((2 : Nat) : Int) = 2 from rfl] at h1 h2
    have hl := lens_fw s
    obtain ⟨r, hr1, hr2⟩ := repl s hs
    have hp := padn_lt 2 l.length (.inl rfl)
    have hpl := P_len 2 l
    have hmem := P_mem 2 16 (.inl rfl) l h4
    have hnn : (P 2 l).all nn4 = true := List.all_eq_true.2 fun n hn => (tB n (hmem n hn)).1
    have hL : (if r.size < (P 2 l).length then (P 2 l).drop 1 else P 2 l) = l := by
      rw [hr2, ← h3]
      rw [P2]
      by_cases hc : ((l.length : Int) % 2) = 1
      · rw [if_pos hc, if_pos (by simp)]; rfl
      · rw [if_neg hc, if_neg (by omega)]
    rw [h1, h2]
    simp only [Option.bind_some]
    rw [if_pos trivial, if_pos hv, if_pos hv, hr1]
    simp only [Option.bind_some]
    rw [if_pos ⟨by omega, hnn⟩, hL, Bool.not_true, qanatref02_X2B.j0, if_neg (by decide)]
    have e3 := r_x2b l (by omega) h4 l.length 0 k [] (by omega) (by omega) (by simp; omega)
    rw [show ((0 : Nat) : Int) = 0 from rfl, List.nil_append, List.drop_zero] at e3
    rw [e3, made_out _ (b4_rng _)]
    obtain ⟨v, e, hv⟩ := made_some (strOfNums (l.flatMap b4))
    rw [made_out _ (b4_rng _)] at hv
    exact ⟨v, e, hv, hv⟩
end Dg
theorem digits_pure : qanatlaw02_TextDigits.Pure := by
  intro s _
  refine ⟨60 + 70000, ?_⟩
  unfold qanatlaw02_TextDigits.f
  rw [head_ok 70000]
  simp only [Option.bind_some, qanatlaw02_long.f]
  by_cases h0 : (s.size : Int) > 1200
  · rw [if_pos (decide_eq_true h0)]
  · rw [if_neg (by simp; omega)]
    obtain ⟨v1, e1, a1, b1⟩ := Dg.c2x_agree s (by omega) (60 + 70000) (by omega)
    obtain ⟨v2, e2, a2, b2⟩ := Dg.x2c_agree s (by omega) (60 + 70000) (by omega)
    obtain ⟨v3, e3, a3, b3⟩ := Dg.x2b_agree s (by omega) (60 + 70000) (by omega)
    obtain ⟨v4, e4, a4, b4⟩ := Dg.b2x_agree s (by omega) (60 + 70000) (by omega)
    simp only [a1, a2, a3, a4, b1, b2, b3, b4, Option.bind_some, B.str_eq, if_true]
end Go.Proofs.YtlekfhnlhdmekaaGreatDoor.T
