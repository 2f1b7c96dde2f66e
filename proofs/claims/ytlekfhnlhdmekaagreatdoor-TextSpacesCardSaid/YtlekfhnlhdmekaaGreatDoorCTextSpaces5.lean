/- Part 5 of the proof of TextSpaces: the functions that it calls return what their plain descriptions say. -/
import Derived.Test.YtlekfhnlhdmekaaGreatDoorCTextSpaces2
import Derived.Test.YtlekfhnlhdmekaaGreatDoorCTextSpaces3
import Derived.Test.YtlekfhnlhdmekaaGreatDoorCTextSpaces4
import Derived.Deep.AppendSrc
import Derived.Deep.MidRow
import Derived.StillTailTactics

-- Written by a program of this session (mp.py over the kit's print.py), out of the translation.
namespace Go.Proofs.YtlekfhnlhdmekaaGreatDoor.T
set_option linter.unusedSimpArgs false
open Go.RowKit Go.Proofs.YtlekfhnlhdmekaaGreatDoorW.PrintWords Go.Proofs.YtlekfhnlhdmekaaGreatDoorW.PrintLast Go.Proofs.YtlekfhnlhdmekaaGreatDoorW.PrintMore
attribute [local go_sem] max2_int min2_int max_two min_two max_three min_three max_four min_four   -- for this text's walks alone
set_option linter.unusedVariables false
set_option linter.unusedSimpArgs false

/-! ### qanatref02_Spans: function 110 -/
mutual
def qanatref02_Spans.l0 : Nat → ByteArray → List (S113) → Int → Option ((List (S113)))
  | 0, _, _, _ => none
  | k + 1, x0, x3, x4 => if x4 < (x0.size : Int) then (if 0 ≤ x4 then (if (bt x0 x4) = 32 then (qanatref02_Spans.l0 k x0 x3 (wrap64 (x4 + 1))) else (qanatref02_Spans.l1 k x0 x3 x4 x4)) else (none)) else (some x3)
def qanatref02_Spans.l1 : Nat → ByteArray → List (S113) → Int → Int → Option ((List (S113)))
  | 0, _, _, _, _ => none
  | k + 1, x0, x3, x4, x5 => if x4 < (x0.size : Int) then (if 0 ≤ x4 then (if (bt x0 x4) = 32 then (if x3.length < 8796093022208 then (qanatref02_Spans.l0 k x0 (x3 ++ [(⟨x5, x4⟩ : S113)]) x4) else (none)) else (qanatref02_Spans.l1 k x0 x3 (wrap64 (x4 + 1)) x5)) else (none)) else (if x3.length < 8796093022208 then (qanatref02_Spans.l0 k x0 (x3 ++ [(⟨x5, x4⟩ : S113)]) x4) else (none))
end
def qanatref02_Spans.f (k : Nat) (a0 : ByteArray) : Option ((List (S113))) := qanatref02_Spans.l0 k a0 ([] : List (S113)) 0
theorem qanatref02_Spans.mono_l : ∀ k, (∀ y0 y1 y2, LeO (qanatref02_Spans.l0 k y0 y1 y2) (qanatref02_Spans.l0 (k + 1) y0 y1 y2)) ∧ (∀ y0 y1 y2 y3, LeO (qanatref02_Spans.l1 k y0 y1 y2 y3) (qanatref02_Spans.l1 (k + 1) y0 y1 y2 y3))
  | 0 => ⟨fun _ _ _ r h => by simp [qanatref02_Spans.l0] at h, fun _ _ _ _ r h => by simp [qanatref02_Spans.l1] at h⟩
  | k + 1 => by
    obtain ⟨ih0, ih1⟩ := qanatref02_Spans.mono_l k
    refine ⟨?_, ?_⟩
    · intro y0 y1 y2
      unfold qanatref02_Spans.l0
      repeat' first
      | (with_reducible exact ih0 _ _ _)
      | (with_reducible exact ih1 _ _ _ _)
      | (with_reducible exact LeO.refl _)
      | (with_reducible exact LeO.none _)
      | (with_reducible refine LeO.ite ?_ ?_)
      | (with_reducible refine LeO.bind ?_ (fun _ => ?_))
      | exact ih0 _ _ _
      | exact ih1 _ _ _ _
      | exact LeO.none _
      | refine LeO.ite ?_ ?_
      | refine LeO.bind ?_ (fun _ => ?_)
    · intro y0 y1 y2 y3
      unfold qanatref02_Spans.l1
      repeat' first
      | (with_reducible exact ih0 _ _ _)
      | (with_reducible exact ih1 _ _ _ _)
      | (with_reducible exact LeO.refl _)
      | (with_reducible exact LeO.none _)
      | (with_reducible refine LeO.ite ?_ ?_)
      | (with_reducible refine LeO.bind ?_ (fun _ => ?_))
      | exact ih0 _ _ _
      | exact ih1 _ _ _ _
      | exact LeO.none _
      | refine LeO.ite ?_ ?_
      | refine LeO.bind ?_ (fun _ => ?_)
theorem qanatref02_Spans.mono : ∀ a0 k, LeO (qanatref02_Spans.f k a0) (qanatref02_Spans.f (k + 1) a0) := by
  intro a0 k
  obtain ⟨ih0, ih1⟩ := qanatref02_Spans.mono_l k
  unfold qanatref02_Spans.f
  repeat' first
      | (with_reducible exact ih0 _ _ _)
      | (with_reducible exact ih1 _ _ _ _)
      | (with_reducible exact LeO.refl _)
      | (with_reducible exact LeO.none _)
      | (with_reducible refine LeO.ite ?_ ?_)
      | (with_reducible refine LeO.bind ?_ (fun _ => ?_))
      | exact ih0 _ _ _
      | exact ih1 _ _ _ _
      | exact LeO.none _
      | refine LeO.ite ?_ ?_
      | refine LeO.bind ?_ (fun _ => ?_)
set_option maxHeartbeats 8000000 in
set_option maxRecDepth 100000 in
theorem qanatref02_Spans.calls (k : Nat) (a0 : ByteArray) (r : List (S113)) (w : World) (h : qanatref02_Spans.f k a0 = some r) :
    Calls Tryz.prog 110 #[.string a0] w fun e w' => ∃ v0_ : Value, e = .returned (v0_) ∧ Kd.R k113 113 w' w.heap.size (fun _ => True) v0_ r ∧ Below w.heap.size w w' := by
  have hu113 := Tryz.underlying113
  have HB := Aside0.mk (Below.refl w.heap.size w)
  have H : (qanatref02_Spans.l0 k a0 ([] : List (S113)) 0) = some r := h
  clear h
  have H' := Aside0.mk H
  clear H
  go_enter Tryz.func110, Tryz.ntmps110
  go_wp2
  go_loopg [3, 4] k (fun kq v3 v4 w' => ∃ (x3_1 : List (S113)) (x4_1 : Int), v4 = .int .i64 x4_1 ∧ Aside0 (qanatref02_Spans.l0 kq a0 x3_1 x4_1 = some r) ∧ Aside0 (kq ≤ k) ∧ Aside0 (Kd.R k113 113 w' w.heap.size (fun _ => True) v3 x3_1) ∧ Aside0 (Below w.heap.size w w'))
  case atStart => exact ⟨(([] : List (S113))), (0), (by first | rfl | (simp; done) | (simp [*]; done)), H', ⟨Nat.le_refl _⟩, ⟨by first | exact Kd.R_nil _ _ _ _ _ | exact Kd.N_nil _ _ _ _ _ | exact Kd.V_nil _ _ _ _ _ | exact Kd.Q_nil _ _ _ _ _ | exact Kd.S_nil _ _ _ _ _⟩, ⟨by repeat (first | (with_reducible first | exact HB.out | apply below_alloc | apply pw_below_drewN | apply below_drew1) | exact HB.out)⟩⟩
  case round =>
    clear H'
    try clear c1
    obtain ⟨x3_1, x4_1, rfl, HA, HK1, HO_3, HB⟩ := hrel
    cases gk with
    | zero => exact absurd HA.out (by simp [qanatref02_Spans.l0])
    | succ k1 =>
      have H := HA.out
      clear HA
      simp only [qanatref02_Spans.l0] at H
      by_cases c2 : x4_1 < (a0.size : Int)
      · rw [if_pos c2] at H
        have c2b0 : decide (x4_1 < (a0.size : Int)) = true := decide_eq_true c2
        clear c2
        by_cases c3 : 0 ≤ x4_1
        · rw [if_pos c3] at H
          have c3b0 : decide (0 ≤ x4_1) = true := decide_eq_true c3
          clear c3
          by_cases c5 : (bt a0 x4_1) = 32
          · rw [if_pos c5] at H
            have c5b0 : ((bt a0 x4_1) == 32) = true := beq_iff_eq.mpr c5
            have c5b1 : ((bt a0 x4_1) != 32) = false := bne_eq_false_iff_eq.mpr c5
            clear c5
            have H' := Aside0.mk H
            clear H
            have p4 : 0 ≤ (x4_1 : Int) := of_decide_eq_true (by first | (with_reducible assumption) | assumption)
            have q4 : x4_1 < (a0.size : Int) := of_decide_eq_true (by first | (with_reducible assumption) | assumption)
            have hx4 := bt_at a0 x4_1
            replace p4 := eq_true p4
            replace q4 := eq_true q4
            go_wp2
            go_roundg k1
            case measure => have := HK1.out; omega
            case rel => exact ⟨(x3_1), (wrap64 (x4_1 + 1)), (by first | rfl | (simp; done) | (simp [*]; done)), H', ⟨by have := HK1.out; omega⟩, ⟨by (with_reducible repeat (first | apply Kd.R_alloc | apply Kd.R_drewN | apply Kd.R_drew)); exact HO_3.out⟩, ⟨by repeat (first | (with_reducible first | exact HB.out | apply below_alloc | apply pw_below_drewN | apply below_drew1) | exact HB.out)⟩⟩
          · rw [if_neg c5] at H
            have c5b0 : ((bt a0 x4_1) == 32) = false := beq_eq_false_iff_ne.mpr c5
            have c5b1 : ((bt a0 x4_1) != 32) = true := bne_iff_ne.mpr c5
            have H' := Aside0.mk H
            clear H
            have p4 : 0 ≤ (x4_1 : Int) := of_decide_eq_true (by first | (with_reducible assumption) | assumption)
            have q4 : x4_1 < (a0.size : Int) := of_decide_eq_true (by first | (with_reducible assumption) | assumption)
            have hx4 := bt_at a0 x4_1
            replace p4 := eq_true p4
            replace q4 := eq_true q4
            go_wp2
            go_loopg [4] k1 (fun kq v4 w' => ∃ (x4_2 : Int), v4 = .int .i64 x4_2 ∧ Aside0 (qanatref02_Spans.l1 kq a0 x3_1 x4_2 x4_1 = some r) ∧ Aside0 (kq ≤ k1) ∧ Aside0 (Kd.R k113 113 w' w.heap.size (fun _ => True) u3 x3_1) ∧ Aside0 (Below w.heap.size w w'))
            case atStart => exact ⟨(x4_1), (by first | rfl | (simp; done) | (simp [*]; done)), H', ⟨Nat.le_refl _⟩, ⟨by (with_reducible repeat (first | apply Kd.R_alloc | apply Kd.R_drewN | apply Kd.R_drew)); exact HO_3.out⟩, ⟨by repeat (first | (with_reducible first | exact HB.out | apply below_alloc | apply pw_below_drewN | apply below_drew1) | exact HB.out)⟩⟩
            case round =>
              clear H'
              try clear c1
              try clear c2
              try clear c2b0
              try clear p2
              try clear c3
              try clear c3b0
              try clear p4
              try clear q4
              try clear hx4
              try clear c5
              try clear c5b0
              try clear c5b1
              try clear p4
              try clear q4
              obtain ⟨x4_2, rfl, HA, HK2, HO_3, HB⟩ := hrel
              cases gk with
              | zero => exact absurd HA.out (by simp [qanatref02_Spans.l1])
              | succ k2 =>
                have H := HA.out
                clear HA
                simp only [qanatref02_Spans.l1] at H
                by_cases c6 : x4_2 < (a0.size : Int)
                · rw [if_pos c6] at H
                  have c6b0 : decide (x4_2 < (a0.size : Int)) = true := decide_eq_true c6
                  clear c6
                  by_cases c7 : 0 ≤ x4_2
                  · rw [if_pos c7] at H
                    have c7b0 : decide (0 ≤ x4_2) = true := decide_eq_true c7
                    clear c7
                    by_cases c9 : (bt a0 x4_2) = 32
                    · rw [if_pos c9] at H
                      have c9b0 : ((bt a0 x4_2) == 32) = true := beq_iff_eq.mpr c9
                      have c9b1 : ((bt a0 x4_2) != 32) = false := bne_eq_false_iff_eq.mpr c9
                      clear c9
                      by_cases c10 : x3_1.length < 8796093022208
                      · rw [if_pos c10] at H
                        have LMc10 := Aside0.mk c10
                        clear c10
                        obtain ⟨y359, hy359⟩ : ∃ y_ : List (S113), y_ = (x3_1 ++ [(⟨x4_1, x4_2⟩ : S113)]) := ⟨_, rfl⟩
                        replace H : (qanatref02_Spans.l0 k2 a0 y359 x4_2) = some r := by first | (rw [hy359]; with_reducible exact H) | (have H2_ := (Option.bind_some _ _).symm.trans H; rw [hy359]; with_reducible exact H2_) | (have H2_ := (Option.bind_some _ _).symm.trans H; with_reducible exact H2_) | with_reducible exact H | (rw [hy359]; exact H) | exact H
                        have Ny359 := Aside0.mk hy359
                        clear hy359
                        have H' := Aside0.mk H
                        clear H
                        have p8 : 0 ≤ (x4_2 : Int) := of_decide_eq_true (by first | (with_reducible assumption) | assumption)
                        have q8 : x4_2 < (a0.size : Int) := of_decide_eq_true (by first | (with_reducible assumption) | assumption)
                        have hx8 := bt_at a0 x4_2
                        replace p8 := eq_true p8
                        replace q8 := eq_true q8
                        go_wp2_with (first | ((with_reducible refine gate_builtin (b := .append) (xs := #[.tmp 29, .tmp 33]) rfl ?_); at_builtin; refine Kd.R_append k113 (w0 := w) w.heap.size rfl (.tmp 29) (.tmp 33) 110 113 (.agg #[(.int .i64 0), (.int .i64 0)]) 16 rfl Tryz.underlying110 info113 rfl (by decide) (by omega) u3 x3_1 (⟨x4_1, x4_2⟩ : S113) [.int .i64 x4_1, .int .i64 x4_2] (fun _ => True) (fun _ => False) rfl rfl ?aP (fun _ hk => hk.elim) ?aF ?aO ?aB ?aS ?aL ?_; (case aP => exact k113_mkM _ _ _ (⟨x4_1, x4_2⟩ : S113)); (case aB => exact (by repeat (first | (with_reducible first | exact HB.out | apply below_alloc | apply pw_below_drewN | apply below_drew1) | exact HB.out))); (case aF => exact (fun _ _ => trivial)); (case aO => exact (by (with_reducible repeat (first | apply Kd.R_alloc | apply Kd.R_drewN | apply Kd.R_drew)); exact HO_3.out)); (case aS => exact (below_size (by repeat (first | (with_reducible first | exact HB.out | apply below_alloc | apply pw_below_drewN | apply below_drew1) | exact HB.out)))); (case aL => have := LMc10.out; omega); intro v360 w11 ho hb hg hat; rw [← Ny359.out] at ho; have n0_ := Aside0.mk (hb); have n1_ := Aside0.mk (ho); clear HB; clear HO_3; have HB := n0_; have HO361 := n1_; clear n0_ n1_; clear ho hb hg hat))
                        go_roundg k2
                        case measure => have := HK1.out; have := HK2.out; omega
                        case rel => exact ⟨(y359), (x4_2), (by first | rfl | (simp; done) | (simp [*]; done)), H', ⟨by have := HK1.out; have := HK2.out; omega⟩, ⟨by (with_reducible repeat (first | apply Kd.R_alloc | apply Kd.R_drewN | apply Kd.R_drew)); exact HO361.out⟩, ⟨by repeat (first | (with_reducible first | exact HB.out | apply below_alloc | apply pw_below_drewN | apply below_drew1) | exact HB.out)⟩⟩
                      · rw [if_neg c10] at H
                        exact absurd H (by simp)
                    · rw [if_neg c9] at H
                      have c9b0 : ((bt a0 x4_2) == 32) = false := beq_eq_false_iff_ne.mpr c9
                      have c9b1 : ((bt a0 x4_2) != 32) = true := bne_iff_ne.mpr c9
                      have H' := Aside0.mk H
                      clear H
                      have p8 : 0 ≤ (x4_2 : Int) := of_decide_eq_true (by first | (with_reducible assumption) | assumption)
                      have q8 : x4_2 < (a0.size : Int) := of_decide_eq_true (by first | (with_reducible assumption) | assumption)
                      have hx8 := bt_at a0 x4_2
                      replace p8 := eq_true p8
                      replace q8 := eq_true q8
                      go_wp2
                      go_roundg k2
                      case measure => have := HK1.out; have := HK2.out; omega
                      case rel => exact ⟨(wrap64 (x4_2 + 1)), (by first | rfl | (simp; done) | (simp [*]; done)), H', ⟨by have := HK1.out; have := HK2.out; omega⟩, ⟨by (with_reducible repeat (first | apply Kd.R_alloc | apply Kd.R_drewN | apply Kd.R_drew)); exact HO_3.out⟩, ⟨by repeat (first | (with_reducible first | exact HB.out | apply below_alloc | apply pw_below_drewN | apply below_drew1) | exact HB.out)⟩⟩
                  · rw [if_neg c7] at H
                    exact absurd H (by simp)
                · rw [if_neg c6] at H
                  have c6b0 : decide (x4_2 < (a0.size : Int)) = false := decide_eq_false c6
                  clear c6
                  by_cases c12 : x3_1.length < 8796093022208
                  · rw [if_pos c12] at H
                    have LMc12 := Aside0.mk c12
                    clear c12
                    obtain ⟨y362, hy362⟩ : ∃ y_ : List (S113), y_ = (x3_1 ++ [(⟨x4_1, x4_2⟩ : S113)]) := ⟨_, rfl⟩
                    replace H : (qanatref02_Spans.l0 k2 a0 y362 x4_2) = some r := by first | (rw [hy362]; with_reducible exact H) | (have H2_ := (Option.bind_some _ _).symm.trans H; rw [hy362]; with_reducible exact H2_) | (have H2_ := (Option.bind_some _ _).symm.trans H; with_reducible exact H2_) | with_reducible exact H | (rw [hy362]; exact H) | exact H
                    have Ny362 := Aside0.mk hy362
                    clear hy362
                    have H' := Aside0.mk H
                    clear H
                    go_wp2_with (first | ((with_reducible refine gate_builtin (b := .append) (xs := #[.tmp 29, .tmp 33]) rfl ?_); at_builtin; refine Kd.R_append k113 (w0 := w) w.heap.size rfl (.tmp 29) (.tmp 33) 110 113 (.agg #[(.int .i64 0), (.int .i64 0)]) 16 rfl Tryz.underlying110 info113 rfl (by decide) (by omega) u3 x3_1 (⟨x4_1, x4_2⟩ : S113) [.int .i64 x4_1, .int .i64 x4_2] (fun _ => True) (fun _ => False) rfl rfl ?aP (fun _ hk => hk.elim) ?aF ?aO ?aB ?aS ?aL ?_; (case aP => exact k113_mkM _ _ _ (⟨x4_1, x4_2⟩ : S113)); (case aB => exact (by repeat (first | (with_reducible first | exact HB.out | apply below_alloc | apply pw_below_drewN | apply below_drew1) | exact HB.out))); (case aF => exact (fun _ _ => trivial)); (case aO => exact (by (with_reducible repeat (first | apply Kd.R_alloc | apply Kd.R_drewN | apply Kd.R_drew)); exact HO_3.out)); (case aS => exact (below_size (by repeat (first | (with_reducible first | exact HB.out | apply below_alloc | apply pw_below_drewN | apply below_drew1) | exact HB.out)))); (case aL => have := LMc12.out; omega); intro v363 w13 ho hb hg hat; rw [← Ny362.out] at ho; have n0_ := Aside0.mk (hb); have n1_ := Aside0.mk (ho); clear HB; clear HO_3; have HB := n0_; have HO364 := n1_; clear n0_ n1_; clear ho hb hg hat))
                    go_roundg k2
                    case measure => have := HK1.out; have := HK2.out; omega
                    case rel => exact ⟨(y362), (x4_2), (by first | rfl | (simp; done) | (simp [*]; done)), H', ⟨by have := HK1.out; have := HK2.out; omega⟩, ⟨by (with_reducible repeat (first | apply Kd.R_alloc | apply Kd.R_drewN | apply Kd.R_drew)); exact HO364.out⟩, ⟨by repeat (first | (with_reducible first | exact HB.out | apply below_alloc | apply pw_below_drewN | apply below_drew1) | exact HB.out)⟩⟩
                  · rw [if_neg c12] at H
                    exact absurd H (by simp)
        · rw [if_neg c3] at H
          exact absurd H (by simp)
      · rw [if_neg c2] at H
        have c2b0 : decide (x4_1 < (a0.size : Int)) = false := decide_eq_false c2
        clear c2
        obtain rfl := Option.some.inj H
        go_wp2
        go_ret
        exact ⟨_, by first | rfl | (simp [errW_none, errW_some] <;> rfl) | (simp [*, errW_none, errW_some] <;> rfl), by (with_reducible repeat (first | apply Kd.R_alloc | apply Kd.R_drewN | apply Kd.R_drew)); exact HO_3.out, by repeat (first | (with_reducible first | exact HB.out | apply below_alloc | apply pw_below_drewN | apply below_drew1) | exact HB.out)⟩

end Go.Proofs.YtlekfhnlhdmekaaGreatDoor.T

/- The reference's Valid and out: the walks (written by mp.py over the kit's print.py), and what they compute. -/
namespace Go.Proofs.YtlekfhnlhdmekaaGreatDoor.TP
set_option linter.unusedSimpArgs false
open Go.RowKit Go.Proofs.YtlekfhnlhdmekaaGreatDoorW.PrintWords Go.Proofs.YtlekfhnlhdmekaaGreatDoorW.PrintLast Go.Proofs.YtlekfhnlhdmekaaGreatDoorW.PrintMore Go.Proofs.YtlekfhnlhdmekaaGreatDoor.T
attribute [local go_sem] max2_int min2_int max_two min_two max_three min_three max_four min_four
set_option linter.unusedVariables false
set_option linter.unusedSimpArgs false

/-! ### qanatref02_Pad: function 98 -/
def qanatref02_Pad.f (a0 : Int) : Option (Bool) := if a0 ≥ 32 then (some (decide (a0 ≤ 126))) else (some false)
set_option maxHeartbeats 8000000 in
set_option maxRecDepth 100000 in
theorem qanatref02_Pad.calls (a0 : Int) (r : Bool) (w : World) (h : qanatref02_Pad.f a0 = some r) :
    Calls Tryz.prog 98 #[.int .u8 a0] w fun e w' => e = .returned (.bool r) ∧ Drawn0 w w' := by
  have H : (if a0 ≥ 32 then (some (decide (a0 ≤ 126))) else (some false)) = some r := h
  clear h
  by_cases c2 : a0 ≥ 32
  · rw [if_pos c2] at H
    have c2b0 : decide (32 ≤ a0) = true := decide_eq_true c2
    clear c2
    obtain rfl := Option.some.inj H
    go_enter Tryz.func98, Tryz.ntmps98
    go_wp2
    go_ret
    exact ⟨by first | rfl | (simp; done) | (simp [*]; done), by repeat (first | exact Drawn0.refl _ | apply Drawn0.step)⟩
  · rw [if_neg c2] at H
    have c2b0 : decide (32 ≤ a0) = false := decide_eq_false c2
    clear c2
    obtain rfl := Option.some.inj H
    go_enter Tryz.func98, Tryz.ntmps98
    go_wp2
    go_ret
    exact ⟨by first | rfl | (simp; done) | (simp [*]; done), by repeat (first | exact Drawn0.refl _ | apply Drawn0.step)⟩

/-! ### qanatref02_Valid: function 89 -/
def qanatref02_Valid.l0 : Nat → ByteArray → Int → Option (Bool)
  | 0, _, _ => none
  | k + 1, x0, x3 => if x3 < (x0.size : Int) then (if 0 ≤ x3 then ((qanatref02_Pad.f (bt x0 x3)).bind fun t186 => (if t186 = true then (qanatref02_Valid.l0 k x0 (wrap64 (x3 + 1))) else (some false))) else (none)) else (some true)
def qanatref02_Valid.f (k : Nat) (a0 : ByteArray) : Option (Bool) := if (a0.size : Int) > 1000 then (some false) else (qanatref02_Valid.l0 k a0 0)
theorem qanatref02_Valid.mono_l : ∀ k, (∀ y0 y1, LeO (qanatref02_Valid.l0 k y0 y1) (qanatref02_Valid.l0 (k + 1) y0 y1))
  | 0 => fun _ _ r h => by simp [qanatref02_Valid.l0] at h
  | k + 1 => by
    have ih0 := qanatref02_Valid.mono_l k
    · intro y0 y1
      unfold qanatref02_Valid.l0
      repeat' first
      | (with_reducible exact ih0 _ _)
      | (with_reducible exact LeO.refl _)
      | (with_reducible exact LeO.none _)
      | (with_reducible refine LeO.ite ?_ ?_)
      | (with_reducible refine LeO.bind ?_ (fun _ => ?_))
      | exact ih0 _ _
      | exact LeO.none _
      | refine LeO.ite ?_ ?_
      | refine LeO.bind ?_ (fun _ => ?_)
theorem qanatref02_Valid.mono : ∀ a0 k, LeO (qanatref02_Valid.f k a0) (qanatref02_Valid.f (k + 1) a0) := by
  intro a0 k
  have ih0 := qanatref02_Valid.mono_l k
  unfold qanatref02_Valid.f
  repeat' first
      | (with_reducible exact ih0 _ _)
      | (with_reducible exact LeO.refl _)
      | (with_reducible exact LeO.none _)
      | (with_reducible refine LeO.ite ?_ ?_)
      | (with_reducible refine LeO.bind ?_ (fun _ => ?_))
      | exact ih0 _ _
      | exact LeO.none _
      | refine LeO.ite ?_ ?_
      | refine LeO.bind ?_ (fun _ => ?_)
set_option maxHeartbeats 8000000 in
set_option maxRecDepth 100000 in
theorem qanatref02_Valid.calls (k : Nat) (a0 : ByteArray) (r : Bool) (w : World) (h : qanatref02_Valid.f k a0 = some r) :
    Calls Tryz.prog 89 #[.string a0] w fun e w' => e = .returned (.bool r) ∧ Drawn0 w w' := by
  have H : (if (a0.size : Int) > 1000 then (some false) else (qanatref02_Valid.l0 k a0 0)) = some r := h
  clear h
  by_cases c2 : (a0.size : Int) > 1000
  · rw [if_pos c2] at H
    have c2b0 : decide (1000 < (a0.size : Int)) = true := decide_eq_true c2
    have c2b1 : decide (1000 < a0.size) = true := decide_eq_true (by omega)
    clear c2
    obtain rfl := Option.some.inj H
    go_enter Tryz.func89, Tryz.ntmps89
    go_wp2
    go_ret
    exact ⟨by first | rfl | (simp; done) | (simp [*]; done), by repeat (first | exact Drawn0.refl _ | apply Drawn0.step)⟩
  · rw [if_neg c2] at H
    have c2b0 : decide (1000 < (a0.size : Int)) = false := decide_eq_false c2
    have c2b1 : decide (1000 < a0.size) = false := decide_eq_false (by omega)
    clear c2
    have H' := Aside0.mk H
    clear H
    go_enter Tryz.func89, Tryz.ntmps89
    go_wp2
    go_loopg [3] k (fun kq v3 w' => ∃ (x3_1 : Int), v3 = .int .i64 x3_1 ∧ Aside0 (qanatref02_Valid.l0 kq a0 x3_1 = some r) ∧ Aside0 (kq ≤ k) ∧ Drawn0 w w')
    case atStart => exact ⟨(0), (by first | rfl | (simp; done) | (simp [*]; done)), H', ⟨Nat.le_refl _⟩, by repeat (first | exact Drawn0.refl _ | apply Drawn0.step)⟩
    case round =>
      clear H'
      try clear c2
      try clear c2b0
      try clear c2b1
      try clear p2
      obtain ⟨x3_1, rfl, HA, HK1, ⟨m1, rfl⟩⟩ := hrel
      cases gk with
      | zero => exact absurd HA.out (by simp [qanatref02_Valid.l0])
      | succ k1 =>
        have H := HA.out
        clear HA
        simp only [qanatref02_Valid.l0] at H
        by_cases c3 : x3_1 < (a0.size : Int)
        · rw [if_pos c3] at H
          have c3b0 : decide (x3_1 < (a0.size : Int)) = true := decide_eq_true c3
          clear c3
          by_cases c4 : 0 ≤ x3_1
          · rw [if_pos c4] at H
            have c4b0 : decide (0 ≤ x3_1) = true := decide_eq_true c4
            clear c4
            replace H := Option.bind_eq_some_iff.mp H
            obtain ⟨t186, A60, H⟩ := H
            replace H : (if t186 = true then (qanatref02_Valid.l0 k1 a0 (wrap64 (x3_1 + 1))) else (some false)) = some r := H
            have A6 := Aside0.mk A60
            clear A60
            by_cases c7 : t186 = true
            · subst c7
              have H1 : (qanatref02_Valid.l0 k1 a0 (wrap64 (x3_1 + 1))) = some r := by rw [if_pos rfl] at H; exact H
              clear H
              have H := H1
              clear H1
              have H' := Aside0.mk H
              clear H
              have p5 : 0 ≤ (x3_1 : Int) := of_decide_eq_true (by first | (with_reducible assumption) | assumption)
              have q5 : x3_1 < (a0.size : Int) := of_decide_eq_true (by first | (with_reducible assumption) | assumption)
              have hx5 := bt_at a0 x3_1
              replace p5 := eq_true p5
              replace q5 := eq_true q5
              go_wp2_with (first | ((with_reducible refine gate_callee (f := 98) rfl ?_); refine goesL_ (some 16) rfl rfl Tryz.func98 (by kernel_rfl) rfl #[.int .u8 (bt a0 x3_1)] rfl (by (try simp only [List.map_toArray, List.map_cons, List.map_nil]); first | done | rfl | (simp only [List.length_drop, List.length_take]; rfl)) ?_; (with_reducible refine (qanatref02_Pad.calls (bt a0 x3_1) true _ A6.out).mono ?_); rintro e w' ⟨rfl, ⟨nd, rfl⟩⟩; refine ⟨_, rfl, ?_⟩))
              go_roundg k1
              case measure => have := HK1.out; omega
              case rel => exact ⟨(wrap64 (x3_1 + 1)), (by first | rfl | (simp; done) | (simp [*]; done)), H', ⟨by have := HK1.out; omega⟩, by repeat (first | exact Drawn0.refl _ | apply Drawn0.step)⟩
            · replace c7 := Bool.eq_false_iff.mpr c7
              subst c7
              have H1 : (some false) = some r := by rw [if_neg (show ¬ (false = true) by decide)] at H; exact H
              clear H
              have H := H1
              clear H1
              obtain rfl := Option.some.inj H
              have p5 : 0 ≤ (x3_1 : Int) := of_decide_eq_true (by first | (with_reducible assumption) | assumption)
              have q5 : x3_1 < (a0.size : Int) := of_decide_eq_true (by first | (with_reducible assumption) | assumption)
              have hx5 := bt_at a0 x3_1
              replace p5 := eq_true p5
              replace q5 := eq_true q5
              go_wp2_with (first | ((with_reducible refine gate_callee (f := 98) rfl ?_); refine goesL_ (some 16) rfl rfl Tryz.func98 (by kernel_rfl) rfl #[.int .u8 (bt a0 x3_1)] rfl (by (try simp only [List.map_toArray, List.map_cons, List.map_nil]); first | done | rfl | (simp only [List.length_drop, List.length_take]; rfl)) ?_; (with_reducible refine (qanatref02_Pad.calls (bt a0 x3_1) false _ A6.out).mono ?_); rintro e w' ⟨rfl, ⟨nd, rfl⟩⟩; refine ⟨_, rfl, ?_⟩))
              go_ret
              exact ⟨by first | rfl | (simp; done) | (simp [*]; done), by repeat (first | exact Drawn0.refl _ | apply Drawn0.step)⟩
          · rw [if_neg c4] at H
            exact absurd H (by simp)
        · rw [if_neg c3] at H
          have c3b0 : decide (x3_1 < (a0.size : Int)) = false := decide_eq_false c3
          clear c3
          obtain rfl := Option.some.inj H
          go_wp2
          go_ret
          exact ⟨by first | rfl | (simp; done) | (simp [*]; done), by repeat (first | exact Drawn0.refl _ | apply Drawn0.step)⟩

/-! ### qanatref02_out: function 90 -/
def qanatref02_out.l0 : Nat → List Int → Int → Option (ByteArray × Int)
  | 0, _, _ => none
  | k + 1, x0, x3 => if x3 < (x0.length : Int) then (if 0 ≤ x3 then ((qanatref02_Pad.f (rd x0 x3)).bind fun t189 => (if t189 = true then (qanatref02_out.l0 k x0 (wrap64 (x3 + 1))) else (some ((⟨#[]⟩ : ByteArray), 8)))) else (none)) else (some (strOfNums x0, 0))
def qanatref02_out.f (k : Nat) (l0 : List Int) : Option (ByteArray × Int) := if (l0.length : Int) > 1000 then (some ((⟨#[]⟩ : ByteArray), 3)) else (qanatref02_out.l0 k l0 0)
theorem qanatref02_out.mono_l : ∀ k, (∀ y0 y1, LeO (qanatref02_out.l0 k y0 y1) (qanatref02_out.l0 (k + 1) y0 y1))
  | 0 => fun _ _ r h => by simp [qanatref02_out.l0] at h
  | k + 1 => by
    have ih0 := qanatref02_out.mono_l k
    · intro y0 y1
      unfold qanatref02_out.l0
      repeat' first
      | (with_reducible exact ih0 _ _)
      | (with_reducible exact LeO.refl _)
      | (with_reducible exact LeO.none _)
      | (with_reducible refine LeO.ite ?_ ?_)
      | (with_reducible refine LeO.bind ?_ (fun _ => ?_))
      | exact ih0 _ _
      | exact LeO.none _
      | refine LeO.ite ?_ ?_
      | refine LeO.bind ?_ (fun _ => ?_)
theorem qanatref02_out.mono : ∀ a0 k, LeO (qanatref02_out.f k a0) (qanatref02_out.f (k + 1) a0) := by
  intro a0 k
  have ih0 := qanatref02_out.mono_l k
  unfold qanatref02_out.f
  repeat' first
      | (with_reducible exact ih0 _ _)
      | (with_reducible exact LeO.refl _)
      | (with_reducible exact LeO.none _)
      | (with_reducible refine LeO.ite ?_ ?_)
      | (with_reducible refine LeO.bind ?_ (fun _ => ?_))
      | exact ih0 _ _
      | exact LeO.none _
      | refine LeO.ite ?_ ?_
      | refine LeO.bind ?_ (fun _ => ?_)
set_option maxHeartbeats 8000000 in
set_option maxRecDepth 100000 in
theorem qanatref02_out.calls (k : Nat) (A0 : Option Addr) (c0 : Nat) (l0 : List Int) (r1 : ByteArray) (r2 : Int) (w : World) (hr0 : Kd.C (Kd.int .u8) w A0 l0.length l0) (hc0 : l0.length ≤ c0) (h : qanatref02_out.f k l0 = some (r1, r2)) :
    Calls Tryz.prog 90 #[.slice A0 l0.length c0] w fun e w' => e = .returned (.agg #[.string r1, .int .i64 r2]) ∧ Below w.heap.size w w' := by
  have hu29 := Tryz.underlying29
  have HR0 := Aside0.mk hr0
  have HC0 := Aside0.mk hc0
  clear hr0 hc0
  have HB := Aside0.mk (Below.refl w.heap.size w)
  have H : (if (l0.length : Int) > 1000 then (some ((⟨#[]⟩ : ByteArray), 3)) else (qanatref02_out.l0 k l0 0)) = some (r1, r2) := h
  clear h
  by_cases c2 : (l0.length : Int) > 1000
  · rw [if_pos c2] at H
    have c2b0 : decide (1000 < (l0.length : Int)) = true := decide_eq_true c2
    have c2b1 : decide (1000 < l0.length) = true := decide_eq_true (by omega)
    clear c2
    simp only [Option.some.injEq, Prod.mk.injEq] at H
    obtain ⟨rfl, rfl⟩ := H
    go_enter Tryz.func90, Tryz.ntmps90
    go_wp2_with (first | ((with_reducible refine gate_dst (N := 2) rfl ?_); refine box_event ?hg (N := 2) ?hd (cs := #[.string (⟨#[]⟩ : ByteArray), .int .i64 0]) (t := 29) ?hr ?_; (case hd => rfl); (case hg => rfl); (case hr => first | (go_simp; done) | (go_simp; rfl)); intro gb187 hg w3 hbox hb; have n0_ := Aside0.mk (below_step (by repeat (first | (with_reducible first | exact HB.out | apply below_alloc | apply pw_below_drewN | apply below_drew1) | exact HB.out)) hb); have n1_ := Aside0.mk (hbox); have n2_ := Aside0.mk ((by rw [hg]; exact (below_size (by repeat (first | (with_reducible first | exact HB.out | apply below_alloc | apply pw_below_drewN | apply below_drew1) | exact HB.out))) : w.heap.size ≤ gb187)); have n3_ := Aside0.mk ((by rw [hg]; exact (below_size (by repeat (first | (with_reducible first | exact HB.out | apply below_alloc | apply pw_below_drewN | apply below_drew1) | exact HB.out))) : w.heap.size ≤ gb187)); clear HB; have HB := n0_; have BK187 := n1_; have GW187 := n2_; have GE187 := n3_; clear n0_ n1_ n2_ n3_; clear hb hbox hg; have hcz4_0 : w3.cell? ⟨gb187, 0, none⟩ = some (.string (⟨#[]⟩ : ByteArray)) := (blk_cell BK187.out 0).trans rfl; have hcz4_1 : w3.cell? ⟨gb187, 1, none⟩ = some (.int .i64 0) := (blk_cell BK187.out 1).trans rfl; have hfz4_0 := blk_frozen BK187.out 0; have hfz4_1 := blk_frozen BK187.out 1))
    refine bodyPost_ret (results_cell_row rfl _ _ gb187 29 #[.string (⟨#[]⟩ : ByteArray), .int .i64 3] (0, 0) _ rfl (by (with_reducible repeat (first | refine blk_drewN ?_ _ | refine blk_drew ?_ | refine blk_alloc ?_ _)); refine blk_put (cs := #[.string (⟨#[]⟩ : ByteArray), .int .i64 0]) ?_ 1 _ rfl; (with_reducible repeat (first | refine blk_drewN ?_ _ | refine blk_drew ?_ | refine blk_alloc ?_ _)); refine blk_put (cs := #[.string (⟨#[]⟩ : ByteArray), .int .i64 0]) ?_ 0 _ rfl; (with_reducible repeat (first | refine blk_drewN ?_ _ | refine blk_drew ?_ | refine blk_alloc ?_ _)); exact BK187.out) Tryz.underlying29 rfl (by kernel_rfl)) rfl ?_
    exact ⟨by first | rfl | (simp [errW_none, errW_some] <;> rfl) | (simp [*, errW_none, errW_some] <;> rfl), by repeat (first | (with_reducible first | exact HB.out | apply below_alloc | apply pw_below_drewN | apply below_drew1 | refine below_set ?_ GE187.out) | exact HB.out)⟩
  · rw [if_neg c2] at H
    have c2b0 : decide (1000 < (l0.length : Int)) = false := decide_eq_false c2
    have c2b1 : decide (1000 < l0.length) = false := decide_eq_false (by omega)
    clear c2
    have H' := Aside0.mk H
    clear H
    go_enter Tryz.func90, Tryz.ntmps90
    go_wp2_with (first | ((with_reducible refine gate_dst (N := 2) rfl ?_); refine box_event ?hg (N := 2) ?hd (cs := #[.string (⟨#[]⟩ : ByteArray), .int .i64 0]) (t := 29) ?hr ?_; (case hd => rfl); (case hg => rfl); (case hr => first | (go_simp; done) | (go_simp; rfl)); intro gb187 hg w5 hbox hb; have n0_ := Aside0.mk (below_step (by repeat (first | (with_reducible first | exact HB.out | apply below_alloc | apply pw_below_drewN | apply below_drew1) | exact HB.out)) hb); have n1_ := Aside0.mk (hbox); have n2_ := Aside0.mk ((by rw [hg]; exact (below_size (by repeat (first | (with_reducible first | exact HB.out | apply below_alloc | apply pw_below_drewN | apply below_drew1) | exact HB.out))) : w.heap.size ≤ gb187)); have n3_ := Aside0.mk ((by rw [hg]; exact (below_size (by repeat (first | (with_reducible first | exact HB.out | apply below_alloc | apply pw_below_drewN | apply below_drew1) | exact HB.out))) : w.heap.size ≤ gb187)); clear HB; have HB := n0_; have BK187 := n1_; have GW187 := n2_; have GE187 := n3_; clear n0_ n1_ n2_ n3_; clear hb hbox hg))
    go_loopg [3] k (fun kq v3 w' => ∃ (x3_1 : Int) (x188000_1 : ByteArray) (x188001_1 : Int), v3 = .int .i64 x3_1 ∧ Aside0 (qanatref02_out.l0 kq l0 x3_1 = some (r1, r2)) ∧ Aside0 (kq ≤ k) ∧ Aside0 (w'.heap[gb187]? = some (.cells #[.string x188000_1, .int .i64 x188001_1] 29 (0, 0))) ∧ Aside0 (Below w.heap.size w w'))
    case atStart => exact ⟨(0), ((⟨#[]⟩ : ByteArray)), (0), (by first | rfl | (simp; done) | (simp [*]; done)), H', ⟨Nat.le_refl _⟩, ⟨by (with_reducible repeat (first | refine blk_drewN ?_ _ | refine blk_drew ?_ | refine blk_alloc ?_ _)); exact BK187.out⟩, ⟨by repeat (first | (with_reducible first | exact HB.out | apply below_alloc | apply pw_below_drewN | apply below_drew1 | refine below_set ?_ GE187.out) | exact HB.out)⟩⟩
    case round =>
      clear H'
      try clear c2
      try clear c2b0
      try clear c2b1
      try clear p2
      try clear hcz4_0
      try clear hcz4_1
      try clear hfz4_0
      try clear hfz4_1
      obtain ⟨x3_1, x188000_1, x188001_1, rfl, HA, HK1, BK187, HB⟩ := hrel
      cases gk with
      | zero => exact absurd HA.out (by simp [qanatref02_out.l0])
      | succ k1 =>
        have H := HA.out
        clear HA
        simp only [qanatref02_out.l0] at H
        by_cases c6 : x3_1 < (l0.length : Int)
        · rw [if_pos c6] at H
          have c6b0 : decide (x3_1 < (l0.length : Int)) = true := decide_eq_true c6
          clear c6
          by_cases c7 : 0 ≤ x3_1
          · rw [if_pos c7] at H
            have c7b0 : decide (0 ≤ x3_1) = true := decide_eq_true c7
            clear c7
            replace H := Option.bind_eq_some_iff.mp H
            obtain ⟨t189, A80, H⟩ := H
            replace H : (if t189 = true then (qanatref02_out.l0 k1 l0 (wrap64 (x3_1 + 1))) else (some ((⟨#[]⟩ : ByteArray), 8))) = some (r1, r2) := H
            have A8 := Aside0.mk A80
            clear A80
            by_cases c9 : t189 = true
            · subst c9
              have H1 : (qanatref02_out.l0 k1 l0 (wrap64 (x3_1 + 1))) = some (r1, r2) := by rw [if_pos rfl] at H; exact H
              clear H
              have H := H1
              clear H1
              have H' := Aside0.mk H
              clear H
              have p188 : 0 ≤ (x3_1 : Int) := of_decide_eq_true (by first | (with_reducible assumption) | assumption)
              have q188 : x3_1 < (l0.length : Int) := of_decide_eq_true (by first | (with_reducible assumption) | assumption)
              obtain ⟨ad188, e188, hx188_0⟩ := Kd.at_int HR0.out x3_1 p188 q188
              cases e188
              replace hx188_0 := (HB.out.cell (World.block_lt_of_cell? w _ hx188_0)).trans hx188_0
              replace p188 := eq_true p188
              replace q188 := eq_true q188
              go_wp2_with (first | ((with_reducible refine gate_callee (f := 98) rfl ?_); refine goesL_ (some 18) rfl rfl Tryz.func98 (by kernel_rfl) rfl #[.int .u8 (rd l0 x3_1)] rfl (by (try simp only [List.map_toArray, List.map_cons, List.map_nil]); first | done | rfl | (simp only [List.length_drop, List.length_take]; rfl)) ?_; (with_reducible refine (qanatref02_Pad.calls (rd l0 x3_1) true _ A8.out).mono ?_); rintro e w' ⟨rfl, ⟨nd, rfl⟩⟩; refine ⟨_, rfl, ?_⟩))
              go_roundg k1
              case measure => have := HK1.out; omega
              case rel => exact ⟨(wrap64 (x3_1 + 1)), (x188000_1), (x188001_1), (by first | rfl | (simp; done) | (simp [*]; done)), H', ⟨by have := HK1.out; omega⟩, ⟨by (with_reducible repeat (first | refine blk_drewN ?_ _ | refine blk_drew ?_ | refine blk_alloc ?_ _)); exact BK187.out⟩, ⟨by repeat (first | (with_reducible first | exact HB.out | apply below_alloc | apply pw_below_drewN | apply below_drew1 | refine below_set ?_ GE187.out) | exact HB.out)⟩⟩
            · replace c9 := Bool.eq_false_iff.mpr c9
              subst c9
              have H1 : (some ((⟨#[]⟩ : ByteArray), 8)) = some (r1, r2) := by rw [if_neg (show ¬ (false = true) by decide)] at H; exact H
              clear H
              have H := H1
              clear H1
              simp only [Option.some.injEq, Prod.mk.injEq] at H
              obtain ⟨rfl, rfl⟩ := H
              have p188 : 0 ≤ (x3_1 : Int) := of_decide_eq_true (by first | (with_reducible assumption) | assumption)
              have q188 : x3_1 < (l0.length : Int) := of_decide_eq_true (by first | (with_reducible assumption) | assumption)
              obtain ⟨ad188, e188, hx188_0⟩ := Kd.at_int HR0.out x3_1 p188 q188
              cases e188
              replace hx188_0 := (HB.out.cell (World.block_lt_of_cell? w _ hx188_0)).trans hx188_0
              replace p188 := eq_true p188
              replace q188 := eq_true q188
              go_wp2_with (first | ((with_reducible refine gate_callee (f := 98) rfl ?_); refine goesL_ (some 18) rfl rfl Tryz.func98 (by kernel_rfl) rfl #[.int .u8 (rd l0 x3_1)] rfl (by (try simp only [List.map_toArray, List.map_cons, List.map_nil]); first | done | rfl | (simp only [List.length_drop, List.length_take]; rfl)) ?_; (with_reducible refine (qanatref02_Pad.calls (rd l0 x3_1) false _ A8.out).mono ?_); rintro e w' ⟨rfl, ⟨nd, rfl⟩⟩; refine ⟨_, rfl, ?_⟩; (try (rw [drewN_self wr]; generalize hq_ : World.drewN wr _ = wr; have n0_ : Aside0 (wr.heap[gb187]? = some (.cells #[.string x188000_1, .int .i64 x188001_1] 29 (0, 0))) := ⟨by rw [← hq_]; exact (by (with_reducible repeat (first | refine blk_drewN ?_ _ | refine blk_drew ?_ | refine blk_alloc ?_ _)); exact BK187.out)⟩; have n1_ : Aside0 (Below w.heap.size w wr) := ⟨by rw [← hq_]; exact (by repeat (first | (with_reducible first | exact HB.out | apply below_alloc | apply pw_below_drewN | apply below_drew1 | refine below_set ?_ GE187.out) | exact HB.out))⟩; clear BK187 HB hq_; have BK187 := n0_; have HB := n1_; clear n0_ n1_)); have hcz10_0 : wr.cell? ⟨gb187, 0, none⟩ = some (.string x188000_1) := (blk_cell BK187.out 0).trans rfl; have hcz10_1 : wr.cell? ⟨gb187, 1, none⟩ = some (.int .i64 x188001_1) := (blk_cell BK187.out 1).trans rfl; have hfz10_0 := blk_frozen BK187.out 0; have hfz10_1 := blk_frozen BK187.out 1))
              refine bodyPost_ret (results_cell_row rfl _ _ gb187 29 #[.string (⟨#[]⟩ : ByteArray), .int .i64 8] (0, 0) _ rfl (by (with_reducible repeat (first | refine blk_drewN ?_ _ | refine blk_drew ?_ | refine blk_alloc ?_ _)); refine blk_put (cs := #[.string (⟨#[]⟩ : ByteArray), .int .i64 x188001_1]) ?_ 1 _ rfl; (with_reducible repeat (first | refine blk_drewN ?_ _ | refine blk_drew ?_ | refine blk_alloc ?_ _)); refine blk_put (cs := #[.string x188000_1, .int .i64 x188001_1]) ?_ 0 _ rfl; (with_reducible repeat (first | refine blk_drewN ?_ _ | refine blk_drew ?_ | refine blk_alloc ?_ _)); exact BK187.out) Tryz.underlying29 rfl (by kernel_rfl)) rfl ?_
              exact ⟨by first | rfl | (simp [errW_none, errW_some] <;> rfl) | (simp [*, errW_none, errW_some] <;> rfl), by repeat (first | (with_reducible first | exact HB.out | apply below_alloc | apply pw_below_drewN | apply below_drew1 | refine below_set ?_ GE187.out) | exact HB.out)⟩
          · rw [if_neg c7] at H
            exact absurd H (by simp)
        · rw [if_neg c6] at H
          have c6b0 : decide (x3_1 < (l0.length : Int)) = false := decide_eq_false c6
          clear c6
          simp only [Option.some.injEq, Prod.mk.injEq] at H
          obtain ⟨rfl, rfl⟩ := H
          have hcv11 := Kd.C_string (P := Tryz.prog) (A := A0) (c := c0) Tryz.underlying83 Tryz.underlying5 Tryz.underlying9 (Kd.C_below HR0.out HB.out)
          have hcz12_0 : wr.cell? ⟨gb187, 0, none⟩ = some (.string x188000_1) := (blk_cell BK187.out 0).trans rfl
          have hcz12_1 : wr.cell? ⟨gb187, 1, none⟩ = some (.int .i64 x188001_1) := (blk_cell BK187.out 1).trans rfl
          have hfz12_0 := blk_frozen BK187.out 0
          have hfz12_1 := blk_frozen BK187.out 1
          go_wp2
          refine bodyPost_ret (results_cell_row rfl _ _ gb187 29 #[.string (strOfNums l0), .int .i64 0] (0, 0) _ rfl (by (with_reducible repeat (first | refine blk_drewN ?_ _ | refine blk_drew ?_ | refine blk_alloc ?_ _)); refine blk_put (cs := #[.string (strOfNums l0), .int .i64 x188001_1]) ?_ 1 _ rfl; (with_reducible repeat (first | refine blk_drewN ?_ _ | refine blk_drew ?_ | refine blk_alloc ?_ _)); refine blk_put (cs := #[.string x188000_1, .int .i64 x188001_1]) ?_ 0 _ rfl; (with_reducible repeat (first | refine blk_drewN ?_ _ | refine blk_drew ?_ | refine blk_alloc ?_ _)); exact BK187.out) Tryz.underlying29 rfl (by kernel_rfl)) rfl ?_
          exact ⟨by first | rfl | (simp [errW_none, errW_some] <;> rfl) | (simp [*, errW_none, errW_some] <;> rfl), by repeat (first | (with_reducible first | exact HB.out | apply below_alloc | apply pw_below_drewN | apply below_drew1 | refine below_set ?_ GE187.out) | exact HB.out)⟩

end Go.Proofs.YtlekfhnlhdmekaaGreatDoor.TP
namespace Go.Proofs.YtlekfhnlhdmekaaGreatDoor.T
set_option linter.unusedSimpArgs false
set_option linter.unusedVariables false
open Go.RowKit Go.Proofs.YtlekfhnlhdmekaaGreatDoorW.PrintWords Go.Proofs.YtlekfhnlhdmekaaGreatDoorW.PrintLast Go.Proofs.YtlekfhnlhdmekaaGreatDoorW.PrintMore

theorem pad_good (b : Int) : TP.qanatref02_Pad.f b = some (goodI b) := by
  unfold TP.qanatref02_Pad.f goodI
  by_cases h : b ≥ 32
  · rw [if_pos h]; simp [show (32 : Int) ≤ b from h]
  · rw [if_neg h]; simp [show ¬ (32 : Int) ≤ b from h]
theorem wrap64_id (x : Int) (h0 : -9223372036854775808 ≤ x) (h1 : x ≤ 9223372036854775807) : wrap64 x = x := by unfold wrap64; omega
theorem rd_nat (xs : List Int) (i : Nat) (hi : i < xs.length) : rd xs (i : Int) = xs[i] := by
  simp [rd, List.getD_eq_getElem?_getD, List.getElem?_eq_getElem hi]
theorem bt_nat (s : ByteArray) (i : Nat) (hi : i < (bytesOf s).length) : bt s (i : Int) = (bytesOf s)[i] := by
  rw [← rd_bytesOf, rd_nat]
theorem refValid_l0 (s : ByteArray) (hs : s.size ≤ 1000) : ∀ (k i : Nat), s.size - i < k → i ≤ s.size → TP.qanatref02_Valid.l0 k s i = some (((bytesOf s).drop i).all goodI)
  | 0, i, h, _ => absurd h (by omega)
  | k + 1, i, h, hi => by
    rw [TP.qanatref02_Valid.l0]
    by_cases hlt : i < s.size
    · have hl : i < (bytesOf s).length := by rw [bytesOf_length]; exact hlt
      rw [if_pos (by omega), if_pos (by omega), pad_good, bt_nat s i hl, List.drop_eq_getElem_cons hl]
      simp only [Option.bind_some, List.all_cons]
      by_cases hg : goodI (bytesOf s)[i] = true
      · rw [if_pos hg, hg, wrap64_id _ (by omega) (by omega)]
        have := refValid_l0 s hs k (i + 1) (by omega) (by omega)
        simpa using this
      · rw [if_neg hg]; simp at hg; simp [hg]
    · have hl : (bytesOf s).length ≤ i := by rw [bytesOf_length]; omega
      rw [if_neg (by omega), List.drop_eq_nil_of_le hl]
      rfl
theorem refOut_l0 (l : List Int) (hs : l.length ≤ 1000) : ∀ (k i : Nat), l.length - i < k → i ≤ l.length → TP.qanatref02_out.l0 k l i = some (if (l.drop i).all goodI = true then (strOfNums l, 0) else (⟨#[]⟩, 8))
  | 0, i, h, _ => absurd h (by omega)
  | k + 1, i, h, hi => by
    rw [TP.qanatref02_out.l0]
    by_cases hlt : i < l.length
    · rw [if_pos (by omega), if_pos (by omega), pad_good, rd_nat l i hlt, List.drop_eq_getElem_cons hlt]
      simp only [Option.bind_some]
      by_cases hg : goodI l[i] = true
      · have := refOut_l0 l hs k (i + 1) (by omega) (by omega)
        rw [if_pos hg, wrap64_id _ (by omega) (by omega), show ((i : Int) + 1) = ((i + 1 : Nat) : Int) by omega, this]
        simp only [List.all_cons, hg, Bool.true_and]
      · rw [if_neg hg, if_neg (fun hh => hg (by rw [List.all_cons, Bool.and_eq_true] at hh; exact hh.1))]
    · rw [if_neg (by omega), List.drop_eq_nil_of_le (by omega)]
      rfl
def qanatref02_Pad.f (a0 : Int) : Option Bool := some (goodI a0)
theorem qanatref02_Pad.calls (a0 : Int) (r : Bool) (w : World) (h : qanatref02_Pad.f a0 = some r) :
    Calls Tryz.prog 98 #[.int .u8 a0] w fun e w' => e = .returned (.bool r) ∧ Drawn0 w w' :=
  TP.qanatref02_Pad.calls a0 r w (by rw [pad_good]; exact h)
def qanatref02_Valid.f (a0 : ByteArray) : Option Bool := some (vld a0)
theorem qanatref02_Valid.calls (a0 : ByteArray) (r : Bool) (w : World) (h : qanatref02_Valid.f a0 = some r) :
    Calls Tryz.prog 89 #[.string a0] w fun e w' => e = .returned (.bool r) ∧ Drawn0 w w' := by
  obtain rfl := Option.some.inj h
  refine TP.qanatref02_Valid.calls 1002 a0 _ w ?_
  unfold TP.qanatref02_Valid.f vld
  by_cases hs : a0.size ≤ 1000
  · rw [if_neg (by omega)]
    have := refValid_l0 a0 hs 1002 0 (by omega) (by omega)
    simp only [List.drop_zero] at this
    rw [show ((0 : Nat) : Int) = 0 from rfl] at this
    rw [this]; simp [hs]
  · rw [if_pos (by omega)]; simp [hs]
def qanatref02_out.f (l0 : List Int) : Option (ByteArray × Int) := some (if l0.length > 1000 then (⟨#[]⟩, 3) else if l0.all goodI = true then (strOfNums l0, 0) else (⟨#[]⟩, 8))
theorem qanatref02_out.calls (A0 : Option Addr) (c0 : Nat) (l0 : List Int) (r1 : ByteArray) (r2 : Int) (w : World) (hr0 : Kd.C (Kd.int .u8) w A0 l0.length l0) (hc0 : l0.length ≤ c0) (h : qanatref02_out.f l0 = some (r1, r2)) :
    Calls Tryz.prog 90 #[.slice A0 l0.length c0] w fun e w' => e = .returned (.agg #[.string r1, .int .i64 r2]) ∧ Below w.heap.size w w' := by
  refine TP.qanatref02_out.calls 1002 A0 c0 l0 r1 r2 w hr0 hc0 ?_
  rw [← h]
  unfold TP.qanatref02_out.f qanatref02_out.f
  by_cases hs : l0.length ≤ 1000
  · rw [if_neg (by omega), if_neg (by omega)]
    have := refOut_l0 l0 hs 1002 0 (by omega) (by omega)
    simp only [List.drop_zero] at this
    exact this
  · rw [if_pos (by omega), if_pos (by omega)]
end Go.Proofs.YtlekfhnlhdmekaaGreatDoor.T

-- Written by a program of this session (mp.py over the kit's print.py), out of the translation.
namespace Go.Proofs.YtlekfhnlhdmekaaGreatDoor.T
set_option linter.unusedSimpArgs false
open Go.RowKit Go.Proofs.YtlekfhnlhdmekaaGreatDoorW.PrintWords Go.Proofs.YtlekfhnlhdmekaaGreatDoorW.PrintLast Go.Proofs.YtlekfhnlhdmekaaGreatDoorW.PrintMore
attribute [local go_sem] max2_int min2_int max_two min_two max_three min_three max_four min_four   -- for this text's walks alone
set_option linter.unusedVariables false
set_option linter.unusedSimpArgs false

/-! ### qanatref02_WordPos: function 73 -/
mutual
def qanatref02_WordPos.j0 : Nat → ByteArray → ByteArray → Int → Bool → Option (Int × Int)
  | 0, _, _, _, _ => none
  | k + 1, x0, x1, x2, x24 => if x24 = true then (some (0, 1)) else ((qanatref02_Spans.f k x0).bind fun t797 => ((qanatref02_Spans.f k x1).bind fun t800 => (qanatref02_WordPos.l0 k x0 x1 t797 t800 (wrap64 (x2 - 1)))))
def qanatref02_WordPos.l0 : Nat → ByteArray → ByteArray → List (S113) → List (S113) → Int → Option (Int × Int)
  | 0, _, _, _, _, _ => none
  | k + 1, x0, x1, x7, x8, x9 => if x9 < (x8.length : Int) then (if (x7.length : Int) > 0 then (qanatref02_WordPos.j2 k x0 x1 x7 x8 x9 (decide ((x7.length : Int) ≤ (wrap64 ((x8.length : Int) - x9))))) else (qanatref02_WordPos.j2 k x0 x1 x7 x8 x9 false)) else (qanatref02_WordPos.j2 k x0 x1 x7 x8 x9 false)
def qanatref02_WordPos.j2 : Nat → ByteArray → ByteArray → List (S113) → List (S113) → Int → Bool → Option (Int × Int)
  | 0, _, _, _, _, _, _ => none
  | k + 1, x0, x1, x7, x8, x9, x49 => if x49 = true then (qanatref02_WordPos.l1 k x0 x1 x7 x8 x9 true 0) else (some (0, 0))
def qanatref02_WordPos.l1 : Nat → ByteArray → ByteArray → List (S113) → List (S113) → Int → Bool → Int → Option (Int × Int)
  | 0, _, _, _, _, _, _, _ => none
  | k + 1, x0, x1, x7, x8, x9, x10, x11 => if x11 < (x7.length : Int) then (if x10 = true then (if 0 ≤ x11 then (if 0 ≤ ((rd_T113 x7 x11).f0) then (if ((rd_T113 x7 x11).f0) ≤ ((rd_T113 x7 x11).f1) then (if ((rd_T113 x7 x11).f1) ≤ (x0.size : Int) then (if 0 ≤ (wrap64 (x9 + x11)) then (if (wrap64 (x9 + x11)) < (x8.length : Int) then (if 0 ≤ ((rd_T113 x8 (wrap64 (x9 + x11))).f0) then (if ((rd_T113 x8 (wrap64 (x9 + x11))).f0) ≤ ((rd_T113 x8 (wrap64 (x9 + x11))).f1) then (if ((rd_T113 x8 (wrap64 (x9 + x11))).f1) ≤ (x1.size : Int) then (qanatref02_WordPos.l1 k x0 x1 x7 x8 x9 ((x0.extract (((rd_T113 x7 x11).f0) : Int).toNat (((rd_T113 x7 x11).f1) : Int).toNat).toList == (x1.extract (((rd_T113 x8 (wrap64 (x9 + x11))).f0) : Int).toNat (((rd_T113 x8 (wrap64 (x9 + x11))).f1) : Int).toNat).toList) (wrap64 (x11 + 1))) else (none)) else (none)) else (none)) else (none)) else (none)) else (none)) else (none)) else (none)) else (none)) else (qanatref02_WordPos.l1 k x0 x1 x7 x8 x9 false (wrap64 (x11 + 1)))) else (if x10 = true then (some (wrap64 (x9 + 1), 0)) else (qanatref02_WordPos.l0 k x0 x1 x7 x8 (wrap64 (x9 + 1))))
end
def qanatref02_WordPos.f (k : Nat) (a0 : ByteArray) (a1 : ByteArray) (a2 : Int) : Option (Int × Int) := (qanatref02_Valid.f a0).bind fun t794 => (if t794 = true then ((qanatref02_Valid.f a1).bind fun t795 => (if t795 = true then ((qanatref02_whole.f a2 1 false).bind fun t796 => (qanatref02_WordPos.j0 k a0 a1 a2 (!t796))) else (qanatref02_WordPos.j0 k a0 a1 a2 true))) else (qanatref02_WordPos.j0 k a0 a1 a2 true))
theorem qanatref02_WordPos.mono_l : ∀ k, (∀ y0 y1 y2 y3, LeO (qanatref02_WordPos.j0 k y0 y1 y2 y3) (qanatref02_WordPos.j0 (k + 1) y0 y1 y2 y3)) ∧ (∀ y0 y1 y2 y3 y4, LeO (qanatref02_WordPos.l0 k y0 y1 y2 y3 y4) (qanatref02_WordPos.l0 (k + 1) y0 y1 y2 y3 y4)) ∧ (∀ y0 y1 y2 y3 y4 y5, LeO (qanatref02_WordPos.j2 k y0 y1 y2 y3 y4 y5) (qanatref02_WordPos.j2 (k + 1) y0 y1 y2 y3 y4 y5)) ∧ (∀ y0 y1 y2 y3 y4 y5 y6, LeO (qanatref02_WordPos.l1 k y0 y1 y2 y3 y4 y5 y6) (qanatref02_WordPos.l1 (k + 1) y0 y1 y2 y3 y4 y5 y6))
  | 0 => ⟨fun _ _ _ _ r h => by simp [qanatref02_WordPos.j0] at h, fun _ _ _ _ _ r h => by simp [qanatref02_WordPos.l0] at h, fun _ _ _ _ _ _ r h => by simp [qanatref02_WordPos.j2] at h, fun _ _ _ _ _ _ _ r h => by simp [qanatref02_WordPos.l1] at h⟩
  | k + 1 => by
    obtain ⟨ih0, ih1, ih2, ih3⟩ := qanatref02_WordPos.mono_l k
    refine ⟨?_, ?_, ?_, ?_⟩
    · intro y0 y1 y2 y3
      unfold qanatref02_WordPos.j0
      repeat' first
      | (with_reducible exact ih0 _ _ _ _)
      | (with_reducible exact ih1 _ _ _ _ _)
      | (with_reducible exact ih2 _ _ _ _ _ _)
      | (with_reducible exact ih3 _ _ _ _ _ _ _)
      | (with_reducible exact qanatref02_Spans.mono _ _)
      | (with_reducible exact LeO.refl _)
      | (with_reducible exact LeO.none _)
      | (with_reducible refine LeO.ite ?_ ?_)
      | (with_reducible refine LeO.bind ?_ (fun _ => ?_))
      | exact ih0 _ _ _ _
      | exact ih1 _ _ _ _ _
      | exact ih2 _ _ _ _ _ _
      | exact ih3 _ _ _ _ _ _ _
      | exact qanatref02_Spans.mono _ _
      | exact LeO.none _
      | refine LeO.ite ?_ ?_
      | refine LeO.bind ?_ (fun _ => ?_)
    · intro y0 y1 y2 y3 y4
      unfold qanatref02_WordPos.l0
      repeat' first
      | (with_reducible exact ih0 _ _ _ _)
      | (with_reducible exact ih1 _ _ _ _ _)
      | (with_reducible exact ih2 _ _ _ _ _ _)
      | (with_reducible exact ih3 _ _ _ _ _ _ _)
      | (with_reducible exact qanatref02_Spans.mono _ _)
      | (with_reducible exact LeO.refl _)
      | (with_reducible exact LeO.none _)
      | (with_reducible refine LeO.ite ?_ ?_)
      | (with_reducible refine LeO.bind ?_ (fun _ => ?_))
      | exact ih0 _ _ _ _
      | exact ih1 _ _ _ _ _
      | exact ih2 _ _ _ _ _ _
      | exact ih3 _ _ _ _ _ _ _
      | exact qanatref02_Spans.mono _ _
      | exact LeO.none _
      | refine LeO.ite ?_ ?_
      | refine LeO.bind ?_ (fun _ => ?_)
    · intro y0 y1 y2 y3 y4 y5
      unfold qanatref02_WordPos.j2
      repeat' first
      | (with_reducible exact ih0 _ _ _ _)
      | (with_reducible exact ih1 _ _ _ _ _)
      | (with_reducible exact ih2 _ _ _ _ _ _)
      | (with_reducible exact ih3 _ _ _ _ _ _ _)
      | (with_reducible exact qanatref02_Spans.mono _ _)
      | (with_reducible exact LeO.refl _)
      | (with_reducible exact LeO.none _)
      | (with_reducible refine LeO.ite ?_ ?_)
      | (with_reducible refine LeO.bind ?_ (fun _ => ?_))
      | exact ih0 _ _ _ _
      | exact ih1 _ _ _ _ _
      | exact ih2 _ _ _ _ _ _
      | exact ih3 _ _ _ _ _ _ _
      | exact qanatref02_Spans.mono _ _
      | exact LeO.none _
      | refine LeO.ite ?_ ?_
      | refine LeO.bind ?_ (fun _ => ?_)
    · intro y0 y1 y2 y3 y4 y5 y6
      unfold qanatref02_WordPos.l1
      repeat' first
      | (with_reducible exact ih0 _ _ _ _)
      | (with_reducible exact ih1 _ _ _ _ _)
      | (with_reducible exact ih2 _ _ _ _ _ _)
      | (with_reducible exact ih3 _ _ _ _ _ _ _)
      | (with_reducible exact qanatref02_Spans.mono _ _)
      | (with_reducible exact LeO.refl _)
      | (with_reducible exact LeO.none _)
      | (with_reducible refine LeO.ite ?_ ?_)
      | (with_reducible refine LeO.bind ?_ (fun _ => ?_))
      | exact ih0 _ _ _ _
      | exact ih1 _ _ _ _ _
      | exact ih2 _ _ _ _ _ _
      | exact ih3 _ _ _ _ _ _ _
      | exact qanatref02_Spans.mono _ _
      | exact LeO.none _
      | refine LeO.ite ?_ ?_
      | refine LeO.bind ?_ (fun _ => ?_)
theorem qanatref02_WordPos.mono : ∀ a0 a1 a2 k, LeO (qanatref02_WordPos.f k a0 a1 a2) (qanatref02_WordPos.f (k + 1) a0 a1 a2) := by
  intro a0 a1 a2 k
  obtain ⟨ih0, ih1, ih2, ih3⟩ := qanatref02_WordPos.mono_l k
  unfold qanatref02_WordPos.f
  repeat' first
      | (with_reducible exact ih0 _ _ _ _)
      | (with_reducible exact ih1 _ _ _ _ _)
      | (with_reducible exact ih2 _ _ _ _ _ _)
      | (with_reducible exact ih3 _ _ _ _ _ _ _)
      | (with_reducible exact qanatref02_Spans.mono _ _)
      | (with_reducible exact LeO.refl _)
      | (with_reducible exact LeO.none _)
      | (with_reducible refine LeO.ite ?_ ?_)
      | (with_reducible refine LeO.bind ?_ (fun _ => ?_))
      | exact ih0 _ _ _ _
      | exact ih1 _ _ _ _ _
      | exact ih2 _ _ _ _ _ _
      | exact ih3 _ _ _ _ _ _ _
      | exact qanatref02_Spans.mono _ _
      | exact LeO.none _
      | refine LeO.ite ?_ ?_
      | refine LeO.bind ?_ (fun _ => ?_)
set_option maxHeartbeats 8000000 in
set_option maxRecDepth 100000 in
theorem qanatref02_WordPos.calls (k : Nat) (a0 : ByteArray) (a1 : ByteArray) (a2 : Int) (r1 : Int) (r2 : Int) (w : World) (h : qanatref02_WordPos.f k a0 a1 a2 = some (r1, r2)) :
    Calls Tryz.prog 73 #[.string a0, .string a1, .int .i64 a2] w fun e w' => e = .returned (.agg #[.int .i64 r1, .int .i64 r2]) ∧ Below w.heap.size w w' := by
  have hu49 := Tryz.underlying49
  have HB := Aside0.mk (Below.refl w.heap.size w)
  have H : ((qanatref02_Valid.f a0).bind fun t794 => (if t794 = true then ((qanatref02_Valid.f a1).bind fun t795 => (if t795 = true then ((qanatref02_whole.f a2 1 false).bind fun t796 => (qanatref02_WordPos.j0 k a0 a1 a2 (!t796))) else (qanatref02_WordPos.j0 k a0 a1 a2 true))) else (qanatref02_WordPos.j0 k a0 a1 a2 true))) = some (r1, r2) := h
  clear h
  have HC4 := Aside0.mk H
  clear H
  go_enter Tryz.func73, Tryz.ntmps73
  go_upto_region 1 with (first | ((with_reducible refine gate_dst (N := 6) rfl ?_); (try (refine gate_guard (by rfl) ?_; dsimp only)); refine box_event ?hg (N := 6) ?hd (cs := #[.int .i64 0, .int .i64 0]) (t := 49) ?hr ?_; (case hd => rfl); (case hg => rfl); (case hr => first | (go_simp; done) | (go_simp; rfl)); intro gb793 hg w5 hbox hb; have n0_ := Aside0.mk (below_step (by repeat (first | (with_reducible first | exact HB.out | apply below_alloc | apply pw_below_drewN | apply below_drew1) | exact HB.out)) hb); have n1_ := Aside0.mk (hbox); have n2_ := Aside0.mk ((by rw [hg]; exact (below_size (by repeat (first | (with_reducible first | exact HB.out | apply below_alloc | apply pw_below_drewN | apply below_drew1) | exact HB.out))) : w.heap.size ≤ gb793)); have n3_ := Aside0.mk ((by rw [hg]; exact (below_size (by repeat (first | (with_reducible first | exact HB.out | apply below_alloc | apply pw_below_drewN | apply below_drew1) | exact HB.out))) : w.heap.size ≤ gb793)); clear HB; have HB := n0_; have BK793 := n1_; have GW793 := n2_; have GE793 := n3_; clear n0_ n1_ n2_ n3_; clear hb hbox hg))
  repeat (go_quiet (first | ((with_reducible refine gate_dst (N := 6) rfl ?_); (try (refine gate_guard (by rfl) ?_; dsimp only)); refine box_event ?hg (N := 6) ?hd (cs := #[.int .i64 0, .int .i64 0]) (t := 49) ?hr ?_; (case hd => rfl); (case hg => rfl); (case hr => first | (go_simp; done) | (go_simp; rfl)); intro gb793 hg w5 hbox hb; have n0_ := Aside0.mk (below_step (by repeat (first | (with_reducible first | exact HB.out | apply below_alloc | apply pw_below_drewN | apply below_drew1) | exact HB.out)) hb); have n1_ := Aside0.mk (hbox); have n2_ := Aside0.mk ((by rw [hg]; exact (below_size (by repeat (first | (with_reducible first | exact HB.out | apply below_alloc | apply pw_below_drewN | apply below_drew1) | exact HB.out))) : w.heap.size ≤ gb793)); have n3_ := Aside0.mk ((by rw [hg]; exact (below_size (by repeat (first | (with_reducible first | exact HB.out | apply below_alloc | apply pw_below_drewN | apply below_drew1) | exact HB.out))) : w.heap.size ≤ gb793)); clear HB; have HB := n0_; have BK793 := n1_; have GW793 := n2_; have GE793 := n3_; clear n0_ n1_ n2_ n3_; clear hb hbox hg)); go_upto_region 1 with (first | ((with_reducible refine gate_dst (N := 6) rfl ?_); (try (refine gate_guard (by rfl) ?_; dsimp only)); refine box_event ?hg (N := 6) ?hd (cs := #[.int .i64 0, .int .i64 0]) (t := 49) ?hr ?_; (case hd => rfl); (case hg => rfl); (case hr => first | (go_simp; done) | (go_simp; rfl)); intro gb793 hg w5 hbox hb; have n0_ := Aside0.mk (below_step (by repeat (first | (with_reducible first | exact HB.out | apply below_alloc | apply pw_below_drewN | apply below_drew1) | exact HB.out)) hb); have n1_ := Aside0.mk (hbox); have n2_ := Aside0.mk ((by rw [hg]; exact (below_size (by repeat (first | (with_reducible first | exact HB.out | apply below_alloc | apply pw_below_drewN | apply below_drew1) | exact HB.out))) : w.heap.size ≤ gb793)); have n3_ := Aside0.mk ((by rw [hg]; exact (below_size (by repeat (first | (with_reducible first | exact HB.out | apply below_alloc | apply pw_below_drewN | apply below_drew1) | exact HB.out))) : w.heap.size ≤ gb793)); clear HB; have HB := n0_; have BK793 := n1_; have GW793 := n2_; have GE793 := n3_; clear n0_ n1_ n2_ n3_; clear hb hbox hg)))
  (try simp only [Act.put, List.setIfInBounds_toArray, List.set_cons_zero, List.set_cons_succ])
  go_cut [24] (fun v24 wc => ∃ (kq : Nat) (x24_3 : Bool), v24 = .bool x24_3 ∧ Aside0 (qanatref02_WordPos.j0 kq a0 a1 a2 x24_3 = some (r1, r2)) ∧ Aside0 (kq ≤ k) ∧ Aside0 (wc.heap[gb793]? = some (.cells #[.int .i64 0, .int .i64 0] 49 (0, 0))) ∧ Aside0 (Below w.heap.size w wc))
  case first =>
    have H := HC4.out
    clear HC4
    replace H := Option.bind_eq_some_iff.mp H
    obtain ⟨t794, A60, H⟩ := H
    replace H : (if t794 = true then ((qanatref02_Valid.f a1).bind fun t795 => (if t795 = true then ((qanatref02_whole.f a2 1 false).bind fun t796 => (qanatref02_WordPos.j0 k a0 a1 a2 (!t796))) else (qanatref02_WordPos.j0 k a0 a1 a2 true))) else (qanatref02_WordPos.j0 k a0 a1 a2 true)) = some (r1, r2) := H
    have A6 := Aside0.mk A60
    clear A60
    by_cases c7 : t794 = true
    · subst c7
      have H1 : ((qanatref02_Valid.f a1).bind fun t795 => (if t795 = true then ((qanatref02_whole.f a2 1 false).bind fun t796 => (qanatref02_WordPos.j0 k a0 a1 a2 (!t796))) else (qanatref02_WordPos.j0 k a0 a1 a2 true))) = some (r1, r2) := by rw [if_pos rfl] at H; exact H
      clear H
      have H := H1
      clear H1
      replace H := Option.bind_eq_some_iff.mp H
      obtain ⟨t795, A80, H⟩ := H
      replace H : (if t795 = true then ((qanatref02_whole.f a2 1 false).bind fun t796 => (qanatref02_WordPos.j0 k a0 a1 a2 (!t796))) else (qanatref02_WordPos.j0 k a0 a1 a2 true)) = some (r1, r2) := H
      have A8 := Aside0.mk A80
      clear A80
      by_cases c9 : t795 = true
      · subst c9
        have H1 : ((qanatref02_whole.f a2 1 false).bind fun t796 => (qanatref02_WordPos.j0 k a0 a1 a2 (!t796))) = some (r1, r2) := by rw [if_pos rfl] at H; exact H
        clear H
        have H := H1
        clear H1
        replace H := Option.bind_eq_some_iff.mp H
        obtain ⟨t796, A100, H⟩ := H
        replace H : (qanatref02_WordPos.j0 k a0 a1 a2 (!t796)) = some (r1, r2) := H
        have A10 := Aside0.mk A100
        clear A100
        have H' := Aside0.mk H
        clear H
        go_wp2_with (first | (go_at_call 89; (with_reducible refine (qanatref02_Valid.calls a0 true _ A6.out).mono ?_); rintro e w' ⟨rfl, ⟨nd, rfl⟩⟩; (try first | exact ⟨rfl, _, World.drewN_drewN _ _ _⟩ | exact ⟨rfl, _, Eq.trans (World.drewN_drewN _ _ _) (congrArg (World.drewN _) (Nat.add_assoc _ _ _))⟩)) | (go_at_call 89; (with_reducible refine (qanatref02_Valid.calls a1 true _ A8.out).mono ?_); rintro e w' ⟨rfl, ⟨nd, rfl⟩⟩; (try first | exact ⟨rfl, _, World.drewN_drewN _ _ _⟩ | exact ⟨rfl, _, Eq.trans (World.drewN_drewN _ _ _) (congrArg (World.drewN _) (Nat.add_assoc _ _ _))⟩)) | (go_at_call 102; (with_reducible refine (qanatref02_whole.calls a2 1 false t796 _ A10.out).mono ?_); rintro e w' ⟨rfl, ⟨nd, rfl⟩⟩; (try first | exact ⟨rfl, _, World.drewN_drewN _ _ _⟩ | exact ⟨rfl, _, Eq.trans (World.drewN_drewN _ _ _) (congrArg (World.drewN _) (Nat.add_assoc _ _ _))⟩)))
        repeat (go_quiet (first | (go_at_call 89; (with_reducible refine (qanatref02_Valid.calls a0 true _ A6.out).mono ?_); rintro e w' ⟨rfl, ⟨nd, rfl⟩⟩; (try first | exact ⟨rfl, _, World.drewN_drewN _ _ _⟩ | exact ⟨rfl, _, Eq.trans (World.drewN_drewN _ _ _) (congrArg (World.drewN _) (Nat.add_assoc _ _ _))⟩)) | (go_at_call 89; (with_reducible refine (qanatref02_Valid.calls a1 true _ A8.out).mono ?_); rintro e w' ⟨rfl, ⟨nd, rfl⟩⟩; (try first | exact ⟨rfl, _, World.drewN_drewN _ _ _⟩ | exact ⟨rfl, _, Eq.trans (World.drewN_drewN _ _ _) (congrArg (World.drewN _) (Nat.add_assoc _ _ _))⟩)) | (go_at_call 102; (with_reducible refine (qanatref02_whole.calls a2 1 false t796 _ A10.out).mono ?_); rintro e w' ⟨rfl, ⟨nd, rfl⟩⟩; (try first | exact ⟨rfl, _, World.drewN_drewN _ _ _⟩ | exact ⟨rfl, _, Eq.trans (World.drewN_drewN _ _ _) (congrArg (World.drewN _) (Nat.add_assoc _ _ _))⟩))); try go_wp2_with (first | (go_at_call 89; (with_reducible refine (qanatref02_Valid.calls a0 true _ A6.out).mono ?_); rintro e w' ⟨rfl, ⟨nd, rfl⟩⟩; (try first | exact ⟨rfl, _, World.drewN_drewN _ _ _⟩ | exact ⟨rfl, _, Eq.trans (World.drewN_drewN _ _ _) (congrArg (World.drewN _) (Nat.add_assoc _ _ _))⟩)) | (go_at_call 89; (with_reducible refine (qanatref02_Valid.calls a1 true _ A8.out).mono ?_); rintro e w' ⟨rfl, ⟨nd, rfl⟩⟩; (try first | exact ⟨rfl, _, World.drewN_drewN _ _ _⟩ | exact ⟨rfl, _, Eq.trans (World.drewN_drewN _ _ _) (congrArg (World.drewN _) (Nat.add_assoc _ _ _))⟩)) | (go_at_call 102; (with_reducible refine (qanatref02_whole.calls a2 1 false t796 _ A10.out).mono ?_); rintro e w' ⟨rfl, ⟨nd, rfl⟩⟩; (try first | exact ⟨rfl, _, World.drewN_drewN _ _ _⟩ | exact ⟨rfl, _, Eq.trans (World.drewN_drewN _ _ _) (congrArg (World.drewN _) (Nat.add_assoc _ _ _))⟩))))
        go_meet
        case rel => exact ⟨_, (!t796), (by first | rfl | (simp; done) | (simp [*]; done)), H', ⟨by first | omega | exact Nat.le_refl _⟩, ⟨by (with_reducible repeat (first | refine blk_drewN ?_ _ | refine blk_drew ?_ | refine blk_alloc ?_ _)); exact BK793.out⟩, ⟨by repeat (first | (with_reducible first | exact HB.out | apply below_alloc | apply pw_below_drewN | apply below_drew1 | refine below_set ?_ GE793.out) | exact HB.out)⟩⟩
      · replace c9 := Bool.eq_false_iff.mpr c9
        subst c9
        have H1 : (qanatref02_WordPos.j0 k a0 a1 a2 true) = some (r1, r2) := by rw [if_neg (show ¬ (false = true) by decide)] at H; exact H
        clear H
        have H := H1
        clear H1
        have H' := Aside0.mk H
        clear H
        go_wp2_with (first | (go_at_call 89; (with_reducible refine (qanatref02_Valid.calls a0 true _ A6.out).mono ?_); rintro e w' ⟨rfl, ⟨nd, rfl⟩⟩; (try first | exact ⟨rfl, _, World.drewN_drewN _ _ _⟩ | exact ⟨rfl, _, Eq.trans (World.drewN_drewN _ _ _) (congrArg (World.drewN _) (Nat.add_assoc _ _ _))⟩)) | (go_at_call 89; (with_reducible refine (qanatref02_Valid.calls a1 false _ A8.out).mono ?_); rintro e w' ⟨rfl, ⟨nd, rfl⟩⟩; (try first | exact ⟨rfl, _, World.drewN_drewN _ _ _⟩ | exact ⟨rfl, _, Eq.trans (World.drewN_drewN _ _ _) (congrArg (World.drewN _) (Nat.add_assoc _ _ _))⟩)))
        repeat (go_quiet (first | (go_at_call 89; (with_reducible refine (qanatref02_Valid.calls a0 true _ A6.out).mono ?_); rintro e w' ⟨rfl, ⟨nd, rfl⟩⟩; (try first | exact ⟨rfl, _, World.drewN_drewN _ _ _⟩ | exact ⟨rfl, _, Eq.trans (World.drewN_drewN _ _ _) (congrArg (World.drewN _) (Nat.add_assoc _ _ _))⟩)) | (go_at_call 89; (with_reducible refine (qanatref02_Valid.calls a1 false _ A8.out).mono ?_); rintro e w' ⟨rfl, ⟨nd, rfl⟩⟩; (try first | exact ⟨rfl, _, World.drewN_drewN _ _ _⟩ | exact ⟨rfl, _, Eq.trans (World.drewN_drewN _ _ _) (congrArg (World.drewN _) (Nat.add_assoc _ _ _))⟩))); try go_wp2_with (first | (go_at_call 89; (with_reducible refine (qanatref02_Valid.calls a0 true _ A6.out).mono ?_); rintro e w' ⟨rfl, ⟨nd, rfl⟩⟩; (try first | exact ⟨rfl, _, World.drewN_drewN _ _ _⟩ | exact ⟨rfl, _, Eq.trans (World.drewN_drewN _ _ _) (congrArg (World.drewN _) (Nat.add_assoc _ _ _))⟩)) | (go_at_call 89; (with_reducible refine (qanatref02_Valid.calls a1 false _ A8.out).mono ?_); rintro e w' ⟨rfl, ⟨nd, rfl⟩⟩; (try first | exact ⟨rfl, _, World.drewN_drewN _ _ _⟩ | exact ⟨rfl, _, Eq.trans (World.drewN_drewN _ _ _) (congrArg (World.drewN _) (Nat.add_assoc _ _ _))⟩))))
        go_meet
        case rel => exact ⟨_, (true), (by first | rfl | (simp; done) | (simp [*]; done)), H', ⟨by first | omega | exact Nat.le_refl _⟩, ⟨by (with_reducible repeat (first | refine blk_drewN ?_ _ | refine blk_drew ?_ | refine blk_alloc ?_ _)); exact BK793.out⟩, ⟨by repeat (first | (with_reducible first | exact HB.out | apply below_alloc | apply pw_below_drewN | apply below_drew1 | refine below_set ?_ GE793.out) | exact HB.out)⟩⟩
    · replace c7 := Bool.eq_false_iff.mpr c7
      subst c7
      have H1 : (qanatref02_WordPos.j0 k a0 a1 a2 true) = some (r1, r2) := by rw [if_neg (show ¬ (false = true) by decide)] at H; exact H
      clear H
      have H := H1
      clear H1
      have H' := Aside0.mk H
      clear H
      go_wp2_with (first | (go_at_call 89; (with_reducible refine (qanatref02_Valid.calls a0 false _ A6.out).mono ?_); rintro e w' ⟨rfl, ⟨nd, rfl⟩⟩; (try first | exact ⟨rfl, _, World.drewN_drewN _ _ _⟩ | exact ⟨rfl, _, Eq.trans (World.drewN_drewN _ _ _) (congrArg (World.drewN _) (Nat.add_assoc _ _ _))⟩)))
      repeat (go_quiet (first | (go_at_call 89; (with_reducible refine (qanatref02_Valid.calls a0 false _ A6.out).mono ?_); rintro e w' ⟨rfl, ⟨nd, rfl⟩⟩; (try first | exact ⟨rfl, _, World.drewN_drewN _ _ _⟩ | exact ⟨rfl, _, Eq.trans (World.drewN_drewN _ _ _) (congrArg (World.drewN _) (Nat.add_assoc _ _ _))⟩))); try go_wp2_with (first | (go_at_call 89; (with_reducible refine (qanatref02_Valid.calls a0 false _ A6.out).mono ?_); rintro e w' ⟨rfl, ⟨nd, rfl⟩⟩; (try first | exact ⟨rfl, _, World.drewN_drewN _ _ _⟩ | exact ⟨rfl, _, Eq.trans (World.drewN_drewN _ _ _) (congrArg (World.drewN _) (Nat.add_assoc _ _ _))⟩))))
      go_meet
      case rel => exact ⟨_, (true), (by first | rfl | (simp; done) | (simp [*]; done)), H', ⟨by first | omega | exact Nat.le_refl _⟩, ⟨by (with_reducible repeat (first | refine blk_drewN ?_ _ | refine blk_drew ?_ | refine blk_alloc ?_ _)); exact BK793.out⟩, ⟨by repeat (first | (with_reducible first | exact HB.out | apply below_alloc | apply pw_below_drewN | apply below_drew1 | refine below_set ?_ GE793.out) | exact HB.out)⟩⟩
  case rest =>
    clear HC4
    try clear p2
    try clear c7
    try clear c9
    obtain ⟨kq, x24_3, rfl, HA, HJ3, BK793, HB⟩ := hcut
    cases kq with
    | zero => exact absurd HA.out (by simp [qanatref02_WordPos.j0])
    | succ kj3 =>
      have H := HA.out
      clear HA
      simp only [qanatref02_WordPos.j0] at H
      by_cases c11 : x24_3 = true
      · subst c11
        have H1 : (some (0, 1)) = some (r1, r2) := by rw [if_pos rfl] at H; exact H
        clear H
        have H := H1
        clear H1
        simp only [Option.some.injEq, Prod.mk.injEq] at H
        obtain ⟨rfl, rfl⟩ := H
        have hcz12_0 : wc.cell? ⟨gb793, 0, none⟩ = some (.int .i64 0) := (blk_cell BK793.out 0).trans rfl
        have hcz12_1 : wc.cell? ⟨gb793, 1, none⟩ = some (.int .i64 0) := (blk_cell BK793.out 1).trans rfl
        have hfz12_0 := blk_frozen BK793.out 0
        have hfz12_1 := blk_frozen BK793.out 1
        go_wp2
        repeat (go_quiet (fail); try go_wp2)
        refine bodyPost_ret (results_cell_row rfl _ _ gb793 49 #[.int .i64 0, .int .i64 1] (0, 0) _ rfl (by (with_reducible repeat (first | refine blk_drewN ?_ _ | refine blk_drew ?_ | refine blk_alloc ?_ _)); refine blk_put (cs := #[.int .i64 0, .int .i64 0]) ?_ 1 _ rfl; (with_reducible repeat (first | refine blk_drewN ?_ _ | refine blk_drew ?_ | refine blk_alloc ?_ _)); refine blk_put (cs := #[.int .i64 0, .int .i64 0]) ?_ 0 _ rfl; (with_reducible repeat (first | refine blk_drewN ?_ _ | refine blk_drew ?_ | refine blk_alloc ?_ _)); exact BK793.out) Tryz.underlying49 rfl (by kernel_rfl)) rfl ?_
        exact ⟨by first | rfl | (simp [errW_none, errW_some] <;> rfl) | (simp [*, errW_none, errW_some] <;> rfl), by repeat (first | (with_reducible first | exact HB.out | apply below_alloc | apply pw_below_drewN | apply below_drew1 | refine below_set ?_ GE793.out) | exact HB.out)⟩
      · replace c11 := Bool.eq_false_iff.mpr c11
        subst c11
        have H1 : ((qanatref02_Spans.f kj3 a0).bind fun t797 => ((qanatref02_Spans.f kj3 a1).bind fun t800 => (qanatref02_WordPos.l0 kj3 a0 a1 t797 t800 (wrap64 (a2 - 1))))) = some (r1, r2) := by rw [if_neg (show ¬ (false = true) by decide)] at H; exact H
        clear H
        have H := H1
        clear H1
        replace H := Option.bind_eq_some_iff.mp H
        obtain ⟨t797, A130, H⟩ := H
        replace H : ((qanatref02_Spans.f kj3 a1).bind fun t800 => (qanatref02_WordPos.l0 kj3 a0 a1 t797 t800 (wrap64 (a2 - 1)))) = some (r1, r2) := H
        have A13 := Aside0.mk A130
        clear A130
        replace H := Option.bind_eq_some_iff.mp H
        obtain ⟨t800, A140, H⟩ := H
        replace H : (qanatref02_WordPos.l0 kj3 a0 a1 t797 t800 (wrap64 (a2 - 1))) = some (r1, r2) := H
        have A14 := Aside0.mk A140
        clear A140
        have H' := Aside0.mk H
        clear H
        go_wp2_with (first | (go_at_call 110; (with_reducible refine (qanatref02_Spans.calls kj3 a0 t797 _ A13.out).mono ?_); rintro e w15 ⟨v798, rfl, ho0, hb⟩; have n0_ := Aside0.mk (Kd.R_lower ho0 (below_size (by repeat (first | (with_reducible first | exact HB.out | apply below_alloc | apply pw_below_drewN | apply below_drew1 | refine below_set ?_ GE793.out) | exact HB.out)))); have n1_ := Aside0.mk (blk_below (g := gb793) (o := .cells #[.int .i64 0, .int .i64 0] 49 (0, 0)) (by (with_reducible repeat (first | refine blk_drewN ?_ _ | refine blk_drew ?_ | refine blk_alloc ?_ _)); exact BK793.out) hb); have n2_ := Aside0.mk (below_step (by repeat (first | (with_reducible first | exact HB.out | apply below_alloc | apply pw_below_drewN | apply below_drew1 | refine below_set ?_ GE793.out) | exact HB.out)) hb); clear BK793; clear HB; have HO799 := n0_; have BK793 := n1_; have HB := n2_; clear n0_ n1_ n2_; (try clear hb); (try clear hb2); (try clear hk); (try clear hi); (try clear ho0)) | (go_at_call 110; (with_reducible refine (qanatref02_Spans.calls kj3 a1 t800 _ A14.out).mono ?_); rintro e w16 ⟨v801, rfl, ho0, hb⟩; have n0_ := Aside0.mk (Kd.R_elder' (by (with_reducible repeat (first | apply Kd.R_alloc | apply Kd.R_drewN | apply Kd.R_drew)); exact HO799.out) (Kd.R_base ho0) hb); have n1_ := Aside0.mk (Kd.R_lower (Kd.R_new' ho0 (Kd.R_lt (by (with_reducible repeat (first | apply Kd.R_alloc | apply Kd.R_drewN | apply Kd.R_drew)); exact HO799.out))) (below_size (by repeat (first | (with_reducible first | exact HB.out | apply below_alloc | apply pw_below_drewN | apply below_drew1 | refine below_set ?_ GE793.out) | exact HB.out)))); have n2_ := Aside0.mk (blk_below (g := gb793) (o := .cells #[.int .i64 0, .int .i64 0] 49 (0, 0)) (by (with_reducible repeat (first | refine blk_drewN ?_ _ | refine blk_drew ?_ | refine blk_alloc ?_ _)); exact BK793.out) hb); have n3_ := Aside0.mk (below_step (by repeat (first | (with_reducible first | exact HB.out | apply below_alloc | apply pw_below_drewN | apply below_drew1 | refine below_set ?_ GE793.out) | exact HB.out)) hb); clear HO799; clear BK793; clear HB; have HO799 := n0_; have HO802 := n1_; have BK793 := n2_; have HB := n3_; clear n0_ n1_ n2_ n3_; (try clear hb); (try clear hb2); (try clear hk); (try clear hi); (try clear ho0)))
        repeat (go_quiet (first | (go_at_call 110; (with_reducible refine (qanatref02_Spans.calls kj3 a0 t797 _ A13.out).mono ?_); rintro e w15 ⟨v798, rfl, ho0, hb⟩; have n0_ := Aside0.mk (Kd.R_lower ho0 (below_size (by repeat (first | (with_reducible first | exact HB.out | apply below_alloc | apply pw_below_drewN | apply below_drew1 | refine below_set ?_ GE793.out) | exact HB.out)))); have n1_ := Aside0.mk (blk_below (g := gb793) (o := .cells #[.int .i64 0, .int .i64 0] 49 (0, 0)) (by (with_reducible repeat (first | refine blk_drewN ?_ _ | refine blk_drew ?_ | refine blk_alloc ?_ _)); exact BK793.out) hb); have n2_ := Aside0.mk (below_step (by repeat (first | (with_reducible first | exact HB.out | apply below_alloc | apply pw_below_drewN | apply below_drew1 | refine below_set ?_ GE793.out) | exact HB.out)) hb); clear BK793; clear HB; have HO799 := n0_; have BK793 := n1_; have HB := n2_; clear n0_ n1_ n2_; (try clear hb); (try clear hb2); (try clear hk); (try clear hi); (try clear ho0)) | (go_at_call 110; (with_reducible refine (qanatref02_Spans.calls kj3 a1 t800 _ A14.out).mono ?_); rintro e w16 ⟨v801, rfl, ho0, hb⟩; have n0_ := Aside0.mk (Kd.R_elder' (by (with_reducible repeat (first | apply Kd.R_alloc | apply Kd.R_drewN | apply Kd.R_drew)); exact HO799.out) (Kd.R_base ho0) hb); have n1_ := Aside0.mk (Kd.R_lower (Kd.R_new' ho0 (Kd.R_lt (by (with_reducible repeat (first | apply Kd.R_alloc | apply Kd.R_drewN | apply Kd.R_drew)); exact HO799.out))) (below_size (by repeat (first | (with_reducible first | exact HB.out | apply below_alloc | apply pw_below_drewN | apply below_drew1 | refine below_set ?_ GE793.out) | exact HB.out)))); have n2_ := Aside0.mk (blk_below (g := gb793) (o := .cells #[.int .i64 0, .int .i64 0] 49 (0, 0)) (by (with_reducible repeat (first | refine blk_drewN ?_ _ | refine blk_drew ?_ | refine blk_alloc ?_ _)); exact BK793.out) hb); have n3_ := Aside0.mk (below_step (by repeat (first | (with_reducible first | exact HB.out | apply below_alloc | apply pw_below_drewN | apply below_drew1 | refine below_set ?_ GE793.out) | exact HB.out)) hb); clear HO799; clear BK793; clear HB; have HO799 := n0_; have HO802 := n1_; have BK793 := n2_; have HB := n3_; clear n0_ n1_ n2_ n3_; (try clear hb); (try clear hb2); (try clear hk); (try clear hi); (try clear ho0))); try go_wp2_with (first | (go_at_call 110; (with_reducible refine (qanatref02_Spans.calls kj3 a0 t797 _ A13.out).mono ?_); rintro e w15 ⟨v798, rfl, ho0, hb⟩; have n0_ := Aside0.mk (Kd.R_lower ho0 (below_size (by repeat (first | (with_reducible first | exact HB.out | apply below_alloc | apply pw_below_drewN | apply below_drew1 | refine below_set ?_ GE793.out) | exact HB.out)))); have n1_ := Aside0.mk (blk_below (g := gb793) (o := .cells #[.int .i64 0, .int .i64 0] 49 (0, 0)) (by (with_reducible repeat (first | refine blk_drewN ?_ _ | refine blk_drew ?_ | refine blk_alloc ?_ _)); exact BK793.out) hb); have n2_ := Aside0.mk (below_step (by repeat (first | (with_reducible first | exact HB.out | apply below_alloc | apply pw_below_drewN | apply below_drew1 | refine below_set ?_ GE793.out) | exact HB.out)) hb); clear BK793; clear HB; have HO799 := n0_; have BK793 := n1_; have HB := n2_; clear n0_ n1_ n2_; (try clear hb); (try clear hb2); (try clear hk); (try clear hi); (try clear ho0)) | (go_at_call 110; (with_reducible refine (qanatref02_Spans.calls kj3 a1 t800 _ A14.out).mono ?_); rintro e w16 ⟨v801, rfl, ho0, hb⟩; have n0_ := Aside0.mk (Kd.R_elder' (by (with_reducible repeat (first | apply Kd.R_alloc | apply Kd.R_drewN | apply Kd.R_drew)); exact HO799.out) (Kd.R_base ho0) hb); have n1_ := Aside0.mk (Kd.R_lower (Kd.R_new' ho0 (Kd.R_lt (by (with_reducible repeat (first | apply Kd.R_alloc | apply Kd.R_drewN | apply Kd.R_drew)); exact HO799.out))) (below_size (by repeat (first | (with_reducible first | exact HB.out | apply below_alloc | apply pw_below_drewN | apply below_drew1 | refine below_set ?_ GE793.out) | exact HB.out)))); have n2_ := Aside0.mk (blk_below (g := gb793) (o := .cells #[.int .i64 0, .int .i64 0] 49 (0, 0)) (by (with_reducible repeat (first | refine blk_drewN ?_ _ | refine blk_drew ?_ | refine blk_alloc ?_ _)); exact BK793.out) hb); have n3_ := Aside0.mk (below_step (by repeat (first | (with_reducible first | exact HB.out | apply below_alloc | apply pw_below_drewN | apply below_drew1 | refine below_set ?_ GE793.out) | exact HB.out)) hb); clear HO799; clear BK793; clear HB; have HO799 := n0_; have HO802 := n1_; have BK793 := n2_; have HB := n3_; clear n0_ n1_ n2_ n3_; (try clear hb); (try clear hb2); (try clear hk); (try clear hi); (try clear ho0))))
        go_loopg [9] kj3 (fun kq v9 w' => ∃ (x9_2 : Int) (x794000_2 : Int) (x794001_2 : Int), v9 = .int .i64 x9_2 ∧ Aside0 (qanatref02_WordPos.l0 kq a0 a1 t797 t800 x9_2 = some (r1, r2)) ∧ Aside0 (kq ≤ kj3) ∧ Aside0 (Kd.R k113 113 w' w.heap.size (fun k_ => some k_ ≠ (v801 : Value).ownBlock) v798 t797) ∧ Aside0 (Kd.R k113 113 w' w.heap.size (fun k_ => some k_ ≠ (v798 : Value).ownBlock) v801 t800) ∧ Aside0 (w'.heap[gb793]? = some (.cells #[.int .i64 x794000_2, .int .i64 x794001_2] 49 (0, 0))) ∧ Aside0 (Below w.heap.size w w'))
        case atStart => exact ⟨(wrap64 (a2 - 1)), (0), (0), (by first | rfl | (simp; done) | (simp [*]; done)), H', ⟨Nat.le_refl _⟩, ⟨by (with_reducible repeat (first | apply Kd.R_alloc | apply Kd.R_drewN | apply Kd.R_drew)); exact Kd.R_mono HO799.out (fun _ hk => hk.2)⟩, ⟨by (with_reducible repeat (first | apply Kd.R_alloc | apply Kd.R_drewN | apply Kd.R_drew)); exact Kd.R_mono HO802.out (fun _ hk => hk.2)⟩, ⟨by (with_reducible repeat (first | refine blk_drewN ?_ _ | refine blk_drew ?_ | refine blk_alloc ?_ _)); exact BK793.out⟩, ⟨by repeat (first | (with_reducible first | exact HB.out | apply below_alloc | apply pw_below_drewN | apply below_drew1 | refine below_set ?_ GE793.out) | exact HB.out)⟩⟩
        case round =>
          clear H'
          try clear c1
          try clear p2
          try clear p6
          try clear c7
          try clear c9
          try clear c11
          try clear hcz12_0
          try clear hcz12_1
          try clear hfz12_0
          try clear hfz12_1
          try clear p2
          obtain ⟨x9_2, x794000_2, x794001_2, rfl, HA, HK2, HO_7, HO_8, BK793, HB⟩ := hrel
          cases gk with
          | zero => exact absurd HA.out (by simp [qanatref02_WordPos.l0])
          | succ k2 =>
            have H := HA.out
            clear HA
            simp only [qanatref02_WordPos.l0] at H
            have HC17 := Aside0.mk H
            clear H
            go_upto_region 6 with (fail)
            repeat (go_quiet (fail); go_upto_region 6 with (fail))
            go_cut [49] (fun v49 wc => ∃ (kq : Nat) (x49_16 : Bool), v49 = .bool x49_16 ∧ Aside0 (qanatref02_WordPos.j2 kq a0 a1 t797 t800 x9_2 x49_16 = some (r1, r2)) ∧ Aside0 (kq ≤ k2) ∧ Aside0 (Kd.R k113 113 wc w.heap.size (fun k_ => some k_ ≠ (v801 : Value).ownBlock) v798 t797) ∧ Aside0 (Kd.R k113 113 wc w.heap.size (fun k_ => some k_ ≠ (v798 : Value).ownBlock) v801 t800) ∧ Aside0 (wc.heap[gb793]? = some (.cells #[.int .i64 x794000_2, .int .i64 x794001_2] 49 (0, 0))) ∧ Aside0 (Below w.heap.size w wc))
            case first =>
              have H := HC17.out
              clear HC17
              by_cases c18 : x9_2 < (t800.length : Int)
              · rw [if_pos c18] at H
                have c18b0 : decide (x9_2 < (t800.length : Int)) = true := decide_eq_true c18
                clear c18
                (first | rw [c18b0] | (simp only [i64_w, i32_w]; rw [c18b0]) | skip)
                by_cases c19 : (t797.length : Int) > 0
                · rw [if_pos c19] at H
                  have c19b0 : decide (0 < (t797.length : Int)) = true := decide_eq_true c19
                  have c19b1 : decide (0 < t797.length) = true := decide_eq_true (by omega)
                  clear c19
                  have H' := Aside0.mk H
                  clear H
                  obtain ⟨Ao20, co20, eo20⟩ := Kd.R_slice HO_8.out
                  subst eo20
                  obtain ⟨Ao21, co21, eo21⟩ := Kd.R_slice HO_7.out
                  subst eo21
                  go_wp2
                  repeat (go_quiet (fail); try go_wp2)
                  go_meet
                  case rel => exact ⟨_, (decide ((t797.length : Int) ≤ (wrap64 ((t800.length : Int) - x9_2)))), (by first | rfl | (simp; done) | (simp [*]; done)), H', ⟨by have := HJ3.out; have := HK2.out; first | omega | exact Nat.le_refl _⟩, ⟨by (with_reducible repeat (first | apply Kd.R_alloc | apply Kd.R_drewN | apply Kd.R_drew)); exact HO_7.out⟩, ⟨by (with_reducible repeat (first | apply Kd.R_alloc | apply Kd.R_drewN | apply Kd.R_drew)); exact HO_8.out⟩, ⟨by (with_reducible repeat (first | refine blk_drewN ?_ _ | refine blk_drew ?_ | refine blk_alloc ?_ _)); exact BK793.out⟩, ⟨by repeat (first | (with_reducible first | exact HB.out | apply below_alloc | apply pw_below_drewN | apply below_drew1 | refine below_set ?_ GE793.out) | exact HB.out)⟩⟩
                · rw [if_neg c19] at H
                  have c19b0 : decide (0 < (t797.length : Int)) = false := decide_eq_false c19
                  have c19b1 : decide (0 < t797.length) = false := decide_eq_false (by omega)
                  clear c19
                  have H' := Aside0.mk H
                  clear H
                  obtain ⟨Ao22, co22, eo22⟩ := Kd.R_slice HO_8.out
                  subst eo22
                  obtain ⟨Ao23, co23, eo23⟩ := Kd.R_slice HO_7.out
                  subst eo23
                  go_wp2
                  repeat (go_quiet (fail); try go_wp2)
                  go_meet
                  case rel => exact ⟨_, (false), (by first | rfl | (simp; done) | (simp [*]; done)), H', ⟨by have := HJ3.out; have := HK2.out; first | omega | exact Nat.le_refl _⟩, ⟨by (with_reducible repeat (first | apply Kd.R_alloc | apply Kd.R_drewN | apply Kd.R_drew)); exact HO_7.out⟩, ⟨by (with_reducible repeat (first | apply Kd.R_alloc | apply Kd.R_drewN | apply Kd.R_drew)); exact HO_8.out⟩, ⟨by (with_reducible repeat (first | refine blk_drewN ?_ _ | refine blk_drew ?_ | refine blk_alloc ?_ _)); exact BK793.out⟩, ⟨by repeat (first | (with_reducible first | exact HB.out | apply below_alloc | apply pw_below_drewN | apply below_drew1 | refine below_set ?_ GE793.out) | exact HB.out)⟩⟩
              · rw [if_neg c18] at H
                have c18b0 : decide (x9_2 < (t800.length : Int)) = false := decide_eq_false c18
                clear c18
                (first | rw [c18b0] | (simp only [i64_w, i32_w]; rw [c18b0]) | skip)
                have H' := Aside0.mk H
                clear H
                obtain ⟨Ao24, co24, eo24⟩ := Kd.R_slice HO_8.out
                subst eo24
                go_wp2
                repeat (go_quiet (fail); try go_wp2)
                go_meet
                case rel => exact ⟨_, (false), (by first | rfl | (simp; done) | (simp [*]; done)), H', ⟨by have := HJ3.out; have := HK2.out; first | omega | exact Nat.le_refl _⟩, ⟨by (with_reducible repeat (first | apply Kd.R_alloc | apply Kd.R_drewN | apply Kd.R_drew)); exact HO_7.out⟩, ⟨by (with_reducible repeat (first | apply Kd.R_alloc | apply Kd.R_drewN | apply Kd.R_drew)); exact HO_8.out⟩, ⟨by (with_reducible repeat (first | refine blk_drewN ?_ _ | refine blk_drew ?_ | refine blk_alloc ?_ _)); exact BK793.out⟩, ⟨by repeat (first | (with_reducible first | exact HB.out | apply below_alloc | apply pw_below_drewN | apply below_drew1 | refine below_set ?_ GE793.out) | exact HB.out)⟩⟩
            case rest =>
              clear HC17
              try clear c1
              try clear p2
              try clear p6
              try clear c7
              try clear c9
              try clear c11
              try clear c18
              try clear c18b0
              try clear c19
              try clear c19b0
              try clear c19b1
              try clear hcz12_0
              try clear hcz12_1
              try clear hfz12_0
              try clear hfz12_1
              try clear p2
              try clear p6
              obtain ⟨kq, x49_16, rfl, HA, HJ16, HO_7, HO_8, BK793, HB⟩ := hcut
              cases kq with
              | zero => exact absurd HA.out (by simp [qanatref02_WordPos.j2])
              | succ kj16 =>
                have H := HA.out
                clear HA
                simp only [qanatref02_WordPos.j2] at H
                by_cases c25 : x49_16 = true
                · subst c25
                  have H1 : (qanatref02_WordPos.l1 kj16 a0 a1 t797 t800 x9_2 true 0) = some (r1, r2) := by rw [if_pos rfl] at H; exact H
                  clear H
                  have H := H1
                  clear H1
                  have H' := Aside0.mk H
                  clear H
                  go_wp2
                  repeat (go_quiet (fail); try go_wp2)
                  go_loopg [10, 11] kj16 (fun kq v10 v11 w' => ∃ (x10_4 : Bool) (x11_4 : Int), v10 = .bool x10_4 ∧ v11 = .int .i64 x11_4 ∧ Aside0 (qanatref02_WordPos.l1 kq a0 a1 t797 t800 x9_2 x10_4 x11_4 = some (r1, r2)) ∧ Aside0 (kq ≤ kj16) ∧ Aside0 (Kd.R k113 113 w' w.heap.size (fun k_ => some k_ ≠ (v801 : Value).ownBlock) v798 t797) ∧ Aside0 (Kd.R k113 113 w' w.heap.size (fun k_ => some k_ ≠ (v798 : Value).ownBlock) v801 t800) ∧ Aside0 (w'.heap[gb793]? = some (.cells #[.int .i64 x794000_2, .int .i64 x794001_2] 49 (0, 0))) ∧ Aside0 (Below w.heap.size w w'))
                  case atStart => exact ⟨(true), (0), (by first | rfl | (simp; done) | (simp [*]; done)), (by first | rfl | (simp; done) | (simp [*]; done)), H', ⟨Nat.le_refl _⟩, ⟨by (with_reducible repeat (first | apply Kd.R_alloc | apply Kd.R_drewN | apply Kd.R_drew)); exact HO_7.out⟩, ⟨by (with_reducible repeat (first | apply Kd.R_alloc | apply Kd.R_drewN | apply Kd.R_drew)); exact HO_8.out⟩, ⟨by (with_reducible repeat (first | refine blk_drewN ?_ _ | refine blk_drew ?_ | refine blk_alloc ?_ _)); exact BK793.out⟩, ⟨by repeat (first | (with_reducible first | exact HB.out | apply below_alloc | apply pw_below_drewN | apply below_drew1 | refine below_set ?_ GE793.out) | exact HB.out)⟩⟩
                  case round =>
                    clear H'
                    try clear c1
                    try clear c2
                    try clear p2
                    try clear p6
                    try clear c7
                    try clear c9
                    try clear c11
                    try clear c18
                    try clear c18b0
                    try clear c19
                    try clear c19b0
                    try clear c19b1
                    try clear c25
                    try clear hcz12_0
                    try clear hcz12_1
                    try clear hfz12_0
                    try clear hfz12_1
                    try clear p2
                    try clear p6
                    obtain ⟨x10_4, x11_4, rfl, rfl, HA, HK4, HO_7, HO_8, BK793, HB⟩ := hrel
                    cases gk with
                    | zero => exact absurd HA.out (by simp [qanatref02_WordPos.l1])
                    | succ k4 =>
                      have H := HA.out
                      clear HA
                      simp only [qanatref02_WordPos.l1] at H
                      by_cases c26 : x11_4 < (t797.length : Int)
                      · rw [if_pos c26] at H
                        have c26b0 : decide (x11_4 < (t797.length : Int)) = true := decide_eq_true c26
                        clear c26
                        by_cases c27 : x10_4 = true
                        · subst c27
                          have H1 : (if 0 ≤ x11_4 then (if 0 ≤ ((rd_T113 t797 x11_4).f0) then (if ((rd_T113 t797 x11_4).f0) ≤ ((rd_T113 t797 x11_4).f1) then (if ((rd_T113 t797 x11_4).f1) ≤ (a0.size : Int) then (if 0 ≤ (wrap64 (x9_2 + x11_4)) then (if (wrap64 (x9_2 + x11_4)) < (t800.length : Int) then (if 0 ≤ ((rd_T113 t800 (wrap64 (x9_2 + x11_4))).f0) then (if ((rd_T113 t800 (wrap64 (x9_2 + x11_4))).f0) ≤ ((rd_T113 t800 (wrap64 (x9_2 + x11_4))).f1) then (if ((rd_T113 t800 (wrap64 (x9_2 + x11_4))).f1) ≤ (a1.size : Int) then (qanatref02_WordPos.l1 k4 a0 a1 t797 t800 x9_2 ((a0.extract (((rd_T113 t797 x11_4).f0) : Int).toNat (((rd_T113 t797 x11_4).f1) : Int).toNat).toList == (a1.extract (((rd_T113 t800 (wrap64 (x9_2 + x11_4))).f0) : Int).toNat (((rd_T113 t800 (wrap64 (x9_2 + x11_4))).f1) : Int).toNat).toList) (wrap64 (x11_4 + 1))) else (none)) else (none)) else (none)) else (none)) else (none)) else (none)) else (none)) else (none)) else (none)) = some (r1, r2) := by rw [if_pos rfl] at H; exact H
                          clear H
                          have H := H1
                          clear H1
                          by_cases c28 : 0 ≤ x11_4
                          · rw [if_pos c28] at H
                            have c28b0 : decide (0 ≤ x11_4) = true := decide_eq_true c28
                            clear c28
                            by_cases c29 : 0 ≤ ((rd_T113 t797 x11_4).f0)
                            · rw [if_pos c29] at H
                              have c29b0 := eq_true c29
                              have c29b1 : decide (0 ≤ ((rd_T113 t797 x11_4).f0)) = true := decide_eq_true c29
                              clear c29
                              by_cases c30 : ((rd_T113 t797 x11_4).f0) ≤ ((rd_T113 t797 x11_4).f1)
                              · rw [if_pos c30] at H
                                have c30b0 := eq_true c30
                                have c30b1 : decide (((rd_T113 t797 x11_4).f0) ≤ ((rd_T113 t797 x11_4).f1)) = true := decide_eq_true c30
                                clear c30
                                by_cases c31 : ((rd_T113 t797 x11_4).f1) ≤ (a0.size : Int)
                                · rw [if_pos c31] at H
                                  have c31b0 := eq_true c31
                                  have c31b1 : decide (((rd_T113 t797 x11_4).f1) ≤ (a0.size : Int)) = true := decide_eq_true c31
                                  clear c31
                                  obtain ⟨ji32, hji32⟩ : ∃ j_ : Int, (wrap64 (x9_2 + x11_4)) = j_ := ⟨_, rfl⟩
                                  replace H : (if 0 ≤ (ji32) then (if (ji32) < (t800.length : Int) then (if 0 ≤ ((rd_T113 t800 (ji32)).f0) then (if ((rd_T113 t800 (ji32)).f0) ≤ ((rd_T113 t800 (ji32)).f1) then (if ((rd_T113 t800 (ji32)).f1) ≤ (a1.size : Int) then (qanatref02_WordPos.l1 k4 a0 a1 t797 t800 x9_2 ((a0.extract (((rd_T113 t797 x11_4).f0) : Int).toNat (((rd_T113 t797 x11_4).f1) : Int).toNat).toList == (a1.extract (((rd_T113 t800 (ji32)).f0) : Int).toNat (((rd_T113 t800 (ji32)).f1) : Int).toNat).toList) (wrap64 (x11_4 + 1))) else (none)) else (none)) else (none)) else (none)) else (none)) = some (r1, r2) := by first | (rw [hji32] at H; exact H) | (simp only [hji32] at H ⊢; exact H)
                                  have hji32w : (IntKind.i64.wrap (x9_2 + x11_4)) = ji32 := (i64_w _).trans hji32
                                  by_cases c33 : 0 ≤ (ji32)
                                  · rw [if_pos c33] at H
                                    have c33b0 : decide (0 ≤ (ji32)) = true := decide_eq_true c33
                                    clear c33
                                    by_cases c34 : (ji32) < (t800.length : Int)
                                    · rw [if_pos c34] at H
                                      have c34b0 : decide ((ji32) < (t800.length : Int)) = true := decide_eq_true c34
                                      clear c34
                                      by_cases c35 : 0 ≤ ((rd_T113 t800 (ji32)).f0)
                                      · rw [if_pos c35] at H
                                        have c35b0 := eq_true c35
                                        have c35b1 : decide (0 ≤ ((rd_T113 t800 (ji32)).f0)) = true := decide_eq_true c35
                                        clear c35
                                        by_cases c36 : ((rd_T113 t800 (ji32)).f0) ≤ ((rd_T113 t800 (ji32)).f1)
                                        · rw [if_pos c36] at H
                                          have c36b0 := eq_true c36
                                          have c36b1 : decide (((rd_T113 t800 (ji32)).f0) ≤ ((rd_T113 t800 (ji32)).f1)) = true := decide_eq_true c36
                                          clear c36
                                          by_cases c37 : ((rd_T113 t800 (ji32)).f1) ≤ (a1.size : Int)
                                          · rw [if_pos c37] at H
                                            have c37b0 := eq_true c37
                                            have c37b1 : decide (((rd_T113 t800 (ji32)).f1) ≤ (a1.size : Int)) = true := decide_eq_true c37
                                            clear c37
                                            have H' := Aside0.mk H
                                            clear H
                                            obtain ⟨Ao38, co38, eo38⟩ := Kd.R_slice HO_7.out
                                            subst eo38
                                            have p803 : 0 ≤ (x11_4 : Int) := of_decide_eq_true (by first | (with_reducible assumption) | assumption)
                                            have q803 : x11_4 < (t797.length : Int) := of_decide_eq_true (by first | (with_reducible assumption) | assumption)
                                            obtain ⟨ad803, e803, hx803_0, hx803_1⟩ := at_T113 (Kd.R_reads' HO_7.out).2.2 x11_4 p803 q803
                                            cases e803
                                            replace p803 := eq_true p803
                                            replace q803 := eq_true q803
                                            have p804 : 0 ≤ (x11_4 : Int) := of_decide_eq_true (by first | (with_reducible assumption) | assumption)
                                            have q804 : x11_4 < (t797.length : Int) := of_decide_eq_true (by first | (with_reducible assumption) | assumption)
                                            obtain ⟨ad804, e804, hx804_0, hx804_1⟩ := at_T113 (Kd.R_reads' HO_7.out).2.2 x11_4 p804 q804
                                            obtain rfl : ad803 = ad804 := (by injection e804)
                                            replace p804 := eq_true p804
                                            replace q804 := eq_true q804
                                            obtain ⟨Ao39, co39, eo39⟩ := Kd.R_slice HO_8.out
                                            subst eo39
                                            have p805 : 0 ≤ ((ji32) : Int) := of_decide_eq_true (by first | (with_reducible assumption) | assumption)
                                            have q805 : (ji32) < (t800.length : Int) := of_decide_eq_true (by first | (with_reducible assumption) | assumption)
                                            obtain ⟨ad805, e805, hx805_0, hx805_1⟩ := at_T113 (Kd.R_reads' HO_8.out).2.2 (ji32) p805 q805
                                            cases e805
                                            replace p805 := eq_true p805
                                            replace q805 := eq_true q805
                                            have p806 : 0 ≤ ((ji32) : Int) := of_decide_eq_true (by first | (with_reducible assumption) | assumption)
                                            have q806 : (ji32) < (t800.length : Int) := of_decide_eq_true (by first | (with_reducible assumption) | assumption)
                                            obtain ⟨ad806, e806, hx806_0, hx806_1⟩ := at_T113 (Kd.R_reads' HO_8.out).2.2 (ji32) p806 q806
                                            obtain rfl : ad805 = ad806 := (by injection e806)
                                            replace p806 := eq_true p806
                                            replace q806 := eq_true q806
                                            go_wp2
                                            repeat (go_quiet (fail); try go_wp2)
                                            go_roundg k4
                                            case measure => have := HJ3.out; have := HK2.out; have := HJ16.out; have := HK4.out; omega
                                            case rel => exact ⟨(((a0.extract (((rd_T113 t797 x11_4).f0) : Int).toNat (((rd_T113 t797 x11_4).f1) : Int).toNat).toList == (a1.extract (((rd_T113 t800 (ji32)).f0) : Int).toNat (((rd_T113 t800 (ji32)).f1) : Int).toNat).toList)), (wrap64 (x11_4 + 1)), (by first | rfl | (simp; done) | (simp only [← hji32] <;> (first | rfl | simp)) | (simp [*]; done)), (by first | rfl | (simp; done) | (simp [*]; done)), H', ⟨by have := HJ3.out; have := HK2.out; have := HJ16.out; have := HK4.out; omega⟩, ⟨by (with_reducible repeat (first | apply Kd.R_alloc | apply Kd.R_drewN | apply Kd.R_drew)); exact HO_7.out⟩, ⟨by (with_reducible repeat (first | apply Kd.R_alloc | apply Kd.R_drewN | apply Kd.R_drew)); exact HO_8.out⟩, ⟨by (with_reducible repeat (first | refine blk_drewN ?_ _ | refine blk_drew ?_ | refine blk_alloc ?_ _)); exact BK793.out⟩, ⟨by repeat (first | (with_reducible first | exact HB.out | apply below_alloc | apply pw_below_drewN | apply below_drew1 | refine below_set ?_ GE793.out) | exact HB.out)⟩⟩
                                          · rw [if_neg c37] at H
                                            exact absurd H (by simp)
                                        · rw [if_neg c36] at H
                                          exact absurd H (by simp)
                                      · rw [if_neg c35] at H
                                        exact absurd H (by simp)
                                    · rw [if_neg c34] at H
                                      exact absurd H (by simp)
                                  · rw [if_neg c33] at H
                                    exact absurd H (by simp)
                                · rw [if_neg c31] at H
                                  exact absurd H (by simp)
                              · rw [if_neg c30] at H
                                exact absurd H (by simp)
                            · rw [if_neg c29] at H
                              exact absurd H (by simp)
                          · rw [if_neg c28] at H
                            exact absurd H (by simp)
                        · replace c27 := Bool.eq_false_iff.mpr c27
                          subst c27
                          have H1 : (qanatref02_WordPos.l1 k4 a0 a1 t797 t800 x9_2 false (wrap64 (x11_4 + 1))) = some (r1, r2) := by rw [if_neg (show ¬ (false = true) by decide)] at H; exact H
                          clear H
                          have H := H1
                          clear H1
                          have H' := Aside0.mk H
                          clear H
                          obtain ⟨Ao40, co40, eo40⟩ := Kd.R_slice HO_7.out
                          subst eo40
                          go_wp2
                          repeat (go_quiet (fail); try go_wp2)
                          go_roundg k4
                          case measure => have := HJ3.out; have := HK2.out; have := HJ16.out; have := HK4.out; omega
                          case rel => exact ⟨(false), (wrap64 (x11_4 + 1)), (by first | rfl | (simp; done) | (simp [*]; done)), (by first | rfl | (simp; done) | (simp [*]; done)), H', ⟨by have := HJ3.out; have := HK2.out; have := HJ16.out; have := HK4.out; omega⟩, ⟨by (with_reducible repeat (first | apply Kd.R_alloc | apply Kd.R_drewN | apply Kd.R_drew)); exact HO_7.out⟩, ⟨by (with_reducible repeat (first | apply Kd.R_alloc | apply Kd.R_drewN | apply Kd.R_drew)); exact HO_8.out⟩, ⟨by (with_reducible repeat (first | refine blk_drewN ?_ _ | refine blk_drew ?_ | refine blk_alloc ?_ _)); exact BK793.out⟩, ⟨by repeat (first | (with_reducible first | exact HB.out | apply below_alloc | apply pw_below_drewN | apply below_drew1 | refine below_set ?_ GE793.out) | exact HB.out)⟩⟩
                      · rw [if_neg c26] at H
                        have c26b0 : decide (x11_4 < (t797.length : Int)) = false := decide_eq_false c26
                        clear c26
                        by_cases c41 : x10_4 = true
                        · subst c41
                          have H1 : (some (wrap64 (x9_2 + 1), 0)) = some (r1, r2) := by rw [if_pos rfl] at H; exact H
                          clear H
                          have H := H1
                          clear H1
                          simp only [Option.some.injEq, Prod.mk.injEq] at H
                          obtain ⟨rfl, rfl⟩ := H
                          obtain ⟨Ao42, co42, eo42⟩ := Kd.R_slice HO_7.out
                          subst eo42
                          have hcz43_0 : wr.cell? ⟨gb793, 0, none⟩ = some (.int .i64 x794000_2) := (blk_cell BK793.out 0).trans rfl
                          have hcz43_1 : wr.cell? ⟨gb793, 1, none⟩ = some (.int .i64 x794001_2) := (blk_cell BK793.out 1).trans rfl
                          have hfz43_0 := blk_frozen BK793.out 0
                          have hfz43_1 := blk_frozen BK793.out 1
                          go_wp2
                          repeat (go_quiet (fail); try go_wp2)
                          refine bodyPost_ret (results_cell_row rfl _ _ gb793 49 #[.int .i64 (wrap64 (x9_2 + 1)), .int .i64 0] (0, 0) _ rfl (by (with_reducible repeat (first | refine blk_drewN ?_ _ | refine blk_drew ?_ | refine blk_alloc ?_ _)); refine blk_put (cs := #[.int .i64 (wrap64 (x9_2 + 1)), .int .i64 x794001_2]) ?_ 1 _ rfl; (with_reducible repeat (first | refine blk_drewN ?_ _ | refine blk_drew ?_ | refine blk_alloc ?_ _)); refine blk_put (cs := #[.int .i64 x794000_2, .int .i64 x794001_2]) ?_ 0 _ rfl; (with_reducible repeat (first | refine blk_drewN ?_ _ | refine blk_drew ?_ | refine blk_alloc ?_ _)); exact BK793.out) Tryz.underlying49 rfl (by kernel_rfl)) rfl ?_
                          exact ⟨by first | rfl | (simp [errW_none, errW_some] <;> rfl) | (simp [*, errW_none, errW_some] <;> rfl), by repeat (first | (with_reducible first | exact HB.out | apply below_alloc | apply pw_below_drewN | apply below_drew1 | refine below_set ?_ GE793.out) | exact HB.out)⟩
                        · replace c41 := Bool.eq_false_iff.mpr c41
                          subst c41
                          have H1 : (qanatref02_WordPos.l0 k4 a0 a1 t797 t800 (wrap64 (x9_2 + 1))) = some (r1, r2) := by rw [if_neg (show ¬ (false = true) by decide)] at H; exact H
                          clear H
                          have H := H1
                          clear H1
                          have H' := Aside0.mk H
                          clear H
                          obtain ⟨Ao44, co44, eo44⟩ := Kd.R_slice HO_7.out
                          subst eo44
                          go_wp2
                          repeat (go_quiet (fail); try go_wp2)
                          go_roundg k4
                          case measure => have := HJ3.out; have := HK2.out; have := HJ16.out; have := HK4.out; omega
                          case rel => exact ⟨(wrap64 (x9_2 + 1)), (x794000_2), (x794001_2), (by first | rfl | (simp; done) | (simp [*]; done)), H', ⟨by have := HJ3.out; have := HK2.out; have := HJ16.out; have := HK4.out; omega⟩, ⟨by (with_reducible repeat (first | apply Kd.R_alloc | apply Kd.R_drewN | apply Kd.R_drew)); exact HO_7.out⟩, ⟨by (with_reducible repeat (first | apply Kd.R_alloc | apply Kd.R_drewN | apply Kd.R_drew)); exact HO_8.out⟩, ⟨by (with_reducible repeat (first | refine blk_drewN ?_ _ | refine blk_drew ?_ | refine blk_alloc ?_ _)); exact BK793.out⟩, ⟨by repeat (first | (with_reducible first | exact HB.out | apply below_alloc | apply pw_below_drewN | apply below_drew1 | refine below_set ?_ GE793.out) | exact HB.out)⟩⟩
                · replace c25 := Bool.eq_false_iff.mpr c25
                  subst c25
                  have H1 : (some (0, 0)) = some (r1, r2) := by rw [if_neg (show ¬ (false = true) by decide)] at H; exact H
                  clear H
                  have H := H1
                  clear H1
                  simp only [Option.some.injEq, Prod.mk.injEq] at H
                  obtain ⟨rfl, rfl⟩ := H
                  have hcz45_0 : wc.cell? ⟨gb793, 0, none⟩ = some (.int .i64 x794000_2) := (blk_cell BK793.out 0).trans rfl
                  have hcz45_1 : wc.cell? ⟨gb793, 1, none⟩ = some (.int .i64 x794001_2) := (blk_cell BK793.out 1).trans rfl
                  have hfz45_0 := blk_frozen BK793.out 0
                  have hfz45_1 := blk_frozen BK793.out 1
                  go_wp2
                  repeat (go_quiet (fail); try go_wp2)
                  refine bodyPost_ret (results_cell_row rfl _ _ gb793 49 #[.int .i64 0, .int .i64 0] (0, 0) _ rfl (by (with_reducible repeat (first | refine blk_drewN ?_ _ | refine blk_drew ?_ | refine blk_alloc ?_ _)); refine blk_put (cs := #[.int .i64 0, .int .i64 x794001_2]) ?_ 1 _ rfl; (with_reducible repeat (first | refine blk_drewN ?_ _ | refine blk_drew ?_ | refine blk_alloc ?_ _)); refine blk_put (cs := #[.int .i64 x794000_2, .int .i64 x794001_2]) ?_ 0 _ rfl; (with_reducible repeat (first | refine blk_drewN ?_ _ | refine blk_drew ?_ | refine blk_alloc ?_ _)); exact BK793.out) Tryz.underlying49 rfl (by kernel_rfl)) rfl ?_
                  exact ⟨by first | rfl | (simp [errW_none, errW_some] <;> rfl) | (simp [*, errW_none, errW_some] <;> rfl), by repeat (first | (with_reducible first | exact HB.out | apply below_alloc | apply pw_below_drewN | apply below_drew1 | refine below_set ?_ GE793.out) | exact HB.out)⟩

end Go.Proofs.YtlekfhnlhdmekaaGreatDoor.T

/- A slice of bytes that the call itself made, known by its cells (what a conversion of a string made, too), and append onto it. -/
namespace Go.Proofs.YtlekfhnlhdmekaaGreatDoor.T
set_option linter.unusedSimpArgs false
set_option linter.unusedVariables false
open Go.RowKit Go.Proofs.YtlekfhnlhdmekaaGreatDoorW.PrintWords Go.Proofs.YtlekfhnlhdmekaaGreatDoorW.PrintLast Go.Proofs.YtlekfhnlhdmekaaGreatDoorW.PrintMore

/-- v is a slice of the bytes xs in a block from base on all of whose cells up to the capacity can be written; or nil. -/
def OwnM (base : Nat) (v : Value) (xs : List Int) (W : World) : Prop :=
  (v = .slice none 0 0 ∧ xs = []) ∨ ∃ g cap, v = .slice (some ⟨g, 0, none⟩) xs.length cap ∧ base ≤ g ∧ g < W.heap.size ∧ xs.length ≤ cap ∧ cap ≤ 9223372036854775807 ∧
    (∀ j, j < xs.length → W.cell? ⟨g, j, none⟩ = some (.int .u8 (xs.getD j 0))) ∧ ∀ j, j < cap → (W.cell? ⟨g, j, none⟩).isSome = true ∧ W.frozen? ⟨g, j, none⟩ = false
theorem OwnM.nil (base : Nat) (W : World) : OwnM base (.slice none 0 0) [] W := .inl ⟨rfl, rfl⟩
theorem OwnM.slice {base : Nat} {v : Value} {xs : List Int} {W : World} (h : OwnM base v xs W) : ∃ A c, v = .slice A xs.length c ∧ xs.length ≤ c := by
  rcases h with ⟨rfl, rfl⟩ | ⟨g, cap, rfl, _, _, h, _⟩
  · exact ⟨_, _, rfl, Nat.le_refl _⟩
  · exact ⟨_, _, rfl, h⟩
theorem OwnM.C {base : Nat} {A : Option Addr} {c : Nat} {xs : List Int} {W : World} (h : OwnM base (.slice A xs.length c) xs W) : Kd.C (Kd.int .u8) W A xs.length xs := by
  refine Kd.C_of_reads (d := (0 : Int)) (h1 := fun _ => rfl) ?_
  rcases h with ⟨h1, rfl⟩ | ⟨g, cap, h1, _, _, h2, h3, h4, _⟩
  · simp at h1
    obtain ⟨rfl, _⟩ := h1
    exact ⟨rfl, by decide, fun h => absurd h (by simp)⟩
  · simp at h1
    obtain ⟨rfl, rfl⟩ := h1
    exact ⟨rfl, by omega, fun _ => ⟨_, rfl, fun j hj => by rw [add_plain]; exact h4 j hj⟩⟩
theorem OwnM.mono {base base' : Nat} {v : Value} {xs : List Int} {W : World} (h : OwnM base v xs W) (hb : base' ≤ base) : OwnM base' v xs W :=
  h.imp id fun ⟨g, cap, h1, h2, h3⟩ => ⟨g, cap, h1, Nat.le_trans hb h2, h3⟩
theorem OwnM.below {base B : Nat} {v : Value} {xs : List Int} {W W' : World} (h : OwnM base v xs W) (hB : W.heap.size ≤ B) (hb : Below B W W') : OwnM base v xs W' := by
  rcases h with h | ⟨g, cap, h1, h2, h3, h4, h5, h6, h7⟩
  · exact .inl h
  · refine .inr ⟨g, cap, h1, h2, by have := hb.size; omega, h4, h5, fun j hj => ?_, fun j hj => ?_⟩
    · exact (hb.cell (p := ⟨g, j, none⟩) (by show g < B; omega)).trans (h6 j hj)
    · rw [hb.cell (p := ⟨g, j, none⟩) (by show g < B; omega), hb.frozen (p := ⟨g, j, none⟩) (by show g < B; omega)]
      exact h7 j hj
theorem OwnM.alloc {base : Nat} {v : Value} {xs : List Int} {W : World} (h : OwnM base v xs W) (o : Obj) : OwnM base v xs (W.alloc o) := h.below (Nat.le_refl _) (below_alloc (Below.refl _ _) o)
theorem OwnM.drewN {base : Nat} {v : Value} {xs : List Int} {W : World} (h : OwnM base v xs W) (n : Nat) : OwnM base v xs (W.drewN n) := h
theorem OwnM.conv {base : Nat} (W : World) (s : ByteArray) (hb : base ≤ W.heap.size) (hs : s.size ≤ 100000) : OwnM base (.slice (some ⟨W.heap.size, 0, none⟩) s.size (grownCap W s.size 0 5)) (bytesOf s) (Lib.bytesWorld W 5 s) := by
  have hB := Buf.new W s
  have hg : s.size ≤ grownCap W s.size 0 5 := grownCap_ge W s.size 0 5
  have hm : grownCap W s.size 0 5 ≤ maxLen := grownCap_le_maxLen W s.size 0 5 (by unfold maxLen; omega)
  unfold maxLen at hm
  have hz : (Lib.bytesCells W 5 s).size = grownCap W s.size 0 5 := by
    simp only [Lib.bytesCells, Array.size_append, Array.size_map, Array.size_replicate]
    have : s.data.size = s.size := rfl
    omega
  refine .inr ⟨W.heap.size, _, by rw [bytesOf_length], hb, by rw [Lib.bytesWorld_size]; omega, by rw [bytesOf_length]; exact hg, by omega, fun j hj => hB.cell j hj, fun j hj => ?_⟩
  have hn := Lib.bytesWorld_at_new W 5 s
  rw [hz] at hn
  constructor
  · simp only [World.cell?, hn]
    rw [Array.getElem?_eq_getElem (by rw [hz]; exact hj)]
    rfl
  · simp only [World.frozen?, hn]
    have : ¬ grownCap W s.size 0 5 ≤ j := by omega
    simp [this]
theorem below_setCells {B b : Nat} (hB : B ≤ b) : ∀ (vs : List Value) (o : Nat) (W W' : World), Below B W W' → Below B W (W'.setCells b o vs)
  | [], _, _, _, h => h
  | v :: vs, o, W, W', h => below_setCells hB vs (o + 1) W _ (h.setCell (p := ⟨b, o, none⟩) hB v)
theorem encs_u8_get (xs : List Int) (j : Nat) (hj : j < xs.length) : (xs.map (Value.int .u8))[j]? = some (.int .u8 (xs.getD j 0)) := by
  simp [List.getD_eq_getElem?_getD, List.getElem?_eq_getElem hj]
theorem getD_app (xs ys : List Int) (j : Nat) : (xs ++ ys).getD j 0 = if j < xs.length then xs.getD j 0 else ys.getD (j - xs.length) 0 := by
  simp only [List.getD_eq_getElem?_getD]
  by_cases h : j < xs.length
  · rw [if_pos h, List.getElem?_append_left h]
  · rw [if_neg h, List.getElem?_append_right (by omega)]

theorem run_append_M {P : Program} (W : World) (t tx ty e : TypeId) (i : TypeInfo) (ht : P.underlying t = some (.slice e)) (hi : P.info? e = some i) (hz : i.zero = some (.int .u8 0)) (h1 : i.size = 1) (h2 : i.bytes = 1)
    (base : Nat) (v : Value) (xs : List Int) (h : OwnM base v xs W) (x : Value) (news : List Int) (hs : Src P 1 tx x news.length (news.map (Value.int .u8)) W) (hl : xs.length + news.length ≤ 1000000000) (hb : base ≤ W.heap.size) :
    ∃ v' w', (Builtin.append_ #[t, tx] ty #[v, x]).run P W = .ok v' w' ∧ OwnM base v' (xs ++ news) w' ∧ Below base W w' := by
  have grow : ∀ (ao : Option Addr) (cap : Nat), v = .slice ao xs.length cap → cap < xs.length + news.length → (Builtin.firstCells 1 xs.length (.slice ao xs.length cap)).run P W.drew = .ok (xs.map (Value.int .u8)).toArray W.drew →
      ∃ v' w', (Builtin.append_ #[t, tx] ty #[v, x]).run P W = .ok v' w' ∧ OwnM base v' (xs ++ news) w' ∧ Below base W w' := by
    intro ao cap hv hg hold
    have hge := grownCap_ge W (xs.length + news.length) cap e
    have hcm := grownCap_le_maxLen W (xs.length + news.length) cap e (by unfold maxLen; omega)
    unfold maxLen at hcm
    have hr := run_append_grow_src (P := P) W t tx ty e i (.int .u8 0) ht hi hz ao xs.length cap (xs.map (Value.int .u8)) (by rw [h1]; exact hold) x news.length (news.map (Value.int .u8)) (by rw [h1]; exact hs) hg (by omega) (by rw [h2]; exact growslice_fits hg (by omega))
    rw [hv]
    have hsz : (((xs.map (Value.int .u8)) ++ (news.map (Value.int .u8))).toArray ++ Builtin.zeroCells (Value.int .u8 0).cells (grownCap W (xs.length + news.length) cap e - (xs.length + news.length))).size = grownCap W (xs.length + news.length) cap e := by
      have hz1 : (Value.int IntKind.u8 0).cells.size = 1 := rfl
      simp only [Array.size_append, List.size_toArray, size_zeroCells, hz1, List.length_append, List.length_map]
      omega
    have hn := heap_alloc_new W.drew (.cells (((xs.map (Value.int .u8)) ++ (news.map (Value.int .u8))).toArray ++ Builtin.zeroCells (Value.int .u8 0).cells (grownCap W (xs.length + news.length) cap e - (xs.length + news.length))) e)
    refine ⟨_, _, hr, .inr ⟨W.heap.size, _, by rw [List.length_append], hb, ?_, by rw [List.length_append]; omega, by omega, fun j hj => ?_, fun j hj => ?_⟩, (below_drew (Below.refl base W)).alloc hb _⟩
    · rw [World.size_alloc]; exact Nat.lt_succ_self _
    · rw [List.length_append] at hj
      have hn' : (W.drew.alloc (.cells (((xs.map (Value.int .u8)) ++ (news.map (Value.int .u8))).toArray ++ Builtin.zeroCells (Value.int .u8 0).cells (grownCap W (xs.length + news.length) cap e - (xs.length + news.length))) e)).heap[W.heap.size]? = _ := hn
      simp only [World.cell?, hn']
      rw [Array.getElem?_append_left (by simp; omega), List.getElem?_toArray, ← List.map_append, encs_u8_get _ j (by rw [List.length_append]; exact hj)]
      rfl
    · have hn' : (W.drew.alloc (.cells (((xs.map (Value.int .u8)) ++ (news.map (Value.int .u8))).toArray ++ Builtin.zeroCells (Value.int .u8 0).cells (grownCap W (xs.length + news.length) cap e - (xs.length + news.length))) e)).heap[W.heap.size]? = _ := hn
      constructor
      · simp only [World.cell?, hn']
        rw [Array.getElem?_eq_getElem (by rw [hsz]; exact hj)]
        rfl
      · simp only [World.frozen?, hn']
        simp
  rcases h with ⟨rfl, rfl⟩ | ⟨g, cap, rfl, h3, h4, h5, h6, h7, h8⟩
  · by_cases h0 : news.length = 0
    · obtain rfl := List.length_eq_zero_iff.1 h0
      refine ⟨.slice none 0 0, W, ?_, .inl ⟨rfl, rfl⟩, Below.refl _ _⟩
      have hc := hs.cells
      have hl := hs.len
      simp only [List.length_nil, List.map_nil] at hc hl
      rcases hs.kind with ⟨e', hk⟩ | hk <;> simp [Builtin.append_, run_underlying ht, run_underlying hk, sizeOf, typeInfo, hi, h1, hl, hc]
    · exact grow none 0 rfl (by simp; omega) (by simpa using run_firstCells_none W.drew 1 0 0 0)
  · by_cases hroom : xs.length + news.length ≤ cap
    · have hr := run_append_room_src (P := P) W t tx ty e i ht hi g 0 xs.length cap x news.length (news.map (Value.int .u8)) (by rw [h1]; exact hs) hroom
        (fun j hj => by rw [h1]; exact (h8 _ (by simp at hj; omega)).1) (fun j hj => by rw [h1]; exact (h8 _ (by simp at hj; omega)).2)
      rw [h1] at hr
      simp only [Nat.zero_add, Nat.mul_one] at hr
      refine ⟨_, _, hr, .inr ⟨g, cap, by rw [List.length_append], h3, ?_, by rw [List.length_append]; exact hroom, h6, fun j hj => ?_, fun j hj => ?_⟩, below_setCells h3 _ _ _ _ (Below.refl _ _)⟩
      · exact Nat.lt_of_lt_of_le h4 (below_setCells (B := base) h3 (news.map (Value.int .u8)) xs.length W W (Below.refl _ _)).size
      · rw [List.length_append] at hj
        rw [getD_app]
        by_cases hjx : j < xs.length
        · rw [if_pos hjx, World.cell?_setCells_out g _ _ _ _ (fun _ _ => .inl hjx)]
          exact h7 j hjx
        · rw [if_neg hjx]
          have := World.cell?_setCells_in g (news.map (Value.int .u8)) xs.length W (fun j' hj' => (h8 _ (by simp at hj'; omega)).1) (j - xs.length) (by simp; omega)
          rw [show xs.length + (j - xs.length) = j by omega] at this
          rw [this]
          simp [List.getD_eq_getElem?_getD, List.getElem?_eq_getElem (show j - xs.length < news.length by omega)]
      · rw [World.frozen?_setCells]
        exact ⟨World.isSome_setCells g _ _ _ _ (h8 j hj).1, (h8 j hj).2⟩
    · refine grow (some ⟨g, 0, none⟩) cap rfl (by omega) ?_
      refine run_firstCells_some W.drew 1 xs.length ⟨g, 0, none⟩ xs.length cap (xs.map (Value.int .u8)) (by simp) (fun j u hu => ?_)
      have hj : j < xs.length := by have := (List.getElem?_eq_some_iff.1 hu).1; simpa using this
      rw [encs_u8_get xs j hj] at hu
      cases hu
      rw [add_plain]
      exact h7 j hj

/-- append onto such a slice, for the walk. -/
theorem wpList_append_M {P : Program} {w0 W : World} {ops : Array Oper} {rest : List Oper} {o : Oper} {a : Act} {Q : Exit → Act → World → Prop} (hgd : o.guard = none) (sl x : Operand) (t tx e : TypeId)
    (ho : o.op = .call { callee := .builtin .append, args := #[sl, x], argTypes := #[t, tx] })
    (ht : P.underlying t = some (.slice e)) (hinfo : (P.info? e).map (fun i => (i.zero, i.size, i.bytes)) = some (some (.int .u8 0), 1, 1))
    (base : Nat) (v : Value) (xs : List Int) (hs : a.eval sl = v) (h : OwnM base v xs W) (xv : Value) (hx : a.eval x = xv) (news : List Int) (hsrc : Src P 1 tx xv news.length (news.map (Value.int .u8)) W)
    (hl : xs.length + news.length ≤ 1000000000) (hb : base ≤ W.heap.size) (HB : Below base w0 W)
    (hK : ∀ v' w', OwnM base v' (xs ++ news) w' → Below base w0 w' → wpList P ops Q rest (a.put o.dst v') w') : wpList P ops Q (o :: rest) a W := by
  refine wpList_plain hgd fun K hK' => ?_
  obtain ⟨i, hi, hz, h1, h2⟩ := info_parts hinfo
  obtain ⟨v', w', hr, ho', hb'⟩ := run_append_M (P := P) W t tx o.type e i ht hi hz h1 h2 base v xs h xv news hsrc hl hb
  unfold Oper.wp execOp
  simp only [ho, resolve, invoke, builtin, Sem.run_bind, Sem.run_pure, Result.andThen_ok, List.map_toArray, List.map_cons, List.map_nil, hs, hx, hr]
  exact hK' _ _ (hK v' w' ho' (HB.trans hb'))
theorem src_bytes {P : Program} {tx : TypeId} (W : World) (hk : P.underlying tx = some .string) (s : ByteArray) : Src P 1 tx (.string s) (bytesOf s).length ((bytesOf s).map (Value.int .u8)) W := by
  have h := Src.ofString (P := P) W hk s
  have e : Go.byteCells s = (bytesOf s).map (Value.int .u8) := by simp [Go.byteCells, bytesOf, Function.comp_def]
  rw [e, ← bytesOf_length] at h
  exact h
theorem src_own {P : Program} {tx e : TypeId} {base : Nat} {v : Value} {xs : List Int} {W : World} (hk : P.underlying tx = some (.slice e)) (h : OwnM base v xs W) : Src P 1 tx v xs.length (xs.map (Value.int .u8)) W := by
  rcases h with ⟨rfl, rfl⟩ | ⟨g, cap, rfl, h3, h4, h5, h6, h7, h8⟩
  · exact Src.ofNil W hk 0
  · refine Src.ofSlice W hk _ _ _ _ (by simp) (fun j u hu => ?_) (fun u hu => ?_)
    · have hj : j < xs.length := by have := (List.getElem?_eq_some_iff.1 hu).1; simpa using this
      rw [encs_u8_get xs j hj] at hu
      cases hu
      rw [add_plain]
      exact h7 j hj
    · obtain ⟨z, _, rfl⟩ := List.mem_map.1 hu
      rfl
theorem src_one {P : Program} {tx e : TypeId} (W : World) (hk : P.underlying tx = some (.slice e)) (x : Int) (t : TypeId) : Src P 1 tx (.slice (some ⟨W.heap.size, 0, none⟩) 1 1) [x].length ([x].map (Value.int .u8)) (W.alloc (.cells #[.int .u8 x] t)) := by
  refine Src.ofSlice _ hk _ _ _ _ (by simp) (fun j u hu => ?_) (fun u hu => ?_)
  · have hj : j < 1 := by have := (List.getElem?_eq_some_iff.1 hu).1; simpa using this
    obtain rfl : j = 0 := by omega
    simp at hu
    subst hu
    rw [add_plain]
    exact (blk_cell (heap_alloc_new W _) 0).trans rfl
  · simp at hu; subst hu; rfl
end Go.Proofs.YtlekfhnlhdmekaaGreatDoor.T

/- The reference's pads and fit: what they make of a slice of bytes that the call itself made, and of a string. -/
namespace Go.Proofs.YtlekfhnlhdmekaaGreatDoor.T
set_option linter.unusedSimpArgs false
set_option linter.unusedVariables false
open Go.RowKit Go.Proofs.YtlekfhnlhdmekaaGreatDoorW.PrintWords Go.Proofs.YtlekfhnlhdmekaaGreatDoorW.PrintLast Go.Proofs.YtlekfhnlhdmekaaGreatDoorW.PrintMore
attribute [local go_sem] max2_int min2_int max_two min_two max_three min_three max_four min_four

theorem rep_snoc (xs : List Int) (k : Nat) (p : Int) : xs ++ List.replicate k p ++ [p] = xs ++ List.replicate (k + 1) p := by
  rw [List.append_assoc, List.replicate_succ']
set_option maxRecDepth 100000 in
set_option maxHeartbeats 1000000 in
theorem padsM (w0 w : World) (v : Value) (xs : List Int) (n p : Int) (hB : Below w0.heap.size w0 w) (ho : OwnM w0.heap.size v xs w) (hl : xs.length ≤ 100000) (hn : n ≤ 100000) :
    Calls Tryz.prog 130 #[v, .int .i64 n, .int .u8 p] w fun e w' => ∃ v' : Value, e = .returned v' ∧ OwnM w0.heap.size v' (xs ++ List.replicate n.toNat p) w' ∧ Below w0.heap.size w0 w' := by
  have HB := Aside0.mk hB
  have HO := Aside0.mk ho
  have HS0 := Aside0.mk hB.size
  clear hB ho
  go_enter Tryz.func130, Tryz.ntmps130
  go_wp2
  go_loopg [0, 7] n.toNat (fun gg s0 s7 wr => ∃ kk : Nat, n.toNat - kk ≤ gg ∧ kk ≤ n.toNat ∧ s7 = .int .i64 kk ∧ Aside0 (OwnM w0.heap.size s0 (xs ++ List.replicate kk p) wr) ∧ Aside0 (Below w0.heap.size w0 wr))
  case atStart => exact ⟨0, by omega, by omega, rfl, ⟨by simpa using HO.out⟩, HB⟩
  case round =>
    clear HB HO
    obtain ⟨kk, hg, hk, rfl, HO, HB⟩ := hrel
    by_cases hlt : (kk : Int) < n
    · have d1 : decide ((kk : Int) < n) = true := decide_eq_true hlt
      have hkk : (kk : Int) ≤ 100000 := by omega
      have hlen : (xs ++ List.replicate kk p).length ≤ 200000 := by rw [List.length_append, List.length_replicate]; omega
      have HLEN := Aside0.mk hlen
      clear hlen
      have HSNOC := Aside0.mk (rep_snoc xs kk p)
      generalize xs ++ List.replicate kk p = ys at HO HLEN HSNOC
      go_wp2_with (at_builtin; refine wpList_append_M (w0 := w0) rfl (.tmp 13) (.tmp 15) 83 83 5 rfl Tryz.underlying83 info5 w0.heap.size _ ys rfl (HO.out.alloc _) _ rfl [p] (src_one wr Tryz.underlying83 p 5) (by have := HLEN.out; simp; omega) (by have := HB.out.size; simp; omega) (below_alloc HB.out _) ?_; intro v1 w1 ho1 hb1; have HO1 := Aside0.mk ho1; have HB1 := Aside0.mk hb1; clear ho1 hb1)
      go_roundg (n.toNat - (kk + 1))
      case measure => omega
      case rel => exact ⟨kk + 1, by omega, by omega, by go_num, ⟨by rw [← HSNOC.out]; exact HO1.out⟩, HB1⟩
    · have d1 : decide ((kk : Int) < n) = false := decide_eq_false hlt
      obtain rfl : n.toNat = kk := by omega
      go_wp2
      go_ret
      exact ⟨_, rfl, HO.out, HB.out⟩

/-- A string fitted to a length, of which no more than 1001 bytes are made. -/
def fitL (s : ByteArray) (n p : Int) : List Int := if n ≤ s.size then (bytesOf s).take n.toNat else bytesOf s ++ List.replicate ((if n < 1001 then n else 1001) - s.size).toNat p
theorem fitL_length (s : ByteArray) (n p : Int) : (fitL s n p).length ≤ s.size + 1001 := by
  unfold fitL
  split
  · rw [List.length_take, bytesOf_length]; omega
  · rw [List.length_append, List.length_replicate, bytesOf_length]; split <;> omega
theorem bytesOf_extract (s : ByteArray) (i j : Nat) : bytesOf (s.extract i j) = ((bytesOf s).drop i).take (j - i) := by
  unfold bytesOf
  rw [ByteArray.data_extract, Array.toList_extract, List.extract_eq_take_drop, List.map_take, List.map_drop]
set_option maxRecDepth 100000 in
set_option maxHeartbeats 1000000 in
theorem fitM (s : ByteArray) (n p : Int) (w0 w : World) (hs : s.size ≤ 100000) (hn : 0 ≤ n) (hn2 : n ≤ 9223372036854775807) (hB : Below w0.heap.size w0 w) :
    Calls Tryz.prog 104 #[.string s, .int .i64 n, .int .u8 p] w fun e w' => ∃ v' : Value, e = .returned v' ∧ OwnM w0.heap.size v' (fitL s n p) w' ∧ Below w0.heap.size w0 w' := by
  obtain ⟨m, rfl⟩ := Int.eq_ofNat_of_zero_le hn
  have HB := Aside0.mk hB
  clear hB hn
  by_cases h : (m : Int) ≤ s.size
  · have hm : m ≤ s.size := by omega
    have d1 : decide (m ≤ s.size) = true := decide_eq_true hm
    have HR : Aside0 (fitL s m p = bytesOf (s.extract 0 m)) := ⟨by unfold fitL; rw [if_pos h, bytesOf_extract]; simp⟩
    have hz : (s.extract 0 m).size = m := by rw [ByteArray.size_extract]; omega
    have kb := print_bytes (P := Tryz.prog) 9 83 5 Tryz.underlying9 Tryz.underlying83 Tryz.underlying5 (s.extract 0 m) w
    have HC := Aside0.mk (OwnM.conv (base := w0.heap.size) w (s.extract 0 m) HB.out.size (by rw [hz]; omega))
    have HBC := Aside0.mk (bytes_below HB.out HB.out.size 5 (s.extract 0 m))
    rw [hz] at kb HC
    clear h hz
    go_enter Tryz.func104, Tryz.ntmps104
    go_wp2
    go_ret
    exact ⟨_, rfl, by rw [HR.out]; exact HC.out, HBC.out⟩
  · have hm : ¬ m ≤ s.size := by omega
    have d1 : decide (m ≤ s.size) = false := decide_eq_false hm
    obtain ⟨d, hd⟩ : ∃ d : Int, (if (m : Int) < 1001 then (m : Int) else 1001) - (s.size : Int) = d := ⟨_, rfl⟩
    have hd2 : d ≤ 100000 := by rw [← hd]; split <;> omega
    have HR : Aside0 (fitL s m p = bytesOf s ++ List.replicate d.toNat p) := ⟨by unfold fitL; rw [if_neg h, hd]⟩
    have kb := print_bytes (P := Tryz.prog) 9 83 5 Tryz.underlying9 Tryz.underlying83 Tryz.underlying5 s w
    have HBC := Aside0.mk (bytes_below HB.out HB.out.size 5 s)
    have HP := Lib.hid (padsM w0 (Lib.bytesWorld w 5 s) (.slice (some ⟨w.heap.size, 0, none⟩) s.size (grownCap w s.size 0 5)) (bytesOf s) d p HBC.out (OwnM.conv w s HB.out.size hs) (by rw [bytesOf_length]; exact hs) hd2)
    clear HBC
    by_cases hc : 1001 < m
    · rw [if_neg (by omega)] at hd
      have d2 : decide (1001 < m) = true := decide_eq_true hc
      have hd3 : IntKind.i64.wrap ((1001 : Int) - (s.size : Int)) = d := by rw [i64_w]; unfold wrap64; omega
      clear hd
      go_enter Tryz.func104, Tryz.ntmps104
      go_wp2_with (go_at_call 130; with_reducible refine HP.out.mono ?_; rintro e w1 ⟨v1, rfl, ho1, hb1⟩; have HO1 := Aside0.mk ho1; have HB1 := Aside0.mk hb1; clear ho1 hb1)
      go_ret
      exact ⟨_, rfl, by rw [HR.out]; exact HO1.out, HB1.out⟩
    · have hd' : (m : Int) - (s.size : Int) = d := by rw [← hd]; split <;> omega
      have d2 : decide (1001 < m) = false := decide_eq_false hc
      have hd3 : IntKind.i64.wrap ((m : Int) - (s.size : Int)) = d := by rw [i64_w]; unfold wrap64; omega
      clear hd hd'
      go_enter Tryz.func104, Tryz.ntmps104
      go_wp2_with (go_at_call 130; with_reducible refine HP.out.mono ?_; rintro e w1 ⟨v1, rfl, ho1, hb1⟩; have HO1 := Aside0.mk ho1; have HB1 := Aside0.mk hb1; clear ho1 hb1)
      go_ret
      exact ⟨_, rfl, by rw [HR.out]; exact HO1.out, HB1.out⟩
end Go.Proofs.YtlekfhnlhdmekaaGreatDoor.T

/- The reference's Substr, Insert and Overlay return what qanatref02_Substr.f and so on say. -/
namespace Go.Proofs.YtlekfhnlhdmekaaGreatDoor.T
set_option linter.unusedSimpArgs false
set_option linter.unusedVariables false
open Go.RowKit Go.Proofs.YtlekfhnlhdmekaaGreatDoorW.PrintWords Go.Proofs.YtlekfhnlhdmekaaGreatDoorW.PrintLast Go.Proofs.YtlekfhnlhdmekaaGreatDoorW.PrintMore
attribute [local go_sem] max2_int min2_int max_two min_two max_three min_three max_four min_four

theorem wh_no (n lo : Int) (W : World) : Calls Tryz.prog 102 #[.int .i64 n, .int .i64 lo, .bool false] W fun e w' => e = .returned (.bool (decide (lo ≤ n))) ∧ Drawn0 W w' :=
  qanatref02_whole.calls n lo false _ W (by
    unfold qanatref02_whole.f
    by_cases h : lo ≤ n
    · rw [if_pos (by omega)]; simp [h]
    · rw [if_neg (by omega)]; simp [h])
theorem wh_yes (n : Int) (W : World) : Calls Tryz.prog 102 #[.int .i64 n, .int .i64 0, .bool true] W fun e w' => e = .returned (.bool (decide (-1 ≤ n))) ∧ Drawn0 W w' :=
  qanatref02_whole.calls n 0 true _ W (by
    unfold qanatref02_whole.f
    by_cases h : 0 ≤ n
    · rw [if_pos (by omega)]; simp; omega
    · rw [if_neg (by omega), if_pos rfl]
      by_cases e : n = -1
      · subst e; rfl
      · rw [show (n == -1) = false from beq_eq_false_iff_ne.mpr e, show decide (-1 ≤ n) = false from decide_eq_false (by omega)])
theorem out_M (W : World) (A : Option Addr) (c : Nat) (l : List Int) (r1 : ByteArray) (r2 : Int) (base : Nat) (ho : OwnM base (.slice A l.length c) l W) (h : qanatref02_out.f l = some (r1, r2)) :
    Calls Tryz.prog 90 #[.slice A l.length c] W fun e w' => e = .returned (.agg #[.string r1, .int .i64 r2]) ∧ Below W.heap.size W w' :=
  qanatref02_out.calls A c l r1 r2 W ho.C (by obtain ⟨A', c', h1, h2⟩ := ho.slice; cases h1; exact h2) h
theorem vld_size' {s : ByteArray} (h : vld s = true) : s.size ≤ 1000 := by
  simp [vld] at h; exact h.1
/-! What is known where the result's block is the first that the call made. -/
theorem res_block {w W : World} {o : Obj} (h : Below (w.heap.size + 1) (w.alloc o) W) : W.heap[w.heap.size]? = some o := (h.block _ (Nat.lt_succ_self _)).trans (heap_alloc_new w o)
theorem res_below {w W : World} {o : Obj} (h : Below (w.heap.size + 1) (w.alloc o) W) : Below w.heap.size w W := (below_alloc (Below.refl _ _) o).trans (h.mono (Nat.le_succ _))
theorem res_size {w W : World} {o : Obj} (h : Below (w.heap.size + 1) (w.alloc o) W) : w.heap.size + 1 ≤ W.heap.size := by have := h.size; rwa [World.size_alloc] at this
theorem res_step {w W W' : World} {o : Obj} (h : Below (w.heap.size + 1) (w.alloc o) W) (hb : Below W.heap.size W W') : Below (w.heap.size + 1) (w.alloc o) W' := h.trans (hb.mono (res_size h))

def qanatref02_Substr.f (a0 : ByteArray) (a1 a2 a3 : Int) : Option (ByteArray × Int) :=
  if a0.size ≤ 2000 ∧ a1 ≤ 9223372036854775807 ∧ a2 ≤ 9223372036854775807 then
    (if (vld a0 && decide (1 ≤ a1) && decide (-1 ≤ a2) && goodI a3) = true then
      (if a2 = -1 then some (if a1 ≤ a0.size then a0.extract (a1 - 1).toNat a0.size else ⟨#[]⟩, 0) else qanatref02_out.f (fitL (if a1 ≤ a0.size then a0.extract (a1 - 1).toNat a0.size else ⟨#[]⟩) a2 a3))
    else some (⟨#[]⟩, 1))
  else none
set_option maxRecDepth 100000 in
set_option maxHeartbeats 8000000 in
theorem qanatref02_Substr.calls (a0 : ByteArray) (a1 a2 a3 : Int) (r1 : ByteArray) (r2 : Int) (w : World) (h : qanatref02_Substr.f a0 a1 a2 a3 = some (r1, r2)) :
    Calls Tryz.prog 53 #[.string a0, .int .i64 a1, .int .i64 a2, .int .u8 a3] w fun e w' => e = .returned (.agg #[.string r1, .int .i64 r2]) ∧ Below w.heap.size w w' := by
  have hu29 := Tryz.underlying29
  unfold qanatref02_Substr.f at h
  by_cases hb : a0.size ≤ 2000 ∧ a1 ≤ 9223372036854775807 ∧ a2 ≤ 9223372036854775807
  · rw [if_pos hb] at h
    obtain ⟨hz0, hz1, hz2⟩ := hb
    have hC0 := fun W => qanatref02_Valid.calls a0 (vld a0) W rfl
    have hC1 := fun W => wh_no a1 1 W
    have hC2 := fun W => wh_yes a2 W
    have hC3 := fun W => qanatref02_Pad.calls a3 (goodI a3) W rfl
    have hF0 := @vld_size' a0
    have hF1 := of_decide_eq_true (p := 1 ≤ a1)
    have hF2 := of_decide_eq_true (p := -1 ≤ a2)
    have hF3 : goodI a3 = true → True := fun _ => trivial
    generalize vld a0 = b0 at hC0 hF0 h
    generalize decide (1 ≤ a1) = b1 at hC1 hF1 h
    generalize decide (-1 ≤ a2) = b2 at hC2 hF2 h
    generalize goodI a3 = b3 at hC3 hF3 h
    have HC0 := Lib.hid hC0
    have HC1 := Lib.hid hC1
    have HC2 := Lib.hid hC2
    have HC3 := Lib.hid hC3
    clear hC0 hC1 hC2 hC3
    cases b0 with
    | false =>
      obtain ⟨rfl, rfl⟩ : (⟨#[]⟩ : ByteArray) = r1 ∧ 1 = r2 := by simpa using h
      clear h hF0 hF1 hF2 hF3
      go_enter Tryz.func53, Tryz.ntmps53
      go_wp2_with (first | (go_at_call 89; with_reducible refine (HC0.out _).mono ?_; rintro e v0 ⟨rfl, ⟨⟨d0, rfl⟩⟩⟩) | (go_at_call 102; with_reducible refine (HC1.out _).mono ?_; rintro e v1 ⟨rfl, ⟨⟨d1, rfl⟩⟩⟩) | (go_at_call 102; with_reducible refine (HC2.out _).mono ?_; rintro e v2 ⟨rfl, ⟨⟨d2, rfl⟩⟩⟩) | (go_at_call 98; with_reducible refine (HC3.out _).mono ?_; rintro e v3 ⟨rfl, ⟨⟨d3, rfl⟩⟩⟩))
      refine bodyPost_ret (results_cell_row rfl _ _ w.heap.size 29 #[.string ⟨#[]⟩, .int .i64 1] (0, 0) _ rfl (blk_put (cs := #[.string ⟨#[]⟩, .int .i64 0]) (blk_put (cs := #[.string ⟨#[]⟩, .int .i64 0]) (res_block (o := (.cells #[.string ⟨#[]⟩, .int .i64 0] 29)) (by repeat (first | exact Below.refl _ _ | apply pw_below_drewN))) 0 _ rfl) 1 _ rfl) Tryz.underlying29 rfl (by kernel_rfl)) rfl ?_
      exact ⟨rfl, below_set (below_set (res_below (o := (.cells #[.string ⟨#[]⟩, .int .i64 0] 29)) (by repeat (first | exact Below.refl _ _ | apply pw_below_drewN))) (Nat.le_refl _)) (Nat.le_refl _)⟩
    | true =>
    cases b1 with
    | false =>
      obtain ⟨rfl, rfl⟩ : (⟨#[]⟩ : ByteArray) = r1 ∧ 1 = r2 := by simpa using h
      clear h hF0 hF1 hF2 hF3
      go_enter Tryz.func53, Tryz.ntmps53
      go_wp2_with (first | (go_at_call 89; with_reducible refine (HC0.out _).mono ?_; rintro e v0 ⟨rfl, ⟨⟨d0, rfl⟩⟩⟩) | (go_at_call 102; with_reducible refine (HC1.out _).mono ?_; rintro e v1 ⟨rfl, ⟨⟨d1, rfl⟩⟩⟩) | (go_at_call 102; with_reducible refine (HC2.out _).mono ?_; rintro e v2 ⟨rfl, ⟨⟨d2, rfl⟩⟩⟩) | (go_at_call 98; with_reducible refine (HC3.out _).mono ?_; rintro e v3 ⟨rfl, ⟨⟨d3, rfl⟩⟩⟩))
      refine bodyPost_ret (results_cell_row rfl _ _ w.heap.size 29 #[.string ⟨#[]⟩, .int .i64 1] (0, 0) _ rfl (blk_put (cs := #[.string ⟨#[]⟩, .int .i64 0]) (blk_put (cs := #[.string ⟨#[]⟩, .int .i64 0]) (res_block (o := (.cells #[.string ⟨#[]⟩, .int .i64 0] 29)) (by repeat (first | exact Below.refl _ _ | apply pw_below_drewN))) 0 _ rfl) 1 _ rfl) Tryz.underlying29 rfl (by kernel_rfl)) rfl ?_
      exact ⟨rfl, below_set (below_set (res_below (o := (.cells #[.string ⟨#[]⟩, .int .i64 0] 29)) (by repeat (first | exact Below.refl _ _ | apply pw_below_drewN))) (Nat.le_refl _)) (Nat.le_refl _)⟩
    | true =>
    cases b2 with
    | false =>
      obtain ⟨rfl, rfl⟩ : (⟨#[]⟩ : ByteArray) = r1 ∧ 1 = r2 := by simpa using h
      clear h hF0 hF1 hF2 hF3
      go_enter Tryz.func53, Tryz.ntmps53
      go_wp2_with (first | (go_at_call 89; with_reducible refine (HC0.out _).mono ?_; rintro e v0 ⟨rfl, ⟨⟨d0, rfl⟩⟩⟩) | (go_at_call 102; with_reducible refine (HC1.out _).mono ?_; rintro e v1 ⟨rfl, ⟨⟨d1, rfl⟩⟩⟩) | (go_at_call 102; with_reducible refine (HC2.out _).mono ?_; rintro e v2 ⟨rfl, ⟨⟨d2, rfl⟩⟩⟩) | (go_at_call 98; with_reducible refine (HC3.out _).mono ?_; rintro e v3 ⟨rfl, ⟨⟨d3, rfl⟩⟩⟩))
      refine bodyPost_ret (results_cell_row rfl _ _ w.heap.size 29 #[.string ⟨#[]⟩, .int .i64 1] (0, 0) _ rfl (blk_put (cs := #[.string ⟨#[]⟩, .int .i64 0]) (blk_put (cs := #[.string ⟨#[]⟩, .int .i64 0]) (res_block (o := (.cells #[.string ⟨#[]⟩, .int .i64 0] 29)) (by repeat (first | exact Below.refl _ _ | apply pw_below_drewN))) 0 _ rfl) 1 _ rfl) Tryz.underlying29 rfl (by kernel_rfl)) rfl ?_
      exact ⟨rfl, below_set (below_set (res_below (o := (.cells #[.string ⟨#[]⟩, .int .i64 0] 29)) (by repeat (first | exact Below.refl _ _ | apply pw_below_drewN))) (Nat.le_refl _)) (Nat.le_refl _)⟩
    | true =>
    cases b3 with
    | false =>
      obtain ⟨rfl, rfl⟩ : (⟨#[]⟩ : ByteArray) = r1 ∧ 1 = r2 := by simpa using h
      clear h hF0 hF1 hF2 hF3
      go_enter Tryz.func53, Tryz.ntmps53
      go_wp2_with (first | (go_at_call 89; with_reducible refine (HC0.out _).mono ?_; rintro e v0 ⟨rfl, ⟨⟨d0, rfl⟩⟩⟩) | (go_at_call 102; with_reducible refine (HC1.out _).mono ?_; rintro e v1 ⟨rfl, ⟨⟨d1, rfl⟩⟩⟩) | (go_at_call 102; with_reducible refine (HC2.out _).mono ?_; rintro e v2 ⟨rfl, ⟨⟨d2, rfl⟩⟩⟩) | (go_at_call 98; with_reducible refine (HC3.out _).mono ?_; rintro e v3 ⟨rfl, ⟨⟨d3, rfl⟩⟩⟩))
      refine bodyPost_ret (results_cell_row rfl _ _ w.heap.size 29 #[.string ⟨#[]⟩, .int .i64 1] (0, 0) _ rfl (blk_put (cs := #[.string ⟨#[]⟩, .int .i64 0]) (blk_put (cs := #[.string ⟨#[]⟩, .int .i64 0]) (res_block (o := (.cells #[.string ⟨#[]⟩, .int .i64 0] 29)) (by repeat (first | exact Below.refl _ _ | apply pw_below_drewN))) 0 _ rfl) 1 _ rfl) Tryz.underlying29 rfl (by kernel_rfl)) rfl ?_
      exact ⟨rfl, below_set (below_set (res_below (o := (.cells #[.string ⟨#[]⟩, .int .i64 0] 29)) (by repeat (first | exact Below.refl _ _ | apply pw_below_drewN))) (Nat.le_refl _)) (Nat.le_refl _)⟩
    | true =>
      have hs0 := hF0 rfl
      have hs1 := hF1 rfl
      have hs2 := hF2 rfl
      clear hF0 hF1 hF2 hF3
      obtain ⟨m, hm⟩ : ∃ m : Nat, a1 = (m : Int) + 1 := ⟨(a1 - 1).toNat, by omega⟩
      have g1 : IntKind.i64.wrap (a1 - 1) = (m : Int) := (i64_w _).trans (by unfold wrap64; omega)
      have g2 : a1 - 1 = (m : Int) := by omega
      have g3 : (a1 - 1).toNat = m := by omega
      rw [g3] at h
      simp only [Bool.and_self, if_true] at h
      clear g3
      by_cases hl : a1 ≤ a0.size
      · rw [if_pos hl] at h
        have hl2 : (m : Int) ≤ a0.size := by omega
        have hrz : (a0.extract m a0.size).size ≤ 2000 := by rw [ByteArray.size_extract]; omega
        by_cases h2 : a2 = -1
        · rw [if_pos h2] at h
          subst h2
          obtain ⟨rfl, rfl⟩ : (a0.extract m a0.size) = r1 ∧ 0 = r2 := by simpa using h
          clear h hrz hm
          go_enter Tryz.func53, Tryz.ntmps53
          go_wp2_with (first | (go_at_call 89; with_reducible refine (HC0.out _).mono ?_; rintro e v0 ⟨rfl, ⟨⟨d0, rfl⟩⟩⟩) | (go_at_call 102; with_reducible refine (HC1.out _).mono ?_; rintro e v1 ⟨rfl, ⟨⟨d1, rfl⟩⟩⟩) | (go_at_call 102; with_reducible refine (HC2.out _).mono ?_; rintro e v2 ⟨rfl, ⟨⟨d2, rfl⟩⟩⟩) | (go_at_call 98; with_reducible refine (HC3.out _).mono ?_; rintro e v3 ⟨rfl, ⟨⟨d3, rfl⟩⟩⟩))
          refine bodyPost_ret (results_cell_row rfl _ _ w.heap.size 29 #[.string (a0.extract m a0.size), .int .i64 0] (0, 0) _ rfl (blk_put (cs := #[.string (a0.extract m a0.size), .int .i64 0]) (blk_put (cs := #[.string ⟨#[]⟩, .int .i64 0]) (res_block (o := (.cells #[.string ⟨#[]⟩, .int .i64 0] 29)) (by repeat (first | exact Below.refl _ _ | apply pw_below_drewN))) 0 _ rfl) 1 _ rfl) Tryz.underlying29 rfl (by kernel_rfl)) rfl ?_
          exact ⟨rfl, below_set (below_set (res_below (o := (.cells #[.string ⟨#[]⟩, .int .i64 0] 29)) (by repeat (first | exact Below.refl _ _ | apply pw_below_drewN))) (Nat.le_refl _)) (Nat.le_refl _)⟩
        · rw [if_neg h2] at h
          have e2 : (a2 == -1) = false := beq_eq_false_iff_ne.mpr h2
          have HX := Lib.hid (fun (W : World) => fitM (a0.extract m a0.size) a2 a3 W W (by omega) (by omega) (by omega) (Below.refl _ _))
          have HOUT := Lib.hid (fun (W : World) (A : Option Addr) (c : Nat) (ho : OwnM (w.heap.size + 1) (.slice A (fitL (a0.extract m a0.size) a2 a3).length c) (fitL (a0.extract m a0.size) a2 a3) W) => out_M W A c (fitL (a0.extract m a0.size) a2 a3) r1 r2 _ ho h)
          clear h hrz h2 hm
          generalize fitL (a0.extract m a0.size) a2 a3 = x at HX HOUT
          go_enter Tryz.func53, Tryz.ntmps53
          go_wp2_with (first | (go_at_call 89; with_reducible refine (HC0.out _).mono ?_; rintro e v0 ⟨rfl, ⟨⟨d0, rfl⟩⟩⟩) | (go_at_call 102; with_reducible refine (HC1.out _).mono ?_; rintro e v1 ⟨rfl, ⟨⟨d1, rfl⟩⟩⟩) | (go_at_call 102; with_reducible refine (HC2.out _).mono ?_; rintro e v2 ⟨rfl, ⟨⟨d2, rfl⟩⟩⟩) | (go_at_call 98; with_reducible refine (HC3.out _).mono ?_; rintro e v3 ⟨rfl, ⟨⟨d3, rfl⟩⟩⟩) | (go_at_call 104; with_reducible refine (HX.out _).mono ?_; rintro e w4 ⟨v4, rfl, ho4, hb4⟩; obtain ⟨A4, c4, rfl, hc4⟩ := ho4.slice; have HO4 := Aside0.mk ho4; have HS4 := Aside0.mk hb4; have HR4 := Aside0.mk (show Below (w.heap.size + 1) (w.alloc (.cells #[.string ⟨#[]⟩, .int .i64 0] 29)) w4 from res_step (by repeat (first | exact Below.refl _ _ | apply pw_below_drewN)) hb4); clear ho4 hb4) | (go_at_call 90; with_reducible refine (HOUT.out _ _ _ (HO4.out.mono (by simp))).mono ?_; rintro e w5 ⟨rfl, hb5⟩; have HR5 := Aside0.mk (res_step HR4.out hb5); clear hb5; have hk0 : w5.cell? ⟨w.heap.size, 0, none⟩ = some (.string ⟨#[]⟩) := (blk_cell (res_block HR5.out) 0).trans rfl; have hk1 : w5.cell? ⟨w.heap.size, 1, none⟩ = some (.int .i64 0) := (blk_cell (res_block HR5.out) 1).trans rfl; have hf0 := blk_frozen (res_block HR5.out) 0; have hf1 := blk_frozen (res_block HR5.out) 1))
          refine bodyPost_ret (results_cell_row rfl _ _ w.heap.size 29 #[.string r1, .int .i64 r2] (0, 0) _ rfl (blk_put (cs := #[.string r1, .int .i64 0]) (blk_put (cs := #[.string ⟨#[]⟩, .int .i64 0]) (res_block (o := (.cells #[.string ⟨#[]⟩, .int .i64 0] 29)) HR5.out) 0 _ rfl) 1 _ rfl) Tryz.underlying29 rfl (by kernel_rfl)) rfl ?_
          exact ⟨rfl, below_set (below_set (res_below (o := (.cells #[.string ⟨#[]⟩, .int .i64 0] 29)) HR5.out) (Nat.le_refl _)) (Nat.le_refl _)⟩
      · rw [if_neg hl] at h
        have hrz : (⟨#[]⟩ : ByteArray).size ≤ 2000 := by decide
        by_cases h2 : a2 = -1
        · rw [if_pos h2] at h
          subst h2
          obtain ⟨rfl, rfl⟩ : (⟨#[]⟩ : ByteArray) = r1 ∧ 0 = r2 := by simpa using h
          clear h hrz hm
          go_enter Tryz.func53, Tryz.ntmps53
          go_wp2_with (first | (go_at_call 89; with_reducible refine (HC0.out _).mono ?_; rintro e v0 ⟨rfl, ⟨⟨d0, rfl⟩⟩⟩) | (go_at_call 102; with_reducible refine (HC1.out _).mono ?_; rintro e v1 ⟨rfl, ⟨⟨d1, rfl⟩⟩⟩) | (go_at_call 102; with_reducible refine (HC2.out _).mono ?_; rintro e v2 ⟨rfl, ⟨⟨d2, rfl⟩⟩⟩) | (go_at_call 98; with_reducible refine (HC3.out _).mono ?_; rintro e v3 ⟨rfl, ⟨⟨d3, rfl⟩⟩⟩))
          refine bodyPost_ret (results_cell_row rfl _ _ w.heap.size 29 #[.string (⟨#[]⟩ : ByteArray), .int .i64 0] (0, 0) _ rfl (blk_put (cs := #[.string (⟨#[]⟩ : ByteArray), .int .i64 0]) (blk_put (cs := #[.string ⟨#[]⟩, .int .i64 0]) (res_block (o := (.cells #[.string ⟨#[]⟩, .int .i64 0] 29)) (by repeat (first | exact Below.refl _ _ | apply pw_below_drewN))) 0 _ rfl) 1 _ rfl) Tryz.underlying29 rfl (by kernel_rfl)) rfl ?_
          exact ⟨rfl, below_set (below_set (res_below (o := (.cells #[.string ⟨#[]⟩, .int .i64 0] 29)) (by repeat (first | exact Below.refl _ _ | apply pw_below_drewN))) (Nat.le_refl _)) (Nat.le_refl _)⟩
        · rw [if_neg h2] at h
          have e2 : (a2 == -1) = false := beq_eq_false_iff_ne.mpr h2
          have HX := Lib.hid (fun (W : World) => fitM (⟨#[]⟩ : ByteArray) a2 a3 W W (by omega) (by omega) (by omega) (Below.refl _ _))
          have HOUT := Lib.hid (fun (W : World) (A : Option Addr) (c : Nat) (ho : OwnM (w.heap.size + 1) (.slice A (fitL (⟨#[]⟩ : ByteArray) a2 a3).length c) (fitL (⟨#[]⟩ : ByteArray) a2 a3) W) => out_M W A c (fitL (⟨#[]⟩ : ByteArray) a2 a3) r1 r2 _ ho h)
          clear h hrz h2 hm
          generalize fitL (⟨#[]⟩ : ByteArray) a2 a3 = x at HX HOUT
          go_enter Tryz.func53, Tryz.ntmps53
          go_wp2_with (first | (go_at_call 89; with_reducible refine (HC0.out _).mono ?_; rintro e v0 ⟨rfl, ⟨⟨d0, rfl⟩⟩⟩) | (go_at_call 102; with_reducible refine (HC1.out _).mono ?_; rintro e v1 ⟨rfl, ⟨⟨d1, rfl⟩⟩⟩) | (go_at_call 102; with_reducible refine (HC2.out _).mono ?_; rintro e v2 ⟨rfl, ⟨⟨d2, rfl⟩⟩⟩) | (go_at_call 98; with_reducible refine (HC3.out _).mono ?_; rintro e v3 ⟨rfl, ⟨⟨d3, rfl⟩⟩⟩) | (go_at_call 104; with_reducible refine (HX.out _).mono ?_; rintro e w4 ⟨v4, rfl, ho4, hb4⟩; obtain ⟨A4, c4, rfl, hc4⟩ := ho4.slice; have HO4 := Aside0.mk ho4; have HS4 := Aside0.mk hb4; have HR4 := Aside0.mk (show Below (w.heap.size + 1) (w.alloc (.cells #[.string ⟨#[]⟩, .int .i64 0] 29)) w4 from res_step (by repeat (first | exact Below.refl _ _ | apply pw_below_drewN)) hb4); clear ho4 hb4) | (go_at_call 90; with_reducible refine (HOUT.out _ _ _ (HO4.out.mono (by simp))).mono ?_; rintro e w5 ⟨rfl, hb5⟩; have HR5 := Aside0.mk (res_step HR4.out hb5); clear hb5; have hk0 : w5.cell? ⟨w.heap.size, 0, none⟩ = some (.string ⟨#[]⟩) := (blk_cell (res_block HR5.out) 0).trans rfl; have hk1 : w5.cell? ⟨w.heap.size, 1, none⟩ = some (.int .i64 0) := (blk_cell (res_block HR5.out) 1).trans rfl; have hf0 := blk_frozen (res_block HR5.out) 0; have hf1 := blk_frozen (res_block HR5.out) 1))
          refine bodyPost_ret (results_cell_row rfl _ _ w.heap.size 29 #[.string r1, .int .i64 r2] (0, 0) _ rfl (blk_put (cs := #[.string r1, .int .i64 0]) (blk_put (cs := #[.string ⟨#[]⟩, .int .i64 0]) (res_block (o := (.cells #[.string ⟨#[]⟩, .int .i64 0] 29)) HR5.out) 0 _ rfl) 1 _ rfl) Tryz.underlying29 rfl (by kernel_rfl)) rfl ?_
          exact ⟨rfl, below_set (below_set (res_below (o := (.cells #[.string ⟨#[]⟩, .int .i64 0] 29)) HR5.out) (Nat.le_refl _)) (Nat.le_refl _)⟩
  · rw [if_neg hb] at h
    cases h
/-- The list that the reference's Insert makes, the second length being L. -/
def insertL (a0 a1 : ByteArray) (a2 L a4 : Int) : List Int := fitL a1 (a2) a4 ++ fitL a0 L a4 ++ (if a2 < a1.size then (bytesOf a1).drop a2.toNat else [])
def qanatref02_Insert.f (a0 a1 : ByteArray) (a2 a3 a4 : Int) : Option (ByteArray × Int) :=
  if a0.size ≤ 2000 ∧ a1.size ≤ 2000 ∧ a2 ≤ 9223372036854775807 ∧ a3 ≤ 9223372036854775807 then
    (if (vld a0 && vld a1 && decide (0 ≤ a2) && decide (-1 ≤ a3) && goodI a4) = true then
      (if a2 > 1000 ∨ (if a3 = -1 then (a0.size : Int) else a3) > 1000 then some (⟨#[]⟩, 3) else qanatref02_out.f (insertL a0 a1 a2 (if a3 = -1 then (a0.size : Int) else a3) a4))
    else some (⟨#[]⟩, 1))
  else none
set_option maxRecDepth 100000 in
set_option maxHeartbeats 8000000 in
theorem qanatref02_Insert.calls (a0 a1 : ByteArray) (a2 a3 a4 : Int) (r1 : ByteArray) (r2 : Int) (w : World) (h : qanatref02_Insert.f a0 a1 a2 a3 a4 = some (r1, r2)) :
    Calls Tryz.prog 55 #[.string a0, .string a1, .int .i64 a2, .int .i64 a3, .int .u8 a4] w fun e w' => e = .returned (.agg #[.string r1, .int .i64 r2]) ∧ Below w.heap.size w w' := by
  have hu29 := Tryz.underlying29
  unfold qanatref02_Insert.f at h
  by_cases hb : a0.size ≤ 2000 ∧ a1.size ≤ 2000 ∧ a2 ≤ 9223372036854775807 ∧ a3 ≤ 9223372036854775807
  · rw [if_pos hb] at h
    obtain ⟨hz0, hz1, hz2, hz3⟩ := hb
    have hC0 := fun W => qanatref02_Valid.calls a0 (vld a0) W rfl
    have hC1 := fun W => qanatref02_Valid.calls a1 (vld a1) W rfl
    have hC2 := fun W => wh_no a2 0 W
    have hC3 := fun W => wh_yes a3 W
    have hC4 := fun W => qanatref02_Pad.calls a4 (goodI a4) W rfl
    have hF0 := @vld_size' a0
    have hF1 := @vld_size' a1
    have hF2 := of_decide_eq_true (p := 0 ≤ a2)
    have hF3 := of_decide_eq_true (p := -1 ≤ a3)
    have hF4 : goodI a4 = true → True := fun _ => trivial
    generalize vld a0 = b0 at hC0 hF0 h
    generalize vld a1 = b1 at hC1 hF1 h
    generalize decide (0 ≤ a2) = b2 at hC2 hF2 h
    generalize decide (-1 ≤ a3) = b3 at hC3 hF3 h
    generalize goodI a4 = b4 at hC4 hF4 h
    have HC0 := Lib.hid hC0
    have HC1 := Lib.hid hC1
    have HC2 := Lib.hid hC2
    have HC3 := Lib.hid hC3
    have HC4 := Lib.hid hC4
    clear hC0 hC1 hC2 hC3 hC4
    cases b0 with
    | false =>
      obtain ⟨rfl, rfl⟩ : (⟨#[]⟩ : ByteArray) = r1 ∧ 1 = r2 := by simpa using h
      clear h hF0 hF1 hF2 hF3 hF4
      go_enter Tryz.func55, Tryz.ntmps55
      go_wp2_with (first | (go_at_call 89; with_reducible refine (HC0.out _).mono ?_; rintro e v0 ⟨rfl, ⟨⟨d0, rfl⟩⟩⟩) | (go_at_call 89; with_reducible refine (HC1.out _).mono ?_; rintro e v1 ⟨rfl, ⟨⟨d1, rfl⟩⟩⟩) | (go_at_call 102; with_reducible refine (HC2.out _).mono ?_; rintro e v2 ⟨rfl, ⟨⟨d2, rfl⟩⟩⟩) | (go_at_call 102; with_reducible refine (HC3.out _).mono ?_; rintro e v3 ⟨rfl, ⟨⟨d3, rfl⟩⟩⟩) | (go_at_call 98; with_reducible refine (HC4.out _).mono ?_; rintro e v4 ⟨rfl, ⟨⟨d4, rfl⟩⟩⟩))
      refine bodyPost_ret (results_cell_row rfl _ _ w.heap.size 29 #[.string ⟨#[]⟩, .int .i64 1] (0, 0) _ rfl (blk_put (cs := #[.string ⟨#[]⟩, .int .i64 0]) (blk_put (cs := #[.string ⟨#[]⟩, .int .i64 0]) (res_block (o := (.cells #[.string ⟨#[]⟩, .int .i64 0] 29)) (by repeat (first | exact Below.refl _ _ | apply pw_below_drewN))) 0 _ rfl) 1 _ rfl) Tryz.underlying29 rfl (by kernel_rfl)) rfl ?_
      exact ⟨rfl, below_set (below_set (res_below (o := (.cells #[.string ⟨#[]⟩, .int .i64 0] 29)) (by repeat (first | exact Below.refl _ _ | apply pw_below_drewN))) (Nat.le_refl _)) (Nat.le_refl _)⟩
    | true =>
    cases b1 with
    | false =>
      obtain ⟨rfl, rfl⟩ : (⟨#[]⟩ : ByteArray) = r1 ∧ 1 = r2 := by simpa using h
      clear h hF0 hF1 hF2 hF3 hF4
      go_enter Tryz.func55, Tryz.ntmps55
      go_wp2_with (first | (go_at_call 89; with_reducible refine (HC0.out _).mono ?_; rintro e v0 ⟨rfl, ⟨⟨d0, rfl⟩⟩⟩) | (go_at_call 89; with_reducible refine (HC1.out _).mono ?_; rintro e v1 ⟨rfl, ⟨⟨d1, rfl⟩⟩⟩) | (go_at_call 102; with_reducible refine (HC2.out _).mono ?_; rintro e v2 ⟨rfl, ⟨⟨d2, rfl⟩⟩⟩) | (go_at_call 102; with_reducible refine (HC3.out _).mono ?_; rintro e v3 ⟨rfl, ⟨⟨d3, rfl⟩⟩⟩) | (go_at_call 98; with_reducible refine (HC4.out _).mono ?_; rintro e v4 ⟨rfl, ⟨⟨d4, rfl⟩⟩⟩))
      refine bodyPost_ret (results_cell_row rfl _ _ w.heap.size 29 #[.string ⟨#[]⟩, .int .i64 1] (0, 0) _ rfl (blk_put (cs := #[.string ⟨#[]⟩, .int .i64 0]) (blk_put (cs := #[.string ⟨#[]⟩, .int .i64 0]) (res_block (o := (.cells #[.string ⟨#[]⟩, .int .i64 0] 29)) (by repeat (first | exact Below.refl _ _ | apply pw_below_drewN))) 0 _ rfl) 1 _ rfl) Tryz.underlying29 rfl (by kernel_rfl)) rfl ?_
      exact ⟨rfl, below_set (below_set (res_below (o := (.cells #[.string ⟨#[]⟩, .int .i64 0] 29)) (by repeat (first | exact Below.refl _ _ | apply pw_below_drewN))) (Nat.le_refl _)) (Nat.le_refl _)⟩
    | true =>
    cases b2 with
    | false =>
      obtain ⟨rfl, rfl⟩ : (⟨#[]⟩ : ByteArray) = r1 ∧ 1 = r2 := by simpa using h
      clear h hF0 hF1 hF2 hF3 hF4
      go_enter Tryz.func55, Tryz.ntmps55
      go_wp2_with (first | (go_at_call 89; with_reducible refine (HC0.out _).mono ?_; rintro e v0 ⟨rfl, ⟨⟨d0, rfl⟩⟩⟩) | (go_at_call 89; with_reducible refine (HC1.out _).mono ?_; rintro e v1 ⟨rfl, ⟨⟨d1, rfl⟩⟩⟩) | (go_at_call 102; with_reducible refine (HC2.out _).mono ?_; rintro e v2 ⟨rfl, ⟨⟨d2, rfl⟩⟩⟩) | (go_at_call 102; with_reducible refine (HC3.out _).mono ?_; rintro e v3 ⟨rfl, ⟨⟨d3, rfl⟩⟩⟩) | (go_at_call 98; with_reducible refine (HC4.out _).mono ?_; rintro e v4 ⟨rfl, ⟨⟨d4, rfl⟩⟩⟩))
      refine bodyPost_ret (results_cell_row rfl _ _ w.heap.size 29 #[.string ⟨#[]⟩, .int .i64 1] (0, 0) _ rfl (blk_put (cs := #[.string ⟨#[]⟩, .int .i64 0]) (blk_put (cs := #[.string ⟨#[]⟩, .int .i64 0]) (res_block (o := (.cells #[.string ⟨#[]⟩, .int .i64 0] 29)) (by repeat (first | exact Below.refl _ _ | apply pw_below_drewN))) 0 _ rfl) 1 _ rfl) Tryz.underlying29 rfl (by kernel_rfl)) rfl ?_
      exact ⟨rfl, below_set (below_set (res_below (o := (.cells #[.string ⟨#[]⟩, .int .i64 0] 29)) (by repeat (first | exact Below.refl _ _ | apply pw_below_drewN))) (Nat.le_refl _)) (Nat.le_refl _)⟩
    | true =>
    cases b3 with
    | false =>
      obtain ⟨rfl, rfl⟩ : (⟨#[]⟩ : ByteArray) = r1 ∧ 1 = r2 := by simpa using h
      clear h hF0 hF1 hF2 hF3 hF4
      go_enter Tryz.func55, Tryz.ntmps55
      go_wp2_with (first | (go_at_call 89; with_reducible refine (HC0.out _).mono ?_; rintro e v0 ⟨rfl, ⟨⟨d0, rfl⟩⟩⟩) | (go_at_call 89; with_reducible refine (HC1.out _).mono ?_; rintro e v1 ⟨rfl, ⟨⟨d1, rfl⟩⟩⟩) | (go_at_call 102; with_reducible refine (HC2.out _).mono ?_; rintro e v2 ⟨rfl, ⟨⟨d2, rfl⟩⟩⟩) | (go_at_call 102; with_reducible refine (HC3.out _).mono ?_; rintro e v3 ⟨rfl, ⟨⟨d3, rfl⟩⟩⟩) | (go_at_call 98; with_reducible refine (HC4.out _).mono ?_; rintro e v4 ⟨rfl, ⟨⟨d4, rfl⟩⟩⟩))
      refine bodyPost_ret (results_cell_row rfl _ _ w.heap.size 29 #[.string ⟨#[]⟩, .int .i64 1] (0, 0) _ rfl (blk_put (cs := #[.string ⟨#[]⟩, .int .i64 0]) (blk_put (cs := #[.string ⟨#[]⟩, .int .i64 0]) (res_block (o := (.cells #[.string ⟨#[]⟩, .int .i64 0] 29)) (by repeat (first | exact Below.refl _ _ | apply pw_below_drewN))) 0 _ rfl) 1 _ rfl) Tryz.underlying29 rfl (by kernel_rfl)) rfl ?_
      exact ⟨rfl, below_set (below_set (res_below (o := (.cells #[.string ⟨#[]⟩, .int .i64 0] 29)) (by repeat (first | exact Below.refl _ _ | apply pw_below_drewN))) (Nat.le_refl _)) (Nat.le_refl _)⟩
    | true =>
    cases b4 with
    | false =>
      obtain ⟨rfl, rfl⟩ : (⟨#[]⟩ : ByteArray) = r1 ∧ 1 = r2 := by simpa using h
      clear h hF0 hF1 hF2 hF3 hF4
      go_enter Tryz.func55, Tryz.ntmps55
      go_wp2_with (first | (go_at_call 89; with_reducible refine (HC0.out _).mono ?_; rintro e v0 ⟨rfl, ⟨⟨d0, rfl⟩⟩⟩) | (go_at_call 89; with_reducible refine (HC1.out _).mono ?_; rintro e v1 ⟨rfl, ⟨⟨d1, rfl⟩⟩⟩) | (go_at_call 102; with_reducible refine (HC2.out _).mono ?_; rintro e v2 ⟨rfl, ⟨⟨d2, rfl⟩⟩⟩) | (go_at_call 102; with_reducible refine (HC3.out _).mono ?_; rintro e v3 ⟨rfl, ⟨⟨d3, rfl⟩⟩⟩) | (go_at_call 98; with_reducible refine (HC4.out _).mono ?_; rintro e v4 ⟨rfl, ⟨⟨d4, rfl⟩⟩⟩))
      refine bodyPost_ret (results_cell_row rfl _ _ w.heap.size 29 #[.string ⟨#[]⟩, .int .i64 1] (0, 0) _ rfl (blk_put (cs := #[.string ⟨#[]⟩, .int .i64 0]) (blk_put (cs := #[.string ⟨#[]⟩, .int .i64 0]) (res_block (o := (.cells #[.string ⟨#[]⟩, .int .i64 0] 29)) (by repeat (first | exact Below.refl _ _ | apply pw_below_drewN))) 0 _ rfl) 1 _ rfl) Tryz.underlying29 rfl (by kernel_rfl)) rfl ?_
      exact ⟨rfl, below_set (below_set (res_below (o := (.cells #[.string ⟨#[]⟩, .int .i64 0] 29)) (by repeat (first | exact Below.refl _ _ | apply pw_below_drewN))) (Nat.le_refl _)) (Nat.le_refl _)⟩
    | true =>
      have hs0 := hF0 rfl
      have hs1 := hF1 rfl
      have hs2 := hF2 rfl
      have hs3 := hF3 rfl
      clear hF0 hF1 hF2 hF3 hF4
      simp only [Bool.and_self, if_true] at h
      obtain ⟨m, rfl⟩ := Int.eq_ofNat_of_zero_le hs2
      by_cases h3 : a3 = -1
      · subst h3
        simp only [if_true] at h
        by_cases h5 : (m : Int) > 1000
        · rw [if_pos (.inl (by omega))] at h
          obtain ⟨rfl, rfl⟩ : (⟨#[]⟩ : ByteArray) = r1 ∧ 3 = r2 := by simpa using h
          clear h
          go_enter Tryz.func55, Tryz.ntmps55
          go_wp2_with (first | (go_at_call 89; with_reducible refine (HC0.out _).mono ?_; rintro e v0 ⟨rfl, ⟨⟨d0, rfl⟩⟩⟩) | (go_at_call 89; with_reducible refine (HC1.out _).mono ?_; rintro e v1 ⟨rfl, ⟨⟨d1, rfl⟩⟩⟩) | (go_at_call 102; with_reducible refine (HC2.out _).mono ?_; rintro e v2 ⟨rfl, ⟨⟨d2, rfl⟩⟩⟩) | (go_at_call 102; with_reducible refine (HC3.out _).mono ?_; rintro e v3 ⟨rfl, ⟨⟨d3, rfl⟩⟩⟩) | (go_at_call 98; with_reducible refine (HC4.out _).mono ?_; rintro e v4 ⟨rfl, ⟨⟨d4, rfl⟩⟩⟩))
          refine bodyPost_ret (results_cell_row rfl _ _ w.heap.size 29 #[.string ⟨#[]⟩, .int .i64 3] (0, 0) _ rfl (blk_put (cs := #[.string ⟨#[]⟩, .int .i64 0]) (blk_put (cs := #[.string ⟨#[]⟩, .int .i64 0]) (res_block (o := (.cells #[.string ⟨#[]⟩, .int .i64 0] 29)) (by repeat (first | exact Below.refl _ _ | apply pw_below_drewN))) 0 _ rfl) 1 _ rfl) Tryz.underlying29 rfl (by kernel_rfl)) rfl ?_
          exact ⟨rfl, below_set (below_set (res_below (o := (.cells #[.string ⟨#[]⟩, .int .i64 0] 29)) (by repeat (first | exact Below.refl _ _ | apply pw_below_drewN))) (Nat.le_refl _)) (Nat.le_refl _)⟩
        · rw [if_neg (by omega)] at h
          have HX := Lib.hid (fun (W : World) => fitM a1 (m : Int) a4 W W (by omega) (by omega) (by omega) (Below.refl _ _))
          have HY := Lib.hid (fun (W : World) => fitM a0 (a0.size : Int) a4 W W (by omega) (by omega) (by omega) (Below.refl _ _))
          have hlx := fitL_length a1 (m : Int) a4
          have hly := fitL_length a0 (a0.size : Int) a4
          unfold insertL at h
          rw [Int.toNat_natCast] at h
          generalize fitL a1 (m : Int) a4 = x at HX hlx h
          generalize fitL a0 (a0.size : Int) a4 = y at HY hly h
          obtain ⟨z, hz⟩ : ∃ z, x ++ y = z := ⟨_, rfl⟩
          rw [hz] at h
          have hlz : z.length ≤ 5000 := by rw [← hz, List.length_append]; omega
          have HZ6 := Aside0.mk hz
          have HLX := Aside0.mk hlx
          have HLY := Aside0.mk hly
          have HLZ := Aside0.mk hlz
          clear hz hlx hly hlz
          by_cases h7 : (m : Int) < a1.size
          · rw [if_pos h7] at h
            obtain ⟨t, ht⟩ : ∃ t, z ++ (bytesOf a1).drop m = t := ⟨_, rfl⟩
            rw [ht] at h
            have HT : Aside0 (z ++ bytesOf (a1.extract m a1.size) = t) := ⟨by rw [bytesOf_extract, List.take_of_length_le (by rw [List.length_drop, bytesOf_length]; exact Nat.le_refl _)]; exact ht⟩
            have HLE : Aside0 ((bytesOf (a1.extract m a1.size)).length ≤ 2000) := ⟨by rw [bytesOf_length, ByteArray.size_extract]; omega⟩
            have HOUT := Lib.hid (fun (W : World) (A : Option Addr) (c : Nat) (ho : OwnM (w.heap.size + 1) (.slice A t.length c) t W) => out_M W A c t r1 r2 _ ho h)
            clear ht h
            go_enter Tryz.func55, Tryz.ntmps55
            go_wp2_with (first | (go_at_call 89; with_reducible refine (HC0.out _).mono ?_; rintro e v0 ⟨rfl, ⟨⟨d0, rfl⟩⟩⟩) | (go_at_call 89; with_reducible refine (HC1.out _).mono ?_; rintro e v1 ⟨rfl, ⟨⟨d1, rfl⟩⟩⟩) | (go_at_call 102; with_reducible refine (HC2.out _).mono ?_; rintro e v2 ⟨rfl, ⟨⟨d2, rfl⟩⟩⟩) | (go_at_call 102; with_reducible refine (HC3.out _).mono ?_; rintro e v3 ⟨rfl, ⟨⟨d3, rfl⟩⟩⟩) | (go_at_call 98; with_reducible refine (HC4.out _).mono ?_; rintro e v4 ⟨rfl, ⟨⟨d4, rfl⟩⟩⟩) | (go_at_call 104; with_reducible refine (HX.out _).mono ?_; rintro e w4 ⟨v4, rfl, ho4, hb4⟩; obtain ⟨A4, c4, rfl, hc4⟩ := ho4.slice; have HO4 := Aside0.mk ho4; have HS4 := Aside0.mk hb4; have HR4 := Aside0.mk (show Below (w.heap.size + 1) (w.alloc (.cells #[.string ⟨#[]⟩, .int .i64 0] 29)) w4 from res_step (by repeat (first | exact Below.refl _ _ | apply pw_below_drewN)) hb4); clear ho4 hb4) | (go_at_call 104; with_reducible refine (HY.out _).mono ?_; rintro e w5 ⟨v5, rfl, ho5, hb5⟩; obtain ⟨A5, c5, rfl, hc5⟩ := ho5.slice; have HB5x := Aside0.mk hb5; have HO5 := Aside0.mk ho5; have HS5 := Aside0.mk hb5; have HR5 := Aside0.mk (show Below (w.heap.size + 1) (w.alloc (.cells #[.string ⟨#[]⟩, .int .i64 0] 29)) w5 from res_step HR4.out hb5); have HO45 := Aside0.mk (HO4.out.below (Nat.le_refl _) HB5x.out); clear ho5 hb5) | (at_builtin; refine wpList_append_M (w0 := w.alloc (.cells #[.string ⟨#[]⟩, .int .i64 0] 29)) rfl (.tmp 50) (.tmp 54) 83 83 5 rfl Tryz.underlying83 info5 (w.heap.size + 1) _ x rfl (HO45.out.mono (by simp)) _ rfl y (src_own Tryz.underlying83 HO5.out) (by have := HLX.out; have := HLY.out; omega) (res_size HR5.out) HR5.out ?_; intro v6 w6 ho6 hr6; rw [HZ6.out] at ho6; obtain ⟨A6, c6, rfl, hc6⟩ := ho6.slice; have HO6 := Aside0.mk ho6; have HR6 := Aside0.mk hr6; clear ho6 hr6) | (at_builtin; refine wpList_append_M (w0 := w.alloc (.cells #[.string ⟨#[]⟩, .int .i64 0] 29)) rfl (.tmp 60) (.tmp 63) 83 9 5 rfl Tryz.underlying83 info5 (w.heap.size + 1) _ z rfl HO6.out _ rfl (bytesOf (a1.extract m a1.size)) (src_bytes _ Tryz.underlying9 _) (by have := HLZ.out; have := HLE.out; omega) (res_size HR6.out) HR6.out ?_; intro v7 w7 ho7 hr7; rw [HT.out] at ho7; obtain ⟨A7, c7, rfl, hc7⟩ := ho7.slice; have HO7 := Aside0.mk ho7; have HR7 := Aside0.mk hr7; clear ho7 hr7) | (go_at_call 90; with_reducible refine (HOUT.out _ _ _ HO7.out).mono ?_; rintro e w8 ⟨rfl, hb8⟩; have HR8 := Aside0.mk (res_step HR7.out hb8); clear hb8; have hk0 : w8.cell? ⟨w.heap.size, 0, none⟩ = some (.string ⟨#[]⟩) := (blk_cell (res_block HR8.out) 0).trans rfl; have hk1 : w8.cell? ⟨w.heap.size, 1, none⟩ = some (.int .i64 0) := (blk_cell (res_block HR8.out) 1).trans rfl; have hf0 := blk_frozen (res_block HR8.out) 0; have hf1 := blk_frozen (res_block HR8.out) 1))
            refine bodyPost_ret (results_cell_row rfl _ _ w.heap.size 29 #[.string r1, .int .i64 r2] (0, 0) _ rfl (blk_put (cs := #[.string r1, .int .i64 0]) (blk_put (cs := #[.string ⟨#[]⟩, .int .i64 0]) (res_block (o := (.cells #[.string ⟨#[]⟩, .int .i64 0] 29)) HR8.out) 0 _ rfl) 1 _ rfl) Tryz.underlying29 rfl (by kernel_rfl)) rfl ?_
            exact ⟨rfl, below_set (below_set (res_below (o := (.cells #[.string ⟨#[]⟩, .int .i64 0] 29)) HR8.out) (Nat.le_refl _)) (Nat.le_refl _)⟩
          · rw [if_neg h7, List.append_nil] at h
            have HOUT := Lib.hid (fun (W : World) (A : Option Addr) (c : Nat) (ho : OwnM (w.heap.size + 1) (.slice A z.length c) z W) => out_M W A c z r1 r2 _ ho h)
            clear h
            go_enter Tryz.func55, Tryz.ntmps55
            go_wp2_with (first | (go_at_call 89; with_reducible refine (HC0.out _).mono ?_; rintro e v0 ⟨rfl, ⟨⟨d0, rfl⟩⟩⟩) | (go_at_call 89; with_reducible refine (HC1.out _).mono ?_; rintro e v1 ⟨rfl, ⟨⟨d1, rfl⟩⟩⟩) | (go_at_call 102; with_reducible refine (HC2.out _).mono ?_; rintro e v2 ⟨rfl, ⟨⟨d2, rfl⟩⟩⟩) | (go_at_call 102; with_reducible refine (HC3.out _).mono ?_; rintro e v3 ⟨rfl, ⟨⟨d3, rfl⟩⟩⟩) | (go_at_call 98; with_reducible refine (HC4.out _).mono ?_; rintro e v4 ⟨rfl, ⟨⟨d4, rfl⟩⟩⟩) | (go_at_call 104; with_reducible refine (HX.out _).mono ?_; rintro e w4 ⟨v4, rfl, ho4, hb4⟩; obtain ⟨A4, c4, rfl, hc4⟩ := ho4.slice; have HO4 := Aside0.mk ho4; have HS4 := Aside0.mk hb4; have HR4 := Aside0.mk (show Below (w.heap.size + 1) (w.alloc (.cells #[.string ⟨#[]⟩, .int .i64 0] 29)) w4 from res_step (by repeat (first | exact Below.refl _ _ | apply pw_below_drewN)) hb4); clear ho4 hb4) | (go_at_call 104; with_reducible refine (HY.out _).mono ?_; rintro e w5 ⟨v5, rfl, ho5, hb5⟩; obtain ⟨A5, c5, rfl, hc5⟩ := ho5.slice; have HB5x := Aside0.mk hb5; have HO5 := Aside0.mk ho5; have HS5 := Aside0.mk hb5; have HR5 := Aside0.mk (show Below (w.heap.size + 1) (w.alloc (.cells #[.string ⟨#[]⟩, .int .i64 0] 29)) w5 from res_step HR4.out hb5); have HO45 := Aside0.mk (HO4.out.below (Nat.le_refl _) HB5x.out); clear ho5 hb5) | (at_builtin; refine wpList_append_M (w0 := w.alloc (.cells #[.string ⟨#[]⟩, .int .i64 0] 29)) rfl (.tmp 50) (.tmp 54) 83 83 5 rfl Tryz.underlying83 info5 (w.heap.size + 1) _ x rfl (HO45.out.mono (by simp)) _ rfl y (src_own Tryz.underlying83 HO5.out) (by have := HLX.out; have := HLY.out; omega) (res_size HR5.out) HR5.out ?_; intro v6 w6 ho6 hr6; rw [HZ6.out] at ho6; obtain ⟨A6, c6, rfl, hc6⟩ := ho6.slice; have HO6 := Aside0.mk ho6; have HR6 := Aside0.mk hr6; clear ho6 hr6) | (go_at_call 90; with_reducible refine (HOUT.out _ _ _ HO6.out).mono ?_; rintro e w8 ⟨rfl, hb8⟩; have HR8 := Aside0.mk (res_step HR6.out hb8); clear hb8; have hk0 : w8.cell? ⟨w.heap.size, 0, none⟩ = some (.string ⟨#[]⟩) := (blk_cell (res_block HR8.out) 0).trans rfl; have hk1 : w8.cell? ⟨w.heap.size, 1, none⟩ = some (.int .i64 0) := (blk_cell (res_block HR8.out) 1).trans rfl; have hf0 := blk_frozen (res_block HR8.out) 0; have hf1 := blk_frozen (res_block HR8.out) 1))
            refine bodyPost_ret (results_cell_row rfl _ _ w.heap.size 29 #[.string r1, .int .i64 r2] (0, 0) _ rfl (blk_put (cs := #[.string r1, .int .i64 0]) (blk_put (cs := #[.string ⟨#[]⟩, .int .i64 0]) (res_block (o := (.cells #[.string ⟨#[]⟩, .int .i64 0] 29)) HR8.out) 0 _ rfl) 1 _ rfl) Tryz.underlying29 rfl (by kernel_rfl)) rfl ?_
            exact ⟨rfl, below_set (below_set (res_below (o := (.cells #[.string ⟨#[]⟩, .int .i64 0] 29)) HR8.out) (Nat.le_refl _)) (Nat.le_refl _)⟩
      · have e3 : (a3 == -1) = false := beq_eq_false_iff_ne.mpr h3
        rw [if_neg h3] at h
        by_cases h5 : (m : Int) > 1000
        · rw [if_pos (.inl (by omega))] at h
          obtain ⟨rfl, rfl⟩ : (⟨#[]⟩ : ByteArray) = r1 ∧ 3 = r2 := by simpa using h
          clear h
          go_enter Tryz.func55, Tryz.ntmps55
          go_wp2_with (first | (go_at_call 89; with_reducible refine (HC0.out _).mono ?_; rintro e v0 ⟨rfl, ⟨⟨d0, rfl⟩⟩⟩) | (go_at_call 89; with_reducible refine (HC1.out _).mono ?_; rintro e v1 ⟨rfl, ⟨⟨d1, rfl⟩⟩⟩) | (go_at_call 102; with_reducible refine (HC2.out _).mono ?_; rintro e v2 ⟨rfl, ⟨⟨d2, rfl⟩⟩⟩) | (go_at_call 102; with_reducible refine (HC3.out _).mono ?_; rintro e v3 ⟨rfl, ⟨⟨d3, rfl⟩⟩⟩) | (go_at_call 98; with_reducible refine (HC4.out _).mono ?_; rintro e v4 ⟨rfl, ⟨⟨d4, rfl⟩⟩⟩))
          refine bodyPost_ret (results_cell_row rfl _ _ w.heap.size 29 #[.string ⟨#[]⟩, .int .i64 3] (0, 0) _ rfl (blk_put (cs := #[.string ⟨#[]⟩, .int .i64 0]) (blk_put (cs := #[.string ⟨#[]⟩, .int .i64 0]) (res_block (o := (.cells #[.string ⟨#[]⟩, .int .i64 0] 29)) (by repeat (first | exact Below.refl _ _ | apply pw_below_drewN))) 0 _ rfl) 1 _ rfl) Tryz.underlying29 rfl (by kernel_rfl)) rfl ?_
          exact ⟨rfl, below_set (below_set (res_below (o := (.cells #[.string ⟨#[]⟩, .int .i64 0] 29)) (by repeat (first | exact Below.refl _ _ | apply pw_below_drewN))) (Nat.le_refl _)) (Nat.le_refl _)⟩
        · by_cases h6 : a3 > 1000
          · rw [if_pos (.inr h6)] at h
            obtain ⟨rfl, rfl⟩ : (⟨#[]⟩ : ByteArray) = r1 ∧ 3 = r2 := by simpa using h
            clear h
            go_enter Tryz.func55, Tryz.ntmps55
            go_wp2_with (first | (go_at_call 89; with_reducible refine (HC0.out _).mono ?_; rintro e v0 ⟨rfl, ⟨⟨d0, rfl⟩⟩⟩) | (go_at_call 89; with_reducible refine (HC1.out _).mono ?_; rintro e v1 ⟨rfl, ⟨⟨d1, rfl⟩⟩⟩) | (go_at_call 102; with_reducible refine (HC2.out _).mono ?_; rintro e v2 ⟨rfl, ⟨⟨d2, rfl⟩⟩⟩) | (go_at_call 102; with_reducible refine (HC3.out _).mono ?_; rintro e v3 ⟨rfl, ⟨⟨d3, rfl⟩⟩⟩) | (go_at_call 98; with_reducible refine (HC4.out _).mono ?_; rintro e v4 ⟨rfl, ⟨⟨d4, rfl⟩⟩⟩))
            refine bodyPost_ret (results_cell_row rfl _ _ w.heap.size 29 #[.string ⟨#[]⟩, .int .i64 3] (0, 0) _ rfl (blk_put (cs := #[.string ⟨#[]⟩, .int .i64 0]) (blk_put (cs := #[.string ⟨#[]⟩, .int .i64 0]) (res_block (o := (.cells #[.string ⟨#[]⟩, .int .i64 0] 29)) (by repeat (first | exact Below.refl _ _ | apply pw_below_drewN))) 0 _ rfl) 1 _ rfl) Tryz.underlying29 rfl (by kernel_rfl)) rfl ?_
            exact ⟨rfl, below_set (below_set (res_below (o := (.cells #[.string ⟨#[]⟩, .int .i64 0] 29)) (by repeat (first | exact Below.refl _ _ | apply pw_below_drewN))) (Nat.le_refl _)) (Nat.le_refl _)⟩
          · rw [if_neg (by omega)] at h
            have HX := Lib.hid (fun (W : World) => fitM a1 (m : Int) a4 W W (by omega) (by omega) (by omega) (Below.refl _ _))
            have HY := Lib.hid (fun (W : World) => fitM a0 a3 a4 W W (by omega) (by omega) (by omega) (Below.refl _ _))
            have hlx := fitL_length a1 (m : Int) a4
            have hly := fitL_length a0 a3 a4
            unfold insertL at h
            rw [Int.toNat_natCast] at h
            generalize fitL a1 (m : Int) a4 = x at HX hlx h
            generalize fitL a0 a3 a4 = y at HY hly h
            obtain ⟨z, hz⟩ : ∃ z, x ++ y = z := ⟨_, rfl⟩
            rw [hz] at h
            have hlz : z.length ≤ 5000 := by rw [← hz, List.length_append]; omega
            have HZ6 := Aside0.mk hz
            have HLX := Aside0.mk hlx
            have HLY := Aside0.mk hly
            have HLZ := Aside0.mk hlz
            clear hz hlx hly hlz
            by_cases h7 : (m : Int) < a1.size
            · rw [if_pos h7] at h
              obtain ⟨t, ht⟩ : ∃ t, z ++ (bytesOf a1).drop m = t := ⟨_, rfl⟩
              rw [ht] at h
              have HT : Aside0 (z ++ bytesOf (a1.extract m a1.size) = t) := ⟨by rw [bytesOf_extract, List.take_of_length_le (by rw [List.length_drop, bytesOf_length]; exact Nat.le_refl _)]; exact ht⟩
              have HLE : Aside0 ((bytesOf (a1.extract m a1.size)).length ≤ 2000) := ⟨by rw [bytesOf_length, ByteArray.size_extract]; omega⟩
              have HOUT := Lib.hid (fun (W : World) (A : Option Addr) (c : Nat) (ho : OwnM (w.heap.size + 1) (.slice A t.length c) t W) => out_M W A c t r1 r2 _ ho h)
              clear ht h
              go_enter Tryz.func55, Tryz.ntmps55
              go_wp2_with (first | (go_at_call 89; with_reducible refine (HC0.out _).mono ?_; rintro e v0 ⟨rfl, ⟨⟨d0, rfl⟩⟩⟩) | (go_at_call 89; with_reducible refine (HC1.out _).mono ?_; rintro e v1 ⟨rfl, ⟨⟨d1, rfl⟩⟩⟩) | (go_at_call 102; with_reducible refine (HC2.out _).mono ?_; rintro e v2 ⟨rfl, ⟨⟨d2, rfl⟩⟩⟩) | (go_at_call 102; with_reducible refine (HC3.out _).mono ?_; rintro e v3 ⟨rfl, ⟨⟨d3, rfl⟩⟩⟩) | (go_at_call 98; with_reducible refine (HC4.out _).mono ?_; rintro e v4 ⟨rfl, ⟨⟨d4, rfl⟩⟩⟩) | (go_at_call 104; with_reducible refine (HX.out _).mono ?_; rintro e w4 ⟨v4, rfl, ho4, hb4⟩; obtain ⟨A4, c4, rfl, hc4⟩ := ho4.slice; have HO4 := Aside0.mk ho4; have HS4 := Aside0.mk hb4; have HR4 := Aside0.mk (show Below (w.heap.size + 1) (w.alloc (.cells #[.string ⟨#[]⟩, .int .i64 0] 29)) w4 from res_step (by repeat (first | exact Below.refl _ _ | apply pw_below_drewN)) hb4); clear ho4 hb4) | (go_at_call 104; with_reducible refine (HY.out _).mono ?_; rintro e w5 ⟨v5, rfl, ho5, hb5⟩; obtain ⟨A5, c5, rfl, hc5⟩ := ho5.slice; have HB5x := Aside0.mk hb5; have HO5 := Aside0.mk ho5; have HS5 := Aside0.mk hb5; have HR5 := Aside0.mk (show Below (w.heap.size + 1) (w.alloc (.cells #[.string ⟨#[]⟩, .int .i64 0] 29)) w5 from res_step HR4.out hb5); have HO45 := Aside0.mk (HO4.out.below (Nat.le_refl _) HB5x.out); clear ho5 hb5) | (at_builtin; refine wpList_append_M (w0 := w.alloc (.cells #[.string ⟨#[]⟩, .int .i64 0] 29)) rfl (.tmp 50) (.tmp 54) 83 83 5 rfl Tryz.underlying83 info5 (w.heap.size + 1) _ x rfl (HO45.out.mono (by simp)) _ rfl y (src_own Tryz.underlying83 HO5.out) (by have := HLX.out; have := HLY.out; omega) (res_size HR5.out) HR5.out ?_; intro v6 w6 ho6 hr6; rw [HZ6.out] at ho6; obtain ⟨A6, c6, rfl, hc6⟩ := ho6.slice; have HO6 := Aside0.mk ho6; have HR6 := Aside0.mk hr6; clear ho6 hr6) | (at_builtin; refine wpList_append_M (w0 := w.alloc (.cells #[.string ⟨#[]⟩, .int .i64 0] 29)) rfl (.tmp 60) (.tmp 63) 83 9 5 rfl Tryz.underlying83 info5 (w.heap.size + 1) _ z rfl HO6.out _ rfl (bytesOf (a1.extract m a1.size)) (src_bytes _ Tryz.underlying9 _) (by have := HLZ.out; have := HLE.out; omega) (res_size HR6.out) HR6.out ?_; intro v7 w7 ho7 hr7; rw [HT.out] at ho7; obtain ⟨A7, c7, rfl, hc7⟩ := ho7.slice; have HO7 := Aside0.mk ho7; have HR7 := Aside0.mk hr7; clear ho7 hr7) | (go_at_call 90; with_reducible refine (HOUT.out _ _ _ HO7.out).mono ?_; rintro e w8 ⟨rfl, hb8⟩; have HR8 := Aside0.mk (res_step HR7.out hb8); clear hb8; have hk0 : w8.cell? ⟨w.heap.size, 0, none⟩ = some (.string ⟨#[]⟩) := (blk_cell (res_block HR8.out) 0).trans rfl; have hk1 : w8.cell? ⟨w.heap.size, 1, none⟩ = some (.int .i64 0) := (blk_cell (res_block HR8.out) 1).trans rfl; have hf0 := blk_frozen (res_block HR8.out) 0; have hf1 := blk_frozen (res_block HR8.out) 1))
              refine bodyPost_ret (results_cell_row rfl _ _ w.heap.size 29 #[.string r1, .int .i64 r2] (0, 0) _ rfl (blk_put (cs := #[.string r1, .int .i64 0]) (blk_put (cs := #[.string ⟨#[]⟩, .int .i64 0]) (res_block (o := (.cells #[.string ⟨#[]⟩, .int .i64 0] 29)) HR8.out) 0 _ rfl) 1 _ rfl) Tryz.underlying29 rfl (by kernel_rfl)) rfl ?_
              exact ⟨rfl, below_set (below_set (res_below (o := (.cells #[.string ⟨#[]⟩, .int .i64 0] 29)) HR8.out) (Nat.le_refl _)) (Nat.le_refl _)⟩
            · rw [if_neg h7, List.append_nil] at h
              have HOUT := Lib.hid (fun (W : World) (A : Option Addr) (c : Nat) (ho : OwnM (w.heap.size + 1) (.slice A z.length c) z W) => out_M W A c z r1 r2 _ ho h)
              clear h
              go_enter Tryz.func55, Tryz.ntmps55
              go_wp2_with (first | (go_at_call 89; with_reducible refine (HC0.out _).mono ?_; rintro e v0 ⟨rfl, ⟨⟨d0, rfl⟩⟩⟩) | (go_at_call 89; with_reducible refine (HC1.out _).mono ?_; rintro e v1 ⟨rfl, ⟨⟨d1, rfl⟩⟩⟩) | (go_at_call 102; with_reducible refine (HC2.out _).mono ?_; rintro e v2 ⟨rfl, ⟨⟨d2, rfl⟩⟩⟩) | (go_at_call 102; with_reducible refine (HC3.out _).mono ?_; rintro e v3 ⟨rfl, ⟨⟨d3, rfl⟩⟩⟩) | (go_at_call 98; with_reducible refine (HC4.out _).mono ?_; rintro e v4 ⟨rfl, ⟨⟨d4, rfl⟩⟩⟩) | (go_at_call 104; with_reducible refine (HX.out _).mono ?_; rintro e w4 ⟨v4, rfl, ho4, hb4⟩; obtain ⟨A4, c4, rfl, hc4⟩ := ho4.slice; have HO4 := Aside0.mk ho4; have HS4 := Aside0.mk hb4; have HR4 := Aside0.mk (show Below (w.heap.size + 1) (w.alloc (.cells #[.string ⟨#[]⟩, .int .i64 0] 29)) w4 from res_step (by repeat (first | exact Below.refl _ _ | apply pw_below_drewN)) hb4); clear ho4 hb4) | (go_at_call 104; with_reducible refine (HY.out _).mono ?_; rintro e w5 ⟨v5, rfl, ho5, hb5⟩; obtain ⟨A5, c5, rfl, hc5⟩ := ho5.slice; have HB5x := Aside0.mk hb5; have HO5 := Aside0.mk ho5; have HS5 := Aside0.mk hb5; have HR5 := Aside0.mk (show Below (w.heap.size + 1) (w.alloc (.cells #[.string ⟨#[]⟩, .int .i64 0] 29)) w5 from res_step HR4.out hb5); have HO45 := Aside0.mk (HO4.out.below (Nat.le_refl _) HB5x.out); clear ho5 hb5) | (at_builtin; refine wpList_append_M (w0 := w.alloc (.cells #[.string ⟨#[]⟩, .int .i64 0] 29)) rfl (.tmp 50) (.tmp 54) 83 83 5 rfl Tryz.underlying83 info5 (w.heap.size + 1) _ x rfl (HO45.out.mono (by simp)) _ rfl y (src_own Tryz.underlying83 HO5.out) (by have := HLX.out; have := HLY.out; omega) (res_size HR5.out) HR5.out ?_; intro v6 w6 ho6 hr6; rw [HZ6.out] at ho6; obtain ⟨A6, c6, rfl, hc6⟩ := ho6.slice; have HO6 := Aside0.mk ho6; have HR6 := Aside0.mk hr6; clear ho6 hr6) | (go_at_call 90; with_reducible refine (HOUT.out _ _ _ HO6.out).mono ?_; rintro e w8 ⟨rfl, hb8⟩; have HR8 := Aside0.mk (res_step HR6.out hb8); clear hb8; have hk0 : w8.cell? ⟨w.heap.size, 0, none⟩ = some (.string ⟨#[]⟩) := (blk_cell (res_block HR8.out) 0).trans rfl; have hk1 : w8.cell? ⟨w.heap.size, 1, none⟩ = some (.int .i64 0) := (blk_cell (res_block HR8.out) 1).trans rfl; have hf0 := blk_frozen (res_block HR8.out) 0; have hf1 := blk_frozen (res_block HR8.out) 1))
              refine bodyPost_ret (results_cell_row rfl _ _ w.heap.size 29 #[.string r1, .int .i64 r2] (0, 0) _ rfl (blk_put (cs := #[.string r1, .int .i64 0]) (blk_put (cs := #[.string ⟨#[]⟩, .int .i64 0]) (res_block (o := (.cells #[.string ⟨#[]⟩, .int .i64 0] 29)) HR8.out) 0 _ rfl) 1 _ rfl) Tryz.underlying29 rfl (by kernel_rfl)) rfl ?_
              exact ⟨rfl, below_set (below_set (res_below (o := (.cells #[.string ⟨#[]⟩, .int .i64 0] 29)) HR8.out) (Nat.le_refl _)) (Nat.le_refl _)⟩
  · rw [if_neg hb] at h
    cases h
/-- The list that the reference's Overlay makes, the second length being L. -/
def overlayL (a0 a1 : ByteArray) (a2 L a4 : Int) : List Int := fitL a1 (a2 - 1) a4 ++ fitL a0 L a4 ++ (if (fitL a1 (a2 - 1) a4 ++ fitL a0 L a4).length < a1.size then (bytesOf a1).drop (fitL a1 (a2 - 1) a4 ++ fitL a0 L a4).length else [])
def qanatref02_Overlay.f (a0 a1 : ByteArray) (a2 a3 a4 : Int) : Option (ByteArray × Int) :=
  if a0.size ≤ 2000 ∧ a1.size ≤ 2000 ∧ a2 ≤ 9223372036854775807 ∧ a3 ≤ 9223372036854775807 then
    (if (vld a0 && vld a1 && decide (1 ≤ a2) && decide (-1 ≤ a3) && goodI a4) = true then
      (if a2 - 1 > 1000 ∨ (if a3 = -1 then (a0.size : Int) else a3) > 1000 then some (⟨#[]⟩, 3) else qanatref02_out.f (overlayL a0 a1 a2 (if a3 = -1 then (a0.size : Int) else a3) a4))
    else some (⟨#[]⟩, 1))
  else none
set_option maxRecDepth 100000 in
set_option maxHeartbeats 8000000 in
theorem qanatref02_Overlay.calls (a0 a1 : ByteArray) (a2 a3 a4 : Int) (r1 : ByteArray) (r2 : Int) (w : World) (h : qanatref02_Overlay.f a0 a1 a2 a3 a4 = some (r1, r2)) :
    Calls Tryz.prog 56 #[.string a0, .string a1, .int .i64 a2, .int .i64 a3, .int .u8 a4] w fun e w' => e = .returned (.agg #[.string r1, .int .i64 r2]) ∧ Below w.heap.size w w' := by
  have hu29 := Tryz.underlying29
  unfold qanatref02_Overlay.f at h
  by_cases hb : a0.size ≤ 2000 ∧ a1.size ≤ 2000 ∧ a2 ≤ 9223372036854775807 ∧ a3 ≤ 9223372036854775807
  · rw [if_pos hb] at h
    obtain ⟨hz0, hz1, hz2, hz3⟩ := hb
    have hC0 := fun W => qanatref02_Valid.calls a0 (vld a0) W rfl
    have hC1 := fun W => qanatref02_Valid.calls a1 (vld a1) W rfl
    have hC2 := fun W => wh_no a2 1 W
    have hC3 := fun W => wh_yes a3 W
    have hC4 := fun W => qanatref02_Pad.calls a4 (goodI a4) W rfl
    have hF0 := @vld_size' a0
    have hF1 := @vld_size' a1
    have hF2 := of_decide_eq_true (p := 1 ≤ a2)
    have hF3 := of_decide_eq_true (p := -1 ≤ a3)
    have hF4 : goodI a4 = true → True := fun _ => trivial
    generalize vld a0 = b0 at hC0 hF0 h
    generalize vld a1 = b1 at hC1 hF1 h
    generalize decide (1 ≤ a2) = b2 at hC2 hF2 h
    generalize decide (-1 ≤ a3) = b3 at hC3 hF3 h
    generalize goodI a4 = b4 at hC4 hF4 h
    have HC0 := Lib.hid hC0
    have HC1 := Lib.hid hC1
    have HC2 := Lib.hid hC2
    have HC3 := Lib.hid hC3
    have HC4 := Lib.hid hC4
    clear hC0 hC1 hC2 hC3 hC4
    cases b0 with
    | false =>
      obtain ⟨rfl, rfl⟩ : (⟨#[]⟩ : ByteArray) = r1 ∧ 1 = r2 := by simpa using h
      clear h hF0 hF1 hF2 hF3 hF4
      go_enter Tryz.func56, Tryz.ntmps56
      go_wp2_with (first | (go_at_call 89; with_reducible refine (HC0.out _).mono ?_; rintro e v0 ⟨rfl, ⟨⟨d0, rfl⟩⟩⟩) | (go_at_call 89; with_reducible refine (HC1.out _).mono ?_; rintro e v1 ⟨rfl, ⟨⟨d1, rfl⟩⟩⟩) | (go_at_call 102; with_reducible refine (HC2.out _).mono ?_; rintro e v2 ⟨rfl, ⟨⟨d2, rfl⟩⟩⟩) | (go_at_call 102; with_reducible refine (HC3.out _).mono ?_; rintro e v3 ⟨rfl, ⟨⟨d3, rfl⟩⟩⟩) | (go_at_call 98; with_reducible refine (HC4.out _).mono ?_; rintro e v4 ⟨rfl, ⟨⟨d4, rfl⟩⟩⟩))
      refine bodyPost_ret (results_cell_row rfl _ _ w.heap.size 29 #[.string ⟨#[]⟩, .int .i64 1] (0, 0) _ rfl (blk_put (cs := #[.string ⟨#[]⟩, .int .i64 0]) (blk_put (cs := #[.string ⟨#[]⟩, .int .i64 0]) (res_block (o := (.cells #[.string ⟨#[]⟩, .int .i64 0] 29)) (by repeat (first | exact Below.refl _ _ | apply pw_below_drewN))) 0 _ rfl) 1 _ rfl) Tryz.underlying29 rfl (by kernel_rfl)) rfl ?_
      exact ⟨rfl, below_set (below_set (res_below (o := (.cells #[.string ⟨#[]⟩, .int .i64 0] 29)) (by repeat (first | exact Below.refl _ _ | apply pw_below_drewN))) (Nat.le_refl _)) (Nat.le_refl _)⟩
    | true =>
    cases b1 with
    | false =>
      obtain ⟨rfl, rfl⟩ : (⟨#[]⟩ : ByteArray) = r1 ∧ 1 = r2 := by simpa using h
      clear h hF0 hF1 hF2 hF3 hF4
      go_enter Tryz.func56, Tryz.ntmps56
      go_wp2_with (first | (go_at_call 89; with_reducible refine (HC0.out _).mono ?_; rintro e v0 ⟨rfl, ⟨⟨d0, rfl⟩⟩⟩) | (go_at_call 89; with_reducible refine (HC1.out _).mono ?_; rintro e v1 ⟨rfl, ⟨⟨d1, rfl⟩⟩⟩) | (go_at_call 102; with_reducible refine (HC2.out _).mono ?_; rintro e v2 ⟨rfl, ⟨⟨d2, rfl⟩⟩⟩) | (go_at_call 102; with_reducible refine (HC3.out _).mono ?_; rintro e v3 ⟨rfl, ⟨⟨d3, rfl⟩⟩⟩) | (go_at_call 98; with_reducible refine (HC4.out _).mono ?_; rintro e v4 ⟨rfl, ⟨⟨d4, rfl⟩⟩⟩))
      refine bodyPost_ret (results_cell_row rfl _ _ w.heap.size 29 #[.string ⟨#[]⟩, .int .i64 1] (0, 0) _ rfl (blk_put (cs := #[.string ⟨#[]⟩, .int .i64 0]) (blk_put (cs := #[.string ⟨#[]⟩, .int .i64 0]) (res_block (o := (.cells #[.string ⟨#[]⟩, .int .i64 0] 29)) (by repeat (first | exact Below.refl _ _ | apply pw_below_drewN))) 0 _ rfl) 1 _ rfl) Tryz.underlying29 rfl (by kernel_rfl)) rfl ?_
      exact ⟨rfl, below_set (below_set (res_below (o := (.cells #[.string ⟨#[]⟩, .int .i64 0] 29)) (by repeat (first | exact Below.refl _ _ | apply pw_below_drewN))) (Nat.le_refl _)) (Nat.le_refl _)⟩
    | true =>
    cases b2 with
    | false =>
      obtain ⟨rfl, rfl⟩ : (⟨#[]⟩ : ByteArray) = r1 ∧ 1 = r2 := by simpa using h
      clear h hF0 hF1 hF2 hF3 hF4
      go_enter Tryz.func56, Tryz.ntmps56
      go_wp2_with (first | (go_at_call 89; with_reducible refine (HC0.out _).mono ?_; rintro e v0 ⟨rfl, ⟨⟨d0, rfl⟩⟩⟩) | (go_at_call 89; with_reducible refine (HC1.out _).mono ?_; rintro e v1 ⟨rfl, ⟨⟨d1, rfl⟩⟩⟩) | (go_at_call 102; with_reducible refine (HC2.out _).mono ?_; rintro e v2 ⟨rfl, ⟨⟨d2, rfl⟩⟩⟩) | (go_at_call 102; with_reducible refine (HC3.out _).mono ?_; rintro e v3 ⟨rfl, ⟨⟨d3, rfl⟩⟩⟩) | (go_at_call 98; with_reducible refine (HC4.out _).mono ?_; rintro e v4 ⟨rfl, ⟨⟨d4, rfl⟩⟩⟩))
      refine bodyPost_ret (results_cell_row rfl _ _ w.heap.size 29 #[.string ⟨#[]⟩, .int .i64 1] (0, 0) _ rfl (blk_put (cs := #[.string ⟨#[]⟩, .int .i64 0]) (blk_put (cs := #[.string ⟨#[]⟩, .int .i64 0]) (res_block (o := (.cells #[.string ⟨#[]⟩, .int .i64 0] 29)) (by repeat (first | exact Below.refl _ _ | apply pw_below_drewN))) 0 _ rfl) 1 _ rfl) Tryz.underlying29 rfl (by kernel_rfl)) rfl ?_
      exact ⟨rfl, below_set (below_set (res_below (o := (.cells #[.string ⟨#[]⟩, .int .i64 0] 29)) (by repeat (first | exact Below.refl _ _ | apply pw_below_drewN))) (Nat.le_refl _)) (Nat.le_refl _)⟩
    | true =>
    cases b3 with
    | false =>
      obtain ⟨rfl, rfl⟩ : (⟨#[]⟩ : ByteArray) = r1 ∧ 1 = r2 := by simpa using h
      clear h hF0 hF1 hF2 hF3 hF4
      go_enter Tryz.func56, Tryz.ntmps56
      go_wp2_with (first | (go_at_call 89; with_reducible refine (HC0.out _).mono ?_; rintro e v0 ⟨rfl, ⟨⟨d0, rfl⟩⟩⟩) | (go_at_call 89; with_reducible refine (HC1.out _).mono ?_; rintro e v1 ⟨rfl, ⟨⟨d1, rfl⟩⟩⟩) | (go_at_call 102; with_reducible refine (HC2.out _).mono ?_; rintro e v2 ⟨rfl, ⟨⟨d2, rfl⟩⟩⟩) | (go_at_call 102; with_reducible refine (HC3.out _).mono ?_; rintro e v3 ⟨rfl, ⟨⟨d3, rfl⟩⟩⟩) | (go_at_call 98; with_reducible refine (HC4.out _).mono ?_; rintro e v4 ⟨rfl, ⟨⟨d4, rfl⟩⟩⟩))
      refine bodyPost_ret (results_cell_row rfl _ _ w.heap.size 29 #[.string ⟨#[]⟩, .int .i64 1] (0, 0) _ rfl (blk_put (cs := #[.string ⟨#[]⟩, .int .i64 0]) (blk_put (cs := #[.string ⟨#[]⟩, .int .i64 0]) (res_block (o := (.cells #[.string ⟨#[]⟩, .int .i64 0] 29)) (by repeat (first | exact Below.refl _ _ | apply pw_below_drewN))) 0 _ rfl) 1 _ rfl) Tryz.underlying29 rfl (by kernel_rfl)) rfl ?_
      exact ⟨rfl, below_set (below_set (res_below (o := (.cells #[.string ⟨#[]⟩, .int .i64 0] 29)) (by repeat (first | exact Below.refl _ _ | apply pw_below_drewN))) (Nat.le_refl _)) (Nat.le_refl _)⟩
    | true =>
    cases b4 with
    | false =>
      obtain ⟨rfl, rfl⟩ : (⟨#[]⟩ : ByteArray) = r1 ∧ 1 = r2 := by simpa using h
      clear h hF0 hF1 hF2 hF3 hF4
      go_enter Tryz.func56, Tryz.ntmps56
      go_wp2_with (first | (go_at_call 89; with_reducible refine (HC0.out _).mono ?_; rintro e v0 ⟨rfl, ⟨⟨d0, rfl⟩⟩⟩) | (go_at_call 89; with_reducible refine (HC1.out _).mono ?_; rintro e v1 ⟨rfl, ⟨⟨d1, rfl⟩⟩⟩) | (go_at_call 102; with_reducible refine (HC2.out _).mono ?_; rintro e v2 ⟨rfl, ⟨⟨d2, rfl⟩⟩⟩) | (go_at_call 102; with_reducible refine (HC3.out _).mono ?_; rintro e v3 ⟨rfl, ⟨⟨d3, rfl⟩⟩⟩) | (go_at_call 98; with_reducible refine (HC4.out _).mono ?_; rintro e v4 ⟨rfl, ⟨⟨d4, rfl⟩⟩⟩))
      refine bodyPost_ret (results_cell_row rfl _ _ w.heap.size 29 #[.string ⟨#[]⟩, .int .i64 1] (0, 0) _ rfl (blk_put (cs := #[.string ⟨#[]⟩, .int .i64 0]) (blk_put (cs := #[.string ⟨#[]⟩, .int .i64 0]) (res_block (o := (.cells #[.string ⟨#[]⟩, .int .i64 0] 29)) (by repeat (first | exact Below.refl _ _ | apply pw_below_drewN))) 0 _ rfl) 1 _ rfl) Tryz.underlying29 rfl (by kernel_rfl)) rfl ?_
      exact ⟨rfl, below_set (below_set (res_below (o := (.cells #[.string ⟨#[]⟩, .int .i64 0] 29)) (by repeat (first | exact Below.refl _ _ | apply pw_below_drewN))) (Nat.le_refl _)) (Nat.le_refl _)⟩
    | true =>
      have hs0 := hF0 rfl
      have hs1 := hF1 rfl
      have hs2 := hF2 rfl
      have hs3 := hF3 rfl
      clear hF0 hF1 hF2 hF3 hF4
      simp only [Bool.and_self, if_true] at h
      obtain ⟨m, hm⟩ : ∃ m : Nat, a2 = (m : Int) + 1 := ⟨(a2 - 1).toNat, by omega⟩
      have g1 : IntKind.i64.wrap (a2 - 1) = (m : Int) := (i64_w _).trans (by unfold wrap64; omega)
      have g2 : a2 - 1 = (m : Int) := by omega
      rw [g2] at h
      clear hm
      by_cases h3 : a3 = -1
      · subst h3
        simp only [if_true] at h
        by_cases h5 : (m : Int) > 1000
        · rw [if_pos (.inl (by omega))] at h
          obtain ⟨rfl, rfl⟩ : (⟨#[]⟩ : ByteArray) = r1 ∧ 3 = r2 := by simpa using h
          clear h
          go_enter Tryz.func56, Tryz.ntmps56
          go_wp2_with (first | (go_at_call 89; with_reducible refine (HC0.out _).mono ?_; rintro e v0 ⟨rfl, ⟨⟨d0, rfl⟩⟩⟩) | (go_at_call 89; with_reducible refine (HC1.out _).mono ?_; rintro e v1 ⟨rfl, ⟨⟨d1, rfl⟩⟩⟩) | (go_at_call 102; with_reducible refine (HC2.out _).mono ?_; rintro e v2 ⟨rfl, ⟨⟨d2, rfl⟩⟩⟩) | (go_at_call 102; with_reducible refine (HC3.out _).mono ?_; rintro e v3 ⟨rfl, ⟨⟨d3, rfl⟩⟩⟩) | (go_at_call 98; with_reducible refine (HC4.out _).mono ?_; rintro e v4 ⟨rfl, ⟨⟨d4, rfl⟩⟩⟩))
          refine bodyPost_ret (results_cell_row rfl _ _ w.heap.size 29 #[.string ⟨#[]⟩, .int .i64 3] (0, 0) _ rfl (blk_put (cs := #[.string ⟨#[]⟩, .int .i64 0]) (blk_put (cs := #[.string ⟨#[]⟩, .int .i64 0]) (res_block (o := (.cells #[.string ⟨#[]⟩, .int .i64 0] 29)) (by repeat (first | exact Below.refl _ _ | apply pw_below_drewN))) 0 _ rfl) 1 _ rfl) Tryz.underlying29 rfl (by kernel_rfl)) rfl ?_
          exact ⟨rfl, below_set (below_set (res_below (o := (.cells #[.string ⟨#[]⟩, .int .i64 0] 29)) (by repeat (first | exact Below.refl _ _ | apply pw_below_drewN))) (Nat.le_refl _)) (Nat.le_refl _)⟩
        · rw [if_neg (by omega)] at h
          have HX := Lib.hid (fun (W : World) => fitM a1 (m : Int) a4 W W (by omega) (by omega) (by omega) (Below.refl _ _))
          have HY := Lib.hid (fun (W : World) => fitM a0 (a0.size : Int) a4 W W (by omega) (by omega) (by omega) (Below.refl _ _))
          have hlx := fitL_length a1 (m : Int) a4
          have hly := fitL_length a0 (a0.size : Int) a4
          unfold overlayL at h
          rw [g2] at h
          generalize fitL a1 (m : Int) a4 = x at HX hlx h
          generalize fitL a0 (a0.size : Int) a4 = y at HY hly h
          obtain ⟨z, hz⟩ : ∃ z, x ++ y = z := ⟨_, rfl⟩
          rw [hz] at h
          have hlz : z.length ≤ 5000 := by rw [← hz, List.length_append]; omega
          have HZ6 := Aside0.mk hz
          have HLX := Aside0.mk hlx
          have HLY := Aside0.mk hly
          have HLZ := Aside0.mk hlz
          clear hz hlx hly hlz
          by_cases h7 : z.length < a1.size
          · rw [if_pos h7] at h
            obtain ⟨t, ht⟩ : ∃ t, z ++ (bytesOf a1).drop z.length = t := ⟨_, rfl⟩
            rw [ht] at h
            have HT : Aside0 (z ++ bytesOf (a1.extract z.length a1.size) = t) := ⟨by rw [bytesOf_extract, List.take_of_length_le (by rw [List.length_drop, bytesOf_length]; exact Nat.le_refl _)]; exact ht⟩
            have HLE : Aside0 ((bytesOf (a1.extract z.length a1.size)).length ≤ 2000) := ⟨by rw [bytesOf_length, ByteArray.size_extract]; omega⟩
            have HOUT := Lib.hid (fun (W : World) (A : Option Addr) (c : Nat) (ho : OwnM (w.heap.size + 1) (.slice A t.length c) t W) => out_M W A c t r1 r2 _ ho h)
            clear ht h
            go_enter Tryz.func56, Tryz.ntmps56
            go_wp2_with (first | (go_at_call 89; with_reducible refine (HC0.out _).mono ?_; rintro e v0 ⟨rfl, ⟨⟨d0, rfl⟩⟩⟩) | (go_at_call 89; with_reducible refine (HC1.out _).mono ?_; rintro e v1 ⟨rfl, ⟨⟨d1, rfl⟩⟩⟩) | (go_at_call 102; with_reducible refine (HC2.out _).mono ?_; rintro e v2 ⟨rfl, ⟨⟨d2, rfl⟩⟩⟩) | (go_at_call 102; with_reducible refine (HC3.out _).mono ?_; rintro e v3 ⟨rfl, ⟨⟨d3, rfl⟩⟩⟩) | (go_at_call 98; with_reducible refine (HC4.out _).mono ?_; rintro e v4 ⟨rfl, ⟨⟨d4, rfl⟩⟩⟩) | (go_at_call 104; with_reducible refine (HX.out _).mono ?_; rintro e w4 ⟨v4, rfl, ho4, hb4⟩; obtain ⟨A4, c4, rfl, hc4⟩ := ho4.slice; have HO4 := Aside0.mk ho4; have HS4 := Aside0.mk hb4; have HR4 := Aside0.mk (show Below (w.heap.size + 1) (w.alloc (.cells #[.string ⟨#[]⟩, .int .i64 0] 29)) w4 from res_step (by repeat (first | exact Below.refl _ _ | apply pw_below_drewN)) hb4); clear ho4 hb4) | (go_at_call 104; with_reducible refine (HY.out _).mono ?_; rintro e w5 ⟨v5, rfl, ho5, hb5⟩; obtain ⟨A5, c5, rfl, hc5⟩ := ho5.slice; have HB5x := Aside0.mk hb5; have HO5 := Aside0.mk ho5; have HS5 := Aside0.mk hb5; have HR5 := Aside0.mk (show Below (w.heap.size + 1) (w.alloc (.cells #[.string ⟨#[]⟩, .int .i64 0] 29)) w5 from res_step HR4.out hb5); have HO45 := Aside0.mk (HO4.out.below (Nat.le_refl _) HB5x.out); clear ho5 hb5) | (at_builtin; refine wpList_append_M (w0 := w.alloc (.cells #[.string ⟨#[]⟩, .int .i64 0] 29)) rfl (.tmp 52) (.tmp 56) 83 83 5 rfl Tryz.underlying83 info5 (w.heap.size + 1) _ x rfl (HO45.out.mono (by simp)) _ rfl y (src_own Tryz.underlying83 HO5.out) (by have := HLX.out; have := HLY.out; omega) (res_size HR5.out) HR5.out ?_; intro v6 w6 ho6 hr6; rw [HZ6.out] at ho6; obtain ⟨A6, c6, rfl, hc6⟩ := ho6.slice; have HO6 := Aside0.mk ho6; have HR6 := Aside0.mk hr6; clear ho6 hr6) | (at_builtin; refine wpList_append_M (w0 := w.alloc (.cells #[.string ⟨#[]⟩, .int .i64 0] 29)) rfl (.tmp 63) (.tmp 67) 83 9 5 rfl Tryz.underlying83 info5 (w.heap.size + 1) _ z rfl HO6.out _ rfl (bytesOf (a1.extract z.length a1.size)) (src_bytes _ Tryz.underlying9 _) (by have := HLZ.out; have := HLE.out; omega) (res_size HR6.out) HR6.out ?_; intro v7 w7 ho7 hr7; rw [HT.out] at ho7; obtain ⟨A7, c7, rfl, hc7⟩ := ho7.slice; have HO7 := Aside0.mk ho7; have HR7 := Aside0.mk hr7; clear ho7 hr7) | (go_at_call 90; with_reducible refine (HOUT.out _ _ _ HO7.out).mono ?_; rintro e w8 ⟨rfl, hb8⟩; have HR8 := Aside0.mk (res_step HR7.out hb8); clear hb8; have hk0 : w8.cell? ⟨w.heap.size, 0, none⟩ = some (.string ⟨#[]⟩) := (blk_cell (res_block HR8.out) 0).trans rfl; have hk1 : w8.cell? ⟨w.heap.size, 1, none⟩ = some (.int .i64 0) := (blk_cell (res_block HR8.out) 1).trans rfl; have hf0 := blk_frozen (res_block HR8.out) 0; have hf1 := blk_frozen (res_block HR8.out) 1))
            refine bodyPost_ret (results_cell_row rfl _ _ w.heap.size 29 #[.string r1, .int .i64 r2] (0, 0) _ rfl (blk_put (cs := #[.string r1, .int .i64 0]) (blk_put (cs := #[.string ⟨#[]⟩, .int .i64 0]) (res_block (o := (.cells #[.string ⟨#[]⟩, .int .i64 0] 29)) HR8.out) 0 _ rfl) 1 _ rfl) Tryz.underlying29 rfl (by kernel_rfl)) rfl ?_
            exact ⟨rfl, below_set (below_set (res_below (o := (.cells #[.string ⟨#[]⟩, .int .i64 0] 29)) HR8.out) (Nat.le_refl _)) (Nat.le_refl _)⟩
          · rw [if_neg h7, List.append_nil] at h
            have HOUT := Lib.hid (fun (W : World) (A : Option Addr) (c : Nat) (ho : OwnM (w.heap.size + 1) (.slice A z.length c) z W) => out_M W A c z r1 r2 _ ho h)
            clear h
            go_enter Tryz.func56, Tryz.ntmps56
            go_wp2_with (first | (go_at_call 89; with_reducible refine (HC0.out _).mono ?_; rintro e v0 ⟨rfl, ⟨⟨d0, rfl⟩⟩⟩) | (go_at_call 89; with_reducible refine (HC1.out _).mono ?_; rintro e v1 ⟨rfl, ⟨⟨d1, rfl⟩⟩⟩) | (go_at_call 102; with_reducible refine (HC2.out _).mono ?_; rintro e v2 ⟨rfl, ⟨⟨d2, rfl⟩⟩⟩) | (go_at_call 102; with_reducible refine (HC3.out _).mono ?_; rintro e v3 ⟨rfl, ⟨⟨d3, rfl⟩⟩⟩) | (go_at_call 98; with_reducible refine (HC4.out _).mono ?_; rintro e v4 ⟨rfl, ⟨⟨d4, rfl⟩⟩⟩) | (go_at_call 104; with_reducible refine (HX.out _).mono ?_; rintro e w4 ⟨v4, rfl, ho4, hb4⟩; obtain ⟨A4, c4, rfl, hc4⟩ := ho4.slice; have HO4 := Aside0.mk ho4; have HS4 := Aside0.mk hb4; have HR4 := Aside0.mk (show Below (w.heap.size + 1) (w.alloc (.cells #[.string ⟨#[]⟩, .int .i64 0] 29)) w4 from res_step (by repeat (first | exact Below.refl _ _ | apply pw_below_drewN)) hb4); clear ho4 hb4) | (go_at_call 104; with_reducible refine (HY.out _).mono ?_; rintro e w5 ⟨v5, rfl, ho5, hb5⟩; obtain ⟨A5, c5, rfl, hc5⟩ := ho5.slice; have HB5x := Aside0.mk hb5; have HO5 := Aside0.mk ho5; have HS5 := Aside0.mk hb5; have HR5 := Aside0.mk (show Below (w.heap.size + 1) (w.alloc (.cells #[.string ⟨#[]⟩, .int .i64 0] 29)) w5 from res_step HR4.out hb5); have HO45 := Aside0.mk (HO4.out.below (Nat.le_refl _) HB5x.out); clear ho5 hb5) | (at_builtin; refine wpList_append_M (w0 := w.alloc (.cells #[.string ⟨#[]⟩, .int .i64 0] 29)) rfl (.tmp 52) (.tmp 56) 83 83 5 rfl Tryz.underlying83 info5 (w.heap.size + 1) _ x rfl (HO45.out.mono (by simp)) _ rfl y (src_own Tryz.underlying83 HO5.out) (by have := HLX.out; have := HLY.out; omega) (res_size HR5.out) HR5.out ?_; intro v6 w6 ho6 hr6; rw [HZ6.out] at ho6; obtain ⟨A6, c6, rfl, hc6⟩ := ho6.slice; have HO6 := Aside0.mk ho6; have HR6 := Aside0.mk hr6; clear ho6 hr6) | (go_at_call 90; with_reducible refine (HOUT.out _ _ _ HO6.out).mono ?_; rintro e w8 ⟨rfl, hb8⟩; have HR8 := Aside0.mk (res_step HR6.out hb8); clear hb8; have hk0 : w8.cell? ⟨w.heap.size, 0, none⟩ = some (.string ⟨#[]⟩) := (blk_cell (res_block HR8.out) 0).trans rfl; have hk1 : w8.cell? ⟨w.heap.size, 1, none⟩ = some (.int .i64 0) := (blk_cell (res_block HR8.out) 1).trans rfl; have hf0 := blk_frozen (res_block HR8.out) 0; have hf1 := blk_frozen (res_block HR8.out) 1))
            refine bodyPost_ret (results_cell_row rfl _ _ w.heap.size 29 #[.string r1, .int .i64 r2] (0, 0) _ rfl (blk_put (cs := #[.string r1, .int .i64 0]) (blk_put (cs := #[.string ⟨#[]⟩, .int .i64 0]) (res_block (o := (.cells #[.string ⟨#[]⟩, .int .i64 0] 29)) HR8.out) 0 _ rfl) 1 _ rfl) Tryz.underlying29 rfl (by kernel_rfl)) rfl ?_
            exact ⟨rfl, below_set (below_set (res_below (o := (.cells #[.string ⟨#[]⟩, .int .i64 0] 29)) HR8.out) (Nat.le_refl _)) (Nat.le_refl _)⟩
      · have e3 : (a3 == -1) = false := beq_eq_false_iff_ne.mpr h3
        rw [if_neg h3] at h
        by_cases h5 : (m : Int) > 1000
        · rw [if_pos (.inl (by omega))] at h
          obtain ⟨rfl, rfl⟩ : (⟨#[]⟩ : ByteArray) = r1 ∧ 3 = r2 := by simpa using h
          clear h
          go_enter Tryz.func56, Tryz.ntmps56
          go_wp2_with (first | (go_at_call 89; with_reducible refine (HC0.out _).mono ?_; rintro e v0 ⟨rfl, ⟨⟨d0, rfl⟩⟩⟩) | (go_at_call 89; with_reducible refine (HC1.out _).mono ?_; rintro e v1 ⟨rfl, ⟨⟨d1, rfl⟩⟩⟩) | (go_at_call 102; with_reducible refine (HC2.out _).mono ?_; rintro e v2 ⟨rfl, ⟨⟨d2, rfl⟩⟩⟩) | (go_at_call 102; with_reducible refine (HC3.out _).mono ?_; rintro e v3 ⟨rfl, ⟨⟨d3, rfl⟩⟩⟩) | (go_at_call 98; with_reducible refine (HC4.out _).mono ?_; rintro e v4 ⟨rfl, ⟨⟨d4, rfl⟩⟩⟩))
          refine bodyPost_ret (results_cell_row rfl _ _ w.heap.size 29 #[.string ⟨#[]⟩, .int .i64 3] (0, 0) _ rfl (blk_put (cs := #[.string ⟨#[]⟩, .int .i64 0]) (blk_put (cs := #[.string ⟨#[]⟩, .int .i64 0]) (res_block (o := (.cells #[.string ⟨#[]⟩, .int .i64 0] 29)) (by repeat (first | exact Below.refl _ _ | apply pw_below_drewN))) 0 _ rfl) 1 _ rfl) Tryz.underlying29 rfl (by kernel_rfl)) rfl ?_
          exact ⟨rfl, below_set (below_set (res_below (o := (.cells #[.string ⟨#[]⟩, .int .i64 0] 29)) (by repeat (first | exact Below.refl _ _ | apply pw_below_drewN))) (Nat.le_refl _)) (Nat.le_refl _)⟩
        · by_cases h6 : a3 > 1000
          · rw [if_pos (.inr h6)] at h
            obtain ⟨rfl, rfl⟩ : (⟨#[]⟩ : ByteArray) = r1 ∧ 3 = r2 := by simpa using h
            clear h
            go_enter Tryz.func56, Tryz.ntmps56
            go_wp2_with (first | (go_at_call 89; with_reducible refine (HC0.out _).mono ?_; rintro e v0 ⟨rfl, ⟨⟨d0, rfl⟩⟩⟩) | (go_at_call 89; with_reducible refine (HC1.out _).mono ?_; rintro e v1 ⟨rfl, ⟨⟨d1, rfl⟩⟩⟩) | (go_at_call 102; with_reducible refine (HC2.out _).mono ?_; rintro e v2 ⟨rfl, ⟨⟨d2, rfl⟩⟩⟩) | (go_at_call 102; with_reducible refine (HC3.out _).mono ?_; rintro e v3 ⟨rfl, ⟨⟨d3, rfl⟩⟩⟩) | (go_at_call 98; with_reducible refine (HC4.out _).mono ?_; rintro e v4 ⟨rfl, ⟨⟨d4, rfl⟩⟩⟩))
            refine bodyPost_ret (results_cell_row rfl _ _ w.heap.size 29 #[.string ⟨#[]⟩, .int .i64 3] (0, 0) _ rfl (blk_put (cs := #[.string ⟨#[]⟩, .int .i64 0]) (blk_put (cs := #[.string ⟨#[]⟩, .int .i64 0]) (res_block (o := (.cells #[.string ⟨#[]⟩, .int .i64 0] 29)) (by repeat (first | exact Below.refl _ _ | apply pw_below_drewN))) 0 _ rfl) 1 _ rfl) Tryz.underlying29 rfl (by kernel_rfl)) rfl ?_
            exact ⟨rfl, below_set (below_set (res_below (o := (.cells #[.string ⟨#[]⟩, .int .i64 0] 29)) (by repeat (first | exact Below.refl _ _ | apply pw_below_drewN))) (Nat.le_refl _)) (Nat.le_refl _)⟩
          · rw [if_neg (by omega)] at h
            have HX := Lib.hid (fun (W : World) => fitM a1 (m : Int) a4 W W (by omega) (by omega) (by omega) (Below.refl _ _))
            have HY := Lib.hid (fun (W : World) => fitM a0 a3 a4 W W (by omega) (by omega) (by omega) (Below.refl _ _))
            have hlx := fitL_length a1 (m : Int) a4
            have hly := fitL_length a0 a3 a4
            unfold overlayL at h
            rw [g2] at h
            generalize fitL a1 (m : Int) a4 = x at HX hlx h
            generalize fitL a0 a3 a4 = y at HY hly h
            obtain ⟨z, hz⟩ : ∃ z, x ++ y = z := ⟨_, rfl⟩
            rw [hz] at h
            have hlz : z.length ≤ 5000 := by rw [← hz, List.length_append]; omega
            have HZ6 := Aside0.mk hz
            have HLX := Aside0.mk hlx
            have HLY := Aside0.mk hly
            have HLZ := Aside0.mk hlz
            clear hz hlx hly hlz
            by_cases h7 : z.length < a1.size
            · rw [if_pos h7] at h
              obtain ⟨t, ht⟩ : ∃ t, z ++ (bytesOf a1).drop z.length = t := ⟨_, rfl⟩
              rw [ht] at h
              have HT : Aside0 (z ++ bytesOf (a1.extract z.length a1.size) = t) := ⟨by rw [bytesOf_extract, List.take_of_length_le (by rw [List.length_drop, bytesOf_length]; exact Nat.le_refl _)]; exact ht⟩
              have HLE : Aside0 ((bytesOf (a1.extract z.length a1.size)).length ≤ 2000) := ⟨by rw [bytesOf_length, ByteArray.size_extract]; omega⟩
              have HOUT := Lib.hid (fun (W : World) (A : Option Addr) (c : Nat) (ho : OwnM (w.heap.size + 1) (.slice A t.length c) t W) => out_M W A c t r1 r2 _ ho h)
              clear ht h
              go_enter Tryz.func56, Tryz.ntmps56
              go_wp2_with (first | (go_at_call 89; with_reducible refine (HC0.out _).mono ?_; rintro e v0 ⟨rfl, ⟨⟨d0, rfl⟩⟩⟩) | (go_at_call 89; with_reducible refine (HC1.out _).mono ?_; rintro e v1 ⟨rfl, ⟨⟨d1, rfl⟩⟩⟩) | (go_at_call 102; with_reducible refine (HC2.out _).mono ?_; rintro e v2 ⟨rfl, ⟨⟨d2, rfl⟩⟩⟩) | (go_at_call 102; with_reducible refine (HC3.out _).mono ?_; rintro e v3 ⟨rfl, ⟨⟨d3, rfl⟩⟩⟩) | (go_at_call 98; with_reducible refine (HC4.out _).mono ?_; rintro e v4 ⟨rfl, ⟨⟨d4, rfl⟩⟩⟩) | (go_at_call 104; with_reducible refine (HX.out _).mono ?_; rintro e w4 ⟨v4, rfl, ho4, hb4⟩; obtain ⟨A4, c4, rfl, hc4⟩ := ho4.slice; have HO4 := Aside0.mk ho4; have HS4 := Aside0.mk hb4; have HR4 := Aside0.mk (show Below (w.heap.size + 1) (w.alloc (.cells #[.string ⟨#[]⟩, .int .i64 0] 29)) w4 from res_step (by repeat (first | exact Below.refl _ _ | apply pw_below_drewN)) hb4); clear ho4 hb4) | (go_at_call 104; with_reducible refine (HY.out _).mono ?_; rintro e w5 ⟨v5, rfl, ho5, hb5⟩; obtain ⟨A5, c5, rfl, hc5⟩ := ho5.slice; have HB5x := Aside0.mk hb5; have HO5 := Aside0.mk ho5; have HS5 := Aside0.mk hb5; have HR5 := Aside0.mk (show Below (w.heap.size + 1) (w.alloc (.cells #[.string ⟨#[]⟩, .int .i64 0] 29)) w5 from res_step HR4.out hb5); have HO45 := Aside0.mk (HO4.out.below (Nat.le_refl _) HB5x.out); clear ho5 hb5) | (at_builtin; refine wpList_append_M (w0 := w.alloc (.cells #[.string ⟨#[]⟩, .int .i64 0] 29)) rfl (.tmp 52) (.tmp 56) 83 83 5 rfl Tryz.underlying83 info5 (w.heap.size + 1) _ x rfl (HO45.out.mono (by simp)) _ rfl y (src_own Tryz.underlying83 HO5.out) (by have := HLX.out; have := HLY.out; omega) (res_size HR5.out) HR5.out ?_; intro v6 w6 ho6 hr6; rw [HZ6.out] at ho6; obtain ⟨A6, c6, rfl, hc6⟩ := ho6.slice; have HO6 := Aside0.mk ho6; have HR6 := Aside0.mk hr6; clear ho6 hr6) | (at_builtin; refine wpList_append_M (w0 := w.alloc (.cells #[.string ⟨#[]⟩, .int .i64 0] 29)) rfl (.tmp 63) (.tmp 67) 83 9 5 rfl Tryz.underlying83 info5 (w.heap.size + 1) _ z rfl HO6.out _ rfl (bytesOf (a1.extract z.length a1.size)) (src_bytes _ Tryz.underlying9 _) (by have := HLZ.out; have := HLE.out; omega) (res_size HR6.out) HR6.out ?_; intro v7 w7 ho7 hr7; rw [HT.out] at ho7; obtain ⟨A7, c7, rfl, hc7⟩ := ho7.slice; have HO7 := Aside0.mk ho7; have HR7 := Aside0.mk hr7; clear ho7 hr7) | (go_at_call 90; with_reducible refine (HOUT.out _ _ _ HO7.out).mono ?_; rintro e w8 ⟨rfl, hb8⟩; have HR8 := Aside0.mk (res_step HR7.out hb8); clear hb8; have hk0 : w8.cell? ⟨w.heap.size, 0, none⟩ = some (.string ⟨#[]⟩) := (blk_cell (res_block HR8.out) 0).trans rfl; have hk1 : w8.cell? ⟨w.heap.size, 1, none⟩ = some (.int .i64 0) := (blk_cell (res_block HR8.out) 1).trans rfl; have hf0 := blk_frozen (res_block HR8.out) 0; have hf1 := blk_frozen (res_block HR8.out) 1))
              refine bodyPost_ret (results_cell_row rfl _ _ w.heap.size 29 #[.string r1, .int .i64 r2] (0, 0) _ rfl (blk_put (cs := #[.string r1, .int .i64 0]) (blk_put (cs := #[.string ⟨#[]⟩, .int .i64 0]) (res_block (o := (.cells #[.string ⟨#[]⟩, .int .i64 0] 29)) HR8.out) 0 _ rfl) 1 _ rfl) Tryz.underlying29 rfl (by kernel_rfl)) rfl ?_
              exact ⟨rfl, below_set (below_set (res_below (o := (.cells #[.string ⟨#[]⟩, .int .i64 0] 29)) HR8.out) (Nat.le_refl _)) (Nat.le_refl _)⟩
            · rw [if_neg h7, List.append_nil] at h
              have HOUT := Lib.hid (fun (W : World) (A : Option Addr) (c : Nat) (ho : OwnM (w.heap.size + 1) (.slice A z.length c) z W) => out_M W A c z r1 r2 _ ho h)
              clear h
              go_enter Tryz.func56, Tryz.ntmps56
              go_wp2_with (first | (go_at_call 89; with_reducible refine (HC0.out _).mono ?_; rintro e v0 ⟨rfl, ⟨⟨d0, rfl⟩⟩⟩) | (go_at_call 89; with_reducible refine (HC1.out _).mono ?_; rintro e v1 ⟨rfl, ⟨⟨d1, rfl⟩⟩⟩) | (go_at_call 102; with_reducible refine (HC2.out _).mono ?_; rintro e v2 ⟨rfl, ⟨⟨d2, rfl⟩⟩⟩) | (go_at_call 102; with_reducible refine (HC3.out _).mono ?_; rintro e v3 ⟨rfl, ⟨⟨d3, rfl⟩⟩⟩) | (go_at_call 98; with_reducible refine (HC4.out _).mono ?_; rintro e v4 ⟨rfl, ⟨⟨d4, rfl⟩⟩⟩) | (go_at_call 104; with_reducible refine (HX.out _).mono ?_; rintro e w4 ⟨v4, rfl, ho4, hb4⟩; obtain ⟨A4, c4, rfl, hc4⟩ := ho4.slice; have HO4 := Aside0.mk ho4; have HS4 := Aside0.mk hb4; have HR4 := Aside0.mk (show Below (w.heap.size + 1) (w.alloc (.cells #[.string ⟨#[]⟩, .int .i64 0] 29)) w4 from res_step (by repeat (first | exact Below.refl _ _ | apply pw_below_drewN)) hb4); clear ho4 hb4) | (go_at_call 104; with_reducible refine (HY.out _).mono ?_; rintro e w5 ⟨v5, rfl, ho5, hb5⟩; obtain ⟨A5, c5, rfl, hc5⟩ := ho5.slice; have HB5x := Aside0.mk hb5; have HO5 := Aside0.mk ho5; have HS5 := Aside0.mk hb5; have HR5 := Aside0.mk (show Below (w.heap.size + 1) (w.alloc (.cells #[.string ⟨#[]⟩, .int .i64 0] 29)) w5 from res_step HR4.out hb5); have HO45 := Aside0.mk (HO4.out.below (Nat.le_refl _) HB5x.out); clear ho5 hb5) | (at_builtin; refine wpList_append_M (w0 := w.alloc (.cells #[.string ⟨#[]⟩, .int .i64 0] 29)) rfl (.tmp 52) (.tmp 56) 83 83 5 rfl Tryz.underlying83 info5 (w.heap.size + 1) _ x rfl (HO45.out.mono (by simp)) _ rfl y (src_own Tryz.underlying83 HO5.out) (by have := HLX.out; have := HLY.out; omega) (res_size HR5.out) HR5.out ?_; intro v6 w6 ho6 hr6; rw [HZ6.out] at ho6; obtain ⟨A6, c6, rfl, hc6⟩ := ho6.slice; have HO6 := Aside0.mk ho6; have HR6 := Aside0.mk hr6; clear ho6 hr6) | (go_at_call 90; with_reducible refine (HOUT.out _ _ _ HO6.out).mono ?_; rintro e w8 ⟨rfl, hb8⟩; have HR8 := Aside0.mk (res_step HR6.out hb8); clear hb8; have hk0 : w8.cell? ⟨w.heap.size, 0, none⟩ = some (.string ⟨#[]⟩) := (blk_cell (res_block HR8.out) 0).trans rfl; have hk1 : w8.cell? ⟨w.heap.size, 1, none⟩ = some (.int .i64 0) := (blk_cell (res_block HR8.out) 1).trans rfl; have hf0 := blk_frozen (res_block HR8.out) 0; have hf1 := blk_frozen (res_block HR8.out) 1))
              refine bodyPost_ret (results_cell_row rfl _ _ w.heap.size 29 #[.string r1, .int .i64 r2] (0, 0) _ rfl (blk_put (cs := #[.string r1, .int .i64 0]) (blk_put (cs := #[.string ⟨#[]⟩, .int .i64 0]) (res_block (o := (.cells #[.string ⟨#[]⟩, .int .i64 0] 29)) HR8.out) 0 _ rfl) 1 _ rfl) Tryz.underlying29 rfl (by kernel_rfl)) rfl ?_
              exact ⟨rfl, below_set (below_set (res_below (o := (.cells #[.string ⟨#[]⟩, .int .i64 0] 29)) HR8.out) (Nat.le_refl _)) (Nat.le_refl _)⟩
  · rw [if_neg hb] at h
    cases h
end Go.Proofs.YtlekfhnlhdmekaaGreatDoor.T

/- The reference's Space returns what qanatref02_Space.f says. -/
namespace Go.Proofs.YtlekfhnlhdmekaaGreatDoor.T
set_option linter.unusedSimpArgs false
set_option linter.unusedVariables false
open Go.RowKit Go.Proofs.YtlekfhnlhdmekaaGreatDoorW.PrintWords Go.Proofs.YtlekfhnlhdmekaaGreatDoorW.PrintLast Go.Proofs.YtlekfhnlhdmekaaGreatDoorW.PrintMore
attribute [local go_sem] max2_int min2_int max_two min_two max_three min_three max_four min_four

/-- The words of s that l tells, with n pads between them, made until there are more than 1000 bytes. -/
def spGo (s : ByteArray) (n p : Int) : List S113 → Bool → List Int → List Int
  | [], _, b => b
  | x :: l, t, b => if b.length ≤ 1000 then spGo s n p l false ((if t = true then b else b ++ List.replicate (if n < 1001 then n else 1001).toNat p) ++ bytesOf (s.extract x.f0.toNat x.f1.toNat)) else b
def inside (s : ByteArray) (x : S113) : Bool := decide (0 ≤ x.f0) && decide (x.f0 ≤ x.f1) && decide (x.f1 ≤ s.size)
def qanatref02_Space.f (a0 : ByteArray) (a1 a2 : Int) : Option (ByteArray × Int) :=
  if a0.size ≤ 2000 ∧ a1 ≤ 9223372036854775807 then
    (if (vld a0 && decide (0 ≤ a1) && goodI a2) = true then (qanatref02_Spans.f 5000 a0).bind fun l =>
      if l.length ≤ 5000 ∧ l.all (inside a0) = true then qanatref02_out.f (spGo a0 a1 a2 l true []) else none
    else some (⟨#[]⟩, 1))
  else none
theorem spGo_end (s : ByteArray) (n p : Int) (l : List S113) (t : Bool) (b z : List Int) (h : spGo s n p (l.drop l.length) t b = z) : b = z := by
  rw [List.drop_length] at h; exact h
theorem spGo_full (s : ByteArray) (n p : Int) (l : List S113) (i : Nat) (t : Bool) (b z : List Int) (h : spGo s n p (l.drop i) t b = z) (hb : ¬ b.length ≤ 1000) : b = z := by
  cases e : l.drop i with
  | nil => rw [e] at h; exact h
  | cons x r => rw [e, spGo, if_neg hb] at h; exact h
theorem spGo_step (s : ByteArray) (n p : Int) (l : List S113) (i : Nat) (t : Bool) (b z : List Int) (h : spGo s n p (l.drop i) t b = z) (hi : i < l.length) (hb : b.length ≤ 1000) :
    spGo s n p (l.drop (i + 1)) false ((if t = true then b else b ++ List.replicate (if n < 1001 then n else 1001).toNat p) ++ bytesOf (s.extract (rd_T113 l i).f0.toNat (rd_T113 l i).f1.toNat)) = z := by
  rw [List.drop_eq_getElem_cons hi, spGo, if_pos hb] at h
  rw [show rd_T113 l (i : Int) = l[i] by unfold rd_T113; rw [Int.toNat_natCast, List.getD_eq_getElem?_getD, List.getElem?_eq_getElem hi]; rfl]
  exact h
theorem inside_at (s : ByteArray) (l : List S113) (h : l.all (inside s) = true) (i : Nat) (hi : i < l.length) : ∃ u v : Nat, (rd_T113 l i).f0 = u ∧ (rd_T113 l i).f1 = v ∧ u ≤ v ∧ v ≤ s.size := by
  have hx : inside s (rd_T113 l i) = true := by
    rw [show rd_T113 l (i : Int) = l[i] by unfold rd_T113; rw [Int.toNat_natCast, List.getD_eq_getElem?_getD, List.getElem?_eq_getElem hi]; rfl]
    exact List.all_eq_true.1 h _ (List.getElem_mem hi)
  simp only [inside, Bool.and_eq_true, decide_eq_true_eq] at hx
  exact ⟨(rd_T113 l i).f0.toNat, (rd_T113 l i).f1.toNat, by omega, by omega, by omega, by omega⟩

set_option maxRecDepth 100000 in
set_option maxHeartbeats 8000000 in
theorem qanatref02_Space.calls (a0 : ByteArray) (a1 a2 : Int) (r1 : ByteArray) (r2 : Int) (w : World) (h : qanatref02_Space.f a0 a1 a2 = some (r1, r2)) :
    Calls Tryz.prog 72 #[.string a0, .int .i64 a1, .int .u8 a2] w fun e w' => e = .returned (.agg #[.string r1, .int .i64 r2]) ∧ Below w.heap.size w w' := by
  have hu29 := Tryz.underlying29
  have hu113 := Tryz.underlying113
  unfold qanatref02_Space.f at h
  by_cases hb : a0.size ≤ 2000 ∧ a1 ≤ 9223372036854775807
  · rw [if_pos hb] at h
    obtain ⟨hz0, hz1⟩ := hb
    have hC0 := fun W => qanatref02_Valid.calls a0 (vld a0) W rfl
    have hC1 := fun W => wh_no a1 0 W
    have hC2 := fun W => qanatref02_Pad.calls a2 (goodI a2) W rfl
    have hF0 : vld a0 = true → True := fun _ => trivial
    have hF1 := of_decide_eq_true (p := 0 ≤ a1)
    have hF2 : goodI a2 = true → True := fun _ => trivial
    generalize vld a0 = b0 at hC0 hF0 h
    generalize decide (0 ≤ a1) = b1 at hC1 hF1 h
    generalize goodI a2 = b2 at hC2 hF2 h
    have HC0 := Lib.hid hC0
    have HC1 := Lib.hid hC1
    have HC2 := Lib.hid hC2
    clear hC0 hC1 hC2
    cases b0 with
    | false =>
      obtain ⟨rfl, rfl⟩ : (⟨#[]⟩ : ByteArray) = r1 ∧ 1 = r2 := by simpa using h
      clear h hF0 hF1 hF2
      go_enter Tryz.func72, Tryz.ntmps72
      go_wp2_with (first | (go_at_call 89; with_reducible refine (HC0.out _).mono ?_; rintro e v0 ⟨rfl, ⟨⟨d0, rfl⟩⟩⟩) | (go_at_call 102; with_reducible refine (HC1.out _).mono ?_; rintro e v1 ⟨rfl, ⟨⟨d1, rfl⟩⟩⟩) | (go_at_call 98; with_reducible refine (HC2.out _).mono ?_; rintro e v2 ⟨rfl, ⟨⟨d2, rfl⟩⟩⟩))
      refine bodyPost_ret (results_cell_row rfl _ _ w.heap.size 29 #[.string ⟨#[]⟩, .int .i64 1] (0, 0) _ rfl (blk_put (cs := #[.string ⟨#[]⟩, .int .i64 0]) (blk_put (cs := #[.string ⟨#[]⟩, .int .i64 0]) (res_block (o := (.cells #[.string ⟨#[]⟩, .int .i64 0] 29)) (by repeat (first | exact Below.refl _ _ | apply pw_below_drewN))) 0 _ rfl) 1 _ rfl) Tryz.underlying29 rfl (by kernel_rfl)) rfl ?_
      exact ⟨rfl, below_set (below_set (res_below (o := (.cells #[.string ⟨#[]⟩, .int .i64 0] 29)) (by repeat (first | exact Below.refl _ _ | apply pw_below_drewN))) (Nat.le_refl _)) (Nat.le_refl _)⟩
    | true =>
    cases b1 with
    | false =>
      obtain ⟨rfl, rfl⟩ : (⟨#[]⟩ : ByteArray) = r1 ∧ 1 = r2 := by simpa using h
      clear h hF0 hF1 hF2
      go_enter Tryz.func72, Tryz.ntmps72
      go_wp2_with (first | (go_at_call 89; with_reducible refine (HC0.out _).mono ?_; rintro e v0 ⟨rfl, ⟨⟨d0, rfl⟩⟩⟩) | (go_at_call 102; with_reducible refine (HC1.out _).mono ?_; rintro e v1 ⟨rfl, ⟨⟨d1, rfl⟩⟩⟩) | (go_at_call 98; with_reducible refine (HC2.out _).mono ?_; rintro e v2 ⟨rfl, ⟨⟨d2, rfl⟩⟩⟩))
      refine bodyPost_ret (results_cell_row rfl _ _ w.heap.size 29 #[.string ⟨#[]⟩, .int .i64 1] (0, 0) _ rfl (blk_put (cs := #[.string ⟨#[]⟩, .int .i64 0]) (blk_put (cs := #[.string ⟨#[]⟩, .int .i64 0]) (res_block (o := (.cells #[.string ⟨#[]⟩, .int .i64 0] 29)) (by repeat (first | exact Below.refl _ _ | apply pw_below_drewN))) 0 _ rfl) 1 _ rfl) Tryz.underlying29 rfl (by kernel_rfl)) rfl ?_
      exact ⟨rfl, below_set (below_set (res_below (o := (.cells #[.string ⟨#[]⟩, .int .i64 0] 29)) (by repeat (first | exact Below.refl _ _ | apply pw_below_drewN))) (Nat.le_refl _)) (Nat.le_refl _)⟩
    | true =>
    cases b2 with
    | false =>
      obtain ⟨rfl, rfl⟩ : (⟨#[]⟩ : ByteArray) = r1 ∧ 1 = r2 := by simpa using h
      clear h hF0 hF1 hF2
      go_enter Tryz.func72, Tryz.ntmps72
      go_wp2_with (first | (go_at_call 89; with_reducible refine (HC0.out _).mono ?_; rintro e v0 ⟨rfl, ⟨⟨d0, rfl⟩⟩⟩) | (go_at_call 102; with_reducible refine (HC1.out _).mono ?_; rintro e v1 ⟨rfl, ⟨⟨d1, rfl⟩⟩⟩) | (go_at_call 98; with_reducible refine (HC2.out _).mono ?_; rintro e v2 ⟨rfl, ⟨⟨d2, rfl⟩⟩⟩))
      refine bodyPost_ret (results_cell_row rfl _ _ w.heap.size 29 #[.string ⟨#[]⟩, .int .i64 1] (0, 0) _ rfl (blk_put (cs := #[.string ⟨#[]⟩, .int .i64 0]) (blk_put (cs := #[.string ⟨#[]⟩, .int .i64 0]) (res_block (o := (.cells #[.string ⟨#[]⟩, .int .i64 0] 29)) (by repeat (first | exact Below.refl _ _ | apply pw_below_drewN))) 0 _ rfl) 1 _ rfl) Tryz.underlying29 rfl (by kernel_rfl)) rfl ?_
      exact ⟨rfl, below_set (below_set (res_below (o := (.cells #[.string ⟨#[]⟩, .int .i64 0] 29)) (by repeat (first | exact Below.refl _ _ | apply pw_below_drewN))) (Nat.le_refl _)) (Nat.le_refl _)⟩
    | true =>
      have hs1 := hF1 rfl
      clear hF0 hF1 hF2
      simp only [Bool.and_self, if_true] at h
      obtain ⟨l, hl, h⟩ := Option.bind_eq_some_iff.mp h
      by_cases hc : l.length ≤ 5000 ∧ l.all (inside a0) = true
      · rw [if_pos hc] at h
        obtain ⟨hc1, hc2⟩ := hc
        obtain ⟨m, rfl⟩ := Int.eq_ofNat_of_zero_le hs1
        have HALL := Aside0.mk (inside_at a0 l hc2)
        have HL := Lib.hid (fun W => qanatref02_Spans.calls 5000 a0 l W hl)
        obtain ⟨z, hz⟩ : ∃ z, spGo a0 m a2 l true [] = z := ⟨_, rfl⟩
        rw [hz] at h
        have HZ := Aside0.mk hz
        have HOUT := Lib.hid (fun (W : World) (A : Option Addr) (c : Nat) (b : Nat) (ho : OwnM b (.slice A z.length c) z W) => out_M W A c z r1 r2 b ho h)
        obtain ⟨nl, hnl⟩ : ∃ nl, l.length = nl := ⟨_, rfl⟩
        have HN := Aside0.mk hnl
        have HZZ := Aside0.mk hz0
        rw [hnl] at hc1
        clear hl hz h hc2 hnl hs1 hz0
        go_enter Tryz.func72, Tryz.ntmps72
        go_wp2_with (first | (go_at_call 89; with_reducible refine (HC0.out _).mono ?_; rintro e v0 ⟨rfl, ⟨⟨d0, rfl⟩⟩⟩) | (go_at_call 102; with_reducible refine (HC1.out _).mono ?_; rintro e v1 ⟨rfl, ⟨⟨d1, rfl⟩⟩⟩) | (go_at_call 98; with_reducible refine (HC2.out _).mono ?_; rintro e v2 ⟨rfl, ⟨⟨d2, rfl⟩⟩⟩) | (go_at_call 110; with_reducible refine (HL.out _).mono ?_; rintro e w4 ⟨v4, rfl, ho4, hb4⟩; obtain ⟨Al, cl, rfl⟩ := Kd.R_slice ho4; have HC4 := Aside0.mk (Kd.R_reads' ho4).2.2; have HR4 := Aside0.mk (show Below (w.heap.size + 1) (w.alloc (.cells #[.string ⟨#[]⟩, .int .i64 0] 29)) w4 from res_step (by repeat (first | exact Below.refl _ _ | apply pw_below_drewN)) hb4); rw [HN.out]; clear ho4 hb4))
        go_loopg [7, 9] nl (fun gg s7 s9 wr => ∃ (i : Nat) (xs : List Int), nl - i ≤ gg ∧ i ≤ nl ∧ s9 = .int .i64 i ∧ Aside0 (spGo a0 m a2 (l.drop i) (decide (i = 0)) xs = z) ∧ Aside0 (OwnM w4.heap.size s7 xs wr) ∧ Aside0 (Below w4.heap.size w4 wr))
        case atStart => exact ⟨0, [], by omega, by omega, rfl, ⟨HZ.out⟩, ⟨OwnM.nil _ _⟩, ⟨Below.refl _ _⟩⟩
        case round =>
          obtain ⟨i, xs, hg, hi, rfl, HG, HO, HB⟩ := hrel
          obtain ⟨A, c, rfl, hcap⟩ := HO.out.slice
          have HRR := Aside0.mk (res_step HR4.out HB.out)
          have HSZ := Aside0.mk HB.out.size
          by_cases hlt : i < nl
          · have g1 : (i : Int) < (nl : Int) := by omega
            by_cases hx : xs.length ≤ 1000
            · by_cases h0 : i = 0
              · have H0 := Aside0.mk h0
                obtain ⟨u, v, hu, hv, huv, hva⟩ := HALL.out i (by have := HN.out; omega)
                have g2 : decide ((0 : Int) < (i : Int)) = false := decide_eq_false (by omega)
                have g2n : decide (0 < i) = false := decide_eq_false (by omega)
                have hx2 : (xs.length : Int) ≤ 1000 := by omega
                have HXL := Aside0.mk hx
                have hab : (bytesOf (a0.extract u v)).length ≤ 2000 := by rw [bytesOf_length, ByteArray.size_extract]; have := HZZ.out; omega
                have HAB := Aside0.mk hab
                have HST := Aside0.mk (spGo_step a0 m a2 l i _ xs z HG.out (by have := HN.out; omega) hx)
                clear hab HG hx
                rw [hu, hv, Int.toNat_natCast, Int.toNat_natCast] at HST
                rw [if_pos (decide_eq_true h0)] at HST; clear h0; go_upto_region 10 with (fail)
                obtain ⟨ad, rfl, hu0, hu1⟩ := at_T113 (Kd.C_below HC4.out HB.out) (i : Int) (by omega) (by have := HN.out; omega)
                rw [hu, Int.toNat_natCast] at hu0
                rw [hv, Int.toNat_natCast] at hu1
                clear hu hv
                refine wp_region_still_tail 13 (by kernel_rfl) (by kernel_rfl) ?_
                simp only [List.take_succ_cons, List.take_zero, List.drop_succ_cons, List.drop_zero]
                repeat still_step
                refine wpStill_nil ?_
                go_wp2_with (at_builtin; refine wpList_append_M (w0 := w4) rfl (.tmp 44) (.tmp 56) 83 9 5 rfl Tryz.underlying83 info5 w4.heap.size _ xs rfl (HO.out.drewN 1) _ rfl (bytesOf (a0.extract u v)) (src_bytes _ Tryz.underlying9 _) (by have := HXL.out; have := HAB.out; omega) (by have := HB.out.size; exact this) (pw_below_drewN HB.out 1) ?_; intro v7 w7 ho7 hb7; have HO7 := Aside0.mk ho7; have HB7 := Aside0.mk hb7; clear ho7 hb7)
                go_roundg (nl - (i + 1))
                case measure => omega
                case rel => exact ⟨i + 1, xs ++ bytesOf (a0.extract u v), by omega, by omega, by go_num, ⟨by rw [decide_eq_false (Nat.succ_ne_zero i)]; exact HST.out⟩, HO7, HB7⟩
              · by_cases hm : 1001 < m
                · have d9 : decide (1001 < m) = true := decide_eq_true hm
                  have hq : (if (m : Int) < 1001 then (m : Int) else 1001) = 1001 := by split <;> omega
                  have hpl : (xs ++ List.replicate ((1001 : Int)).toNat a2).length ≤ 5000 := by rw [List.length_append, List.length_replicate]; omega
                  have HPL := Aside0.mk hpl
                  have HP := Lib.hid (fun W hb ho => padsM w4 W (.slice A xs.length c) xs 1001 a2 hb ho (by omega) (by omega))
                  clear hpl
                  obtain ⟨u, v, hu, hv, huv, hva⟩ := HALL.out i (by have := HN.out; omega)
                  have g2 : decide ((0 : Int) < (i : Int)) = true := decide_eq_true (by omega)
                  have g2n : decide (0 < i) = true := decide_eq_true (by omega)
                  have hx2 : (xs.length : Int) ≤ 1000 := by omega
                  have HXL := Aside0.mk hx
                  have hab : (bytesOf (a0.extract u v)).length ≤ 2000 := by rw [bytesOf_length, ByteArray.size_extract]; have := HZZ.out; omega
                  have HAB := Aside0.mk hab
                  have HST := Aside0.mk (spGo_step a0 m a2 l i _ xs z HG.out (by have := HN.out; omega) hx)
                  clear hab HG hx
                  rw [hu, hv, Int.toNat_natCast, Int.toNat_natCast] at HST
                  rw [hq, if_neg (by simp; omega)] at HST; generalize xs ++ List.replicate ((1001 : Int)).toNat a2 = ys at HP HPL HST; go_upto_region 10 with (go_at_call 130; with_reducible refine (HP.out _ (by repeat (first | exact HB.out | apply pw_below_drewN)) HO.out).mono ?_; rintro e w6 ⟨v6, rfl, ho6, hb6⟩; obtain ⟨A6, c6, rfl, hcap6⟩ := ho6.slice; have HO6 := Aside0.mk ho6; have HB6 := Aside0.mk hb6; clear ho6 hb6)
                  obtain ⟨ad, rfl, hu0, hu1⟩ := at_T113 (Kd.C_below HC4.out HB6.out) (i : Int) (by omega) (by have := HN.out; omega)
                  rw [hu, Int.toNat_natCast] at hu0
                  rw [hv, Int.toNat_natCast] at hu1
                  clear hu hv
                  refine wp_region_still_tail 13 (by kernel_rfl) (by kernel_rfl) ?_
                  simp only [List.take_succ_cons, List.take_zero, List.drop_succ_cons, List.drop_zero]
                  repeat still_step
                  refine wpStill_nil ?_
                  go_wp2_with (at_builtin; refine wpList_append_M (w0 := w4) rfl (.tmp 44) (.tmp 56) 83 9 5 rfl Tryz.underlying83 info5 w4.heap.size _ ys rfl (HO6.out.drewN 1) _ rfl (bytesOf (a0.extract u v)) (src_bytes _ Tryz.underlying9 _) (by have := HPL.out; have := HAB.out; omega) (by have := HB6.out.size; exact this) (pw_below_drewN HB6.out 1) ?_; intro v7 w7 ho7 hb7; have HO7 := Aside0.mk ho7; have HB7 := Aside0.mk hb7; clear ho7 hb7)
                  go_roundg (nl - (i + 1))
                  case measure => omega
                  case rel => exact ⟨i + 1, ys ++ bytesOf (a0.extract u v), by omega, by omega, by go_num, ⟨by rw [decide_eq_false (Nat.succ_ne_zero i)]; exact HST.out⟩, HO7, HB7⟩
                · have d9 : decide (1001 < m) = false := decide_eq_false hm
                  have hq : (if (m : Int) < 1001 then (m : Int) else 1001) = (m : Int) := by split <;> omega
                  have hpl : (xs ++ List.replicate ((m : Int)).toNat a2).length ≤ 5000 := by rw [List.length_append, List.length_replicate]; omega
                  have HPL := Aside0.mk hpl
                  have HP := Lib.hid (fun W hb ho => padsM w4 W (.slice A xs.length c) xs (m : Int) a2 hb ho (by omega) (by omega))
                  clear hpl
                  obtain ⟨u, v, hu, hv, huv, hva⟩ := HALL.out i (by have := HN.out; omega)
                  have g2 : decide ((0 : Int) < (i : Int)) = true := decide_eq_true (by omega)
                  have g2n : decide (0 < i) = true := decide_eq_true (by omega)
                  have hx2 : (xs.length : Int) ≤ 1000 := by omega
                  have HXL := Aside0.mk hx
                  have hab : (bytesOf (a0.extract u v)).length ≤ 2000 := by rw [bytesOf_length, ByteArray.size_extract]; have := HZZ.out; omega
                  have HAB := Aside0.mk hab
                  have HST := Aside0.mk (spGo_step a0 m a2 l i _ xs z HG.out (by have := HN.out; omega) hx)
                  clear hab HG hx
                  rw [hu, hv, Int.toNat_natCast, Int.toNat_natCast] at HST
                  rw [hq, if_neg (by simp; omega)] at HST; generalize xs ++ List.replicate ((m : Int)).toNat a2 = ys at HP HPL HST; go_upto_region 10 with (go_at_call 130; with_reducible refine (HP.out _ (by repeat (first | exact HB.out | apply pw_below_drewN)) HO.out).mono ?_; rintro e w6 ⟨v6, rfl, ho6, hb6⟩; obtain ⟨A6, c6, rfl, hcap6⟩ := ho6.slice; have HO6 := Aside0.mk ho6; have HB6 := Aside0.mk hb6; clear ho6 hb6)
                  obtain ⟨ad, rfl, hu0, hu1⟩ := at_T113 (Kd.C_below HC4.out HB6.out) (i : Int) (by omega) (by have := HN.out; omega)
                  rw [hu, Int.toNat_natCast] at hu0
                  rw [hv, Int.toNat_natCast] at hu1
                  clear hu hv
                  refine wp_region_still_tail 13 (by kernel_rfl) (by kernel_rfl) ?_
                  simp only [List.take_succ_cons, List.take_zero, List.drop_succ_cons, List.drop_zero]
                  repeat still_step
                  refine wpStill_nil ?_
                  go_wp2_with (at_builtin; refine wpList_append_M (w0 := w4) rfl (.tmp 44) (.tmp 56) 83 9 5 rfl Tryz.underlying83 info5 w4.heap.size _ ys rfl (HO6.out.drewN 1) _ rfl (bytesOf (a0.extract u v)) (src_bytes _ Tryz.underlying9 _) (by have := HPL.out; have := HAB.out; omega) (by have := HB6.out.size; exact this) (pw_below_drewN HB6.out 1) ?_; intro v7 w7 ho7 hb7; have HO7 := Aside0.mk ho7; have HB7 := Aside0.mk hb7; clear ho7 hb7)
                  go_roundg (nl - (i + 1))
                  case measure => omega
                  case rel => exact ⟨i + 1, ys ++ bytesOf (a0.extract u v), by omega, by omega, by go_num, ⟨by rw [decide_eq_false (Nat.succ_ne_zero i)]; exact HST.out⟩, HO7, HB7⟩
            · have g3 : ¬ (xs.length : Int) ≤ 1000 := by omega
              have hxz := spGo_full a0 m a2 l i _ xs z HG.out hx
              clear HG hx
              subst hxz
              clear hcap
              go_wp2_with (go_at_call 90; with_reducible refine (HOUT.out _ _ _ _ HO.out).mono ?_; rintro e w9 ⟨rfl, hb9⟩; have HR9 := Aside0.mk (res_step HRR.out hb9); clear hb9; have hk0 : w9.cell? ⟨w.heap.size, 0, none⟩ = some (.string ⟨#[]⟩) := (blk_cell (res_block HR9.out) 0).trans rfl; have hk1 : w9.cell? ⟨w.heap.size, 1, none⟩ = some (.int .i64 0) := (blk_cell (res_block HR9.out) 1).trans rfl; have hf0 := blk_frozen (res_block HR9.out) 0; have hf1 := blk_frozen (res_block HR9.out) 1)
              refine bodyPost_ret (results_cell_row rfl _ _ w.heap.size 29 #[.string r1, .int .i64 r2] (0, 0) _ rfl (blk_put (cs := #[.string r1, .int .i64 0]) (blk_put (cs := #[.string ⟨#[]⟩, .int .i64 0]) (res_block (o := (.cells #[.string ⟨#[]⟩, .int .i64 0] 29)) HR9.out) 0 _ rfl) 1 _ rfl) Tryz.underlying29 rfl (by kernel_rfl)) rfl ?_
              exact ⟨rfl, below_set (below_set (res_below (o := (.cells #[.string ⟨#[]⟩, .int .i64 0] 29)) HR9.out) (Nat.le_refl _)) (Nat.le_refl _)⟩
          · have g1 : ¬ (i : Int) < (nl : Int) := by omega
            obtain rfl : i = nl := by omega
            have hxz : xs = z := by have h2 := HG.out; rw [← HN.out] at h2; exact spGo_end a0 m a2 l _ xs z h2
            clear HG
            subst hxz
            clear hcap
            go_wp2_with (go_at_call 90; with_reducible refine (HOUT.out _ _ _ _ HO.out).mono ?_; rintro e w9 ⟨rfl, hb9⟩; have HR9 := Aside0.mk (res_step HRR.out hb9); clear hb9; have hk0 : w9.cell? ⟨w.heap.size, 0, none⟩ = some (.string ⟨#[]⟩) := (blk_cell (res_block HR9.out) 0).trans rfl; have hk1 : w9.cell? ⟨w.heap.size, 1, none⟩ = some (.int .i64 0) := (blk_cell (res_block HR9.out) 1).trans rfl; have hf0 := blk_frozen (res_block HR9.out) 0; have hf1 := blk_frozen (res_block HR9.out) 1)
            refine bodyPost_ret (results_cell_row rfl _ _ w.heap.size 29 #[.string r1, .int .i64 r2] (0, 0) _ rfl (blk_put (cs := #[.string r1, .int .i64 0]) (blk_put (cs := #[.string ⟨#[]⟩, .int .i64 0]) (res_block (o := (.cells #[.string ⟨#[]⟩, .int .i64 0] 29)) HR9.out) 0 _ rfl) 1 _ rfl) Tryz.underlying29 rfl (by kernel_rfl)) rfl ?_
            exact ⟨rfl, below_set (below_set (res_below (o := (.cells #[.string ⟨#[]⟩, .int .i64 0] 29)) HR9.out) (Nat.le_refl _)) (Nat.le_refl _)⟩
      · rw [if_neg hc] at h
        cases h
  · rw [if_neg hb] at h
    cases h
end Go.Proofs.YtlekfhnlhdmekaaGreatDoor.T
