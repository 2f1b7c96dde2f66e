/- Part 6 of the proof of ScanLiterals: the functions that it calls return what their plain descriptions say. -/
import Derived.Test.YtkkpjonfaflkmaaGreatDoorCScanLiterals3
import Derived.Test.YtkkpjonfaflkmaaGreatDoorCScanLiterals5
import Init
import Derived.Deep.LoopGhost
import Derived.Lib.Hide
import Derived.Lib.BufferMore
import Derived.Shelf.Abstract
import Derived.WalkLawsBesides
import Derived.Test.YtkkpjonfaflkmaaGreatDoorCScanLiterals2
import Derived.Lib.LaidU8
import Derived.Shelf.LaysM

namespace Go.Proofs.YtkkpjonfaflkmaaGreatDoor.T
set_option linter.unusedSimpArgs false
open Go.RowKit Go.Proofs.YtkkpjonfaflkmaaGreatDoorW.PrintWords Go.Proofs.YtkkpjonfaflkmaaGreatDoorW.PrintLast Go.Proofs.YtkkpjonfaflkmaaGreatDoorW.PrintMore
attribute [local go_sem] max2_int min2_int max_two min_two max_three min_three max_four min_four   -- for this text's walks alone
set_option linter.unusedVariables false
set_option linter.unusedSimpArgs false
def qanatref03_Value.j0 : Nat → ByteArray → Bool → Option ((List (S53)) × Int × Int × Int)
  | 0, _, _ => none
  | k + 1, x0, x16 => if x16 = true then (some (([] : List (S53)), 0, 0, 2)) else ((qanatref03_literal.f k x0 0 1).bind fun bt320 => (if bt320.2.2.2.1 = 0 then (if bt320.2.2.1 = (x0.size : Int) then (some ((([(⟨0, bt320.2.1, false, 0, 0, 0⟩ : S53)] : List (S53))), 0, 0, 0)) else (some (([] : List (S53)), 0, 0, 2))) else (some (([] : List (S53)), bt320.2.2.2.1, 0, 7))))
def qanatref03_Value.f (k : Nat) (a0 : ByteArray) : Option ((List (S53)) × Int × Int × Int) := if (a0.size : Int) = 0 then (qanatref03_Value.j0 k a0 true) else (if 0 < (a0.size : Int) then (if (bt a0 0) = 39 then (qanatref03_Value.j0 k a0 false) else (qanatref03_Value.j0 k a0 ((bt a0 0) != 34))) else (none))
theorem qanatref03_Value.mono_l : ∀ k, (∀ y0 y1, LeO (qanatref03_Value.j0 k y0 y1) (qanatref03_Value.j0 (k + 1) y0 y1))
  | 0 => fun _ _ r h => by simp [qanatref03_Value.j0] at h
  | k + 1 => by
    have ih0 := qanatref03_Value.mono_l k
    · intro y0 y1
      unfold qanatref03_Value.j0
      repeat' first
      | (with_reducible exact ih0 _ _)
      | (with_reducible exact qanatref03_literal.mono _ _ _ _)
      | (with_reducible exact LeO.refl _)
      | (with_reducible exact LeO.none _)
      | (with_reducible refine LeO.ite ?_ ?_)
      | (with_reducible refine LeO.bind ?_ (fun _ => ?_))
      | exact ih0 _ _
      | exact qanatref03_literal.mono _ _ _ _
      | exact LeO.none _
      | refine LeO.ite ?_ ?_
      | refine LeO.bind ?_ (fun _ => ?_)
theorem qanatref03_Value.mono : ∀ a0 k, LeO (qanatref03_Value.f k a0) (qanatref03_Value.f (k + 1) a0) := by
  intro a0 k
  have ih0 := qanatref03_Value.mono_l k
  unfold qanatref03_Value.f
  repeat' first
      | (with_reducible exact ih0 _ _)
      | (with_reducible exact qanatref03_literal.mono _ _ _ _)
      | (with_reducible exact LeO.refl _)
      | (with_reducible exact LeO.none _)
      | (with_reducible refine LeO.ite ?_ ?_)
      | (with_reducible refine LeO.bind ?_ (fun _ => ?_))
      | exact ih0 _ _
      | exact qanatref03_literal.mono _ _ _ _
      | exact LeO.none _
      | refine LeO.ite ?_ ?_
      | refine LeO.bind ?_ (fun _ => ?_)
set_option maxHeartbeats 8000000 in
set_option maxRecDepth 100000 in
theorem qanatref03_Value.calls (k : Nat) (a0 : ByteArray) (r1 : List (S53)) (r2 : Int) (r3 : Int) (r4 : Int) (w : World) (h : qanatref03_Value.f k a0 = some (r1, r2, r3, r4)) :
    Calls Tryz.prog 33 #[.string a0] w fun e w' => ∃ v0_ : Value, e = .returned (.agg #[v0_, .int .i64 r2, .int .i64 r3, .int .i64 r4]) ∧ Kd.R k53 53 w' w.heap.size (fun _ => True) v0_ r1 ∧ Below w.heap.size w w' := by
  have hu29 := Tryz.underlying29
  have hu82 := Tryz.underlying82
  have hu53 := Tryz.underlying53
  have HB := Aside0.mk (Below.refl w.heap.size w)
  have H : (if (a0.size : Int) = 0 then (qanatref03_Value.j0 k a0 true) else (if 0 < (a0.size : Int) then (if (bt a0 0) = 39 then (qanatref03_Value.j0 k a0 false) else (qanatref03_Value.j0 k a0 ((bt a0 0) != 34))) else (none))) = some (r1, r2, r3, r4) := h
  clear h
  have HC2 := Aside0.mk H
  clear H
  go_enter Tryz.func33, Tryz.ntmps33
  go_upto_region 1 with (first | ((with_reducible refine gate_dst (N := 2) rfl ?_); refine box_event ?hg (N := 2) ?hd (cs := #[.slice none 0 0, .int .i64 0, .int .i64 0, .int .i64 0]) (t := 29) ?hr ?_; (case hd => rfl); (case hg => rfl); (case hr => first | (go_simp; done) | (go_simp; rfl)); intro gb319 hg w3 hbox hb; have n0_ := Aside0.mk (below_step (by repeat (first | (with_reducible first | exact HB.out | apply below_alloc | apply pw_below_drewN | apply below_drew1) | exact HB.out)) hb); have n1_ := Aside0.mk (hbox); have n2_ := Aside0.mk ((by rw [hg]; exact (below_size (by repeat (first | (with_reducible first | exact HB.out | apply below_alloc | apply pw_below_drewN | apply below_drew1) | exact HB.out))) : w.heap.size ≤ gb319)); have n3_ := Aside0.mk ((by rw [hg]; exact (below_size (by repeat (first | (with_reducible first | exact HB.out | apply below_alloc | apply pw_below_drewN | apply below_drew1) | exact HB.out))) : w.heap.size ≤ gb319)); clear HB; have HB := n0_; have BK319 := n1_; have GW319 := n2_; have GE319 := n3_; clear n0_ n1_ n2_ n3_; clear hb hbox hg))
  (try simp only [Act.put, List.setIfInBounds_toArray, List.set_cons_zero, List.set_cons_succ])
  go_cut [16] (fun v16 wc => ∃ (kq : Nat) (x16_1 : Bool), v16 = .bool x16_1 ∧ Aside0 (qanatref03_Value.j0 kq a0 x16_1 = some (r1, r2, r3, r4)) ∧ Aside0 (kq ≤ k) ∧ Aside0 (wc.heap[gb319]? = some (.cells #[(.slice none 0 0), .int .i64 0, .int .i64 0, .int .i64 0] 29 (0, 0))) ∧ Aside0 (Below w.heap.size w wc))
  case first =>
    have H := HC2.out
    clear HC2
    by_cases c4 : (a0.size : Int) = 0
    · rw [if_pos c4] at H
      have c4b0 : ((a0.size : Int) == 0) = true := beq_iff_eq.mpr c4
      have c4b1 : ((a0.size : Int) != 0) = false := bne_eq_false_iff_eq.mpr c4
      clear c4
      (first | rw [c4b0] | (simp only [i64_w, i32_w]; rw [c4b0]) | skip)
      have H' := Aside0.mk H
      clear H
      go_wp2
      go_meet
      case rel => exact ⟨_, (true), (by first | rfl | (simp; done) | (simp [*]; done)), H', ⟨by first | omega | exact Nat.le_refl _⟩, ⟨by (with_reducible repeat (first | refine blk_drewN ?_ _ | refine blk_drew ?_ | refine blk_alloc ?_ _)); exact BK319.out⟩, ⟨by repeat (first | (with_reducible first | exact HB.out | apply below_alloc | apply pw_below_drewN | apply below_drew1 | refine below_set ?_ GE319.out) | exact HB.out)⟩⟩
    · rw [if_neg c4] at H
      have c4b0 : ((a0.size : Int) == 0) = false := beq_eq_false_iff_ne.mpr c4
      have c4b1 : ((a0.size : Int) != 0) = true := bne_iff_ne.mpr c4
      (first | rw [c4b0] | (simp only [i64_w, i32_w]; rw [c4b0]) | skip)
      by_cases c5 : 0 < (a0.size : Int)
      · rw [if_pos c5] at H
        have c5b0 : decide (0 < (a0.size : Int)) = true := decide_eq_true c5
        have c5b1 : decide (0 < a0.size) = true := decide_eq_true (by omega)
        clear c5
        by_cases c7 : (bt a0 0) = 39
        · rw [if_pos c7] at H
          have c7b0 : ((bt a0 0) == 39) = true := beq_iff_eq.mpr c7
          have c7b1 : ((bt a0 0) != 39) = false := bne_eq_false_iff_eq.mpr c7
          clear c7
          have H' := Aside0.mk H
          clear H
          have p6 : 0 ≤ (0 : Int) := (by omega)
          have q6 : 0 < a0.size := (by have : (0 : Int) < (a0.size : Int) := of_decide_eq_true (by first | (with_reducible assumption) | assumption); omega)
          have hx6 : ∀ h : 0 < a0.size, ((a0[0]'h).toNat : Int) = bt a0 0 := bt_at a0 0
          clear p6
          have qi6 : (0 < (a0.size : Int)) = True := eq_true (of_decide_eq_true (by first | (with_reducible assumption) | assumption))
          replace q6 := eq_true q6
          go_wp2
          go_meet
          case rel => exact ⟨_, (false), (by first | rfl | (simp; done) | (simp [*]; done)), H', ⟨by first | omega | exact Nat.le_refl _⟩, ⟨by (with_reducible repeat (first | refine blk_drewN ?_ _ | refine blk_drew ?_ | refine blk_alloc ?_ _)); exact BK319.out⟩, ⟨by repeat (first | (with_reducible first | exact HB.out | apply below_alloc | apply pw_below_drewN | apply below_drew1 | refine below_set ?_ GE319.out) | exact HB.out)⟩⟩
        · rw [if_neg c7] at H
          have c7b0 : ((bt a0 0) == 39) = false := beq_eq_false_iff_ne.mpr c7
          have c7b1 : ((bt a0 0) != 39) = true := bne_iff_ne.mpr c7
          have H' := Aside0.mk H
          clear H
          have p6 : 0 ≤ (0 : Int) := (by omega)
          have q6 : 0 < a0.size := (by have : (0 : Int) < (a0.size : Int) := of_decide_eq_true (by first | (with_reducible assumption) | assumption); omega)
          have hx6 : ∀ h : 0 < a0.size, ((a0[0]'h).toNat : Int) = bt a0 0 := bt_at a0 0
          clear p6
          have qi6 : (0 < (a0.size : Int)) = True := eq_true (of_decide_eq_true (by first | (with_reducible assumption) | assumption))
          replace q6 := eq_true q6
          have p8 : 0 ≤ (0 : Int) := (by omega)
          have q8 : 0 < a0.size := (by have : (0 : Int) < (a0.size : Int) := of_decide_eq_true (by first | (with_reducible assumption) | assumption); omega)
          have hx8 : ∀ h : 0 < a0.size, ((a0[0]'h).toNat : Int) = bt a0 0 := bt_at a0 0
          clear p8
          have qi8 : (0 < (a0.size : Int)) = True := eq_true (of_decide_eq_true (by first | (with_reducible assumption) | assumption))
          replace q8 := eq_true q8
          go_wp2
          go_meet
          case rel => exact ⟨_, (((bt a0 0) != 34)), (by first | rfl | (simp; done) | (simp [*]; done)), H', ⟨by first | omega | exact Nat.le_refl _⟩, ⟨by (with_reducible repeat (first | refine blk_drewN ?_ _ | refine blk_drew ?_ | refine blk_alloc ?_ _)); exact BK319.out⟩, ⟨by repeat (first | (with_reducible first | exact HB.out | apply below_alloc | apply pw_below_drewN | apply below_drew1 | refine below_set ?_ GE319.out) | exact HB.out)⟩⟩
      · rw [if_neg c5] at H
        exact absurd H (by simp)
  case rest =>
    clear HC2
    try clear p2
    try clear c3
    try clear c4
    try clear c4b0
    try clear c4b1
    try clear c5
    try clear c5b0
    try clear c5b1
    try clear p6
    try clear q6
    try clear hx6
    try clear qi6
    try clear c7
    try clear c7b0
    try clear c7b1
    try clear p8
    try clear q8
    try clear hx8
    try clear qi8
    try clear p6
    try clear p8
    try clear q6
    try clear q8
    obtain ⟨kq, x16_1, rfl, HA, HJ1, BK319, HB⟩ := hcut
    cases kq with
    | zero => exact absurd HA.out (by simp [qanatref03_Value.j0])
    | succ kj1 =>
      have H := HA.out
      clear HA
      simp only [qanatref03_Value.j0] at H
      by_cases c9 : x16_1 = true
      · subst c9
        have H1 : (some (([] : List (S53)), 0, 0, 2)) = some (r1, r2, r3, r4) := by rw [if_pos rfl] at H; exact H
        clear H
        have H := H1
        clear H1
        simp only [Option.some.injEq, Prod.mk.injEq] at H
        obtain ⟨rfl, rfl, rfl, rfl⟩ := H
        have hcz10_0 : wc.cell? ⟨gb319, 0, none⟩ = some (.slice none 0 0) := (blk_cell BK319.out 0).trans rfl
        have hcz10_1 : wc.cell? ⟨gb319, 1, none⟩ = some (.int .i64 0) := (blk_cell BK319.out 1).trans rfl
        have hcz10_2 : wc.cell? ⟨gb319, 2, none⟩ = some (.int .i64 0) := (blk_cell BK319.out 2).trans rfl
        have hcz10_3 : wc.cell? ⟨gb319, 3, none⟩ = some (.int .i64 0) := (blk_cell BK319.out 3).trans rfl
        have hfz10_0 := blk_frozen BK319.out 0
        have hfz10_1 := blk_frozen BK319.out 1
        have hfz10_2 := blk_frozen BK319.out 2
        have hfz10_3 := blk_frozen BK319.out 3
        go_wp2
        refine bodyPost_ret (results_cell_row rfl _ _ gb319 29 #[.slice none 0 0, .int .i64 0, .int .i64 0, .int .i64 2] (0, 0) _ rfl (by (with_reducible repeat (first | refine blk_drewN ?_ _ | refine blk_drew ?_ | refine blk_alloc ?_ _)); refine blk_put (cs := #[.slice none 0 0, .int .i64 0, .int .i64 0, .int .i64 0]) ?_ 3 _ rfl; (with_reducible repeat (first | refine blk_drewN ?_ _ | refine blk_drew ?_ | refine blk_alloc ?_ _)); refine blk_put (cs := #[.slice none 0 0, .int .i64 0, .int .i64 0, .int .i64 0]) ?_ 2 _ rfl; (with_reducible repeat (first | refine blk_drewN ?_ _ | refine blk_drew ?_ | refine blk_alloc ?_ _)); refine blk_put (cs := #[.slice none 0 0, .int .i64 0, .int .i64 0, .int .i64 0]) ?_ 1 _ rfl; (with_reducible repeat (first | refine blk_drewN ?_ _ | refine blk_drew ?_ | refine blk_alloc ?_ _)); refine blk_put (cs := #[.slice none 0 0, .int .i64 0, .int .i64 0, .int .i64 0]) ?_ 0 _ rfl; (with_reducible repeat (first | refine blk_drewN ?_ _ | refine blk_drew ?_ | refine blk_alloc ?_ _)); exact BK319.out) Tryz.underlying29 rfl (by kernel_rfl)) rfl ?_
        exact ⟨_, by first | rfl | (simp [errW_none, errW_some] <;> rfl) | (simp [*, errW_none, errW_some] <;> rfl), by first | exact Kd.R_nil _ _ _ _ _ | exact Kd.N_nil _ _ _ _ _ | exact Kd.V_nil _ _ _ _ _ | exact Kd.Q_nil _ _ _ _ _ | exact Kd.S_nil _ _ _ _ _, by repeat (first | (with_reducible first | exact HB.out | apply below_alloc | apply pw_below_drewN | apply below_drew1 | refine below_set ?_ GE319.out) | exact HB.out)⟩
      · replace c9 := Bool.eq_false_iff.mpr c9
        subst c9
        have H1 : ((qanatref03_literal.f kj1 a0 0 1).bind fun bt320 => (if bt320.2.2.2.1 = 0 then (if bt320.2.2.1 = (a0.size : Int) then (some ((([(⟨0, bt320.2.1, false, 0, 0, 0⟩ : S53)] : List (S53))), 0, 0, 0)) else (some (([] : List (S53)), 0, 0, 2))) else (some (([] : List (S53)), bt320.2.2.2.1, 0, 7)))) = some (r1, r2, r3, r4) := by rw [if_neg (show ¬ (false = true) by decide)] at H; exact H
        clear H
        have H := H1
        clear H1
        replace H := Option.bind_eq_some_iff.mp H
        obtain ⟨⟨t320, t321, t322, t323, t324⟩, A110, H⟩ := H
        replace H : (if t323 = 0 then (if t322 = (a0.size : Int) then (some ((([(⟨0, t321, false, 0, 0, 0⟩ : S53)] : List (S53))), 0, 0, 0)) else (some (([] : List (S53)), 0, 0, 2))) else (some (([] : List (S53)), t323, 0, 7))) = some (r1, r2, r3, r4) := H
        have A11 := Aside0.mk A110
        clear A110
        by_cases c12 : t323 = 0
        · rw [if_pos c12] at H
          have c12b0 : (t323 == 0) = true := beq_iff_eq.mpr c12
          have c12b1 : (t323 != 0) = false := bne_eq_false_iff_eq.mpr c12
          clear c12
          by_cases c13 : t322 = (a0.size : Int)
          · rw [if_pos c13] at H
            have c13b0 : (t322 == (a0.size : Int)) = true := beq_iff_eq.mpr c13
            have c13b1 : (t322 != (a0.size : Int)) = false := bne_eq_false_iff_eq.mpr c13
            clear c13
            obtain ⟨y326, hy326⟩ : ∃ y_ : List (S53), y_ = (([(⟨0, t321, false, 0, 0, 0⟩ : S53)] : List (S53))) := ⟨_, rfl⟩
            replace H : (some (y326, 0, 0, 0)) = some (r1, r2, r3, r4) := by first | (rw [hy326]; with_reducible exact H) | (have H2_ := (Option.bind_some _ _).symm.trans H; rw [hy326]; with_reducible exact H2_) | (have H2_ := (Option.bind_some _ _).symm.trans H; with_reducible exact H2_) | with_reducible exact H | (rw [hy326]; exact H) | exact H
            have Ny326 := Aside0.mk hy326
            clear hy326
            simp only [Option.some.injEq, Prod.mk.injEq] at H
            obtain ⟨rfl, rfl, rfl, rfl⟩ := H
            go_wp2_with (first | ((with_reducible refine gate_callee (f := 71) rfl ?_); refine goesL_ (some 19) rfl rfl Tryz.func71 (by kernel_rfl) rfl #[.string a0, .int .i64 0, .int .i64 1] rfl (by (try simp only [List.map_toArray, List.map_cons, List.map_nil]); first | done | rfl | (simp only [List.length_drop, List.length_take]; rfl)) ?_; (with_reducible refine (qanatref03_literal.calls kj1 a0 0 1 t320 t321 t322 t323 t324 _ A11.out).mono ?_); rintro e w14 ⟨rfl, hb⟩; refine ⟨_, rfl, ?_⟩; have n0_ := Aside0.mk (blk_below (g := gb319) (o := .cells #[.slice none 0 0, .int .i64 0, .int .i64 0, .int .i64 0] 29 (0, 0)) (by (with_reducible repeat (first | refine blk_drewN ?_ _ | refine blk_drew ?_ | refine blk_alloc ?_ _)); exact BK319.out) hb); have n1_ := Aside0.mk (below_step (by repeat (first | (with_reducible first | exact HB.out | apply below_alloc | apply pw_below_drewN | apply below_drew1 | refine below_set ?_ GE319.out) | exact HB.out)) hb); clear BK319; clear HB; have BK319 := n0_; have HB := n1_; clear n0_ n1_; (try clear hb); (try clear hb2); (try clear hk); (try clear hi)) | ((with_reducible refine gate_dst (N := 3) rfl ?_); refine box_event ?hg (N := 3) ?hd (cs := #[.int .i64 0, .string (⟨#[]⟩ : ByteArray), .int .i64 0, .int .i64 0, .int .i64 0]) (t := 82) ?hr ?_; (case hd => rfl); (case hg => rfl); (case hr => first | (go_simp; done) | (go_simp; rfl)); intro gb325 hg w15 hbox hb; have n0_ := Aside0.mk (blk_below (g := gb319) (o := .cells #[.slice none 0 0, .int .i64 0, .int .i64 0, .int .i64 0] 29 (0, 0)) (by (with_reducible repeat (first | refine blk_drewN ?_ _ | refine blk_drew ?_ | refine blk_alloc ?_ _)); exact BK319.out) hb); have n1_ := Aside0.mk (below_step (by repeat (first | (with_reducible first | exact HB.out | apply below_alloc | apply pw_below_drewN | apply below_drew1 | refine below_set ?_ GE319.out) | exact HB.out)) hb); have n2_ := Aside0.mk (hbox); have n3_ := Aside0.mk ((by rw [hg]; exact (below_size (by repeat (first | (with_reducible first | exact HB.out | apply below_alloc | apply pw_below_drewN | apply below_drew1 | refine below_set ?_ GE319.out) | exact HB.out))) : w.heap.size ≤ gb325)); have n4_ := Aside0.mk ((by rw [hg]; exact (below_size (by repeat (first | (with_reducible first | exact HB.out | apply below_alloc | apply pw_below_drewN | apply below_drew1 | refine below_set ?_ GE319.out) | exact HB.out))) : w.heap.size ≤ gb325)); have n5_ := Aside0.mk ((by rw [hg]; exact Nat.ne_of_lt (blk_lt (g := gb319) (o := .cells #[.slice none 0 0, .int .i64 0, .int .i64 0, .int .i64 0] 29 (0, 0)) (by (with_reducible repeat (first | refine blk_drewN ?_ _ | refine blk_drew ?_ | refine blk_alloc ?_ _)); exact BK319.out)) : gb319 ≠ gb325)); have n6_ := Aside0.mk ((by rw [hg]; exact Nat.ne_of_gt (blk_lt (g := gb319) (o := .cells #[.slice none 0 0, .int .i64 0, .int .i64 0, .int .i64 0] 29 (0, 0)) (by (with_reducible repeat (first | refine blk_drewN ?_ _ | refine blk_drew ?_ | refine blk_alloc ?_ _)); exact BK319.out)) : gb325 ≠ gb319)); clear BK319; clear HB; have BK319 := n0_; have HB := n1_; have BK325 := n2_; have GW325 := n3_; have GE325 := n4_; have NB319_325 := n5_; have NB325_319 := n6_; clear n0_ n1_ n2_ n3_ n4_ n5_ n6_; clear hb hbox hg; have hnb16 := NB325_319.out; have hnc16 := NB319_325.out; have hcz17_0 : w15.cell? ⟨gb325, 0, none⟩ = some (.int .i64 0) := (blk_cell BK325.out 0).trans rfl; have hcz17_1 : w15.cell? ⟨gb325, 1, none⟩ = some (.string (⟨#[]⟩ : ByteArray)) := (blk_cell BK325.out 1).trans rfl; have hcz17_2 : w15.cell? ⟨gb325, 2, none⟩ = some (.int .i64 0) := (blk_cell BK325.out 2).trans rfl; have hcz17_3 : w15.cell? ⟨gb325, 3, none⟩ = some (.int .i64 0) := (blk_cell BK325.out 3).trans rfl; have hcz17_4 : w15.cell? ⟨gb325, 4, none⟩ = some (.int .i64 0) := (blk_cell BK325.out 4).trans rfl; have hfz17_0 := blk_frozen BK325.out 0; have hfz17_1 := blk_frozen BK325.out 1; have hfz17_2 := blk_frozen BK325.out 2; have hfz17_3 := blk_frozen BK325.out 3; have hfz17_4 := blk_frozen BK325.out 4) | ((with_reducible refine gate_dst (N := 35) rfl ?_); refine Kd.R_lit k53 _ 53 ?hg (N := 35) ?hd (xs := ([(⟨0, t321, false, 0, 0, 0⟩ : S53)] : List (S53))) (inner := [.int .i64 0, .string t321, .bool false, .int .i64 0, .int .i64 0, .int .i64 0]) (ok := fun _ => True) (okp := fun _ => True) ?hr ?hp (fun _ hk => hk) trivial (Below.refl _ _) (Nat.le_refl _) (by simp) ?_; (case hd => rfl); (case hg => rfl); (case hr => first | (go_simp; done) | (go_simp; rfl)); (case hp => exact (Reps.c6 (show Kd.M k53 _ _ _ (⟨0, t321, false, 0, 0, 0⟩ : S53) [.int .i64 0, .string t321, .bool false, .int .i64 0, .int .i64 0, .int .i64 0] from (k53_mkM _ _ _ (⟨0, t321, false, 0, 0, 0⟩ : S53) )) (Reps.none _ _))); intro v327 w18 ho19 hb hg_ hnew_; clear hg_ hnew_; (first | rw [← Ny326.out] at ho19 | (simp only [Int.reduceToNat] at ho19; rw [← Ny326.out] at ho19)); have n0_ := Aside0.mk (Kd.R_lower ho19 (below_size (by repeat (first | (with_reducible first | exact HB.out | apply below_alloc | apply pw_below_drewN | apply below_drew1 | refine below_set ?_ GE319.out | refine below_set ?_ GE325.out) | exact HB.out)))); have n1_ := Aside0.mk (blk_below (g := gb319) (o := .cells #[.slice none 0 0, .int .i64 0, .int .i64 0, .int .i64 0] 29 (0, 0)) (by (with_reducible repeat (first | refine blk_drewN ?_ _ | refine blk_drew ?_ | refine blk_alloc ?_ _)); refine blk_far ?_ NB319_325.out _; (with_reducible repeat (first | refine blk_drewN ?_ _ | refine blk_drew ?_ | refine blk_alloc ?_ _)); refine blk_far ?_ NB319_325.out _; (with_reducible repeat (first | refine blk_drewN ?_ _ | refine blk_drew ?_ | refine blk_alloc ?_ _)); refine blk_far ?_ NB319_325.out _; (with_reducible repeat (first | refine blk_drewN ?_ _ | refine blk_drew ?_ | refine blk_alloc ?_ _)); refine blk_far ?_ NB319_325.out _; (with_reducible repeat (first | refine blk_drewN ?_ _ | refine blk_drew ?_ | refine blk_alloc ?_ _)); refine blk_far ?_ NB319_325.out _; (with_reducible repeat (first | refine blk_drewN ?_ _ | refine blk_drew ?_ | refine blk_alloc ?_ _)); exact BK319.out) hb); have n2_ := Aside0.mk (blk_below (g := gb325) (o := .cells #[.int .i64 t320, .string t321, .int .i64 t322, .int .i64 t323, .int .i64 t324] 82 (0, 0)) (by (with_reducible repeat (first | refine blk_drewN ?_ _ | refine blk_drew ?_ | refine blk_alloc ?_ _)); refine blk_put (cs := #[.int .i64 t320, .string t321, .int .i64 t322, .int .i64 t323, .int .i64 0]) ?_ 4 _ rfl; (with_reducible repeat (first | refine blk_drewN ?_ _ | refine blk_drew ?_ | refine blk_alloc ?_ _)); refine blk_put (cs := #[.int .i64 t320, .string t321, .int .i64 t322, .int .i64 0, .int .i64 0]) ?_ 3 _ rfl; (with_reducible repeat (first | refine blk_drewN ?_ _ | refine blk_drew ?_ | refine blk_alloc ?_ _)); refine blk_put (cs := #[.int .i64 t320, .string t321, .int .i64 0, .int .i64 0, .int .i64 0]) ?_ 2 _ rfl; (with_reducible repeat (first | refine blk_drewN ?_ _ | refine blk_drew ?_ | refine blk_alloc ?_ _)); refine blk_put (cs := #[.int .i64 t320, .string (⟨#[]⟩ : ByteArray), .int .i64 0, .int .i64 0, .int .i64 0]) ?_ 1 _ rfl; (with_reducible repeat (first | refine blk_drewN ?_ _ | refine blk_drew ?_ | refine blk_alloc ?_ _)); refine blk_put (cs := #[.int .i64 0, .string (⟨#[]⟩ : ByteArray), .int .i64 0, .int .i64 0, .int .i64 0]) ?_ 0 _ rfl; (with_reducible repeat (first | refine blk_drewN ?_ _ | refine blk_drew ?_ | refine blk_alloc ?_ _)); exact BK325.out) hb); have n3_ := Aside0.mk (below_step (by repeat (first | (with_reducible first | exact HB.out | apply below_alloc | apply pw_below_drewN | apply below_drew1 | refine below_set ?_ GE319.out | refine below_set ?_ GE325.out) | exact HB.out)) hb); clear BK319; clear BK325; clear HB; have HO328 := n0_; have BK319 := n1_; have BK325 := n2_; have HB := n3_; clear n0_ n1_ n2_ n3_; clear hb ho19; obtain ⟨Ao20, co20, eo20⟩ := Kd.R_slice HO328.out; subst eo20; have hcz21_0 : w18.cell? ⟨gb319, 0, none⟩ = some (.slice none 0 0) := (blk_cell BK319.out 0).trans rfl; have hcz21_1 : w18.cell? ⟨gb319, 1, none⟩ = some (.int .i64 0) := (blk_cell BK319.out 1).trans rfl; have hcz21_2 : w18.cell? ⟨gb319, 2, none⟩ = some (.int .i64 0) := (blk_cell BK319.out 2).trans rfl; have hcz21_3 : w18.cell? ⟨gb319, 3, none⟩ = some (.int .i64 0) := (blk_cell BK319.out 3).trans rfl; have hfz21_0 := blk_frozen BK319.out 0; have hfz21_1 := blk_frozen BK319.out 1; have hfz21_2 := blk_frozen BK319.out 2; have hfz21_3 := blk_frozen BK319.out 3))
            refine bodyPost_ret (results_cell_row rfl _ _ gb319 29 #[.slice Ao20 y326.length co20, .int .i64 0, .int .i64 0, .int .i64 0] (0, 0) _ rfl (by (with_reducible repeat (first | refine blk_drewN ?_ _ | refine blk_drew ?_ | refine blk_alloc ?_ _)); refine blk_put (cs := #[.slice Ao20 y326.length co20, .int .i64 0, .int .i64 0, .int .i64 0]) ?_ 3 _ rfl; (with_reducible repeat (first | refine blk_drewN ?_ _ | refine blk_drew ?_ | refine blk_alloc ?_ _)); refine blk_put (cs := #[.slice Ao20 y326.length co20, .int .i64 0, .int .i64 0, .int .i64 0]) ?_ 2 _ rfl; (with_reducible repeat (first | refine blk_drewN ?_ _ | refine blk_drew ?_ | refine blk_alloc ?_ _)); refine blk_put (cs := #[.slice Ao20 y326.length co20, .int .i64 0, .int .i64 0, .int .i64 0]) ?_ 1 _ rfl; (with_reducible repeat (first | refine blk_drewN ?_ _ | refine blk_drew ?_ | refine blk_alloc ?_ _)); refine blk_put (cs := #[.slice none 0 0, .int .i64 0, .int .i64 0, .int .i64 0]) ?_ 0 _ rfl; (with_reducible repeat (first | refine blk_drewN ?_ _ | refine blk_drew ?_ | refine blk_alloc ?_ _)); exact BK319.out) Tryz.underlying29 rfl (by kernel_rfl)) rfl ?_
            exact ⟨_, by first | rfl | (simp [errW_none, errW_some] <;> rfl) | (simp [*, errW_none, errW_some] <;> rfl), by (with_reducible repeat (first | apply Kd.R_alloc | apply Kd.R_drewN | apply Kd.R_drew)); exact Kd.R_mono (Kd.R_far (p := ⟨gb319, 3, none⟩) (Kd.R_far (p := ⟨gb319, 2, none⟩) (Kd.R_far (p := ⟨gb319, 1, none⟩) (Kd.R_far (p := ⟨gb319, 0, none⟩) (Kd.R_types HO328.out BK319.out (by decide)) (fun _ hk => hk.2) (.slice Ao20 y326.length co20)) (fun _ hk => hk.2) (.int .i64 0)) (fun _ hk => hk.2) (.int .i64 0)) (fun _ hk => hk.2) (.int .i64 0)) (fun _ hk => trivial), by repeat (first | (with_reducible first | exact HB.out | apply below_alloc | apply pw_below_drewN | apply below_drew1 | refine below_set ?_ GE319.out | refine below_set ?_ GE325.out) | exact HB.out)⟩
          · rw [if_neg c13] at H
            have c13b0 : (t322 == (a0.size : Int)) = false := beq_eq_false_iff_ne.mpr c13
            have c13b1 : (t322 != (a0.size : Int)) = true := bne_iff_ne.mpr c13
            simp only [Option.some.injEq, Prod.mk.injEq] at H
            obtain ⟨rfl, rfl, rfl, rfl⟩ := H
            go_wp2_with (first | ((with_reducible refine gate_callee (f := 71) rfl ?_); refine goesL_ (some 19) rfl rfl Tryz.func71 (by kernel_rfl) rfl #[.string a0, .int .i64 0, .int .i64 1] rfl (by (try simp only [List.map_toArray, List.map_cons, List.map_nil]); first | done | rfl | (simp only [List.length_drop, List.length_take]; rfl)) ?_; (with_reducible refine (qanatref03_literal.calls kj1 a0 0 1 t320 t321 t322 t323 t324 _ A11.out).mono ?_); rintro e w22 ⟨rfl, hb⟩; refine ⟨_, rfl, ?_⟩; have n0_ := Aside0.mk (blk_below (g := gb319) (o := .cells #[.slice none 0 0, .int .i64 0, .int .i64 0, .int .i64 0] 29 (0, 0)) (by (with_reducible repeat (first | refine blk_drewN ?_ _ | refine blk_drew ?_ | refine blk_alloc ?_ _)); exact BK319.out) hb); have n1_ := Aside0.mk (below_step (by repeat (first | (with_reducible first | exact HB.out | apply below_alloc | apply pw_below_drewN | apply below_drew1 | refine below_set ?_ GE319.out) | exact HB.out)) hb); clear BK319; clear HB; have BK319 := n0_; have HB := n1_; clear n0_ n1_; (try clear hb); (try clear hb2); (try clear hk); (try clear hi)) | ((with_reducible refine gate_dst (N := 3) rfl ?_); refine box_event ?hg (N := 3) ?hd (cs := #[.int .i64 0, .string (⟨#[]⟩ : ByteArray), .int .i64 0, .int .i64 0, .int .i64 0]) (t := 82) ?hr ?_; (case hd => rfl); (case hg => rfl); (case hr => first | (go_simp; done) | (go_simp; rfl)); intro gb325 hg w23 hbox hb; have n0_ := Aside0.mk (blk_below (g := gb319) (o := .cells #[.slice none 0 0, .int .i64 0, .int .i64 0, .int .i64 0] 29 (0, 0)) (by (with_reducible repeat (first | refine blk_drewN ?_ _ | refine blk_drew ?_ | refine blk_alloc ?_ _)); exact BK319.out) hb); have n1_ := Aside0.mk (below_step (by repeat (first | (with_reducible first | exact HB.out | apply below_alloc | apply pw_below_drewN | apply below_drew1 | refine below_set ?_ GE319.out) | exact HB.out)) hb); have n2_ := Aside0.mk (hbox); have n3_ := Aside0.mk ((by rw [hg]; exact (below_size (by repeat (first | (with_reducible first | exact HB.out | apply below_alloc | apply pw_below_drewN | apply below_drew1 | refine below_set ?_ GE319.out) | exact HB.out))) : w.heap.size ≤ gb325)); have n4_ := Aside0.mk ((by rw [hg]; exact (below_size (by repeat (first | (with_reducible first | exact HB.out | apply below_alloc | apply pw_below_drewN | apply below_drew1 | refine below_set ?_ GE319.out) | exact HB.out))) : w.heap.size ≤ gb325)); have n5_ := Aside0.mk ((by rw [hg]; exact Nat.ne_of_lt (blk_lt (g := gb319) (o := .cells #[.slice none 0 0, .int .i64 0, .int .i64 0, .int .i64 0] 29 (0, 0)) (by (with_reducible repeat (first | refine blk_drewN ?_ _ | refine blk_drew ?_ | refine blk_alloc ?_ _)); exact BK319.out)) : gb319 ≠ gb325)); have n6_ := Aside0.mk ((by rw [hg]; exact Nat.ne_of_gt (blk_lt (g := gb319) (o := .cells #[.slice none 0 0, .int .i64 0, .int .i64 0, .int .i64 0] 29 (0, 0)) (by (with_reducible repeat (first | refine blk_drewN ?_ _ | refine blk_drew ?_ | refine blk_alloc ?_ _)); exact BK319.out)) : gb325 ≠ gb319)); clear BK319; clear HB; have BK319 := n0_; have HB := n1_; have BK325 := n2_; have GW325 := n3_; have GE325 := n4_; have NB319_325 := n5_; have NB325_319 := n6_; clear n0_ n1_ n2_ n3_ n4_ n5_ n6_; clear hb hbox hg; have hnb24 := NB325_319.out; have hnc24 := NB319_325.out; have hcz25_0 : w23.cell? ⟨gb325, 0, none⟩ = some (.int .i64 0) := (blk_cell BK325.out 0).trans rfl; have hcz25_1 : w23.cell? ⟨gb325, 1, none⟩ = some (.string (⟨#[]⟩ : ByteArray)) := (blk_cell BK325.out 1).trans rfl; have hcz25_2 : w23.cell? ⟨gb325, 2, none⟩ = some (.int .i64 0) := (blk_cell BK325.out 2).trans rfl; have hcz25_3 : w23.cell? ⟨gb325, 3, none⟩ = some (.int .i64 0) := (blk_cell BK325.out 3).trans rfl; have hcz25_4 : w23.cell? ⟨gb325, 4, none⟩ = some (.int .i64 0) := (blk_cell BK325.out 4).trans rfl; have hfz25_0 := blk_frozen BK325.out 0; have hfz25_1 := blk_frozen BK325.out 1; have hfz25_2 := blk_frozen BK325.out 2; have hfz25_3 := blk_frozen BK325.out 3; have hfz25_4 := blk_frozen BK325.out 4; have hcz26_0 : w23.cell? ⟨gb319, 0, none⟩ = some (.slice none 0 0) := (blk_cell BK319.out 0).trans rfl; have hcz26_1 : w23.cell? ⟨gb319, 1, none⟩ = some (.int .i64 0) := (blk_cell BK319.out 1).trans rfl; have hcz26_2 : w23.cell? ⟨gb319, 2, none⟩ = some (.int .i64 0) := (blk_cell BK319.out 2).trans rfl; have hcz26_3 : w23.cell? ⟨gb319, 3, none⟩ = some (.int .i64 0) := (blk_cell BK319.out 3).trans rfl; have hfz26_0 := blk_frozen BK319.out 0; have hfz26_1 := blk_frozen BK319.out 1; have hfz26_2 := blk_frozen BK319.out 2; have hfz26_3 := blk_frozen BK319.out 3))
            refine bodyPost_ret (results_cell_row rfl _ _ gb319 29 #[.slice none 0 0, .int .i64 0, .int .i64 0, .int .i64 2] (0, 0) _ rfl (by (with_reducible repeat (first | refine blk_drewN ?_ _ | refine blk_drew ?_ | refine blk_alloc ?_ _)); refine blk_put (cs := #[.slice none 0 0, .int .i64 0, .int .i64 0, .int .i64 0]) ?_ 3 _ rfl; (with_reducible repeat (first | refine blk_drewN ?_ _ | refine blk_drew ?_ | refine blk_alloc ?_ _)); refine blk_put (cs := #[.slice none 0 0, .int .i64 0, .int .i64 0, .int .i64 0]) ?_ 2 _ rfl; (with_reducible repeat (first | refine blk_drewN ?_ _ | refine blk_drew ?_ | refine blk_alloc ?_ _)); refine blk_put (cs := #[.slice none 0 0, .int .i64 0, .int .i64 0, .int .i64 0]) ?_ 1 _ rfl; (with_reducible repeat (first | refine blk_drewN ?_ _ | refine blk_drew ?_ | refine blk_alloc ?_ _)); refine blk_put (cs := #[.slice none 0 0, .int .i64 0, .int .i64 0, .int .i64 0]) ?_ 0 _ rfl; (with_reducible repeat (first | refine blk_drewN ?_ _ | refine blk_drew ?_ | refine blk_alloc ?_ _)); refine blk_far ?_ NB319_325.out _; (with_reducible repeat (first | refine blk_drewN ?_ _ | refine blk_drew ?_ | refine blk_alloc ?_ _)); refine blk_far ?_ NB319_325.out _; (with_reducible repeat (first | refine blk_drewN ?_ _ | refine blk_drew ?_ | refine blk_alloc ?_ _)); refine blk_far ?_ NB319_325.out _; (with_reducible repeat (first | refine blk_drewN ?_ _ | refine blk_drew ?_ | refine blk_alloc ?_ _)); refine blk_far ?_ NB319_325.out _; (with_reducible repeat (first | refine blk_drewN ?_ _ | refine blk_drew ?_ | refine blk_alloc ?_ _)); refine blk_far ?_ NB319_325.out _; (with_reducible repeat (first | refine blk_drewN ?_ _ | refine blk_drew ?_ | refine blk_alloc ?_ _)); exact BK319.out) Tryz.underlying29 rfl (by kernel_rfl)) rfl ?_
            exact ⟨_, by first | rfl | (simp [errW_none, errW_some] <;> rfl) | (simp [*, errW_none, errW_some] <;> rfl), by first | exact Kd.R_nil _ _ _ _ _ | exact Kd.N_nil _ _ _ _ _ | exact Kd.V_nil _ _ _ _ _ | exact Kd.Q_nil _ _ _ _ _ | exact Kd.S_nil _ _ _ _ _, by repeat (first | (with_reducible first | exact HB.out | apply below_alloc | apply pw_below_drewN | apply below_drew1 | refine below_set ?_ GE319.out | refine below_set ?_ GE325.out) | exact HB.out)⟩
        · rw [if_neg c12] at H
          have c12b0 : (t323 == 0) = false := beq_eq_false_iff_ne.mpr c12
          have c12b1 : (t323 != 0) = true := bne_iff_ne.mpr c12
          simp only [Option.some.injEq, Prod.mk.injEq] at H
          obtain ⟨rfl, rfl, rfl, rfl⟩ := H
          go_wp2_with (first | ((with_reducible refine gate_callee (f := 71) rfl ?_); refine goesL_ (some 19) rfl rfl Tryz.func71 (by kernel_rfl) rfl #[.string a0, .int .i64 0, .int .i64 1] rfl (by (try simp only [List.map_toArray, List.map_cons, List.map_nil]); first | done | rfl | (simp only [List.length_drop, List.length_take]; rfl)) ?_; (with_reducible refine (qanatref03_literal.calls kj1 a0 0 1 t320 t321 t322 t323 t324 _ A11.out).mono ?_); rintro e w27 ⟨rfl, hb⟩; refine ⟨_, rfl, ?_⟩; have n0_ := Aside0.mk (blk_below (g := gb319) (o := .cells #[.slice none 0 0, .int .i64 0, .int .i64 0, .int .i64 0] 29 (0, 0)) (by (with_reducible repeat (first | refine blk_drewN ?_ _ | refine blk_drew ?_ | refine blk_alloc ?_ _)); exact BK319.out) hb); have n1_ := Aside0.mk (below_step (by repeat (first | (with_reducible first | exact HB.out | apply below_alloc | apply pw_below_drewN | apply below_drew1 | refine below_set ?_ GE319.out) | exact HB.out)) hb); clear BK319; clear HB; have BK319 := n0_; have HB := n1_; clear n0_ n1_; (try clear hb); (try clear hb2); (try clear hk); (try clear hi)) | ((with_reducible refine gate_dst (N := 3) rfl ?_); refine box_event ?hg (N := 3) ?hd (cs := #[.int .i64 0, .string (⟨#[]⟩ : ByteArray), .int .i64 0, .int .i64 0, .int .i64 0]) (t := 82) ?hr ?_; (case hd => rfl); (case hg => rfl); (case hr => first | (go_simp; done) | (go_simp; rfl)); intro gb325 hg w28 hbox hb; have n0_ := Aside0.mk (blk_below (g := gb319) (o := .cells #[.slice none 0 0, .int .i64 0, .int .i64 0, .int .i64 0] 29 (0, 0)) (by (with_reducible repeat (first | refine blk_drewN ?_ _ | refine blk_drew ?_ | refine blk_alloc ?_ _)); exact BK319.out) hb); have n1_ := Aside0.mk (below_step (by repeat (first | (with_reducible first | exact HB.out | apply below_alloc | apply pw_below_drewN | apply below_drew1 | refine below_set ?_ GE319.out) | exact HB.out)) hb); have n2_ := Aside0.mk (hbox); have n3_ := Aside0.mk ((by rw [hg]; exact (below_size (by repeat (first | (with_reducible first | exact HB.out | apply below_alloc | apply pw_below_drewN | apply below_drew1 | refine below_set ?_ GE319.out) | exact HB.out))) : w.heap.size ≤ gb325)); have n4_ := Aside0.mk ((by rw [hg]; exact (below_size (by repeat (first | (with_reducible first | exact HB.out | apply below_alloc | apply pw_below_drewN | apply below_drew1 | refine below_set ?_ GE319.out) | exact HB.out))) : w.heap.size ≤ gb325)); have n5_ := Aside0.mk ((by rw [hg]; exact Nat.ne_of_lt (blk_lt (g := gb319) (o := .cells #[.slice none 0 0, .int .i64 0, .int .i64 0, .int .i64 0] 29 (0, 0)) (by (with_reducible repeat (first | refine blk_drewN ?_ _ | refine blk_drew ?_ | refine blk_alloc ?_ _)); exact BK319.out)) : gb319 ≠ gb325)); have n6_ := Aside0.mk ((by rw [hg]; exact Nat.ne_of_gt (blk_lt (g := gb319) (o := .cells #[.slice none 0 0, .int .i64 0, .int .i64 0, .int .i64 0] 29 (0, 0)) (by (with_reducible repeat (first | refine blk_drewN ?_ _ | refine blk_drew ?_ | refine blk_alloc ?_ _)); exact BK319.out)) : gb325 ≠ gb319)); clear BK319; clear HB; have BK319 := n0_; have HB := n1_; have BK325 := n2_; have GW325 := n3_; have GE325 := n4_; have NB319_325 := n5_; have NB325_319 := n6_; clear n0_ n1_ n2_ n3_ n4_ n5_ n6_; clear hb hbox hg; have hnb29 := NB325_319.out; have hnc29 := NB319_325.out; have hcz30_0 : w28.cell? ⟨gb325, 0, none⟩ = some (.int .i64 0) := (blk_cell BK325.out 0).trans rfl; have hcz30_1 : w28.cell? ⟨gb325, 1, none⟩ = some (.string (⟨#[]⟩ : ByteArray)) := (blk_cell BK325.out 1).trans rfl; have hcz30_2 : w28.cell? ⟨gb325, 2, none⟩ = some (.int .i64 0) := (blk_cell BK325.out 2).trans rfl; have hcz30_3 : w28.cell? ⟨gb325, 3, none⟩ = some (.int .i64 0) := (blk_cell BK325.out 3).trans rfl; have hcz30_4 : w28.cell? ⟨gb325, 4, none⟩ = some (.int .i64 0) := (blk_cell BK325.out 4).trans rfl; have hfz30_0 := blk_frozen BK325.out 0; have hfz30_1 := blk_frozen BK325.out 1; have hfz30_2 := blk_frozen BK325.out 2; have hfz30_3 := blk_frozen BK325.out 3; have hfz30_4 := blk_frozen BK325.out 4; have hcz31_0 : w28.cell? ⟨gb319, 0, none⟩ = some (.slice none 0 0) := (blk_cell BK319.out 0).trans rfl; have hcz31_1 : w28.cell? ⟨gb319, 1, none⟩ = some (.int .i64 0) := (blk_cell BK319.out 1).trans rfl; have hcz31_2 : w28.cell? ⟨gb319, 2, none⟩ = some (.int .i64 0) := (blk_cell BK319.out 2).trans rfl; have hcz31_3 : w28.cell? ⟨gb319, 3, none⟩ = some (.int .i64 0) := (blk_cell BK319.out 3).trans rfl; have hfz31_0 := blk_frozen BK319.out 0; have hfz31_1 := blk_frozen BK319.out 1; have hfz31_2 := blk_frozen BK319.out 2; have hfz31_3 := blk_frozen BK319.out 3))
          refine bodyPost_ret (results_cell_row rfl _ _ gb319 29 #[.slice none 0 0, .int .i64 t323, .int .i64 0, .int .i64 7] (0, 0) _ rfl (by (with_reducible repeat (first | refine blk_drewN ?_ _ | refine blk_drew ?_ | refine blk_alloc ?_ _)); refine blk_put (cs := #[.slice none 0 0, .int .i64 t323, .int .i64 0, .int .i64 0]) ?_ 3 _ rfl; (with_reducible repeat (first | refine blk_drewN ?_ _ | refine blk_drew ?_ | refine blk_alloc ?_ _)); refine blk_put (cs := #[.slice none 0 0, .int .i64 t323, .int .i64 0, .int .i64 0]) ?_ 2 _ rfl; (with_reducible repeat (first | refine blk_drewN ?_ _ | refine blk_drew ?_ | refine blk_alloc ?_ _)); refine blk_put (cs := #[.slice none 0 0, .int .i64 0, .int .i64 0, .int .i64 0]) ?_ 1 _ rfl; (with_reducible repeat (first | refine blk_drewN ?_ _ | refine blk_drew ?_ | refine blk_alloc ?_ _)); refine blk_put (cs := #[.slice none 0 0, .int .i64 0, .int .i64 0, .int .i64 0]) ?_ 0 _ rfl; (with_reducible repeat (first | refine blk_drewN ?_ _ | refine blk_drew ?_ | refine blk_alloc ?_ _)); refine blk_far ?_ NB319_325.out _; (with_reducible repeat (first | refine blk_drewN ?_ _ | refine blk_drew ?_ | refine blk_alloc ?_ _)); refine blk_far ?_ NB319_325.out _; (with_reducible repeat (first | refine blk_drewN ?_ _ | refine blk_drew ?_ | refine blk_alloc ?_ _)); refine blk_far ?_ NB319_325.out _; (with_reducible repeat (first | refine blk_drewN ?_ _ | refine blk_drew ?_ | refine blk_alloc ?_ _)); refine blk_far ?_ NB319_325.out _; (with_reducible repeat (first | refine blk_drewN ?_ _ | refine blk_drew ?_ | refine blk_alloc ?_ _)); refine blk_far ?_ NB319_325.out _; (with_reducible repeat (first | refine blk_drewN ?_ _ | refine blk_drew ?_ | refine blk_alloc ?_ _)); exact BK319.out) Tryz.underlying29 rfl (by kernel_rfl)) rfl ?_
          exact ⟨_, by first | rfl | (simp [errW_none, errW_some] <;> rfl) | (simp [*, errW_none, errW_some] <;> rfl), by first | exact Kd.R_nil _ _ _ _ _ | exact Kd.N_nil _ _ _ _ _ | exact Kd.V_nil _ _ _ _ _ | exact Kd.Q_nil _ _ _ _ _ | exact Kd.S_nil _ _ _ _ _, by repeat (first | (with_reducible first | exact HB.out | apply below_alloc | apply pw_below_drewN | apply below_drew1 | refine below_set ?_ GE319.out | refine below_set ?_ GE325.out) | exact HB.out)⟩
end Go.Proofs.YtkkpjonfaflkmaaGreatDoor.T

namespace Go.Proofs.YtkkpjonfaflkmaaGreatDoor.S
set_option linter.unusedSimpArgs false
set_option linter.unusedVariables false
def sym (c : Int) : Bool := (decide (97 ≤ c) && decide (c ≤ 122)) || (decide (65 ≤ c) && decide (c ≤ 90)) || (decide (48 ≤ c) && decide (c ≤ 57)) || decide (c = 46) || decide (c = 95) || decide (c = 33) || decide (c = 63)
def dig (c : Int) : Bool := decide (48 ≤ c) && decide (c ≤ 57)
def prn (c : Int) : Bool := decide (32 ≤ c) && decide (c ≤ 126)
def up (c : Int) : Int := if 97 ≤ c ∧ c ≤ 122 then c - 32 else c
inductive CR where
  | eof
  | done (at_ line bad : Nat)
deriving DecidableEq
def cmt : List Int → (i deep line bad : Nat) → CR
  | [], _, _, _, _ => .eof
  | [_], _, _, _, _ => .eof
  | c :: d :: t, i, deep, line, bad =>
    if c = 47 ∧ d = 42 then cmt t (i + 2) (deep + 1) line bad
    else if c = 42 ∧ d = 47 then (if deep = 1 then .done (i + 2) line bad else cmt t (i + 2) (deep - 1) line bad)
    else cmt (d :: t) (i + 1) deep (if c = 10 then line + 1 else line) (if c ≠ 10 ∧ prn c = false ∧ bad = 0 then line else bad)
def lit (q : Int) : List Int → Nat → List Int → Option (List Int × Nat)
  | [], _, _ => none
  | [c], i, acc => if c = 10 then none else if c = q then some (acc, i) else none
  | c :: d :: t, i, acc =>
    if c = 10 then none
    else if c = q then (if d = q then lit q t (i + 2) (acc ++ [q]) else some (acc, i))
    else lit q (d :: t) (i + 1) (acc ++ [c])
def hexv (c : Int) : Int := if 48 ≤ c ∧ c ≤ 57 then c - 48 else if 97 ≤ c ∧ c ≤ 102 then c - 87 else if 65 ≤ c ∧ c ≤ 70 then c - 55 else -1
def decG (base : Int) : List Int → Int → Option Int
  | [], n => some n
  | c :: t, n => if hexv c < 0 ∨ base ≤ hexv c then none else decG base t (n * base + hexv c)
def decK (base : Int) (w : Nat) : Nat → List Int → Option (List Int)
  | 0, _ => some []
  | k + 1, xs => match decG base (xs.take w) 0 with
    | none => none
    | some n => if prn n = true then (decK base w k (xs.drop w)).map (n :: ·) else none
def decode (base : Int) (w : Nat) (xs : List Int) : Option (List Int) := if xs.length % w ≠ 0 then none else decK base w (xs.length / w) xs
inductive TR where
  | err (code : Nat)
  | ok (text : List Int) (n : Nat)
deriving DecidableEq
def sfxOf (c : Int) : Nat := if c = 88 ∨ c = 120 then 4 else if c = 66 ∨ c = 98 then 1 else 0
def sfx : List Int → Nat
  | [] => 0
  | [c] => sfxOf c
  | c :: d :: _ => if sym d = true then 0 else sfxOf c
def litEnd (v : List Int) (n : Nat) : TR := if 1000 < v.length then .err 30 else .ok v n
def litDec (v : List Int) (sx : Nat) : Option (List Int) := if sx = 4 then decode 16 2 v else decode 2 8 v
def litTok : List Int → TR
  | [] => .err 6
  | q :: t => match lit q t 1 [] with
    | none => .err 6
    | some (v, i) =>
      if v.all prn = true then
        (if sfx ((q :: t).drop (i + 1)) = 0 then litEnd v (i + 1) else match litDec v (sfx ((q :: t).drop (i + 1))) with
          | none => .err 15
          | some u => litEnd u (i + 2))
      else .err 13
def run (p : Int → Bool) : List Int → Nat
  | [] => 0
  | c :: t => if p c = true then run p t + 1 else 0
def mant (xs : List Int) : Bool :=
  match xs.getLast? with
  | none => false
  | some e => (decide (e = 69) || decide (e = 101)) && xs.dropLast.all (fun c => dig c || decide (c = 46)) && xs.dropLast.any dig && decide (xs.dropLast.count 46 ≤ 1)
def expo : List Int → Bool
  | c :: d :: _ => (decide (c = 43) || decide (c = 45)) && dig d
  | _ => false
def symLen (xs : List Int) : Nat := if mant (xs.take (run sym xs)) = true ∧ expo (xs.drop (run sym xs)) = true then run sym xs + 1 + run dig (xs.drop (run sym xs + 1)) else run sym xs
def symTok (xs : List Int) : TR := if 40 < symLen xs then .err 30 else .ok ((xs.take (symLen xs)).map up) (symLen xs)
def signs : List (List Int) := [[92, 61, 61], [92, 62, 62], [92, 60, 60], [62, 62, 61], [60, 60, 61], [42, 42], [47, 47], [124, 124], [38, 38], [61, 61], [92, 61], [92, 62], [92, 60], [62, 61], [60, 61], [62, 62], [60, 60], [62, 60], [60, 62],
  [43], [45], [42], [47], [37], [124], [38], [61], [62], [60], [92], [40], [41], [44], [58], [59]]
def signTok (xs : List Int) : TR := match signs.find? (fun x => x.isPrefixOf xs) with
  | none => .err 13
  | some x => .ok x x.length
inductive Step where
  | fin
  | line
  | blank
  | cmt (n dl : Nat)
  | tok (kind : Nat) (text : List Int) (n : Nat)
  | err (code dl : Nat)
deriving DecidableEq
def tokStep (k : Nat) : TR → Step
  | .err c => .err c 0
  | .ok t n => .tok k t n
def cmtStep : CR → Step
  | .eof => .err 6 0
  | .done i l bad => if bad = 0 then .cmt i (l - 1) else .err 13 (bad - 1)
def st2 (a b : Int) : List Int → Bool
  | c :: d :: _ => decide (c = a) && decide (d = b)
  | _ => false
def starts2 : List Int → Bool
  | c :: d :: _ => decide (c = 47) && decide (d = 42)
  | _ => false
theorem starts2_eq (xs : List Int) : starts2 xs = st2 47 42 xs := by rcases xs with _ | ⟨_, _ | ⟨_, _⟩⟩ <;> rfl
def step (xs : List Int) : Step := match xs with
  | [] => .fin
  | c :: t =>
    if c = 10 then .line
    else if c = 32 then .blank
    else if starts2 (c :: t) = true then cmtStep (cmt (c :: t) 0 0 1 0)
    else if c = 39 ∨ c = 34 then tokStep 2 (litTok (c :: t))
    else if sym c = true then tokStep 1 (symTok (c :: t))
    else tokStep 3 (signTok (c :: t))
structure Tk where
  kind : Nat
  text : List Int
  gap : Bool
  line : Nat
  at_ : Nat
  «to» : Nat
deriving DecidableEq
def comma (l : List Tk) : Bool := match l.getLast? with
  | none => false
  | some t => decide (t.kind = 3) && decide (t.text = [44])
def label : List Tk → Bool
  | [a, b] => decide (a.kind = 1) && decide (b.kind = 3) && decide (b.text = [58])
  | _ => false
def endTk (i j line : Nat) : Tk := ⟨4, [], false, line, i, j⟩
def emit (cur : List Tk) (i j line : Nat) : List (List Tk) := if cur = [] then [] else [cur ++ [endTk i j line]]
def cut (cur : List Tk) : List Tk := if comma cur = true then cur.dropLast else cur
structure Out where
  cl : List (List Tk)
  err : Option (Nat × Nat)
deriving DecidableEq
def Out.pre (l : List (List Tk)) (o : Out) : Out := ⟨l ++ o.cl, o.err⟩
def go : Nat → List Int → (i line : Nat) → List Tk → Bool → Out
  | 0, _, _, _, _, _ => ⟨[], none⟩
  | f + 1, xs, i, line, cur, gap => match step xs with
    | .fin => ⟨emit (cut cur) i i line, none⟩
    | .line => if comma cur = true then go f (xs.drop 1) (i + 1) (line + 1) cur.dropLast true else (go f (xs.drop 1) (i + 1) (line + 1) [] false).pre (emit cur i (i + 1) line)
    | .blank => go f (xs.drop 1) (i + 1) line cur true
    | .cmt n dl => go f (xs.drop n) (i + n) (line + dl) cur gap
    | .tok k t n =>
      if k = 3 ∧ t = [59] then (go f (xs.drop n) (i + n) line [] false).pre (emit cur i (i + n) line)
      else if label (cur ++ [⟨k, t, gap && !decide (cur = []), line, i, i + n⟩]) = true then
        (go f (xs.drop n) (i + n) line [] false).pre (emit (cur ++ [⟨k, t, gap && !decide (cur = []), line, i, i + n⟩]) (i + n) (i + n) line)
      else go f (xs.drop n) (i + n) line (cur ++ [⟨k, t, gap && !decide (cur = []), line, i, i + n⟩]) false
    | .err code dl => ⟨if cur = [] then [] else [cur], some (code, line + dl)⟩
def scan (xs : List Int) : Out := go (xs.length + 1) xs 0 1 [] false
def tokens (xs : List Int) : List Tk := (scan xs).cl.flatten
end Go.Proofs.YtkkpjonfaflkmaaGreatDoor.S

namespace Go.Proofs.YtkkpjonfaflkmaaGreatDoor.T
set_option linter.unusedSimpArgs false
set_option linter.unusedVariables false
open Go.RowKit Go.Proofs.YtkkpjonfaflkmaaGreatDoorW.PrintWords Go.Proofs.YtkkpjonfaflkmaaGreatDoorW.PrintLast Go.Proofs.YtkkpjonfaflkmaaGreatDoorW.PrintMore
def Buf (g : Nat) (xs : List Int) (W : World) : Prop :=
  ∃ (c : Array Value) (e lo hi : Nat), W.heap[g]? = some (.cells c e (lo, hi)) ∧ (xs.length ≤ lo ∨ hi = 0) ∧ ∀ j, j < xs.length → c[j]? = some (.int .u8 (xs.getD j 0))
theorem Buf.new (W : World) (s : ByteArray) : Buf W.heap.size (bytesOf s) (Lib.bytesWorld W 5 s) := by
  refine ⟨_, _, _, _, Lib.bytesWorld_at_new W 5 s, .inl ?_, fun j hj => ?_⟩
  · rw [bytesOf_length]
    simp [Lib.bytesCells]
  · rw [bytesOf_length] at hj
    have h := Lib.bytesWorld_cell W 5 s j hj
    simp only [World.cell?, Lib.bytesWorld_at_new] at h
    have h' : j < s.data.toList.length := by rw [data_length]; exact hj
    rw [show (Lib.bytesCells W 5 s)[j]? = some (.int .u8 (s.data.toList.getD j 0).toNat) from h]
    simp [bytesOf, List.getD_eq_getElem?_getD, List.getElem?_eq_getElem h']
theorem Buf.cell {g : Nat} {xs : List Int} {W : World} (h : Buf g xs W) (j : Nat) (hj : j < xs.length) : W.cell? ⟨g, j, none⟩ = some (.int .u8 (xs.getD j 0)) := by
  obtain ⟨c, e, lo, hi, hg, hl, hc⟩ := h
  simp only [World.cell?, hg]
  exact hc j hj
theorem Buf.free {g : Nat} {xs : List Int} {W : World} (h : Buf g xs W) (j : Nat) (hj : j < xs.length) : W.frozen? ⟨g, j, none⟩ = false := by
  obtain ⟨c, e, lo, hi, hg, hl, hc⟩ := h
  simp only [World.frozen?, hg]
  rcases hl with hl | rfl
  · have : ¬ lo ≤ j := by omega
    simp [this]
  · simp
theorem Buf.set {g : Nat} {xs : List Int} {W : World} (h : Buf g xs W) (j : Nat) (x : Int) (hj : j < xs.length) : Buf g (xs.set j x) (W.setCell ⟨g, j, none⟩ (.int .u8 x)) := by
  obtain ⟨c, e, lo, hi, hg, hl, hc⟩ := h
  refine ⟨c.setIfInBounds j (.int .u8 x), e, lo, hi, Lib.heap_setCell_same hg _, by rw [List.length_set]; exact hl, fun k hk => ?_⟩
  rw [List.length_set] at hk
  rw [Array.getElem?_setIfInBounds]
  by_cases e1 : j = k
  · subst e1
    have h1 : j < c.size := (Array.getElem?_eq_some_iff.1 (hc j hj)).1
    simp [h1, List.getD_eq_getElem?_getD, hj]
  · simp only [e1, if_false]
    rw [hc k hk]
    simp [List.getD_eq_getElem?_getD, e1]
theorem Buf.reads {g : Nat} {xs : List Int} {W : World} (h : Buf g xs W) (hl : xs.length ≤ 9223372036854775807) : ReadsInt W .u8 (some ⟨g, 0, none⟩) xs.length xs :=
  ⟨rfl, hl, fun _ => ⟨_, rfl, fun j hj => by rw [add_plain]; exact h.cell j hj⟩⟩
theorem Buf.drewN {g : Nat} {xs : List Int} {W : World} (h : Buf g xs W) (n : Nat) : Buf g xs (W.drewN n) := h
theorem Buf.drawn {g : Nat} {xs : List Int} {W W' : World} (h : Buf g xs W) (hd : Drawn0 W W') : Buf g xs W' := by
  obtain ⟨n, rfl⟩ := hd.out
  exact h
theorem Buf.blk {g : Nat} {xs : List Int} {W W' : World} (h : Buf g xs W) (e : W'.heap[g]? = W.heap[g]?) : Buf g xs W' := by
  obtain ⟨c, t, lo, hi, hg, hl, hc⟩ := h
  exact ⟨c, t, lo, hi, e.trans hg, hl, hc⟩
theorem bt_getD (s : ByteArray) (k : Nat) (hk : k < s.size) : bt s (k : Int) = (bytesOf s).getD k 0 := by
  have h' : k < s.data.toList.length := by rw [data_length]; exact hk
  simp [bt, hk, bytesOf, List.getD_eq_getElem?_getD, List.getElem?_eq_getElem h']
  rfl
theorem bo_range (s : ByteArray) (x : Int) (h : x ∈ bytesOf s) : 0 ≤ x ∧ x < 256 := by
  simp only [bytesOf, List.mem_map] at h
  obtain ⟨b, _, rfl⟩ := h
  have := b.toNat_lt
  omega
def part_map (f : Int → Int) (k : Nat) (xs : List Int) : List Int := (xs.take k).map f ++ xs.drop k
theorem part_map_length (f : Int → Int) (k : Nat) (xs : List Int) : (part_map f k xs).length = xs.length := by
  simp [part_map]; omega
theorem part_map_zero (f : Int → Int) (xs : List Int) : part_map f 0 xs = xs := by simp [part_map]
theorem part_map_all (f : Int → Int) (xs : List Int) : part_map f xs.length xs = xs.map f := by simp [part_map]
theorem part_map_at (f : Int → Int) (k : Nat) (xs : List Int) (hk : k < xs.length) : (part_map f k xs).getD k 0 = xs.getD k 0 := by
  have h1 : ((xs.take k).map f).length = k := by simp; omega
  simp only [part_map, List.getD_eq_getElem?_getD]
  rw [List.getElem?_append_right (by omega), h1]
  simp
theorem part_map_set (f : Int → Int) (k : Nat) (xs : List Int) (hk : k < xs.length) : (part_map f k xs).set k (f (xs.getD k 0)) = part_map f (k + 1) xs := by
  have h1 : ((xs.take k).map f).length = k := by simp; omega
  unfold part_map
  have h2 : xs.take (k + 1) = xs.take k ++ [xs[k]] := by rw [List.take_add_one, List.getElem?_eq_getElem hk]; rfl
  rw [List.set_append_right _ _ (by omega), h1, Nat.sub_self, List.drop_eq_getElem_cons hk, List.set_cons_zero, h2, List.map_append, List.append_assoc]
  simp [List.getD_eq_getElem?_getD, List.getElem?_eq_getElem hk]
theorem getD_mem (xs : List Int) (k : Nat) (hk : k < xs.length) : xs.getD k 0 ∈ xs := by
  have h1 : xs.getD k 0 = xs[k] := by simp [List.getD_eq_getElem?_getD, List.getElem?_eq_getElem hk]
  rw [h1]; exact List.getElem_mem hk
end Go.Proofs.YtkkpjonfaflkmaaGreatDoor.T

namespace Go.Proofs.YtkkpjonfaflkmaaGreatDoor.T
set_option linter.unusedSimpArgs false
set_option linter.unusedVariables false
open Go.RowKit Go.Proofs.YtkkpjonfaflkmaaGreatDoorW.PrintWords Go.Proofs.YtkkpjonfaflkmaaGreatDoorW.PrintLast Go.Proofs.YtkkpjonfaflkmaaGreatDoorW.PrintMore
def Sc (s : Nat) (src : ByteArray) (i line : Int) (m : Value) (w : World) : Prop := w.heap[s]? = some (.cells #[.string src, .int .i64 i, .int .i64 line, m] 93 (0, 0))
theorem Sc.c0 {s : Nat} {src : ByteArray} {i line : Int} {m : Value} {w : World} (h : Sc s src i line m w) : w.cell? ⟨s, 0, none⟩ = some (.string src) := (blk_cell h 0).trans rfl
theorem Sc.c1 {s : Nat} {src : ByteArray} {i line : Int} {m : Value} {w : World} (h : Sc s src i line m w) : w.cell? ⟨s, 1, none⟩ = some (.int .i64 i) := (blk_cell h 1).trans rfl
theorem Sc.c2 {s : Nat} {src : ByteArray} {i line : Int} {m : Value} {w : World} (h : Sc s src i line m w) : w.cell? ⟨s, 2, none⟩ = some (.int .i64 line) := (blk_cell h 2).trans rfl
theorem Sc.c3 {s : Nat} {src : ByteArray} {i line : Int} {m : Value} {w : World} (h : Sc s src i line m w) : w.cell? ⟨s, 3, none⟩ = some m := (blk_cell h 3).trans rfl
theorem Sc.fr {s : Nat} {src : ByteArray} {i line : Int} {m : Value} {w : World} (h : Sc s src i line m w) (j : Nat) : w.frozen? ⟨s, j, none⟩ = false := blk_frozen h j
theorem Sc.lt {s : Nat} {src : ByteArray} {i line : Int} {m : Value} {w : World} (h : Sc s src i line m w) : s < w.heap.size := (Array.getElem?_eq_some_iff.1 h).1
theorem Sc.set1 {s : Nat} {src : ByteArray} {i line : Int} {m : Value} {w : World} (h : Sc s src i line m w) (x : Int) : Sc s src x line m (w.setCell ⟨s, 1, none⟩ (.int .i64 x)) := blk_put (cs := #[.string src, .int .i64 i, .int .i64 line, m]) h 1 _ rfl
theorem Sc.set2 {s : Nat} {src : ByteArray} {i line : Int} {m : Value} {w : World} (h : Sc s src i line m w) (x : Int) : Sc s src i x m (w.setCell ⟨s, 2, none⟩ (.int .i64 x)) := blk_put (cs := #[.string src, .int .i64 i, .int .i64 line, m]) h 2 _ rfl
theorem Sc.drawn {s : Nat} {src : ByteArray} {i line : Int} {m : Value} {w w' : World} (h : Sc s src i line m w) (hd : Drawn0 w w') : Sc s src i line m w' := by obtain ⟨n, rfl⟩ := hd.out; exact h
theorem Sc.below {s : Nat} {src : ByteArray} {i line : Int} {m : Value} {w w' : World} (h : Sc s src i line m w) (hb : Below w.heap.size w w') : Sc s src i line m w' := (hb.block _ h.lt).trans h
def fl (code line : Int) : Value := .iface 76 (.agg #[.int .i64 code, .int .i64 line])
def Fails (code line : Int) : Ending := .panicked [{ v := fl code line, recovered := false }]
theorem scan_fail.calls (p : Value) (c l : Int) (w : World) : Calls Tryz.prog 97 #[p, .int .i64 c, .int .i64 l] w fun e w' => e = Fails c l ∧ w' = w := by
  unfold Fails fl
  go_enter Tryz.func97, Tryz.ntmps97
  go_wp2
  exact ⟨rfl, rfl, rfl⟩
theorem drop_at (L : List Int) (k : Nat) (hk : k < L.length) : L.drop k = L.getD k 0 :: L.drop (k + 1) := by
  rw [List.drop_eq_getElem_cons hk]
  simp [List.getD_eq_getElem?_getD, List.getElem?_eq_getElem hk]
def Tells (g : Nat) (p : Int → Bool) : Prop := ∀ (W : World) (x : Int), 0 ≤ x → x < 256 → Calls Tryz.prog g #[.int .u8 x] W fun e W' => e = .returned (.bool (p x)) ∧ Drawn0 W W'
set_option maxHeartbeats 2000000 in
theorem scan_run.calls (s : Nat) (src : ByteArray) (i line : Int) (m : Value) (frm : Nat) (g : Nat) (p : Int → Bool) (w : World) (hsz : src.size ≤ 1000000) (hf : frm ≤ src.size)
    (eg : ∀ args w, (callFunc g args).run Tryz.prog w = .ok (.enter g args) w) (hp : Tells g p) (h : Sc s src i line m w) :
    Calls Tryz.prog 94 #[.pointer (some ⟨s, 0, none⟩), .int .i64 frm, .func (.func g) #[] #[]] w fun e w' => e = .returned (.int .i64 ((frm + S.run p ((bytesOf src).drop frm) : Nat) : Int)) ∧ Drawn0 w w' := by
  have HP := Aside0.mk hp
  have HS := Aside0.mk h
  clear hp h
  obtain ⟨n, hn⟩ : ∃ n, src.size = n := ⟨_, rfl⟩
  obtain ⟨L, hL⟩ : ∃ L, bytesOf src = L := ⟨_, rfl⟩
  have HN : Aside0 (L.length = n) := ⟨by rw [← hL, bytesOf_length]; exact hn⟩
  rw [hL]
  obtain ⟨R, hR⟩ : ∃ R : Nat, frm + S.run p (L.drop frm) = R := ⟨_, rfl⟩
  rw [hR]
  have HR := Aside0.mk hR
  have HL := Aside0.mk hL
  clear hR hL
  rw [hn] at hsz hf
  go_enter Tryz.func94, Tryz.ntmps94
  go_wp2
  go_loopg [1] n (fun gg s1 wr => ∃ kk : Nat, kk ≤ n ∧ n - kk ≤ gg ∧ s1 = .int .i64 kk ∧ Aside0 (Drawn0 w wr) ∧ Aside0 (kk + S.run p (L.drop kk) = R))
  case atStart => exact ⟨frm, hf, by omega, rfl, ⟨.refl _⟩, HR⟩
  case round =>
    obtain ⟨kk, hkk, hg, rfl, HB, HA⟩ := hrel
    have c0 := (HS.out.drawn HB.out).c0
    by_cases hlt : kk < n
    · have hltz : (kk : Int) < (n : Int) := by omega
      have hl : kk < src.size := by omega
      have hx : ((src[kk]'hl).toNat : Int) = bt src (kk : Int) := by simp [bt, hl]
      have hr := bt_range src (kk : Int)
      have hy0 : bt src (kk : Int) = L.getD kk 0 := by rw [← HL.out]; exact bt_getD src kk hl
      have HD := Aside0.mk (drop_at L kk (by have := HN.out; omega))
      rw [← hy0] at HD
      generalize bt src (kk : Int) = y at hx hr HD
      have hcall := HP.out wr y hr.1 (by omega)
      clear hr hy0
      cases hq : p y with
      | true =>
        rw [hq] at hcall
        have HC := Lib.hid hcall
        have HQ := Aside0.mk hq
        clear hcall hq
        go_wp2_with (go_at_fn g; refine HC.out.mono ?_; rintro e w' ⟨rfl, ⟨⟨q, rfl⟩⟩⟩)
        go_roundg (n - (kk + 1))
        case measure => omega
        case rel =>
          refine ⟨kk + 1, by omega, by omega, by go_num, ⟨HB.out.step q⟩, ⟨?_⟩⟩
          have := HA.out
          rw [HD.out] at this
          simp only [S.run, HQ.out, if_true] at this
          omega
      | false =>
        rw [hq] at hcall
        have HC := Lib.hid hcall
        have HQ := Aside0.mk hq
        clear hcall hq
        go_wp2_with (go_at_fn g; refine HC.out.mono ?_; rintro e w' ⟨rfl, ⟨⟨q, rfl⟩⟩⟩)
        go_ret
        refine ⟨?_, HB.out.step q⟩
        have := HA.out
        rw [HD.out] at this
        simp only [S.run, HQ.out, Bool.false_eq_true, if_false] at this
        have e : kk = R := by omega
        rw [e]; rfl
    · have hltz : ¬ (kk : Int) < (n : Int) := by omega
      have hkn : kk = n := by omega
      subst hkn
      go_wp2
      go_ret
      refine ⟨?_, HB.out⟩
      have := HA.out
      rw [List.drop_eq_nil_of_le (by have := HN.out; omega)] at this
      simp only [S.run] at this
      have e : kk = R := by omega
      rw [e]; rfl
end Go.Proofs.YtkkpjonfaflkmaaGreatDoor.T

namespace Go.Proofs.YtkkpjonfaflkmaaGreatDoor.T
set_option linter.unusedSimpArgs false
set_option linter.unusedVariables false
open Go.RowKit Go.Proofs.YtkkpjonfaflkmaaGreatDoorW.PrintWords Go.Proofs.YtkkpjonfaflkmaaGreatDoorW.PrintLast Go.Proofs.YtkkpjonfaflkmaaGreatDoorW.PrintMore
structure But (A : Nat → Prop) (w w' : World) : Prop where
  os : w'.os = w.os
  tape : w'.tape = w.tape
  output : w'.output = w.output
  size : w.heap.size ≤ w'.heap.size
  block : ∀ k, k < w.heap.size → ¬ A k → w'.heap[k]? = w.heap[k]?
theorem But.refl (A : Nat → Prop) (w : World) : But A w w := ⟨rfl, rfl, rfl, Nat.le_refl _, fun _ _ _ => rfl⟩
theorem But.trans {A B C : Nat → Prop} {w w' w'' : World} (h : But A w w') (h' : But B w' w'') (hA : ∀ k, k < w.heap.size → A k → C k) (hB : ∀ k, k < w.heap.size → B k → C k) : But C w w'' :=
  ⟨h'.os.trans h.os, h'.tape.trans h.tape, h'.output.trans h.output, Nat.le_trans h.size h'.size, fun k hk hc => (h'.block k (Nat.lt_of_lt_of_le hk h.size) (fun e => hc (hB k hk e))).trans (h.block k hk (fun e => hc (hA k hk e)))⟩
theorem But.trans' {A : Nat → Prop} {w w' w'' : World} (h : But A w w') (h' : But A w' w'') : But A w w'' := h.trans h' (fun _ _ e => e) (fun _ _ e => e)
theorem But.mono {A B : Nat → Prop} {w w' : World} (h : But A w w') (hA : ∀ k, k < w.heap.size → A k → B k) : But B w w' := ⟨h.os, h.tape, h.output, h.size, fun k hk hb => h.block k hk (fun e => hb (hA k hk e))⟩
theorem But.of_below {A : Nat → Prop} {w w' : World} (h : Below w.heap.size w w') : But A w w' := ⟨h.os, h.tape, h.output, h.size, fun k hk _ => h.block k hk⟩
theorem But.below {w w' : World} (h : But (fun _ => False) w w') : Below w.heap.size w w' := ⟨h.os, h.tape, h.output, h.size, fun k hk => h.block k hk (fun e => e)⟩
theorem But.belowB {A : Nat → Prop} {B : Nat} {w w' : World} (h : But A w w') (hB : B ≤ w.heap.size) (hA : ∀ k, k < B → ¬ A k) : Below B w w' := ⟨h.os, h.tape, h.output, h.size, fun k hk => h.block k (by omega) (hA k hk)⟩
theorem But.then {A : Nat → Prop} {w w' w'' : World} (h : But A w w') (h' : Below w'.heap.size w' w'') : But A w w'' := h.trans' (.of_below h')
theorem But.set {A : Nat → Prop} {w w' : World} (h : But A w w') (a : Addr) (v : Value) (ha : A a.block) : But A w (w'.setCell a v) := by
  have hg : w'.grownBy (w'.setCell a v) (some a.block) := ⟨rfl, rfl, rfl, by simp [World.setCell], fun k _ hk => Below.heap_setCell w' a v k (fun e => hk (by rw [e]))⟩
  exact ⟨hg.os.trans h.os, hg.tape.trans h.tape, hg.output.trans h.output, Nat.le_trans h.size hg.size, fun k hk hn => (hg.block k (Nat.lt_of_lt_of_le hk h.size) (fun e => hn (by cases e; exact ha))).trans (h.block k hk hn)⟩
theorem But.drewN {A : Nat → Prop} {w w' : World} (h : But A w w') (n : Nat) : But A w (w'.drewN n) := ⟨h.os, h.tape, h.output, h.size, h.block⟩
theorem But.drew {A : Nat → Prop} {w w' : World} (h : But A w w') : But A w w'.drew := ⟨h.os, h.tape, h.output, h.size, h.block⟩
theorem But.drawn {A : Nat → Prop} {w w' w'' : World} (h : But A w w') (hd : Drawn0 w' w'') : But A w w'' := by obtain ⟨n, rfl⟩ := hd.out; exact h.drewN n
theorem But.alloc {A : Nat → Prop} {w w' : World} (h : But A w w') (o : Obj) : But A w (w'.alloc o) := h.then (below_alloc (Below.refl _ _) o)
end Go.Proofs.YtkkpjonfaflkmaaGreatDoor.T

namespace Go.Proofs.YtkkpjonfaflkmaaGreatDoor.T
set_option linter.unusedSimpArgs false
set_option linter.unusedVariables false
open Go.RowKit Go.Proofs.YtkkpjonfaflkmaaGreatDoorW.PrintWords Go.Proofs.YtkkpjonfaflkmaaGreatDoorW.PrintLast Go.Proofs.YtkkpjonfaflkmaaGreatDoorW.PrintMore
structure TabOK (w : World) : Prop where
  most : ∃ m, w.cell? ⟨0, 0, none⟩ = some (.int .i64 m)
  space : Lib.TabIs Tryz.prog w "strings.asciiSpace" .u8 Lib.asciiSpaceTab
  white : Lib.WhiteTab 2 w
theorem TabOK.of_below {w w' : World} (h : TabOK w) (hb : Below w.heap.size w w') : TabOK w' where
  most := by
    obtain ⟨m, hm⟩ := h.most
    exact ⟨m, pw_cell_below hb hm⟩
  space := by
    have h := h.space
    have hgn : Tryz.prog.globalNamed "strings.asciiSpace" = some 1 := by kernel_rfl
    unfold Lib.TabIs World.var? at h ⊢
    rw [hgn] at h ⊢
    simp only [Option.bind_some] at h ⊢
    have hlt : 1 < w.heap.size := by
      rcases Nat.lt_or_ge 1 w.heap.size with h' | h'
      · exact h'
      · rw [Array.getElem?_eq_none h'] at h; cases h
    rw [hb.block 1 hlt]
    exact h
  white := WhiteTab_below h.white hb
theorem tabIs_of_reads {P : Program} {W : World} {name : String} {k : IntKind} {zs : List Int} {g : Nat} {t e : TypeId} {n : Nat}
    (hg : P.globalNamed name = some g) (hty : (P.globals[g]?).map (·.type) = some t) (ht : P.underlying t = some (.array n e)) (he : P.underlying e = some (.int k)) (hce : P.cellsOf e = 1) (hct : P.cellsOf t = n)
    (h : Lib.VarReads P W name (Lib.tabData k zs)) : Lib.TabIs P W name k zs := by
  obtain ⟨g', t', cs, fuel, p, hg', ht', hvar, hd⟩ := h
  obtain rfl := Option.some.inj (hg.symm.trans hg')
  obtain rfl := Option.some.inj (hty.symm.trans ht')
  unfold Lib.TabIs
  rw [hvar, ← Lib.cells_of_tab ht he hce hct hd]
theorem tabOK_of (W : World) (hsh : W.ShapedOpen Tryz.prog) (h1 : Lib.VarReads Tryz.prog W "strings.asciiSpace" (Lib.tabData .u8 Lib.asciiSpaceTab)) (h2 : Lib.VarReads Tryz.prog W "unicode.White_Space" Lib.whiteData) : TabOK W where
  most := Tryz.laysM155.s1_3 W hsh
  space := tabIs_of_reads (g := 1) (t := 146) (e := 5) (n := 256) (by kernel_rfl) (by kernel_rfl) (by kernel_rfl) Tryz.underlying5 (by kernel_rfl) (by kernel_rfl) h1
  white := whiteTab_of_reads Tryz.lays199 ⟨by kernel_rfl, by kernel_rfl, by kernel_rfl, by kernel_rfl, by kernel_rfl, by kernel_rfl, by kernel_rfl, by kernel_rfl⟩ h2
end Go.Proofs.YtkkpjonfaflkmaaGreatDoor.T
