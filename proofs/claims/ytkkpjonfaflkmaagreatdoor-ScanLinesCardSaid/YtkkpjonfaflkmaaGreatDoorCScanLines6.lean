/- Part 6 of the proof of ScanLines: the functions that it calls return what their plain descriptions say. -/
import Derived.Test.YtkkpjonfaflkmaaGreatDoorCScanLines2
import Derived.Test.YtkkpjonfaflkmaaGreatDoorCScanLines4
import Derived.Test.YtkkpjonfaflkmaaGreatDoorCScanLines5
import Derived.Test.YtkkpjonfaflkmaaGreatDoorCScanLines3

-- Written by a program of this session (mp.py over the kit's print.py), out of the translation.
namespace Go.Proofs.YtkkpjonfaflkmaaGreatDoor.T
set_option linter.unusedSimpArgs false
open Go.RowKit Go.Proofs.YtkkpjonfaflkmaaGreatDoorW.PrintWords Go.Proofs.YtkkpjonfaflkmaaGreatDoorW.PrintLast Go.Proofs.YtkkpjonfaflkmaaGreatDoorW.PrintMore
attribute [local go_sem] max2_int min2_int max_two min_two max_three min_three max_four min_four   -- for this text's walks alone
set_option linter.unusedVariables false
set_option linter.unusedSimpArgs false

/-! ### scan_Labels: function 20 -/
def scan_Labels.l0 : Nat → List (S73) → List (List (S53)) → Int → Int → Option ((List (S73)) × Int × Int × Int)
  | 0, _, _, _, _ => none
  | k + 1, x10, x25, x26, x27 => if x27 < x26 then (if 0 ≤ x27 then (if x27 < (x25.length : Int) then ((scan_label.f (rd_L4 x25 x27)).bind fun t112 => (if t112 = true then (if 0 < ((rd_L4 x25 x27).length : Int) then (if x10.length < 5864062014805 then (scan_Labels.l0 k (x10 ++ [(⟨(rd_T53 (rd_L4 x25 x27) 0).f1, (rd_T53 (rd_L4 x25 x27) 0).f3⟩ : S73)]) x25 x26 (wrap64 (x27 + 1))) else (none)) else (none)) else (scan_Labels.l0 k x10 x25 x26 (wrap64 (x27 + 1))))) else (none)) else (none)) else (some (x10, 0, 0, 0))
def scan_Labels.f (k : Nat) (a0 : ByteArray) : Option ((List (S73)) × Int × Int × Int) := (scan_Clauses.f a0).bind fun bt105 => (if bt105.2.2.2 = 0 then (scan_Labels.l0 k ([] : List (S73)) bt105.1 (bt105.1.length : Int) 0) else (some (([] : List (S73)), bt105.2.1, bt105.2.2.1, bt105.2.2.2)))
theorem scan_Labels.mono_l : ∀ k, (∀ y0 y1 y2 y3, LeO (scan_Labels.l0 k y0 y1 y2 y3) (scan_Labels.l0 (k + 1) y0 y1 y2 y3))
  | 0 => fun _ _ _ _ r h => by simp [scan_Labels.l0] at h
  | k + 1 => by
    have ih0 := scan_Labels.mono_l k
    · intro y0 y1 y2 y3
      unfold scan_Labels.l0
      repeat' first
      | (with_reducible exact ih0 _ _ _ _)
      | (with_reducible exact LeO.refl _)
      | (with_reducible exact LeO.none _)
      | (with_reducible refine LeO.ite ?_ ?_)
      | (with_reducible refine LeO.bind ?_ (fun _ => ?_))
      | exact ih0 _ _ _ _
      | exact LeO.none _
      | refine LeO.ite ?_ ?_
      | refine LeO.bind ?_ (fun _ => ?_)
theorem scan_Labels.mono : ∀ a0 k, LeO (scan_Labels.f k a0) (scan_Labels.f (k + 1) a0) := by
  intro a0 k
  have ih0 := scan_Labels.mono_l k
  unfold scan_Labels.f
  repeat' first
      | (with_reducible exact ih0 _ _ _ _)
      | (with_reducible exact LeO.refl _)
      | (with_reducible exact LeO.none _)
      | (with_reducible refine LeO.ite ?_ ?_)
      | (with_reducible refine LeO.bind ?_ (fun _ => ?_))
      | exact ih0 _ _ _ _
      | exact LeO.none _
      | refine LeO.ite ?_ ?_
      | refine LeO.bind ?_ (fun _ => ?_)
def scan_Labels.T9 : Bool × List (List Nat × List Nat) := (true, [([], []), ([], []), ([1], [1]), ([2], [2]), ([3], [3]), ([], []), ([5], [5]), ([6], [6]), ([7], [7]), ([4, 8], [4, 8]), ([9], [9]), ([0, 10], [0, 10]), ([11, 11, 0, 1, 2, 3, 4, 5, 6, 7, 8, 9, 10, 11], [0, 11])])
def scan_Labels.B9 : List Nat := [0, 0, 2, 6, 14, 0, 32, 96, 224, 510, 1022, 2047, 4095]
theorem scan_Labels.tab9 : rtab .any (opsOf Tryz.f20 9) = scan_Labels.T9 := by kernel_rfl
theorem scan_Labels.bits9 : waitsOk scan_Labels.T9.2 scan_Labels.B9 = true := by kernel_rfl
set_option maxHeartbeats 8000000 in
set_option maxRecDepth 100000 in
theorem scan_Labels.calls (k : Nat) (a0 : ByteArray) (r1 : List (S73)) (r2 : Int) (r3 : Int) (r4 : Int) (w : World) (hT : TabOK w) (h : scan_Labels.f k a0 = some (r1, r2, r3, r4)) :
    Calls Tryz.prog 20 #[.string a0] w fun e w' => ∃ v0_ : Value, e = .returned (.tuple #[v0_, .int .i64 r2, .int .i64 r3, .int .i64 r4]) ∧ Kd.R k73 73 w' w.heap.size (fun _ => True) v0_ r1 ∧ Below w.heap.size w w' := by
  have hu73 := Tryz.underlying73
  have HB := Aside0.mk (Below.refl w.heap.size w)
  have H : ((scan_Clauses.f a0).bind fun bt105 => (if bt105.2.2.2 = 0 then (scan_Labels.l0 k ([] : List (S73)) bt105.1 (bt105.1.length : Int) 0) else (some (([] : List (S73)), bt105.2.1, bt105.2.2.1, bt105.2.2.2)))) = some (r1, r2, r3, r4) := h
  clear h
  replace H := Option.bind_eq_some_iff.mp H
  obtain ⟨⟨t105, t106, t107, t108⟩, A20, H⟩ := H
  replace H : (if t108 = 0 then (scan_Labels.l0 k ([] : List (S73)) t105 (t105.length : Int) 0) else (some (([] : List (S73)), t106, t107, t108))) = some (r1, r2, r3, r4) := H
  have A2 := Aside0.mk A20
  clear A20
  by_cases c3 : t108 = 0
  · rw [if_pos c3] at H
    have c3b0 : (t108 == 0) = true := beq_iff_eq.mpr c3
    have c3b1 : (t108 != 0) = false := bne_eq_false_iff_eq.mpr c3
    clear c3
    have H' := Aside0.mk H
    clear H
    go_enter Tryz.func20, Tryz.ntmps20
    go_wp2_with (first | ((with_reducible refine gate_callee (f := 19) rfl ?_); refine goesL_ (some 15) rfl rfl Tryz.func19 (by kernel_rfl) rfl #[.string a0] rfl (by (try simp only [List.map_toArray, List.map_cons, List.map_nil]); first | done | rfl | (simp only [List.length_drop, List.length_take]; rfl)) ?_; (with_reducible refine (scan_Clauses.calls a0 t105 t106 t107 t108 _ (TabOK.of_below hT (by repeat (first | (with_reducible first | exact HB.out | apply below_alloc | apply pw_below_drewN | apply below_drew1) | exact HB.out))) A2.out).mono ?_); rintro e w4 ⟨v109, rfl, ho0, hb⟩; refine ⟨_, rfl, ?_⟩; have n0_ := Aside0.mk (Kd.N_lower (Kd.N_mono (ok' := fun k_ => True) ho0 (fun k_ hk_ => trivial)) (below_size (by repeat (first | (with_reducible first | exact HB.out | apply below_alloc | apply pw_below_drewN | apply below_drew1) | exact HB.out)))); have n1_ := Aside0.mk (below_step (by repeat (first | (with_reducible first | exact HB.out | apply below_alloc | apply pw_below_drewN | apply below_drew1) | exact HB.out)) hb); clear HB; have HO110 := n0_; have HB := n1_; clear n0_ n1_; (try clear hb); (try clear hb2); (try clear hk); (try clear hi); (try clear ho0); obtain ⟨Ao5, co5, eo5⟩ := Kd.N_slice HO110.out; subst eo5))
    go_loopg [10, 27] k (fun kq v10 v27 w' => ∃ (x10_1 : List (S73)) (x27_1 : Int), v27 = .int .i64 x27_1 ∧ Aside0 (scan_Labels.l0 kq x10_1 t105 (t105.length : Int) x27_1 = some (r1, r2, r3, r4)) ∧ Aside0 (kq ≤ k) ∧ Aside0 (Kd.R k73 73 w' w.heap.size (fun _ => True) v10 x10_1) ∧ Aside0 (Kd.N (Kd.slice 53 k53) 24 w' w.heap.size (fun k_ => some k_ ≠ (v10 : Value).ownBlock) (.slice Ao5 t105.length co5) t105) ∧ Aside0 (Below w.heap.size w w'))
    case atStart => exact ⟨(([] : List (S73))), (0), (by first | rfl | (simp; done) | (simp [*]; done)), H', ⟨Nat.le_refl _⟩, ⟨by first | exact Kd.R_nil _ _ _ _ _ | exact Kd.N_nil _ _ _ _ _ | exact Kd.V_nil _ _ _ _ _ | exact Kd.Q_nil _ _ _ _ _ | exact Kd.S_nil _ _ _ _ _⟩, ⟨by (with_reducible repeat (first | apply Kd.N_alloc | apply Kd.N_drewN | apply Kd.N_drew)); exact Kd.N_mono HO110.out (fun _ hk => (by simp [Value.ownBlock]))⟩, ⟨by repeat (first | (with_reducible first | exact HB.out | apply below_alloc | apply pw_below_drewN | apply below_drew1) | exact HB.out)⟩⟩
    case round =>
      clear H'
      try clear c1
      try clear c2
      try clear p2
      try clear c3
      try clear c3b0
      try clear c3b1
      obtain ⟨x10_1, x27_1, rfl, HA, HK1, HO_10, HO_25, HB⟩ := hrel
      cases gk with
      | zero => exact absurd HA.out (by simp [scan_Labels.l0])
      | succ k1 =>
        have H := HA.out
        clear HA
        simp only [scan_Labels.l0] at H
        by_cases c6 : x27_1 < (t105.length : Int)
        · rw [if_pos c6] at H
          have c6b0 : decide (x27_1 < (t105.length : Int)) = true := decide_eq_true c6
          clear c6
          by_cases c7 : 0 ≤ x27_1
          · rw [if_pos c7] at H
            have c7b0 : decide (0 ≤ x27_1) = true := decide_eq_true c7
            clear c7
            by_cases c8 : x27_1 < (t105.length : Int)
            · rw [if_pos c8] at H
              have c8b0 : decide (x27_1 < (t105.length : Int)) = true := decide_eq_true c8
              clear c8
              replace H := Option.bind_eq_some_iff.mp H
              obtain ⟨t112, A90, H⟩ := H
              replace H : (if t112 = true then (if 0 < ((rd_L4 t105 x27_1).length : Int) then (if x10_1.length < 5864062014805 then (scan_Labels.l0 k1 (x10_1 ++ [(⟨(rd_T53 (rd_L4 t105 x27_1) 0).f1, (rd_T53 (rd_L4 t105 x27_1) 0).f3⟩ : S73)]) t105 (t105.length : Int) (wrap64 (x27_1 + 1))) else (none)) else (none)) else (scan_Labels.l0 k1 x10_1 t105 (t105.length : Int) (wrap64 (x27_1 + 1)))) = some (r1, r2, r3, r4) := H
              have A9 := Aside0.mk A90
              clear A90
              by_cases c10 : t112 = true
              · subst c10
                have H1 : (if 0 < ((rd_L4 t105 x27_1).length : Int) then (if x10_1.length < 5864062014805 then (scan_Labels.l0 k1 (x10_1 ++ [(⟨(rd_T53 (rd_L4 t105 x27_1) 0).f1, (rd_T53 (rd_L4 t105 x27_1) 0).f3⟩ : S73)]) t105 (t105.length : Int) (wrap64 (x27_1 + 1))) else (none)) else (none)) = some (r1, r2, r3, r4) := by rw [if_pos rfl] at H; exact H
                clear H
                have H := H1
                clear H1
                by_cases c11 : 0 < ((rd_L4 t105 x27_1).length : Int)
                · rw [if_pos c11] at H
                  have c11b0 : decide (0 < ((rd_L4 t105 x27_1).length : Int)) = true := decide_eq_true c11
                  have c11b1 : decide (0 < (rd_L4 t105 x27_1).length) = true := decide_eq_true (by omega)
                  clear c11
                  by_cases c12 : x10_1.length < 5864062014805
                  · rw [if_pos c12] at H
                    have LMc12 := Aside0.mk c12
                    clear c12
                    obtain ⟨y115, hy115⟩ : ∃ y_ : List (S73), y_ = (x10_1 ++ [(⟨(rd_T53 (rd_L4 t105 x27_1) 0).f1, (rd_T53 (rd_L4 t105 x27_1) 0).f3⟩ : S73)]) := ⟨_, rfl⟩
                    replace H : (scan_Labels.l0 k1 y115 t105 (t105.length : Int) (wrap64 (x27_1 + 1))) = some (r1, r2, r3, r4) := by first | (rw [hy115]; with_reducible exact H) | (have H2_ := (Option.bind_some _ _).symm.trans H; rw [hy115]; with_reducible exact H2_) | (have H2_ := (Option.bind_some _ _).symm.trans H; with_reducible exact H2_) | with_reducible exact H | (rw [hy115]; exact H) | exact H
                    have Ny115 := Aside0.mk hy115
                    clear hy115
                    have H' := Aside0.mk H
                    clear H
                    have p111 : 0 ≤ (x27_1 : Int) := of_decide_eq_true (by first | (with_reducible assumption) | assumption)
                    have q111 : x27_1 < (t105.length : Int) := of_decide_eq_true (by first | (with_reducible assumption) | assumption)
                    obtain ⟨ad111, A111_0, c111_0, e111, hx111_0, hl111_0, hi111_0⟩ := at_L4 (Kd.N_reads' HO_25.out).2.2 x27_1 p111 q111
                    cases e111
                    obtain ⟨ce111, hce111, hMe111, hcc111⟩ := Kd.N_get HO_25.out [] x27_1 p111 (by first | exact q111 | exact of_decide_eq_true (by first | (with_reducible assumption) | assumption) | (have e_ := (Kd.N_reads' HO_25.out).1; omega))
                    obtain ⟨ua111_0, uc111_0, rfl, ul111_0, ge111_0⟩ := Kd.FK_slice_open hMe111
                    have hv111_0 := hcc111 0 _ rfl
                    rw [Nat.add_zero, show ((Kd.slice 53 k53)).sz = 1 from rfl, Nat.mul_one] at hv111_0
                    replace hv111_0 := Option.some.inj (hv111_0.symm.trans hx111_0)
                    injection hv111_0 with hva_ hvn_ hvc_
                    rw [hva_] at ge111_0
                    rw [hvc_] at ul111_0
                    have HL111_0 := Aside0.mk (show Kd.V k53 53 _ w.heap.size _ _ (rd_L4 t105 x27_1) from Kd.V_mk ul111_0 ge111_0)
                    clear hva_ hvn_ hvc_ ge111_0 ul111_0
                    clear hcc111 hce111
                    have HR111_0 := Aside0.mk hi111_0
                    have HC111_0 := Aside0.mk hl111_0
                    clear hi111_0 hl111_0
                    replace p111 := eq_true p111
                    replace q111 := eq_true q111
                    try go_wp2_with (first | ((with_reducible refine gate_callee (f := 54) rfl ?_); refine goesL_ (some 32) rfl rfl Tryz.func54 (by kernel_rfl) rfl #[.slice A111_0 (rd_L4 t105 x27_1).length c111_0] rfl (by (try simp only [List.map_toArray, List.map_cons, List.map_nil]); first | done | rfl | (simp only [List.length_drop, List.length_take]; rfl)) ?_; (with_reducible refine (scan_label.calls _ _ (rd_L4 t105 x27_1) true _ ?side1 ?side2 A9.out).mono ?_); (case side1 => repeat (first | exact (by repeat (first | (with_reducible exact HR111_0.out) | (with_reducible refine Kd.C_alloc ?_ _) | (with_reducible refine Kd.C_drewN ?_ _) | (with_reducible refine Kd.C_drew ?_) | exact HR111_0.out)) | (with_reducible refine Kd.C_alloc ?_ _) | (with_reducible refine Kd.C_drewN ?_ _) | (with_reducible refine Kd.C_drew ?_))); (case side2 => exact HC111_0.out); rintro e w' ⟨rfl, ⟨nd, rfl⟩⟩; refine ⟨_, rfl, ?_⟩))
                    (try (rw [drewN_self wr]; generalize hq_ : World.drewN wr _ = wr; have n0_ : Aside0 (Kd.V k53 53 wr w.heap.size (fun k_ => some k_ ≠ (u10 : Value).ownBlock ∧ some k_ ≠ (.slice (some ad111) t105.length co5 : Value).ownBlock) (.slice A111_0 (rd_L4 t105 x27_1).length c111_0) (rd_L4 t105 x27_1)) := ⟨by rw [← hq_]; exact (by (with_reducible repeat (first | apply Kd.V_alloc | apply Kd.V_drewN | apply Kd.V_drew)); exact HL111_0.out)⟩; have n1_ : Aside0 (Kd.R k73 73 wr w.heap.size (fun _ => True) u10 x10_1) := ⟨by rw [← hq_]; exact (by (with_reducible repeat (first | apply Kd.R_alloc | apply Kd.R_drewN | apply Kd.R_drew)); exact HO_10.out)⟩; have n2_ : Aside0 (Kd.N (Kd.slice 53 k53) 24 wr w.heap.size (fun k_ => some k_ ≠ (u10 : Value).ownBlock) (.slice (some ad111) t105.length co5) t105) := ⟨by rw [← hq_]; exact (by (with_reducible repeat (first | apply Kd.N_alloc | apply Kd.N_drewN | apply Kd.N_drew)); exact HO_25.out)⟩; have n3_ : Aside0 (Below w.heap.size w wr) := ⟨by rw [← hq_]; exact (by repeat (first | (with_reducible first | exact HB.out | apply below_alloc | apply pw_below_drewN | apply below_drew1) | exact HB.out))⟩; have n4_ : Aside0 (Kd.C k53 wr A111_0 (rd_L4 t105 x27_1).length (rd_L4 t105 x27_1)) := ⟨by rw [← hq_]; exact (by repeat (first | (with_reducible exact HR111_0.out) | (with_reducible refine Kd.C_alloc ?_ _) | (with_reducible refine Kd.C_drewN ?_ _) | (with_reducible refine Kd.C_drew ?_) | exact HR111_0.out))⟩; clear HL111_0 HO_10 HO_25 HB HR111_0 hq_; have HL111_0 := n0_; have HO_10 := n1_; have HO_25 := n2_; have HB := n3_; have HR111_0 := n4_; clear n0_ n1_ n2_ n3_ n4_))
                    have n0_ := Aside0.mk (Kd.R_drew HO_10.out)
                    have n1_ := Aside0.mk (Kd.N_drew HO_25.out)
                    have n2_ := Aside0.mk (Kd.V_drew HL111_0.out)
                    have n3_ := Aside0.mk (Kd.C_drew HR111_0.out)
                    have n4_ := Aside0.mk (below_drew1 HB.out)
                    clear HO_10
                    clear HO_25
                    clear HL111_0
                    clear HR111_0
                    clear HB
                    have HO_10 := n0_
                    have HO_25 := n1_
                    have HL111_0 := n2_
                    have HR111_0 := n3_
                    have HB := n4_
                    clear n0_ n1_ n2_ n3_ n4_
                    have p113 : 0 ≤ (0 : Int) := (by omega)
                    have q113 : 0 < ((rd_L4 t105 x27_1).length : Int) := of_decide_eq_true (by first | (with_reducible assumption) | assumption)
                    obtain ⟨ad113, e113, hx113_0, hx113_1, hx113_2, hx113_3, hx113_4, hx113_5⟩ := at_T53 (by repeat (first | (with_reducible exact HR111_0.out) | (with_reducible refine Kd.C_alloc ?_ _) | (with_reducible refine Kd.C_drewN ?_ _) | (with_reducible refine Kd.C_drew ?_) | exact HR111_0.out)) 0 p113 q113
                    cases e113
                    have qi113 : (0 < (rd_L4 t105 x27_1).length) = True := eq_true (by omega)
                    (try rw [show ((0 : Int)).toNat = 0 from rfl] at hx113_0)
                    (try rw [show 0 * 6 = 0 from rfl] at hx113_0)
                    (try rw [Addr.add_zero'] at hx113_0)
                    (try rw [show ((0 : Int)).toNat = 0 from rfl] at hx113_1)
                    (try rw [show 0 * 6 = 0 from rfl] at hx113_1)
                    (try rw [Addr.add_zero'] at hx113_1)
                    (try rw [show ((0 : Int)).toNat = 0 from rfl] at hx113_2)
                    (try rw [show 0 * 6 = 0 from rfl] at hx113_2)
                    (try rw [Addr.add_zero'] at hx113_2)
                    (try rw [show ((0 : Int)).toNat = 0 from rfl] at hx113_3)
                    (try rw [show 0 * 6 = 0 from rfl] at hx113_3)
                    (try rw [Addr.add_zero'] at hx113_3)
                    (try rw [show ((0 : Int)).toNat = 0 from rfl] at hx113_4)
                    (try rw [show 0 * 6 = 0 from rfl] at hx113_4)
                    (try rw [Addr.add_zero'] at hx113_4)
                    (try rw [show ((0 : Int)).toNat = 0 from rfl] at hx113_5)
                    (try rw [show 0 * 6 = 0 from rfl] at hx113_5)
                    (try rw [Addr.add_zero'] at hx113_5)
                    replace p113 := eq_true p113
                    replace q113 := eq_true q113
                    have p114 : 0 ≤ (0 : Int) := (by omega)
                    have q114 : 0 < ((rd_L4 t105 x27_1).length : Int) := of_decide_eq_true (by first | (with_reducible assumption) | assumption)
                    obtain ⟨ad114, e114, hx114_0, hx114_1, hx114_2, hx114_3, hx114_4, hx114_5⟩ := at_T53 (by repeat (first | (with_reducible exact HR111_0.out) | (with_reducible refine Kd.C_alloc ?_ _) | (with_reducible refine Kd.C_drewN ?_ _) | (with_reducible refine Kd.C_drew ?_) | exact HR111_0.out)) 0 p114 q114
                    obtain rfl : ad113 = ad114 := (by injection e114)
                    have qi114 : (0 < (rd_L4 t105 x27_1).length) = True := eq_true (by omega)
                    (try rw [show ((0 : Int)).toNat = 0 from rfl] at hx114_0)
                    (try rw [show 0 * 6 = 0 from rfl] at hx114_0)
                    (try rw [Addr.add_zero'] at hx114_0)
                    (try rw [show ((0 : Int)).toNat = 0 from rfl] at hx114_1)
                    (try rw [show 0 * 6 = 0 from rfl] at hx114_1)
                    (try rw [Addr.add_zero'] at hx114_1)
                    (try rw [show ((0 : Int)).toNat = 0 from rfl] at hx114_2)
                    (try rw [show 0 * 6 = 0 from rfl] at hx114_2)
                    (try rw [Addr.add_zero'] at hx114_2)
                    (try rw [show ((0 : Int)).toNat = 0 from rfl] at hx114_3)
                    (try rw [show 0 * 6 = 0 from rfl] at hx114_3)
                    (try rw [Addr.add_zero'] at hx114_3)
                    (try rw [show ((0 : Int)).toNat = 0 from rfl] at hx114_4)
                    (try rw [show 0 * 6 = 0 from rfl] at hx114_4)
                    (try rw [Addr.add_zero'] at hx114_4)
                    (try rw [show ((0 : Int)).toNat = 0 from rfl] at hx114_5)
                    (try rw [show 0 * 6 = 0 from rfl] at hx114_5)
                    (try rw [Addr.add_zero'] at hx114_5)
                    replace p114 := eq_true p114
                    replace q114 := eq_true q114
                    refine start_ (n := 13) (S := fun w' => w'.cell? ad113 = some (.int .i64 ((rd_T53 (rd_L4 t105 x27_1) 0).f0)) ∧ w'.cell? ⟨ad113.block, ad113.off + 1, none⟩ = some (.string ((rd_T53 (rd_L4 t105 x27_1) 0).f1)) ∧ w'.cell? ⟨ad113.block, ad113.off + 2, none⟩ = some (.bool ((rd_T53 (rd_L4 t105 x27_1) 0).f2)) ∧ w'.cell? ⟨ad113.block, ad113.off + 3, none⟩ = some (.int .i64 ((rd_T53 (rd_L4 t105 x27_1) 0).f3)) ∧ w'.cell? ⟨ad113.block, ad113.off + 4, none⟩ = some (.int .i64 ((rd_T53 (rd_L4 t105 x27_1) 0).f4)) ∧ w'.cell? ⟨ad113.block, ad113.off + 5, none⟩ = some (.int .i64 ((rd_T53 (rd_L4 t105 x27_1) 0).f5)) ∧ w'.cell? ad113 = some (.int .i64 ((rd_T53 (rd_L4 t105 x27_1) 0).f0)) ∧ w'.cell? ⟨ad113.block, ad113.off + 1, none⟩ = some (.string ((rd_T53 (rd_L4 t105 x27_1) 0).f1)) ∧ w'.cell? ⟨ad113.block, ad113.off + 2, none⟩ = some (.bool ((rd_T53 (rd_L4 t105 x27_1) 0).f2)) ∧ w'.cell? ⟨ad113.block, ad113.off + 3, none⟩ = some (.int .i64 ((rd_T53 (rd_L4 t105 x27_1) 0).f3)) ∧ w'.cell? ⟨ad113.block, ad113.off + 4, none⟩ = some (.int .i64 ((rd_T53 (rd_L4 t105 x27_1) 0).f4)) ∧ w'.cell? ⟨ad113.block, ad113.off + 5, none⟩ = some (.int .i64 ((rd_T53 (rd_L4 t105 x27_1) 0).f5))) (ds := [10, 11]) #[false, false, false, false, false, false, false, false, false, false, false, false, false] (by kernel_rfl) rfl rfl ⟨hx113_0, hx113_1, hx113_2, hx113_3, hx113_4, hx113_5, hx114_0, hx114_1, hx114_2, hx114_3, hx114_4, hx114_5⟩ (fun hHeld => ?_); refine with_tabW scan_Labels.tab9 scan_Labels.bits9 (fun HT_ HW_ => ?_)
                    generalize wr.drew = w13 at HO_10 HO_25 HL111_0 HR111_0 HB hx113_0 hx113_1 hx113_2 hx113_3 hx113_4 hx113_5 hx114_0 hx114_1 hx114_2 hx114_3 hx114_4 hx114_5 hHeld ⊢
                    refine pure_ (i := 0) (N := some 33) (v := ?_) (a' := ?_) #[true, false, false, false, false, false, false, false, false, false, false, false, false] rfl rfl (any_of HT_.out (by kernel_rfl)) (fun _ _ _ h => h) (Or.inl ⟨by rfl, ?_⟩) ?_ ?_
                    rotate_left
                    · intro w'
                      go_simp
                      with_reducible rfl
                    rotate_left
                    · simp only [Act.put, List.setIfInBounds_toArray, List.set_cons_zero, List.set_cons_succ, i64_w, i32_w]
                      rfl
                    refine pure_ (i := 1) (N := some 34) (v := ?_) (a' := ?_) #[true, true, false, false, false, false, false, false, false, false, false, false, false] rfl rfl (any_of HT_.out (by kernel_rfl)) (fun _ _ _ h => h) (Or.inl ⟨by rfl, ?_⟩) ?_ ?_
                    rotate_left
                    · intro w'
                      go_simp
                      with_reducible rfl
                    rotate_left
                    · simp only [Act.put, List.setIfInBounds_toArray, List.set_cons_zero, List.set_cons_succ, i64_w, i32_w]
                      rfl
                    refine pure_ (i := 2) (N := some 35) (v := ?_) (a' := ?_) #[true, true, true, false, false, false, false, false, false, false, false, false, false] rfl rfl (any_of HT_.out (by kernel_rfl)) (fun _ _ _ h => h) (Or.inl ⟨by rfl, ?_⟩) ?_ ?_
                    rotate_left
                    · intro w'
                      go_simp
                      with_reducible rfl
                    rotate_left
                    · simp only [Act.put, List.setIfInBounds_toArray, List.set_cons_zero, List.set_cons_succ, i64_w, i32_w]
                      rfl
                    refine pure_ (i := 3) (N := some 36) (v := ?_) (a' := ?_) #[true, true, true, true, false, false, false, false, false, false, false, false, false] rfl rfl (any_of HT_.out (by kernel_rfl)) (fun _ _ _ h => h) (Or.inl ⟨by rfl, ?_⟩) ?_ ?_
                    rotate_left
                    · intro w'
                      go_simp
                      with_reducible rfl
                    rotate_left
                    · simp only [Act.put, List.setIfInBounds_toArray, List.set_cons_zero, List.set_cons_succ, i64_w, i32_w]
                      rfl
                    refine pure_ (i := 5) (N := some 38) (v := ?_) (a' := ?_) #[true, true, true, true, false, true, false, false, false, false, false, false, false] rfl rfl (any_of HT_.out (by kernel_rfl)) (fun _ _ _ h => h) (Or.inl ⟨by rfl, ?_⟩) ?_ ?_
                    rotate_left
                    · intro w'
                      go_simp
                      with_reducible rfl
                    rotate_left
                    · simp only [Act.put, List.setIfInBounds_toArray, List.set_cons_zero, List.set_cons_succ, i64_w, i32_w]
                      rfl
                    refine pure_ (i := 6) (N := some 39) (v := ?_) (a' := ?_) #[true, true, true, true, false, true, true, false, false, false, false, false, false] rfl rfl (any_of HT_.out (by kernel_rfl)) (fun _ _ _ h => h) (Or.inl ⟨by rfl, ?_⟩) ?_ ?_
                    rotate_left
                    · intro w'
                      go_simp
                      with_reducible rfl
                    rotate_left
                    · simp only [Act.put, List.setIfInBounds_toArray, List.set_cons_zero, List.set_cons_succ, i64_w, i32_w]
                      rfl
                    refine pure_ (i := 7) (N := some 40) (v := ?_) (a' := ?_) #[true, true, true, true, false, true, true, true, false, false, false, false, false] rfl rfl (any_of HT_.out (by kernel_rfl)) (fun _ _ _ h => h) (Or.inl ⟨by rfl, ?_⟩) ?_ ?_
                    rotate_left
                    · intro w'
                      go_simp
                      with_reducible rfl
                    rotate_left
                    · simp only [Act.put, List.setIfInBounds_toArray, List.set_cons_zero, List.set_cons_succ, i64_w, i32_w]
                      rfl
                    refine take_ (i := 4) (N := some 37) (v := ?_) (a' := ?_) #[true, true, true, true, true, true, true, true, false, false, false, false, false] rfl rfl (take_ofW HT_.out HW_.out (by kernel_rfl)) (fun _ _ _ h => h) (Or.inl ⟨by rfl, ?_⟩) hHeld ?_ ?_
                    rotate_left
                    · rintro w' ⟨s0, s1, s2, s3, s4, s5, s6, s7, s8, s9, s10, s11⟩
                      go_simp
                      with_reducible rfl
                    rotate_left
                    · simp only [Act.put, List.setIfInBounds_toArray, List.set_cons_zero, List.set_cons_succ, i64_w, i32_w]
                      rfl
                    refine take_ (i := 8) (N := some 41) (v := ?_) (a' := ?_) #[true, true, true, true, true, true, true, true, true, false, false, false, false] rfl rfl (take_ofW HT_.out HW_.out (by kernel_rfl)) (fun _ _ _ h => h) (Or.inl ⟨by rfl, ?_⟩) hHeld ?_ ?_
                    rotate_left
                    · rintro w' ⟨s0, s1, s2, s3, s4, s5, s6, s7, s8, s9, s10, s11⟩
                      go_simp
                      with_reducible rfl
                    rotate_left
                    · simp only [Act.put, List.setIfInBounds_toArray, List.set_cons_zero, List.set_cons_succ, i64_w, i32_w]
                      rfl
                    refine pure_ (i := 9) (N := some 42) (v := ?_) (a' := ?_) #[true, true, true, true, true, true, true, true, true, true, false, false, false] rfl rfl (any_of HT_.out (by kernel_rfl)) (fun _ _ _ h => h) (Or.inl ⟨by rfl, ?_⟩) ?_ ?_
                    rotate_left
                    · intro w'
                      go_simp
                      with_reducible rfl
                    rotate_left
                    · simp only [Act.put, List.setIfInBounds_toArray, List.set_cons_zero, List.set_cons_succ, i64_w, i32_w]
                      rfl
                    refine last_ (i := 10) (N := some 43) #[true, true, true, true, true, true, true, true, true, true, true, false, false] rfl rfl (one_of HT_.out (by kernel_rfl)) (by decide) (fun K hK => ?_)
                    refine value_ (w1 := ?_) (v := ?_) (by rfl) rfl ?_ ?_
                    rotate_left 2
                    · go_simp
                      constructor
                      · rfl
                      · rfl
                    refine hK.out _ _ ?_
                    clear hK K
                    refine norm_ (a' := ?_) ?_ ?_
                    rotate_left
                    · show Act.put _ (some 43) _ = _
                      simp only [Act.put, List.setIfInBounds_toArray, List.set_cons_zero, List.set_cons_succ, i64_w, i32_w]
                      rfl
                    refine last_ (i := 11) (N := some 44) #[true, true, true, true, true, true, true, true, true, true, true, true, false] rfl rfl (one_of HT_.out (by kernel_rfl)) (by decide) (fun K hK => ?_)
                    refine Kd.R_append_step k73 (w0 := w) w.heap.size (by rfl) (.tmp 33) (.tmp 43) 34 73 (.agg #[(.string ⟨#[]⟩), (.int .i64 0)]) 24 rfl Tryz.underlying34 info73 rfl (by decide) (by omega) u10 x10_1 (⟨(rd_T53 (rd_L4 t105 x27_1) 0).f1, (rd_T53 (rd_L4 t105 x27_1) 0).f3⟩ : S73) [.string ((rd_T53 (rd_L4 t105 x27_1) 0).f1), .int .i64 ((rd_T53 (rd_L4 t105 x27_1) 0).f3)] (fun _ => True) (fun _ => False) rfl rfl ?aP (fun _ hk => hk.elim) ?aF ?aO ?aB ?aS ?aL ?_
                    (case aP => exact k73_mkM _ _ _ (⟨(rd_T53 (rd_L4 t105 x27_1) 0).f1, (rd_T53 (rd_L4 t105 x27_1) 0).f3⟩ : S73))
                    (case aB => exact (by repeat (first | (with_reducible first | exact HB.out | apply below_alloc | apply pw_below_drewN | apply below_drew1) | exact HB.out)))
                    (case aF => exact (fun _ _ => trivial))
                    (case aO => exact (by (with_reducible repeat (first | apply Kd.R_alloc | apply Kd.R_drewN | apply Kd.R_drew)); exact HO_10.out))
                    (case aS => exact (below_size (by repeat (first | (with_reducible first | exact HB.out | apply below_alloc | apply pw_below_drewN | apply below_drew1) | exact HB.out))))
                    (case aL => have := LMc12.out; omega)
                    intro v116 w14 ho hb hg hat
                    rw [← Ny115.out] at ho
                    have n0_ := Aside0.mk (Kd.N_afterv (ok := (fun _ => True)) (by (with_reducible repeat (first | apply Kd.N_alloc | apply Kd.N_drewN | apply Kd.N_drew)); exact Kd.N_mono HO_25.out (fun _ hk => ⟨trivial, hk⟩)) hg hat)
                    have n1_ := Aside0.mk (Kd.V_afterv (ok := (fun k_ => some k_ ≠ (.slice (some ad111) t105.length co5 : Value).ownBlock)) (by (with_reducible repeat (first | apply Kd.V_alloc | apply Kd.V_drewN | apply Kd.V_drew)); exact Kd.V_mono HL111_0.out (fun _ hk => ⟨hk.2, hk.1⟩)) hg hat)
                    have n2_ := Aside0.mk (hb)
                    have n3_ := Aside0.mk (ho)
                    clear HO_25
                    clear HL111_0
                    clear HB
                    clear HO_10
                    have HO_25 := n0_
                    have HL111_0 := n1_
                    have HB := n2_
                    have HO117 := n3_
                    clear n0_ n1_ n2_ n3_
                    clear ho hb hg hat
                    refine hK.out _ _ ?_
                    clear hK K
                    refine norm_ (a' := ?_) ?_ ?_
                    rotate_left
                    · show Act.put _ (some 44) _ = _
                      simp only [Act.put, List.setIfInBounds_toArray, List.set_cons_zero, List.set_cons_succ, i64_w, i32_w]
                      rfl
                    refine pure_ (i := 12) (N := some 10) (v := ?_) (a' := ?_) #[true, true, true, true, true, true, true, true, true, true, true, true, true] rfl rfl (any_of HT_.out (by kernel_rfl)) (fun _ _ _ h => h) (Or.inl ⟨by rfl, ?_⟩) ?_ ?_
                    rotate_left
                    · intro w'
                      go_simp
                      with_reducible rfl
                    rotate_left
                    · simp only [Act.put, List.setIfInBounds_toArray, List.set_cons_zero, List.set_cons_succ, i64_w, i32_w]
                      rfl
                    refine done_ (done_of HT_.out (by kernel_rfl)) ?_
                    try go_wp2
                    go_roundg k1
                    case measure => have := HK1.out; omega
                    case rel => exact ⟨(y115), (wrap64 (x27_1 + 1)), (by first | rfl | (simp; done) | (simp [*]; done)), H', ⟨by have := HK1.out; omega⟩, ⟨by (with_reducible repeat (first | apply Kd.R_alloc | apply Kd.R_drewN | apply Kd.R_drew)); exact HO117.out⟩, ⟨by (with_reducible repeat (first | apply Kd.N_alloc | apply Kd.N_drewN | apply Kd.N_drew)); exact Kd.N_mono HO_25.out (fun _ hk => hk.2)⟩, ⟨by repeat (first | (with_reducible first | exact HB.out | apply below_alloc | apply pw_below_drewN | apply below_drew1) | exact HB.out)⟩⟩
                  · rw [if_neg c12] at H
                    exact absurd H (by simp)
                · rw [if_neg c11] at H
                  exact absurd H (by simp)
              · replace c10 := Bool.eq_false_iff.mpr c10
                subst c10
                have H1 : (scan_Labels.l0 k1 x10_1 t105 (t105.length : Int) (wrap64 (x27_1 + 1))) = some (r1, r2, r3, r4) := by rw [if_neg (show ¬ (false = true) by decide)] at H; exact H
                clear H
                have H := H1
                clear H1
                have H' := Aside0.mk H
                clear H
                have p111 : 0 ≤ (x27_1 : Int) := of_decide_eq_true (by first | (with_reducible assumption) | assumption)
                have q111 : x27_1 < (t105.length : Int) := of_decide_eq_true (by first | (with_reducible assumption) | assumption)
                obtain ⟨ad111, A111_0, c111_0, e111, hx111_0, hl111_0, hi111_0⟩ := at_L4 (Kd.N_reads' HO_25.out).2.2 x27_1 p111 q111
                cases e111
                obtain ⟨ce111, hce111, hMe111, hcc111⟩ := Kd.N_get HO_25.out [] x27_1 p111 (by first | exact q111 | exact of_decide_eq_true (by first | (with_reducible assumption) | assumption) | (have e_ := (Kd.N_reads' HO_25.out).1; omega))
                obtain ⟨ua111_0, uc111_0, rfl, ul111_0, ge111_0⟩ := Kd.FK_slice_open hMe111
                have hv111_0 := hcc111 0 _ rfl
                rw [Nat.add_zero, show ((Kd.slice 53 k53)).sz = 1 from rfl, Nat.mul_one] at hv111_0
                replace hv111_0 := Option.some.inj (hv111_0.symm.trans hx111_0)
                injection hv111_0 with hva_ hvn_ hvc_
                rw [hva_] at ge111_0
                rw [hvc_] at ul111_0
                have HL111_0 := Aside0.mk (show Kd.V k53 53 _ w.heap.size _ _ (rd_L4 t105 x27_1) from Kd.V_mk ul111_0 ge111_0)
                clear hva_ hvn_ hvc_ ge111_0 ul111_0
                clear hcc111 hce111
                have HR111_0 := Aside0.mk hi111_0
                have HC111_0 := Aside0.mk hl111_0
                clear hi111_0 hl111_0
                replace p111 := eq_true p111
                replace q111 := eq_true q111
                go_wp2_with (first | ((with_reducible refine gate_callee (f := 54) rfl ?_); refine goesL_ (some 32) rfl rfl Tryz.func54 (by kernel_rfl) rfl #[.slice A111_0 (rd_L4 t105 x27_1).length c111_0] rfl (by (try simp only [List.map_toArray, List.map_cons, List.map_nil]); first | done | rfl | (simp only [List.length_drop, List.length_take]; rfl)) ?_; (with_reducible refine (scan_label.calls _ _ (rd_L4 t105 x27_1) false _ ?side1 ?side2 A9.out).mono ?_); (case side1 => repeat (first | exact (by repeat (first | (with_reducible exact HR111_0.out) | (with_reducible refine Kd.C_alloc ?_ _) | (with_reducible refine Kd.C_drewN ?_ _) | (with_reducible refine Kd.C_drew ?_) | exact HR111_0.out)) | (with_reducible refine Kd.C_alloc ?_ _) | (with_reducible refine Kd.C_drewN ?_ _) | (with_reducible refine Kd.C_drew ?_))); (case side2 => exact HC111_0.out); rintro e w' ⟨rfl, ⟨nd, rfl⟩⟩; refine ⟨_, rfl, ?_⟩))
                go_roundg k1
                case measure => have := HK1.out; omega
                case rel => exact ⟨(x10_1), (wrap64 (x27_1 + 1)), (by first | rfl | (simp; done) | (simp [*]; done)), H', ⟨by have := HK1.out; omega⟩, ⟨by (with_reducible repeat (first | apply Kd.R_alloc | apply Kd.R_drewN | apply Kd.R_drew)); exact HO_10.out⟩, ⟨by (with_reducible repeat (first | apply Kd.N_alloc | apply Kd.N_drewN | apply Kd.N_drew)); exact HO_25.out⟩, ⟨by repeat (first | (with_reducible first | exact HB.out | apply below_alloc | apply pw_below_drewN | apply below_drew1) | exact HB.out)⟩⟩
            · rw [if_neg c8] at H
              exact absurd H (by simp)
          · rw [if_neg c7] at H
            exact absurd H (by simp)
        · rw [if_neg c6] at H
          have c6b0 : decide (x27_1 < (t105.length : Int)) = false := decide_eq_false c6
          clear c6
          simp only [Option.some.injEq, Prod.mk.injEq] at H
          obtain ⟨rfl, rfl, rfl, rfl⟩ := H
          go_wp2
          refine bodyPost_ret (results_list (rs := [.tmp 2, .tmp 3, .tmp 4, .tmp 5]) rfl (by simp) (.tmp (.tmp (.tmp (.tmp .nil))))) rfl ?_
          exact ⟨_, by first | rfl | (simp [errW_none, errW_some] <;> rfl) | (simp [*, errW_none, errW_some] <;> rfl), by (with_reducible repeat (first | apply Kd.R_alloc | apply Kd.R_drewN | apply Kd.R_drew)); exact HO_10.out, by repeat (first | (with_reducible first | exact HB.out | apply below_alloc | apply pw_below_drewN | apply below_drew1) | exact HB.out)⟩
  · rw [if_neg c3] at H
    have c3b0 : (t108 == 0) = false := beq_eq_false_iff_ne.mpr c3
    have c3b1 : (t108 != 0) = true := bne_iff_ne.mpr c3
    simp only [Option.some.injEq, Prod.mk.injEq] at H
    obtain ⟨rfl, rfl, rfl, rfl⟩ := H
    go_enter Tryz.func20, Tryz.ntmps20
    go_wp2_with (first | ((with_reducible refine gate_callee (f := 19) rfl ?_); refine goesL_ (some 15) rfl rfl Tryz.func19 (by kernel_rfl) rfl #[.string a0] rfl (by (try simp only [List.map_toArray, List.map_cons, List.map_nil]); first | done | rfl | (simp only [List.length_drop, List.length_take]; rfl)) ?_; (with_reducible refine (scan_Clauses.calls a0 t105 t106 t107 t108 _ (TabOK.of_below hT (by repeat (first | (with_reducible first | exact HB.out | apply below_alloc | apply pw_below_drewN | apply below_drew1) | exact HB.out))) A2.out).mono ?_); rintro e w15 ⟨v109, rfl, ho0, hb⟩; refine ⟨_, rfl, ?_⟩; have n0_ := Aside0.mk (Kd.N_lower (Kd.N_mono (ok' := fun k_ => True) ho0 (fun k_ hk_ => trivial)) (below_size (by repeat (first | (with_reducible first | exact HB.out | apply below_alloc | apply pw_below_drewN | apply below_drew1) | exact HB.out)))); have n1_ := Aside0.mk (below_step (by repeat (first | (with_reducible first | exact HB.out | apply below_alloc | apply pw_below_drewN | apply below_drew1) | exact HB.out)) hb); clear HB; have HO110 := n0_; have HB := n1_; clear n0_ n1_; (try clear hb); (try clear hb2); (try clear hk); (try clear hi); (try clear ho0)))
    refine bodyPost_ret (results_list (rs := [.tmp 2, .tmp 3, .tmp 4, .tmp 5]) rfl (by simp) (.tmp (.tmp (.tmp (.tmp .nil))))) rfl ?_
    exact ⟨_, by first | rfl | (simp [errW_none, errW_some] <;> rfl) | (simp [*, errW_none, errW_some] <;> rfl), by first | exact Kd.R_nil _ _ _ _ _ | exact Kd.N_nil _ _ _ _ _ | exact Kd.V_nil _ _ _ _ _ | exact Kd.Q_nil _ _ _ _ _ | exact Kd.S_nil _ _ _ _ _, by repeat (first | (with_reducible first | exact HB.out | apply below_alloc | apply pw_below_drewN | apply below_drew1) | exact HB.out)⟩

end Go.Proofs.YtkkpjonfaflkmaaGreatDoor.T

-- Written by a program of this session (mp.py over the kit's print.py), out of the translation.
namespace Go.Proofs.YtkkpjonfaflkmaaGreatDoor.T
set_option linter.unusedSimpArgs false
open Go.RowKit Go.Proofs.YtkkpjonfaflkmaaGreatDoorW.PrintWords Go.Proofs.YtkkpjonfaflkmaaGreatDoorW.PrintLast Go.Proofs.YtkkpjonfaflkmaaGreatDoorW.PrintMore
attribute [local go_sem] max2_int min2_int max_two min_two max_three min_three max_four min_four   -- for this text's walks alone
set_option linter.unusedVariables false
set_option linter.unusedSimpArgs false

theorem eqA73 (d : Nat) (w : World) (x0 y0 : ByteArray) (x1 y1 : Int) :
    (Op.equalIn (d + 2) 73 (.agg #[.string x0, .int .i64 x1]) (.agg #[.string y0, .int .i64 y1])).run Tryz.prog w = .ok (x0.toList == y0.toList && (x1 == y1)) w := by
  refine eqA_of Tryz.underlying73 (by kernel_rfl) ?_
  refine eqf_cons (by rfl) (by go_simp; rfl) (by go_simp; rfl) (by go_simp) ?_
  exact eqf_last (by rfl) (by go_simp; rfl) (by go_simp; rfl) (by go_simp)
end Go.Proofs.YtkkpjonfaflkmaaGreatDoor.T

/- The statements' sanity: its closed calls. -/
namespace Go.Proofs.YtkkpjonfaflkmaaGreatDoor.T
set_option linter.unusedSimpArgs false
set_option linter.unusedVariables false
open Go.RowKit Go.Maps Go.Proofs.YtkkpjonfaflkmaaGreatDoorW.PrintWords Go.Proofs.YtkkpjonfaflkmaaGreatDoorW.PrintLast Go.Proofs.YtkkpjonfaflkmaaGreatDoorW.PrintMore
attribute [local go_sem] Oper.semAt_some

def sanA : ByteArray := ⟨#[115, 97, 121, 32, 49, 32, 43, 32, 97, 46, 98, 32, 45, 45, 32, 47, 42, 32, 120, 32, 42, 47, 32, 39, 105, 116, 39, 39, 115, 39]⟩
def sanB : ByteArray := ⟨#[49, 101, 43, 53, 120]⟩
def sanC : ByteArray := ⟨#[102, 40, 97, 44, 32, 10, 98, 41]⟩
def sanD : ByteArray := ⟨#[120, 58, 32, 121, 58, 32, 115, 97, 121, 32, 49, 59, 32, 59, 32, 115, 97, 121, 32, 50]⟩
def sanE : ByteArray := ⟨#[97, 10, 39, 98]⟩
def sanF : ByteArray := ⟨#[97, 32, 47, 42, 32, 98, 32, 47, 42, 32, 99, 32, 42, 47, 10, 100]⟩
def sanW : List S53 := [⟨1, ⟨#[65]⟩, false, 0, 0, 0⟩, ⟨1, ⟨#[66]⟩, false, 0, 0, 0⟩, ⟨4, ⟨#[]⟩, false, 0, 0, 0⟩]
def toksOf (s : ByteArray) : List S53 := (S.tokens (bytesOf s)).map toS
/-- Tokens of a source: how it ends; its row, if it has tokens. -/
theorem san_tokens (s : ByteArray) (n : Nat) (c l e : Int) (hf : scan_Tokens.f s = some (toksOf s, c, l, e)) (hn : (toksOf s).length = n) (h0 : 0 < n) (w : World) (hT : TabOK w) :
    Calls Tryz.prog 17 #[.string s] w fun e' w' => ∃ ad cp, e' = .returned (.tuple #[.slice (some ad) n cp, .int .i64 c, .int .i64 l, .int .i64 e]) ∧ Kd.C k53 w' (some ad) n (toksOf s) ∧ Below w.heap.size w w' := by
  refine (scan_Tokens.calls s _ _ _ _ w hT hf).mono ?_
  rintro e' w' ⟨v0, rfl, hR, hb⟩
  obtain ⟨A, cp, rfl, hc, hC⟩ := Kd.R_reads hR
  rw [hn] at hC ⊢
  obtain ⟨ad, rfl⟩ : ∃ ad, A = some ad := by
    obtain ⟨h1, h2, h3⟩ := hC
    obtain ⟨ad, e, _⟩ := h3 h0
    exact ⟨ad, e⟩
  exact ⟨ad, cp, rfl, hC, hb⟩
theorem sanA_f : scan_Tokens.f sanA = some (toksOf sanA, 0, 0, 0) := by
  have h1 : (S.scan (bytesOf sanA)).err = none := by decide +kernel
  unfold scan_Tokens.f
  rw [if_pos (by decide), h1]; rfl
theorem sanB_f : scan_Tokens.f sanB = some (toksOf sanB, 0, 0, 0) := by
  have h1 : (S.scan (bytesOf sanB)).err = none := by decide +kernel
  unfold scan_Tokens.f
  rw [if_pos (by decide), h1]; rfl
theorem sanC_f : scan_Tokens.f sanC = some (toksOf sanC, 0, 0, 0) := by
  have h1 : (S.scan (bytesOf sanC)).err = none := by decide +kernel
  unfold scan_Tokens.f
  rw [if_pos (by decide), h1]; rfl
theorem sanE_f : scan_Tokens.f sanE = some (toksOf sanE, 6, 2, 7) := by
  have h1 : (S.scan (bytesOf sanE)).err = some (6, 2) := by decide +kernel
  unfold scan_Tokens.f
  rw [if_pos (by decide), h1]; rfl
theorem sanF_f : scan_Tokens.f sanF = some (toksOf sanF, 6, 1, 7) := by
  have h1 : (S.scan (bytesOf sanF)).err = some (6, 1) := by decide +kernel
  unfold scan_Tokens.f
  rw [if_pos (by decide), h1]; rfl
theorem sanW_f : scan_Write.f sanW = some (⟨#[65, 47, 42, 42, 47, 66, 10]⟩, 0) := by decide +kernel
theorem san_split : scan_Split.f ⟨#[97, 46, 98, 46]⟩ = some (⟨#[65, 46]⟩, [⟨#[66]⟩, ⟨#[]⟩], 0) := by decide +kernel
theorem san_val : scan_Value.f ⟨#[39, 52, 97, 52, 66, 39, 120]⟩ = some (⟨#[74, 75]⟩, 0, 0) := by decide +kernel
theorem san_lit : scan_Literal.f ⟨#[105, 116, 39, 115]⟩ = some (⟨#[34, 105, 116, 39, 115, 34]⟩, 0) := by decide +kernel
def sanM : List S73 := [⟨⟨#[88]⟩, 1⟩, ⟨⟨#[89]⟩, 1⟩]
theorem marks_inj : ∀ l : List S73, l.map (fun x => (x.f0, x.f1)) = [((⟨#[88]⟩ : ByteArray), (1 : Int)), (⟨#[89]⟩, 1)] → l = sanM
  | [], h => by cases h
  | [_], h => by simp at h
  | [a, b], h => by
    obtain ⟨a0, a1⟩ := a
    obtain ⟨b0, b1⟩ := b
    simp only [List.map_cons, List.map_nil, List.cons.injEq, Prod.mk.injEq, and_true] at h
    obtain ⟨⟨rfl, rfl⟩, rfl, rfl⟩ := h
    rfl
  | _ :: _ :: _ :: _, h => by simp at h
theorem san_labels : scan_Labels.f 10 sanD = some (sanM, 0, 0, 0) := by
  have h : (scan_Labels.f 10 sanD).map (fun p => (p.1.map (fun x => (x.f0, x.f1)), p.2)) = some ([((⟨#[88]⟩ : ByteArray), (1 : Int)), (⟨#[89]⟩, 1)], 0, 0, 0) := by decide +kernel
  obtain ⟨p, h1, h2⟩ := Option.map_eq_some_iff.1 h
  obtain ⟨l, q⟩ := p
  simp only [Prod.mk.injEq] at h2
  rw [h1, marks_inj l h2.1]
  obtain ⟨h3, rfl, rfl, rfl⟩ := h2
  rfl
theorem san_labels_c (w : World) (hT : TabOK w) :
    Calls Tryz.prog 20 #[.string sanD] w fun e' w' => ∃ ad cp, e' = .returned (.tuple #[.slice (some ad) 2 cp, .int .i64 0, .int .i64 0, .int .i64 0]) ∧ Kd.C k73 w' (some ad) 2 sanM ∧ Below w.heap.size w w' := by
  refine (scan_Labels.calls 10 sanD _ _ _ _ w hT san_labels).mono ?_
  rintro e' w' ⟨v0, rfl, hR, hb⟩
  obtain ⟨A, cp, rfl, hc, hC⟩ := Kd.R_reads hR
  obtain ⟨ad, rfl⟩ : ∃ ad, A = some ad := by
    obtain ⟨h1, h2, h3⟩ := hC
    obtain ⟨ad, e, _⟩ := h3 (by decide)
    exact ⟨ad, e⟩
  exact ⟨ad, cp, rfl, hC, hb⟩
theorem san_split_c (w : World) (hT : TabOK w) :
    Calls Tryz.prog 27 #[.string ⟨#[97, 46, 98, 46]⟩] w fun e' w' => ∃ ad cp, e' = .returned (.tuple #[.string ⟨#[65, 46]⟩, .slice (some ad) 2 cp, .int .i64 0]) ∧ Kd.C Kd.string w' (some ad) 2 [⟨#[66]⟩, ⟨#[]⟩] ∧ Below w.heap.size w w' := by
  refine (scan_Split.calls _ _ _ _ w hT san_split).mono ?_
  rintro e' w' ⟨v0, rfl, hR, hb⟩
  obtain ⟨A, cp, rfl, hc, hC⟩ := Kd.R_reads hR
  obtain ⟨ad, rfl⟩ : ∃ ad, A = some ad := by
    obtain ⟨h1, h2, h3⟩ := hC
    obtain ⟨ad, e, _⟩ := h3 (by decide)
    exact ⟨ad, e⟩
  exact ⟨ad, cp, rfl, hC, hb⟩
/-- One token of a row, by its cells. -/
theorem tok_at {w : World} {ad : Addr} {n : Nat} {l : List S53} (h : Kd.C k53 w (some ad) n l) (i : Nat) (hi : i < n) (t : S53) (ht : rd_T53 l (i : Int) = t) :
    w.cell? (ad.add (i * 6)) = some (.int .i64 t.f0) ∧ w.cell? ⟨(ad.add (i * 6)).block, (ad.add (i * 6)).off + 1, none⟩ = some (.string t.f1) ∧ w.cell? ⟨(ad.add (i * 6)).block, (ad.add (i * 6)).off + 2, none⟩ = some (.bool t.f2) ∧ w.cell? ⟨(ad.add (i * 6)).block, (ad.add (i * 6)).off + 3, none⟩ = some (.int .i64 t.f3) := by
  obtain ⟨ad', e, x0, x1, x2, x3, _⟩ := at_T53 h (i : Int) (by omega) (by omega)
  cases e
  simp only [Int.toNat_natCast] at x0 x1 x2 x3
  subst ht
  exact ⟨x0, x1, x2, x3⟩
theorem add_lit (ad : Addr) (n : Nat) (h : 0 < n) : ad.add n = ⟨ad.block, ad.off + n, none⟩ := by
  unfold Addr.add
  rw [if_neg (by omega)]
attribute [local go_sem high] eqA73
set_option maxRecDepth 100000 in
set_option maxHeartbeats 16000000 in
theorem san_holds (w : World) (hT : TabOK w) : Calls Tryz.prog 16 #[] w fun e w' => e = .returned (.bool true) ∧ Below w.heap.size w w' := by
  have HT := Aside0.mk hT
  have HA := Lib.hid (fun W hW => san_tokens sanA 8 _ _ _ sanA_f (by decide +kernel) (by decide) W hW)
  have HB := Lib.hid (fun W hW => san_tokens sanB 3 _ _ _ sanB_f (by decide +kernel) (by decide) W hW)
  have HC := Lib.hid (fun W hW => san_tokens sanC 6 _ _ _ sanC_f (by decide +kernel) (by decide) W hW)
  have HD := Lib.hid (fun W hW => san_labels_c W hW)
  have HE := Lib.hid (fun W hW => san_tokens sanE 2 _ _ _ sanE_f (by decide +kernel) (by decide) W hW)
  have HF := Lib.hid (fun W hW => san_tokens sanF 1 _ _ _ sanF_f (by decide +kernel) (by decide) W hW)
  have HV := Lib.hid (fun W => scan_Value.calls _ _ _ _ W san_val)
  have HS := Lib.hid (fun W hW => san_split_c W hW)
  clear hT
  go_enter Tryz.func16, Tryz.ntmps16
  go_upto_region 2 with (go_at_call 17; refine (HA.out _ HT.out).mono ?_; rintro e w1 ⟨adA, cpA, rfl, hCA, hb1⟩)
  have HT1 := Aside0.mk (HT.out.of_below hb1)
  go_upto_region 3 with (go_at_call 17; refine (HB.out _ HT1.out).mono ?_; rintro e w2 ⟨adB, cpB, rfl, hCB, hb2⟩)
  have HT2 := Aside0.mk (HT1.out.of_below hb2)
  go_upto_region 4 with (go_at_call 17; refine (HC.out _ HT2.out).mono ?_; rintro e w3 ⟨adC, cpC, rfl, hCC, hb3⟩)
  have HT3 := Aside0.mk (HT2.out.of_below hb3)
  go_upto_region 5 with (go_at_call 20; refine (HD.out _ HT3.out).mono ?_; rintro e w4 ⟨adD, cpD, rfl, hCD, hb4⟩)
  have HT4 := Aside0.mk (HT3.out.of_below hb4)
  go_upto_region 6 with (go_at_call 17; refine (HE.out _ HT4.out).mono ?_; rintro e w5 ⟨adE, cpE, rfl, hCE, hb5⟩)
  have HT5 := Aside0.mk (HT4.out.of_below hb5)
  go_upto_region 7 with (go_at_call 17; refine (HF.out _ HT5.out).mono ?_; rintro e w6 ⟨adF, cpF, rfl, hCF, hb6⟩)
  have HT6 := Aside0.mk (HT5.out.of_below hb6)
  go_upto_region 8 with (go_at_call 32; refine (HV.out _).mono ?_; rintro e w7 ⟨rfl, hb7⟩)
  have HT7 := Aside0.mk (HT6.out.of_below hb7)
  go_upto_region 9 with (go_at_call 27; refine (HS.out _ HT7.out).mono ?_; rintro e w8 ⟨adS, cpS, rfl, hCS, hb8⟩)
  have kA := Kd.C_below (Kd.C_below (Kd.C_below (Kd.C_below (Kd.C_below (Kd.C_below (Kd.C_below hCA hb2) hb3) hb4) hb5) hb6) hb7) hb8
  have kB := Kd.C_below (Kd.C_below (Kd.C_below (Kd.C_below (Kd.C_below (Kd.C_below hCB hb3) hb4) hb5) hb6) hb7) hb8
  have kC := Kd.C_below (Kd.C_below (Kd.C_below (Kd.C_below (Kd.C_below hCC hb4) hb5) hb6) hb7) hb8
  have kD := Kd.C_below (Kd.C_below (Kd.C_below (Kd.C_below hCD hb5) hb6) hb7) hb8
  have hB8 : Below w.heap.size w w8 := by
    have s1 := hb1.size
    have s2 := hb2.size
    have s3 := hb3.size
    have s4 := hb4.size
    have s5 := hb5.size
    have s6 := hb6.size
    have s7 := hb7.size
    exact hb1.trans ((hb2.mono (by omega)).trans ((hb3.mono (by omega)).trans ((hb4.mono (by omega)).trans ((hb5.mono (by omega)).trans ((hb6.mono (by omega)).trans ((hb7.mono (by omega)).trans (hb8.mono (by omega))))))))
  have HT8 := Aside0.mk (HT7.out.of_below hb8)
  have HB8 := Aside0.mk hB8
  have HS8 := Aside0.mk hCS
  clear hCA hCB hCC hCD hCE hCF hb1 hb2 hb3 hb4 hb5 hb6 hb7 hb8 hB8 hCS HT1 HT2 HT3 HT4 HT5 HT6 HT7 HT HA HB HC HD HE HF HV HS
  have KA := Aside0.mk kA
  have KB := Aside0.mk kB
  have KC := Aside0.mk kC
  have KD := Aside0.mk kD
  clear kA kB kC kD
  go_upto_region 11 with (fail)
  obtain ⟨p30, p31, p32, p33⟩ := tok_at KA.out 3 (by decide) ⟨1, ⟨#[65, 46, 66]⟩, true, 1, 8, 11⟩ (by kernel_rfl)
  rw [add_lit _ _ (by decide)] at p30 p31 p32 p33
  simp only [Nat.reduceMul] at p30 p31 p32 p33
  obtain ⟨p50, p51, p52, p53⟩ := tok_at KA.out 5 (by decide) ⟨3, ⟨#[45]⟩, false, 1, 13, 14⟩ (by kernel_rfl)
  rw [add_lit _ _ (by decide)] at p50 p51 p52 p53
  simp only [Nat.reduceMul] at p50 p51 p52 p53
  obtain ⟨p60, p61, p62, p63⟩ := tok_at KA.out 6 (by decide) ⟨2, ⟨#[105, 116, 39, 115]⟩, true, 1, 23, 30⟩ (by kernel_rfl)
  rw [add_lit _ _ (by decide)] at p60 p61 p62 p63
  simp only [Nat.reduceMul] at p60 p61 p62 p63
  obtain ⟨p70, p71, p72, p73⟩ := tok_at KA.out 7 (by decide) ⟨4, ⟨#[]⟩, false, 1, 30, 30⟩ (by kernel_rfl)
  rw [add_lit _ _ (by decide)] at p70 p71 p72 p73
  simp only [Nat.reduceMul] at p70 p71 p72 p73
  obtain ⟨q00, q01, q02, q03⟩ := tok_at KB.out 0 (by decide) ⟨1, ⟨#[49, 69, 43, 53]⟩, false, 1, 0, 4⟩ (by kernel_rfl)
  rw [show (0 : Nat) * 6 = 0 from rfl, Addr.add_zero'] at q00 q01 q02 q03
  obtain ⟨q10, q11, q12, q13⟩ := tok_at KB.out 1 (by decide) ⟨1, ⟨#[88]⟩, false, 1, 4, 5⟩ (by kernel_rfl)
  rw [add_lit _ _ (by decide)] at q10 q11 q12 q13
  simp only [Nat.reduceMul] at q10 q11 q12 q13
  go_upto_region 12 with (fail)
  clear p30 p31 p32 p33 p50 p51 p52 p53 p60 p61 p62 p63 p70 p71 p72 p73 q00 q01 q02 q03 q10 q11 q12 q13
  obtain ⟨r20, r21, r22, r23⟩ := tok_at KC.out 2 (by decide) ⟨1, ⟨#[65]⟩, false, 1, 2, 3⟩ (by kernel_rfl)
  rw [add_lit _ _ (by decide)] at r20 r21 r22 r23
  simp only [Nat.reduceMul] at r20 r21 r22 r23
  obtain ⟨r30, r31, r32, r33⟩ := tok_at KC.out 3 (by decide) ⟨1, ⟨#[66]⟩, true, 2, 6, 7⟩ (by kernel_rfl)
  rw [add_lit _ _ (by decide)] at r30 r31 r32 r33
  simp only [Nat.reduceMul] at r30 r31 r32 r33
  obtain ⟨am, em, m0, m1⟩ := at_T73 KD.out (1 : Int) (by decide) (by decide)
  cases em
  rw [show rd_T73 sanM (1 : Int) = ⟨⟨#[89]⟩, 1⟩ from rfl, show (1 : Int).toNat * 2 = 2 from rfl, add_lit _ _ (by decide)] at m0 m1
  have HW := Lib.hid (fun (W : World) (g : Nat) (h : W.heap[g]? = some (.cells #[.int .i64 1, .string ⟨#[65]⟩, .bool false, .int .i64 0, .int .i64 0, .int .i64 0, .int .i64 1, .string ⟨#[66]⟩, .bool false, .int .i64 0, .int .i64 0, .int .i64 0, .int .i64 4, .string ⟨#[]⟩, .bool false, .int .i64 0, .int .i64 0, .int .i64 0] 53 (0, 0))) (hW : TabOK W) => scan_Write.calls (some ⟨g, 0, none⟩) 3 sanW _ _ W hW (row_C h rfl (by decide)) (Nat.le_refl _) sanW_f)
  go_upto_region 13 with (fail)
  clear r20 r21 r22 r23 r30 r31 r32 r33 m0 m1
  have hal : Below w8.heap.size w8 (w8.alloc (.cells #[.int .i64 1, .string ⟨#[65]⟩, .bool false, .int .i64 0, .int .i64 0, .int .i64 0, .int .i64 1, .string ⟨#[66]⟩, .bool false, .int .i64 0, .int .i64 0, .int .i64 0, .int .i64 4, .string ⟨#[]⟩, .bool false, .int .i64 0, .int .i64 0, .int .i64 0] 53)) := below_alloc (Below.refl _ _) _
  have HAL := Aside0.mk hal
  have HNW := Aside0.mk (heap_alloc_new w8 (.cells #[.int .i64 1, .string ⟨#[65]⟩, .bool false, .int .i64 0, .int .i64 0, .int .i64 0, .int .i64 1, .string ⟨#[66]⟩, .bool false, .int .i64 0, .int .i64 0, .int .i64 0, .int .i64 4, .string ⟨#[]⟩, .bool false, .int .i64 0, .int .i64 0, .int .i64 0] 53))
  clear hal
  go_upto_region 14 with (go_at_call 35; refine (HW.out _ _ HNW.out (HT8.out.of_below HAL.out)).mono ?_; rintro e w9 ⟨rfl, hb9⟩)
  have HT9 := Aside0.mk ((HT8.out.of_below HAL.out).of_below hb9)
  have HL := Lib.hid (fun W hW => scan_Literal.calls _ _ _ W hW san_lit)
  go_upto_region 15 with (go_at_call 30; refine (HL.out _ HT9.out).mono ?_; rintro e w10 ⟨rfl, hb10⟩)
  have hB9 : Below w8.heap.size w8 w10 := by
    have s1 := HAL.out.size
    have s2 := hb9.size
    exact HAL.out.trans ((hb9.mono (by omega)).trans (hb10.mono (by omega)))
  have kS := Kd.C_below HS8.out hB9
  obtain ⟨sa, es, s0⟩ := Kd.at_string kS (0 : Int) (by decide) (by decide)
  cases es
  obtain ⟨sa, es, s1⟩ := Kd.at_string kS (1 : Int) (by decide) (by decide)
  cases es
  rw [show (0 : Int).toNat = 0 from rfl, Addr.add_zero'] at s0
  rw [show (1 : Int).toNat = 1 from rfl, add_lit _ _ (by decide)] at s1
  have s0' : w10.cell? adS = some (.string ⟨#[66]⟩) := s0
  have s1' : w10.cell? ⟨adS.block, adS.off + 1, none⟩ = some (.string ⟨#[]⟩) := s1
  have HFB := Aside0.mk (HB8.out.trans (hB9.mono HB8.out.size))
  clear s0 s1 hB9 hb9 hb10 kS
  go_wp2_with (fail)
  refine bodyPost_ret (results_tmp rfl _ _ _) rfl ?_
  exact ⟨rfl, HFB.out⟩
def qanatlaw03_sanity.f : Option Bool := some true
theorem qanatlaw03_sanity.calls (r : Bool) (w : World) (hT : TabOK w) (h : qanatlaw03_sanity.f = some r) : Calls Tryz.prog 16 #[] w fun e w' => e = .returned (.bool r) ∧ Below w.heap.size w w' := by
  obtain rfl := Option.some.inj h
  exact san_holds w hT
end Go.Proofs.YtkkpjonfaflkmaaGreatDoor.T

-- Written by a program of this session (mp.py over the kit's print.py), out of the translation.
namespace Go.Proofs.YtkkpjonfaflkmaaGreatDoor.T
set_option linter.unusedSimpArgs false
open Go.RowKit Go.Proofs.YtkkpjonfaflkmaaGreatDoorW.PrintWords Go.Proofs.YtkkpjonfaflkmaaGreatDoorW.PrintLast Go.Proofs.YtkkpjonfaflkmaaGreatDoorW.PrintMore
attribute [local go_sem] max2_int min2_int max_two min_two max_three min_three max_four min_four   -- for this text's walks alone
set_option linter.unusedVariables false
set_option linter.unusedSimpArgs false

/-! ### qanatlaw03_ScanLines: function 14 -/
mutual
def qanatlaw03_ScanLines.j0 : Nat → ByteArray → Int → Int → Int → ByteArray → Bool → Option (Bool)
  | 0, _, _, _, _, _, _ => none
  | k + 1, x0, x1, x2, x3, x4, x29 => if x29 = true then ((qanatlaw03_sanity.f).bind fun t587 => (some t587)) else ((scan_Lines.f k x0).bind fun bt588 => ((scan_Place.f k x0 x1).bind fun bt592 => ((scan_Edit.f k x0 x2 x3 x4).bind fun bt595 => (if (x0.size : Int) > 20000 then ((qanatlaw03_sanity.f).bind fun t597 => (if t597 = true then (if bt588.2 = 3 then (if bt592.2.2 = 3 then (if bt595.2 = 3 then (if (bt588.1.length : Int) = 0 then (if bt592.1 = 0 then (if bt592.2.1 = 0 then (some (bt595.1.toList == ([] : List UInt8))) else (some false)) else (some false)) else (some false)) else (some false)) else (some false)) else (some false)) else (some false))) else ((qanatref03_Lines.f k x0).bind fun t598 => ((qanatref03_SameStrings.f k bt588.1 t598).bind fun t601 => (if bt588.2 = 0 then (qanatlaw03_ScanLines.j1 k x0 x1 x2 x3 x4 bt592.1 bt592.2.1 bt592.2.2 bt595.1 bt595.2 (!t601)) else (qanatlaw03_ScanLines.j1 k x0 x1 x2 x3 x4 bt592.1 bt592.2.1 bt592.2.2 bt595.1 bt595.2 true))))))))
def qanatlaw03_ScanLines.j1 : Nat → ByteArray → Int → Int → Int → ByteArray → Int → Int → Int → ByteArray → Int → Bool → Option (Bool)
  | 0, _, _, _, _, _, _, _, _, _, _, _ => none
  | k + 1, x0, x1, x2, x3, x4, x13, x14, x15, x16, x17, x93 => if x93 = true then (some false) else (if x1 < 0 then (qanatlaw03_ScanLines.j2 k x0 x1 x2 x3 x4 x13 x14 x15 x16 x17 true) else (qanatlaw03_ScanLines.j2 k x0 x1 x2 x3 x4 x13 x14 x15 x16 x17 (decide (x1 > (x0.size : Int)))))
def qanatlaw03_ScanLines.j2 : Nat → ByteArray → Int → Int → Int → ByteArray → Int → Int → Int → ByteArray → Int → Bool → Option (Bool)
  | 0, _, _, _, _, _, _, _, _, _, _, _ => none
  | k + 1, x0, x1, x2, x3, x4, x13, x14, x15, x16, x17, x101 => if x101 = true then (if x15 = 1 then (if x13 = 0 then (if x14 = 0 then (qanatlaw03_ScanLines.j3 k x0 x2 x3 x4 x16 x17) else (some false)) else (some false)) else (some false)) else ((qanatref03_Place.f k x0 x1).bind fun bt602 => (if x15 = 0 then (if x13 = bt602.1 then (if x14 = bt602.2 then (qanatlaw03_ScanLines.j3 k x0 x2 x3 x4 x16 x17) else (some false)) else (some false)) else (some false)))
def qanatlaw03_ScanLines.j3 : Nat → ByteArray → Int → Int → ByteArray → ByteArray → Int → Option (Bool)
  | 0, _, _, _, _, _, _ => none
  | k + 1, x0, x2, x3, x4, x16, x17 => if x2 < 0 then (qanatlaw03_ScanLines.j4 k x0 x2 x3 x4 x16 x17 true) else (if x3 < x2 then (qanatlaw03_ScanLines.j4 k x0 x2 x3 x4 x16 x17 true) else (qanatlaw03_ScanLines.j4 k x0 x2 x3 x4 x16 x17 (decide (x3 > (x0.size : Int)))))
def qanatlaw03_ScanLines.j4 : Nat → ByteArray → Int → Int → ByteArray → ByteArray → Int → Bool → Option (Bool)
  | 0, _, _, _, _, _, _, _ => none
  | k + 1, x0, x2, x3, x4, x16, x17, x142 => if x142 = true then ((qanatlaw03_sanity.f).bind fun t604 => (if t604 = true then (if x17 = 1 then (some (x16.toList == ([] : List UInt8))) else (some false)) else (some false))) else (if 0 ≤ x2 then (if x2 ≤ (x0.size : Int) then (if (x0.extract 0 (x2 : Int).toNat).size + x4.size ≤ 9223372036854775807 then (if 0 ≤ x3 then (if x3 ≤ (x0.size : Int) then (if ((x0.extract 0 (x2 : Int).toNat) ++ x4).size + (x0.extract (x3 : Int).toNat x0.size).size ≤ 9223372036854775807 then (if ((((x0.extract 0 (x2 : Int).toNat) ++ x4) ++ (x0.extract (x3 : Int).toNat x0.size)).size : Int) > 20000 then ((qanatlaw03_sanity.f).bind fun t605 => (if t605 = true then (if x17 = 3 then (some (x16.toList == ([] : List UInt8))) else (some false)) else (some false))) else ((qanatlaw03_sanity.f).bind fun t606 => (if t606 = true then (if x17 = 0 then (some (x16.toList == (((x0.extract 0 (x2 : Int).toNat) ++ x4) ++ (x0.extract (x3 : Int).toNat x0.size)).toList)) else (some false)) else (some false)))) else (none)) else (none)) else (none)) else (none)) else (none)) else (none))
end
def qanatlaw03_ScanLines.f (k : Nat) (a0 : ByteArray) (a1 : Int) (a2 : Int) (a3 : Int) (a4 : ByteArray) : Option (Bool) := (qanatlaw03_short.f a0).bind fun t586 => (if t586 = true then (qanatlaw03_ScanLines.j0 k a0 a1 a2 a3 a4 (decide ((a4.size : Int) > 20100))) else (qanatlaw03_ScanLines.j0 k a0 a1 a2 a3 a4 true))
theorem qanatlaw03_ScanLines.mono_l : ∀ k, (∀ y0 y1 y2 y3 y4 y5, LeO (qanatlaw03_ScanLines.j0 k y0 y1 y2 y3 y4 y5) (qanatlaw03_ScanLines.j0 (k + 1) y0 y1 y2 y3 y4 y5)) ∧ (∀ y0 y1 y2 y3 y4 y5 y6 y7 y8 y9 y10, LeO (qanatlaw03_ScanLines.j1 k y0 y1 y2 y3 y4 y5 y6 y7 y8 y9 y10) (qanatlaw03_ScanLines.j1 (k + 1) y0 y1 y2 y3 y4 y5 y6 y7 y8 y9 y10)) ∧ (∀ y0 y1 y2 y3 y4 y5 y6 y7 y8 y9 y10, LeO (qanatlaw03_ScanLines.j2 k y0 y1 y2 y3 y4 y5 y6 y7 y8 y9 y10) (qanatlaw03_ScanLines.j2 (k + 1) y0 y1 y2 y3 y4 y5 y6 y7 y8 y9 y10)) ∧ (∀ y0 y1 y2 y3 y4 y5, LeO (qanatlaw03_ScanLines.j3 k y0 y1 y2 y3 y4 y5) (qanatlaw03_ScanLines.j3 (k + 1) y0 y1 y2 y3 y4 y5)) ∧ (∀ y0 y1 y2 y3 y4 y5 y6, LeO (qanatlaw03_ScanLines.j4 k y0 y1 y2 y3 y4 y5 y6) (qanatlaw03_ScanLines.j4 (k + 1) y0 y1 y2 y3 y4 y5 y6))
  | 0 => ⟨fun _ _ _ _ _ _ r h => by simp [qanatlaw03_ScanLines.j0] at h, fun _ _ _ _ _ _ _ _ _ _ _ r h => by simp [qanatlaw03_ScanLines.j1] at h, fun _ _ _ _ _ _ _ _ _ _ _ r h => by simp [qanatlaw03_ScanLines.j2] at h, fun _ _ _ _ _ _ r h => by simp [qanatlaw03_ScanLines.j3] at h, fun _ _ _ _ _ _ _ r h => by simp [qanatlaw03_ScanLines.j4] at h⟩
  | k + 1 => by
    obtain ⟨ih0, ih1, ih2, ih3, ih4⟩ := qanatlaw03_ScanLines.mono_l k
    refine ⟨?_, ?_, ?_, ?_, ?_⟩
    · intro y0 y1 y2 y3 y4 y5
      unfold qanatlaw03_ScanLines.j0
      repeat' first
      | (with_reducible exact ih0 _ _ _ _ _ _)
      | (with_reducible exact ih1 _ _ _ _ _ _ _ _ _ _ _)
      | (with_reducible exact ih2 _ _ _ _ _ _ _ _ _ _ _)
      | (with_reducible exact ih3 _ _ _ _ _ _)
      | (with_reducible exact ih4 _ _ _ _ _ _ _)
      | (with_reducible exact qanatref03_Lines.mono _ _)
      | (with_reducible exact qanatref03_Place.mono _ _ _)
      | (with_reducible exact qanatref03_SameStrings.mono _ _ _)
      | (with_reducible exact scan_Edit.mono _ _ _ _ _)
      | (with_reducible exact scan_Lines.mono _ _)
      | (with_reducible exact scan_Place.mono _ _ _)
      | (with_reducible exact LeO.refl _)
      | (with_reducible exact LeO.none _)
      | (with_reducible refine LeO.ite ?_ ?_)
      | (with_reducible refine LeO.bind ?_ (fun _ => ?_))
      | exact ih0 _ _ _ _ _ _
      | exact ih1 _ _ _ _ _ _ _ _ _ _ _
      | exact ih2 _ _ _ _ _ _ _ _ _ _ _
      | exact ih3 _ _ _ _ _ _
      | exact ih4 _ _ _ _ _ _ _
      | exact qanatref03_Lines.mono _ _
      | exact qanatref03_Place.mono _ _ _
      | exact qanatref03_SameStrings.mono _ _ _
      | exact scan_Edit.mono _ _ _ _ _
      | exact scan_Lines.mono _ _
      | exact scan_Place.mono _ _ _
      | exact LeO.none _
      | refine LeO.ite ?_ ?_
      | refine LeO.bind ?_ (fun _ => ?_)
    · intro y0 y1 y2 y3 y4 y5 y6 y7 y8 y9 y10
      unfold qanatlaw03_ScanLines.j1
      repeat' first
      | (with_reducible exact ih0 _ _ _ _ _ _)
      | (with_reducible exact ih1 _ _ _ _ _ _ _ _ _ _ _)
      | (with_reducible exact ih2 _ _ _ _ _ _ _ _ _ _ _)
      | (with_reducible exact ih3 _ _ _ _ _ _)
      | (with_reducible exact ih4 _ _ _ _ _ _ _)
      | (with_reducible exact qanatref03_Lines.mono _ _)
      | (with_reducible exact qanatref03_Place.mono _ _ _)
      | (with_reducible exact qanatref03_SameStrings.mono _ _ _)
      | (with_reducible exact scan_Edit.mono _ _ _ _ _)
      | (with_reducible exact scan_Lines.mono _ _)
      | (with_reducible exact scan_Place.mono _ _ _)
      | (with_reducible exact LeO.refl _)
      | (with_reducible exact LeO.none _)
      | (with_reducible refine LeO.ite ?_ ?_)
      | (with_reducible refine LeO.bind ?_ (fun _ => ?_))
      | exact ih0 _ _ _ _ _ _
      | exact ih1 _ _ _ _ _ _ _ _ _ _ _
      | exact ih2 _ _ _ _ _ _ _ _ _ _ _
      | exact ih3 _ _ _ _ _ _
      | exact ih4 _ _ _ _ _ _ _
      | exact qanatref03_Lines.mono _ _
      | exact qanatref03_Place.mono _ _ _
      | exact qanatref03_SameStrings.mono _ _ _
      | exact scan_Edit.mono _ _ _ _ _
      | exact scan_Lines.mono _ _
      | exact scan_Place.mono _ _ _
      | exact LeO.none _
      | refine LeO.ite ?_ ?_
      | refine LeO.bind ?_ (fun _ => ?_)
    · intro y0 y1 y2 y3 y4 y5 y6 y7 y8 y9 y10
      unfold qanatlaw03_ScanLines.j2
      repeat' first
      | (with_reducible exact ih0 _ _ _ _ _ _)
      | (with_reducible exact ih1 _ _ _ _ _ _ _ _ _ _ _)
      | (with_reducible exact ih2 _ _ _ _ _ _ _ _ _ _ _)
      | (with_reducible exact ih3 _ _ _ _ _ _)
      | (with_reducible exact ih4 _ _ _ _ _ _ _)
      | (with_reducible exact qanatref03_Lines.mono _ _)
      | (with_reducible exact qanatref03_Place.mono _ _ _)
      | (with_reducible exact qanatref03_SameStrings.mono _ _ _)
      | (with_reducible exact scan_Edit.mono _ _ _ _ _)
      | (with_reducible exact scan_Lines.mono _ _)
      | (with_reducible exact scan_Place.mono _ _ _)
      | (with_reducible exact LeO.refl _)
      | (with_reducible exact LeO.none _)
      | (with_reducible refine LeO.ite ?_ ?_)
      | (with_reducible refine LeO.bind ?_ (fun _ => ?_))
      | exact ih0 _ _ _ _ _ _
      | exact ih1 _ _ _ _ _ _ _ _ _ _ _
      | exact ih2 _ _ _ _ _ _ _ _ _ _ _
      | exact ih3 _ _ _ _ _ _
      | exact ih4 _ _ _ _ _ _ _
      | exact qanatref03_Lines.mono _ _
      | exact qanatref03_Place.mono _ _ _
      | exact qanatref03_SameStrings.mono _ _ _
      | exact scan_Edit.mono _ _ _ _ _
      | exact scan_Lines.mono _ _
      | exact scan_Place.mono _ _ _
      | exact LeO.none _
      | refine LeO.ite ?_ ?_
      | refine LeO.bind ?_ (fun _ => ?_)
    · intro y0 y1 y2 y3 y4 y5
      unfold qanatlaw03_ScanLines.j3
      repeat' first
      | (with_reducible exact ih0 _ _ _ _ _ _)
      | (with_reducible exact ih1 _ _ _ _ _ _ _ _ _ _ _)
      | (with_reducible exact ih2 _ _ _ _ _ _ _ _ _ _ _)
      | (with_reducible exact ih3 _ _ _ _ _ _)
      | (with_reducible exact ih4 _ _ _ _ _ _ _)
      | (with_reducible exact qanatref03_Lines.mono _ _)
      | (with_reducible exact qanatref03_Place.mono _ _ _)
      | (with_reducible exact qanatref03_SameStrings.mono _ _ _)
      | (with_reducible exact scan_Edit.mono _ _ _ _ _)
      | (with_reducible exact scan_Lines.mono _ _)
      | (with_reducible exact scan_Place.mono _ _ _)
      | (with_reducible exact LeO.refl _)
      | (with_reducible exact LeO.none _)
      | (with_reducible refine LeO.ite ?_ ?_)
      | (with_reducible refine LeO.bind ?_ (fun _ => ?_))
      | exact ih0 _ _ _ _ _ _
      | exact ih1 _ _ _ _ _ _ _ _ _ _ _
      | exact ih2 _ _ _ _ _ _ _ _ _ _ _
      | exact ih3 _ _ _ _ _ _
      | exact ih4 _ _ _ _ _ _ _
      | exact qanatref03_Lines.mono _ _
      | exact qanatref03_Place.mono _ _ _
      | exact qanatref03_SameStrings.mono _ _ _
      | exact scan_Edit.mono _ _ _ _ _
      | exact scan_Lines.mono _ _
      | exact scan_Place.mono _ _ _
      | exact LeO.none _
      | refine LeO.ite ?_ ?_
      | refine LeO.bind ?_ (fun _ => ?_)
    · intro y0 y1 y2 y3 y4 y5 y6
      unfold qanatlaw03_ScanLines.j4
      repeat' first
      | (with_reducible exact ih0 _ _ _ _ _ _)
      | (with_reducible exact ih1 _ _ _ _ _ _ _ _ _ _ _)
      | (with_reducible exact ih2 _ _ _ _ _ _ _ _ _ _ _)
      | (with_reducible exact ih3 _ _ _ _ _ _)
      | (with_reducible exact ih4 _ _ _ _ _ _ _)
      | (with_reducible exact qanatref03_Lines.mono _ _)
      | (with_reducible exact qanatref03_Place.mono _ _ _)
      | (with_reducible exact qanatref03_SameStrings.mono _ _ _)
      | (with_reducible exact scan_Edit.mono _ _ _ _ _)
      | (with_reducible exact scan_Lines.mono _ _)
      | (with_reducible exact scan_Place.mono _ _ _)
      | (with_reducible exact LeO.refl _)
      | (with_reducible exact LeO.none _)
      | (with_reducible refine LeO.ite ?_ ?_)
      | (with_reducible refine LeO.bind ?_ (fun _ => ?_))
      | exact ih0 _ _ _ _ _ _
      | exact ih1 _ _ _ _ _ _ _ _ _ _ _
      | exact ih2 _ _ _ _ _ _ _ _ _ _ _
      | exact ih3 _ _ _ _ _ _
      | exact ih4 _ _ _ _ _ _ _
      | exact qanatref03_Lines.mono _ _
      | exact qanatref03_Place.mono _ _ _
      | exact qanatref03_SameStrings.mono _ _ _
      | exact scan_Edit.mono _ _ _ _ _
      | exact scan_Lines.mono _ _
      | exact scan_Place.mono _ _ _
      | exact LeO.none _
      | refine LeO.ite ?_ ?_
      | refine LeO.bind ?_ (fun _ => ?_)
theorem qanatlaw03_ScanLines.mono : ∀ a0 a1 a2 a3 a4 k, LeO (qanatlaw03_ScanLines.f k a0 a1 a2 a3 a4) (qanatlaw03_ScanLines.f (k + 1) a0 a1 a2 a3 a4) := by
  intro a0 a1 a2 a3 a4 k
  obtain ⟨ih0, ih1, ih2, ih3, ih4⟩ := qanatlaw03_ScanLines.mono_l k
  unfold qanatlaw03_ScanLines.f
  repeat' first
      | (with_reducible exact ih0 _ _ _ _ _ _)
      | (with_reducible exact ih1 _ _ _ _ _ _ _ _ _ _ _)
      | (with_reducible exact ih2 _ _ _ _ _ _ _ _ _ _ _)
      | (with_reducible exact ih3 _ _ _ _ _ _)
      | (with_reducible exact ih4 _ _ _ _ _ _ _)
      | (with_reducible exact qanatref03_Lines.mono _ _)
      | (with_reducible exact qanatref03_Place.mono _ _ _)
      | (with_reducible exact qanatref03_SameStrings.mono _ _ _)
      | (with_reducible exact scan_Edit.mono _ _ _ _ _)
      | (with_reducible exact scan_Lines.mono _ _)
      | (with_reducible exact scan_Place.mono _ _ _)
      | (with_reducible exact LeO.refl _)
      | (with_reducible exact LeO.none _)
      | (with_reducible refine LeO.ite ?_ ?_)
      | (with_reducible refine LeO.bind ?_ (fun _ => ?_))
      | exact ih0 _ _ _ _ _ _
      | exact ih1 _ _ _ _ _ _ _ _ _ _ _
      | exact ih2 _ _ _ _ _ _ _ _ _ _ _
      | exact ih3 _ _ _ _ _ _
      | exact ih4 _ _ _ _ _ _ _
      | exact qanatref03_Lines.mono _ _
      | exact qanatref03_Place.mono _ _ _
      | exact qanatref03_SameStrings.mono _ _ _
      | exact scan_Edit.mono _ _ _ _ _
      | exact scan_Lines.mono _ _
      | exact scan_Place.mono _ _ _
      | exact LeO.none _
      | refine LeO.ite ?_ ?_
      | refine LeO.bind ?_ (fun _ => ?_)
set_option maxHeartbeats 8000000 in
set_option maxRecDepth 100000 in
theorem qanatlaw03_ScanLines.calls (k : Nat) (a0 : ByteArray) (a1 : Int) (a2 : Int) (a3 : Int) (a4 : ByteArray) (r : Bool) (w : World) (hT : TabOK w) (h : qanatlaw03_ScanLines.f k a0 a1 a2 a3 a4 = some r) :
    Calls Tryz.prog 14 #[.string a0, .int .i64 a1, .int .i64 a2, .int .i64 a3, .string a4] w fun e w' => e = .returned (.bool r) ∧ Below w.heap.size w w' := by
  have HB := Aside0.mk (Below.refl w.heap.size w)
  have H : ((qanatlaw03_short.f a0).bind fun t586 => (if t586 = true then (qanatlaw03_ScanLines.j0 k a0 a1 a2 a3 a4 (decide ((a4.size : Int) > 20100))) else (qanatlaw03_ScanLines.j0 k a0 a1 a2 a3 a4 true))) = some r := h
  clear h
  have HC6 := Aside0.mk H
  clear H
  go_enter Tryz.func14, Tryz.ntmps14
  go_upto_region 1 with (fail)
  repeat (go_quiet (fail); go_upto_region 1 with (fail))
  go_cut [29] (fun v29 wc => ∃ (kq : Nat) (x29_5 : Bool), v29 = .bool x29_5 ∧ Aside0 (qanatlaw03_ScanLines.j0 kq a0 a1 a2 a3 a4 x29_5 = some r) ∧ Aside0 (kq ≤ k) ∧ Aside0 (Below w.heap.size w wc))
  case first =>
    have H := HC6.out
    clear HC6
    replace H := Option.bind_eq_some_iff.mp H
    obtain ⟨t586, A70, H⟩ := H
    replace H : (if t586 = true then (qanatlaw03_ScanLines.j0 k a0 a1 a2 a3 a4 (decide ((a4.size : Int) > 20100))) else (qanatlaw03_ScanLines.j0 k a0 a1 a2 a3 a4 true)) = some r := H
    have A7 := Aside0.mk A70
    clear A70
    by_cases c8 : t586 = true
    · subst c8
      have H1 : (qanatlaw03_ScanLines.j0 k a0 a1 a2 a3 a4 (decide ((a4.size : Int) > 20100))) = some r := by rw [if_pos rfl] at H; exact H
      clear H
      have H := H1
      clear H1
      have H' := Aside0.mk H
      clear H
      go_wp2_with (first | (go_at_call 15; (with_reducible refine (qanatlaw03_short.calls a0 true _ A7.out).mono ?_); rintro e w' ⟨rfl, ⟨nd, rfl⟩⟩; (try first | exact ⟨rfl, _, World.drewN_drewN _ _ _⟩ | exact ⟨rfl, _, Eq.trans (World.drewN_drewN _ _ _) (congrArg (World.drewN _) (Nat.add_assoc _ _ _))⟩)))
      repeat (go_quiet (first | (go_at_call 15; (with_reducible refine (qanatlaw03_short.calls a0 true _ A7.out).mono ?_); rintro e w' ⟨rfl, ⟨nd, rfl⟩⟩; (try first | exact ⟨rfl, _, World.drewN_drewN _ _ _⟩ | exact ⟨rfl, _, Eq.trans (World.drewN_drewN _ _ _) (congrArg (World.drewN _) (Nat.add_assoc _ _ _))⟩))); try go_wp2_with (first | (go_at_call 15; (with_reducible refine (qanatlaw03_short.calls a0 true _ A7.out).mono ?_); rintro e w' ⟨rfl, ⟨nd, rfl⟩⟩; (try first | exact ⟨rfl, _, World.drewN_drewN _ _ _⟩ | exact ⟨rfl, _, Eq.trans (World.drewN_drewN _ _ _) (congrArg (World.drewN _) (Nat.add_assoc _ _ _))⟩))))
      go_meet
      case rel => exact ⟨_, (decide ((a4.size : Int) > 20100)), (by first | rfl | (simp; done) | (simp [*]; done)), H', ⟨by first | omega | exact Nat.le_refl _⟩, ⟨by repeat (first | (with_reducible first | exact HB.out | apply below_alloc | apply pw_below_drewN | apply below_drew1) | exact HB.out)⟩⟩
    · replace c8 := Bool.eq_false_iff.mpr c8
      subst c8
      have H1 : (qanatlaw03_ScanLines.j0 k a0 a1 a2 a3 a4 true) = some r := by rw [if_neg (show ¬ (false = true) by decide)] at H; exact H
      clear H
      have H := H1
      clear H1
      have H' := Aside0.mk H
      clear H
      go_wp2_with (first | (go_at_call 15; (with_reducible refine (qanatlaw03_short.calls a0 false _ A7.out).mono ?_); rintro e w' ⟨rfl, ⟨nd, rfl⟩⟩; (try first | exact ⟨rfl, _, World.drewN_drewN _ _ _⟩ | exact ⟨rfl, _, Eq.trans (World.drewN_drewN _ _ _) (congrArg (World.drewN _) (Nat.add_assoc _ _ _))⟩)))
      repeat (go_quiet (first | (go_at_call 15; (with_reducible refine (qanatlaw03_short.calls a0 false _ A7.out).mono ?_); rintro e w' ⟨rfl, ⟨nd, rfl⟩⟩; (try first | exact ⟨rfl, _, World.drewN_drewN _ _ _⟩ | exact ⟨rfl, _, Eq.trans (World.drewN_drewN _ _ _) (congrArg (World.drewN _) (Nat.add_assoc _ _ _))⟩))); try go_wp2_with (first | (go_at_call 15; (with_reducible refine (qanatlaw03_short.calls a0 false _ A7.out).mono ?_); rintro e w' ⟨rfl, ⟨nd, rfl⟩⟩; (try first | exact ⟨rfl, _, World.drewN_drewN _ _ _⟩ | exact ⟨rfl, _, Eq.trans (World.drewN_drewN _ _ _) (congrArg (World.drewN _) (Nat.add_assoc _ _ _))⟩))))
      go_meet
      case rel => exact ⟨_, (true), (by first | rfl | (simp; done) | (simp [*]; done)), H', ⟨by first | omega | exact Nat.le_refl _⟩, ⟨by repeat (first | (with_reducible first | exact HB.out | apply below_alloc | apply pw_below_drewN | apply below_drew1) | exact HB.out)⟩⟩
  case rest =>
    clear HC6
    try clear c1
    try clear p2
    try clear c8
    obtain ⟨kq, x29_5, rfl, HA, HJ5, HB⟩ := hcut
    cases kq with
    | zero => exact absurd HA.out (by simp [qanatlaw03_ScanLines.j0])
    | succ kj5 =>
      have H := HA.out
      clear HA
      simp only [qanatlaw03_ScanLines.j0] at H
      by_cases c9 : x29_5 = true
      · subst c9
        have H1 : ((qanatlaw03_sanity.f).bind fun t587 => (some t587)) = some r := by rw [if_pos rfl] at H; exact H
        clear H
        have H := H1
        clear H1
        replace H := Option.bind_eq_some_iff.mp H
        obtain ⟨t587, A100, H⟩ := H
        replace H : (some t587) = some r := H
        have A10 := Aside0.mk A100
        clear A100
        obtain rfl := Option.some.inj H
        go_wp2_with (first | (go_at_call 16; (with_reducible refine (qanatlaw03_sanity.calls  t587 _ (TabOK.of_below hT (by repeat (first | (with_reducible first | exact HB.out | apply below_alloc | apply pw_below_drewN | apply below_drew1) | exact HB.out))) A10.out).mono ?_); rintro e w11 ⟨rfl, hb⟩; have n0_ := Aside0.mk (below_step (by repeat (first | (with_reducible first | exact HB.out | apply below_alloc | apply pw_below_drewN | apply below_drew1) | exact HB.out)) hb); clear HB; have HB := n0_; clear n0_; (try clear hb); (try clear hb2); (try clear hk); (try clear hi)))
        repeat (go_quiet (first | (go_at_call 16; (with_reducible refine (qanatlaw03_sanity.calls  t587 _ (TabOK.of_below hT (by repeat (first | (with_reducible first | exact HB.out | apply below_alloc | apply pw_below_drewN | apply below_drew1) | exact HB.out))) A10.out).mono ?_); rintro e w11 ⟨rfl, hb⟩; have n0_ := Aside0.mk (below_step (by repeat (first | (with_reducible first | exact HB.out | apply below_alloc | apply pw_below_drewN | apply below_drew1) | exact HB.out)) hb); clear HB; have HB := n0_; clear n0_; (try clear hb); (try clear hb2); (try clear hk); (try clear hi))); try go_wp2_with (first | (go_at_call 16; (with_reducible refine (qanatlaw03_sanity.calls  t587 _ (TabOK.of_below hT (by repeat (first | (with_reducible first | exact HB.out | apply below_alloc | apply pw_below_drewN | apply below_drew1) | exact HB.out))) A10.out).mono ?_); rintro e w11 ⟨rfl, hb⟩; have n0_ := Aside0.mk (below_step (by repeat (first | (with_reducible first | exact HB.out | apply below_alloc | apply pw_below_drewN | apply below_drew1) | exact HB.out)) hb); clear HB; have HB := n0_; clear n0_; (try clear hb); (try clear hb2); (try clear hk); (try clear hi))))
        go_ret
        exact ⟨by first | rfl | (simp [errW_none, errW_some] <;> rfl) | (simp [*, errW_none, errW_some] <;> rfl), by repeat (first | (with_reducible first | exact HB.out | apply below_alloc | apply pw_below_drewN | apply below_drew1) | exact HB.out)⟩
      · replace c9 := Bool.eq_false_iff.mpr c9
        subst c9
        have H1 : ((scan_Lines.f kj5 a0).bind fun bt588 => ((scan_Place.f kj5 a0 a1).bind fun bt592 => ((scan_Edit.f kj5 a0 a2 a3 a4).bind fun bt595 => (if (a0.size : Int) > 20000 then ((qanatlaw03_sanity.f).bind fun t597 => (if t597 = true then (if bt588.2 = 3 then (if bt592.2.2 = 3 then (if bt595.2 = 3 then (if (bt588.1.length : Int) = 0 then (if bt592.1 = 0 then (if bt592.2.1 = 0 then (some (bt595.1.toList == ([] : List UInt8))) else (some false)) else (some false)) else (some false)) else (some false)) else (some false)) else (some false)) else (some false))) else ((qanatref03_Lines.f kj5 a0).bind fun t598 => ((qanatref03_SameStrings.f kj5 bt588.1 t598).bind fun t601 => (if bt588.2 = 0 then (qanatlaw03_ScanLines.j1 kj5 a0 a1 a2 a3 a4 bt592.1 bt592.2.1 bt592.2.2 bt595.1 bt595.2 (!t601)) else (qanatlaw03_ScanLines.j1 kj5 a0 a1 a2 a3 a4 bt592.1 bt592.2.1 bt592.2.2 bt595.1 bt595.2 true)))))))) = some r := by rw [if_neg (show ¬ (false = true) by decide)] at H; exact H
        clear H
        have H := H1
        clear H1
        replace H := Option.bind_eq_some_iff.mp H
        obtain ⟨⟨t588, t589⟩, A120, H⟩ := H
        replace H : ((scan_Place.f kj5 a0 a1).bind fun bt592 => ((scan_Edit.f kj5 a0 a2 a3 a4).bind fun bt595 => (if (a0.size : Int) > 20000 then ((qanatlaw03_sanity.f).bind fun t597 => (if t597 = true then (if t589 = 3 then (if bt592.2.2 = 3 then (if bt595.2 = 3 then (if (t588.length : Int) = 0 then (if bt592.1 = 0 then (if bt592.2.1 = 0 then (some (bt595.1.toList == ([] : List UInt8))) else (some false)) else (some false)) else (some false)) else (some false)) else (some false)) else (some false)) else (some false))) else ((qanatref03_Lines.f kj5 a0).bind fun t598 => ((qanatref03_SameStrings.f kj5 t588 t598).bind fun t601 => (if t589 = 0 then (qanatlaw03_ScanLines.j1 kj5 a0 a1 a2 a3 a4 bt592.1 bt592.2.1 bt592.2.2 bt595.1 bt595.2 (!t601)) else (qanatlaw03_ScanLines.j1 kj5 a0 a1 a2 a3 a4 bt592.1 bt592.2.1 bt592.2.2 bt595.1 bt595.2 true))))))) = some r := H
        have A12 := Aside0.mk A120
        clear A120
        replace H := Option.bind_eq_some_iff.mp H
        obtain ⟨⟨t592, t593, t594⟩, A130, H⟩ := H
        replace H : ((scan_Edit.f kj5 a0 a2 a3 a4).bind fun bt595 => (if (a0.size : Int) > 20000 then ((qanatlaw03_sanity.f).bind fun t597 => (if t597 = true then (if t589 = 3 then (if t594 = 3 then (if bt595.2 = 3 then (if (t588.length : Int) = 0 then (if t592 = 0 then (if t593 = 0 then (some (bt595.1.toList == ([] : List UInt8))) else (some false)) else (some false)) else (some false)) else (some false)) else (some false)) else (some false)) else (some false))) else ((qanatref03_Lines.f kj5 a0).bind fun t598 => ((qanatref03_SameStrings.f kj5 t588 t598).bind fun t601 => (if t589 = 0 then (qanatlaw03_ScanLines.j1 kj5 a0 a1 a2 a3 a4 t592 t593 t594 bt595.1 bt595.2 (!t601)) else (qanatlaw03_ScanLines.j1 kj5 a0 a1 a2 a3 a4 t592 t593 t594 bt595.1 bt595.2 true)))))) = some r := H
        have A13 := Aside0.mk A130
        clear A130
        replace H := Option.bind_eq_some_iff.mp H
        obtain ⟨⟨t595, t596⟩, A140, H⟩ := H
        replace H : (if (a0.size : Int) > 20000 then ((qanatlaw03_sanity.f).bind fun t597 => (if t597 = true then (if t589 = 3 then (if t594 = 3 then (if t596 = 3 then (if (t588.length : Int) = 0 then (if t592 = 0 then (if t593 = 0 then (some (t595.toList == ([] : List UInt8))) else (some false)) else (some false)) else (some false)) else (some false)) else (some false)) else (some false)) else (some false))) else ((qanatref03_Lines.f kj5 a0).bind fun t598 => ((qanatref03_SameStrings.f kj5 t588 t598).bind fun t601 => (if t589 = 0 then (qanatlaw03_ScanLines.j1 kj5 a0 a1 a2 a3 a4 t592 t593 t594 t595 t596 (!t601)) else (qanatlaw03_ScanLines.j1 kj5 a0 a1 a2 a3 a4 t592 t593 t594 t595 t596 true))))) = some r := H
        have A14 := Aside0.mk A140
        clear A140
        by_cases c15 : (a0.size : Int) > 20000
        · rw [if_pos c15] at H
          have c15b0 : decide (20000 < (a0.size : Int)) = true := decide_eq_true c15
          have c15b1 : decide (20000 < a0.size) = true := decide_eq_true (by omega)
          clear c15
          replace H := Option.bind_eq_some_iff.mp H
          obtain ⟨t597, A160, H⟩ := H
          replace H : (if t597 = true then (if t589 = 3 then (if t594 = 3 then (if t596 = 3 then (if (t588.length : Int) = 0 then (if t592 = 0 then (if t593 = 0 then (some (t595.toList == ([] : List UInt8))) else (some false)) else (some false)) else (some false)) else (some false)) else (some false)) else (some false)) else (some false)) = some r := H
          have A16 := Aside0.mk A160
          clear A160
          by_cases c17 : t597 = true
          · subst c17
            have H1 : (if t589 = 3 then (if t594 = 3 then (if t596 = 3 then (if (t588.length : Int) = 0 then (if t592 = 0 then (if t593 = 0 then (some (t595.toList == ([] : List UInt8))) else (some false)) else (some false)) else (some false)) else (some false)) else (some false)) else (some false)) = some r := by rw [if_pos rfl] at H; exact H
            clear H
            have H := H1
            clear H1
            by_cases c18 : t589 = 3
            · rw [if_pos c18] at H
              have c18b0 : (t589 == 3) = true := beq_iff_eq.mpr c18
              have c18b1 : (t589 != 3) = false := bne_eq_false_iff_eq.mpr c18
              clear c18
              by_cases c19 : t594 = 3
              · rw [if_pos c19] at H
                have c19b0 : (t594 == 3) = true := beq_iff_eq.mpr c19
                have c19b1 : (t594 != 3) = false := bne_eq_false_iff_eq.mpr c19
                clear c19
                by_cases c20 : t596 = 3
                · rw [if_pos c20] at H
                  have c20b0 : (t596 == 3) = true := beq_iff_eq.mpr c20
                  have c20b1 : (t596 != 3) = false := bne_eq_false_iff_eq.mpr c20
                  clear c20
                  by_cases c21 : (t588.length : Int) = 0
                  · rw [if_pos c21] at H
                    have c21b0 : ((t588.length : Int) == 0) = true := beq_iff_eq.mpr c21
                    have c21b1 : ((t588.length : Int) != 0) = false := bne_eq_false_iff_eq.mpr c21
                    clear c21
                    by_cases c22 : t592 = 0
                    · rw [if_pos c22] at H
                      have c22b0 : (t592 == 0) = true := beq_iff_eq.mpr c22
                      have c22b1 : (t592 != 0) = false := bne_eq_false_iff_eq.mpr c22
                      clear c22
                      by_cases c23 : t593 = 0
                      · rw [if_pos c23] at H
                        have c23b0 : (t593 == 0) = true := beq_iff_eq.mpr c23
                        have c23b1 : (t593 != 0) = false := bne_eq_false_iff_eq.mpr c23
                        clear c23
                        obtain rfl := Option.some.inj H
                        go_wp2_with (first | (go_at_call 46; (with_reducible refine (scan_Lines.calls kj5 a0 t588 t589 _ (TabOK.of_below hT (by repeat (first | (with_reducible first | exact HB.out | apply below_alloc | apply pw_below_drewN | apply below_drew1) | exact HB.out))) A12.out).mono ?_); rintro e w24 ⟨v590, rfl, ho0, hb⟩; have n0_ := Aside0.mk (Kd.R_lower ho0 (below_size (by repeat (first | (with_reducible first | exact HB.out | apply below_alloc | apply pw_below_drewN | apply below_drew1) | exact HB.out)))); have n1_ := Aside0.mk (below_step (by repeat (first | (with_reducible first | exact HB.out | apply below_alloc | apply pw_below_drewN | apply below_drew1) | exact HB.out)) hb); clear HB; have HO591 := n0_; have HB := n1_; clear n0_ n1_; (try clear hb); (try clear hb2); (try clear hk); (try clear hi); (try clear ho0)) | (go_at_call 45; (with_reducible refine (scan_Place.calls kj5 a0 a1 t592 t593 t594 _ A13.out).mono ?_); rintro e w' ⟨rfl, ⟨nd, rfl⟩⟩; (try first | exact ⟨rfl, _, World.drewN_drewN _ _ _⟩ | exact ⟨rfl, _, Eq.trans (World.drewN_drewN _ _ _) (congrArg (World.drewN _) (Nat.add_assoc _ _ _))⟩)) | (go_at_call 47; (with_reducible refine (scan_Edit.calls kj5 a0 a2 a3 a4 t595 t596 _ A14.out).mono ?_); rintro e w' ⟨rfl, ⟨nd, rfl⟩⟩; (try first | exact ⟨rfl, _, World.drewN_drewN _ _ _⟩ | exact ⟨rfl, _, Eq.trans (World.drewN_drewN _ _ _) (congrArg (World.drewN _) (Nat.add_assoc _ _ _))⟩)) | (go_at_call 16; (with_reducible refine (qanatlaw03_sanity.calls  true _ (TabOK.of_below hT (by repeat (first | (with_reducible first | exact HB.out | apply below_alloc | apply pw_below_drewN | apply below_drew1) | exact HB.out))) A16.out).mono ?_); rintro e w25 ⟨rfl, hb⟩; have n0_ := Aside0.mk (Kd.R_below (by (with_reducible repeat (first | apply Kd.R_alloc | apply Kd.R_drewN | apply Kd.R_drew)); exact HO591.out) hb); have n1_ := Aside0.mk (below_step (by repeat (first | (with_reducible first | exact HB.out | apply below_alloc | apply pw_below_drewN | apply below_drew1) | exact HB.out)) hb); clear HO591; clear HB; have HO591 := n0_; have HB := n1_; clear n0_ n1_; (try clear hb); (try clear hb2); (try clear hk); (try clear hi); obtain ⟨Ao26, co26, eo26⟩ := Kd.R_slice HO591.out; subst eo26))
                        repeat (go_quiet (first | (go_at_call 46; (with_reducible refine (scan_Lines.calls kj5 a0 t588 t589 _ (TabOK.of_below hT (by repeat (first | (with_reducible first | exact HB.out | apply below_alloc | apply pw_below_drewN | apply below_drew1) | exact HB.out))) A12.out).mono ?_); rintro e w24 ⟨v590, rfl, ho0, hb⟩; have n0_ := Aside0.mk (Kd.R_lower ho0 (below_size (by repeat (first | (with_reducible first | exact HB.out | apply below_alloc | apply pw_below_drewN | apply below_drew1) | exact HB.out)))); have n1_ := Aside0.mk (below_step (by repeat (first | (with_reducible first | exact HB.out | apply below_alloc | apply pw_below_drewN | apply below_drew1) | exact HB.out)) hb); clear HB; have HO591 := n0_; have HB := n1_; clear n0_ n1_; (try clear hb); (try clear hb2); (try clear hk); (try clear hi); (try clear ho0)) | (go_at_call 45; (with_reducible refine (scan_Place.calls kj5 a0 a1 t592 t593 t594 _ A13.out).mono ?_); rintro e w' ⟨rfl, ⟨nd, rfl⟩⟩; (try first | exact ⟨rfl, _, World.drewN_drewN _ _ _⟩ | exact ⟨rfl, _, Eq.trans (World.drewN_drewN _ _ _) (congrArg (World.drewN _) (Nat.add_assoc _ _ _))⟩)) | (go_at_call 47; (with_reducible refine (scan_Edit.calls kj5 a0 a2 a3 a4 t595 t596 _ A14.out).mono ?_); rintro e w' ⟨rfl, ⟨nd, rfl⟩⟩; (try first | exact ⟨rfl, _, World.drewN_drewN _ _ _⟩ | exact ⟨rfl, _, Eq.trans (World.drewN_drewN _ _ _) (congrArg (World.drewN _) (Nat.add_assoc _ _ _))⟩)) | (go_at_call 16; (with_reducible refine (qanatlaw03_sanity.calls  true _ (TabOK.of_below hT (by repeat (first | (with_reducible first | exact HB.out | apply below_alloc | apply pw_below_drewN | apply below_drew1) | exact HB.out))) A16.out).mono ?_); rintro e w25 ⟨rfl, hb⟩; have n0_ := Aside0.mk (Kd.R_below (by (with_reducible repeat (first | apply Kd.R_alloc | apply Kd.R_drewN | apply Kd.R_drew)); exact HO591.out) hb); have n1_ := Aside0.mk (below_step (by repeat (first | (with_reducible first | exact HB.out | apply below_alloc | apply pw_below_drewN | apply below_drew1) | exact HB.out)) hb); clear HO591; clear HB; have HO591 := n0_; have HB := n1_; clear n0_ n1_; (try clear hb); (try clear hb2); (try clear hk); (try clear hi); obtain ⟨Ao26, co26, eo26⟩ := Kd.R_slice HO591.out; subst eo26)); try go_wp2_with (first | (go_at_call 46; (with_reducible refine (scan_Lines.calls kj5 a0 t588 t589 _ (TabOK.of_below hT (by repeat (first | (with_reducible first | exact HB.out | apply below_alloc | apply pw_below_drewN | apply below_drew1) | exact HB.out))) A12.out).mono ?_); rintro e w24 ⟨v590, rfl, ho0, hb⟩; have n0_ := Aside0.mk (Kd.R_lower ho0 (below_size (by repeat (first | (with_reducible first | exact HB.out | apply below_alloc | apply pw_below_drewN | apply below_drew1) | exact HB.out)))); have n1_ := Aside0.mk (below_step (by repeat (first | (with_reducible first | exact HB.out | apply below_alloc | apply pw_below_drewN | apply below_drew1) | exact HB.out)) hb); clear HB; have HO591 := n0_; have HB := n1_; clear n0_ n1_; (try clear hb); (try clear hb2); (try clear hk); (try clear hi); (try clear ho0)) | (go_at_call 45; (with_reducible refine (scan_Place.calls kj5 a0 a1 t592 t593 t594 _ A13.out).mono ?_); rintro e w' ⟨rfl, ⟨nd, rfl⟩⟩; (try first | exact ⟨rfl, _, World.drewN_drewN _ _ _⟩ | exact ⟨rfl, _, Eq.trans (World.drewN_drewN _ _ _) (congrArg (World.drewN _) (Nat.add_assoc _ _ _))⟩)) | (go_at_call 47; (with_reducible refine (scan_Edit.calls kj5 a0 a2 a3 a4 t595 t596 _ A14.out).mono ?_); rintro e w' ⟨rfl, ⟨nd, rfl⟩⟩; (try first | exact ⟨rfl, _, World.drewN_drewN _ _ _⟩ | exact ⟨rfl, _, Eq.trans (World.drewN_drewN _ _ _) (congrArg (World.drewN _) (Nat.add_assoc _ _ _))⟩)) | (go_at_call 16; (with_reducible refine (qanatlaw03_sanity.calls  true _ (TabOK.of_below hT (by repeat (first | (with_reducible first | exact HB.out | apply below_alloc | apply pw_below_drewN | apply below_drew1) | exact HB.out))) A16.out).mono ?_); rintro e w25 ⟨rfl, hb⟩; have n0_ := Aside0.mk (Kd.R_below (by (with_reducible repeat (first | apply Kd.R_alloc | apply Kd.R_drewN | apply Kd.R_drew)); exact HO591.out) hb); have n1_ := Aside0.mk (below_step (by repeat (first | (with_reducible first | exact HB.out | apply below_alloc | apply pw_below_drewN | apply below_drew1) | exact HB.out)) hb); clear HO591; clear HB; have HO591 := n0_; have HB := n1_; clear n0_ n1_; (try clear hb); (try clear hb2); (try clear hk); (try clear hi); obtain ⟨Ao26, co26, eo26⟩ := Kd.R_slice HO591.out; subst eo26)))
                        go_ret
                        exact ⟨by first | rfl | (simp [errW_none, errW_some] <;> rfl) | (simp [*, errW_none, errW_some] <;> rfl), by repeat (first | (with_reducible first | exact HB.out | apply below_alloc | apply pw_below_drewN | apply below_drew1) | exact HB.out)⟩
                      · rw [if_neg c23] at H
                        have c23b0 : (t593 == 0) = false := beq_eq_false_iff_ne.mpr c23
                        have c23b1 : (t593 != 0) = true := bne_iff_ne.mpr c23
                        obtain rfl := Option.some.inj H
                        go_wp2_with (first | (go_at_call 46; (with_reducible refine (scan_Lines.calls kj5 a0 t588 t589 _ (TabOK.of_below hT (by repeat (first | (with_reducible first | exact HB.out | apply below_alloc | apply pw_below_drewN | apply below_drew1) | exact HB.out))) A12.out).mono ?_); rintro e w27 ⟨v590, rfl, ho0, hb⟩; have n0_ := Aside0.mk (Kd.R_lower ho0 (below_size (by repeat (first | (with_reducible first | exact HB.out | apply below_alloc | apply pw_below_drewN | apply below_drew1) | exact HB.out)))); have n1_ := Aside0.mk (below_step (by repeat (first | (with_reducible first | exact HB.out | apply below_alloc | apply pw_below_drewN | apply below_drew1) | exact HB.out)) hb); clear HB; have HO591 := n0_; have HB := n1_; clear n0_ n1_; (try clear hb); (try clear hb2); (try clear hk); (try clear hi); (try clear ho0)) | (go_at_call 45; (with_reducible refine (scan_Place.calls kj5 a0 a1 t592 t593 t594 _ A13.out).mono ?_); rintro e w' ⟨rfl, ⟨nd, rfl⟩⟩; (try first | exact ⟨rfl, _, World.drewN_drewN _ _ _⟩ | exact ⟨rfl, _, Eq.trans (World.drewN_drewN _ _ _) (congrArg (World.drewN _) (Nat.add_assoc _ _ _))⟩)) | (go_at_call 47; (with_reducible refine (scan_Edit.calls kj5 a0 a2 a3 a4 t595 t596 _ A14.out).mono ?_); rintro e w' ⟨rfl, ⟨nd, rfl⟩⟩; (try first | exact ⟨rfl, _, World.drewN_drewN _ _ _⟩ | exact ⟨rfl, _, Eq.trans (World.drewN_drewN _ _ _) (congrArg (World.drewN _) (Nat.add_assoc _ _ _))⟩)) | (go_at_call 16; (with_reducible refine (qanatlaw03_sanity.calls  true _ (TabOK.of_below hT (by repeat (first | (with_reducible first | exact HB.out | apply below_alloc | apply pw_below_drewN | apply below_drew1) | exact HB.out))) A16.out).mono ?_); rintro e w28 ⟨rfl, hb⟩; have n0_ := Aside0.mk (Kd.R_below (by (with_reducible repeat (first | apply Kd.R_alloc | apply Kd.R_drewN | apply Kd.R_drew)); exact HO591.out) hb); have n1_ := Aside0.mk (below_step (by repeat (first | (with_reducible first | exact HB.out | apply below_alloc | apply pw_below_drewN | apply below_drew1) | exact HB.out)) hb); clear HO591; clear HB; have HO591 := n0_; have HB := n1_; clear n0_ n1_; (try clear hb); (try clear hb2); (try clear hk); (try clear hi); obtain ⟨Ao29, co29, eo29⟩ := Kd.R_slice HO591.out; subst eo29))
                        repeat (go_quiet (first | (go_at_call 46; (with_reducible refine (scan_Lines.calls kj5 a0 t588 t589 _ (TabOK.of_below hT (by repeat (first | (with_reducible first | exact HB.out | apply below_alloc | apply pw_below_drewN | apply below_drew1) | exact HB.out))) A12.out).mono ?_); rintro e w27 ⟨v590, rfl, ho0, hb⟩; have n0_ := Aside0.mk (Kd.R_lower ho0 (below_size (by repeat (first | (with_reducible first | exact HB.out | apply below_alloc | apply pw_below_drewN | apply below_drew1) | exact HB.out)))); have n1_ := Aside0.mk (below_step (by repeat (first | (with_reducible first | exact HB.out | apply below_alloc | apply pw_below_drewN | apply below_drew1) | exact HB.out)) hb); clear HB; have HO591 := n0_; have HB := n1_; clear n0_ n1_; (try clear hb); (try clear hb2); (try clear hk); (try clear hi); (try clear ho0)) | (go_at_call 45; (with_reducible refine (scan_Place.calls kj5 a0 a1 t592 t593 t594 _ A13.out).mono ?_); rintro e w' ⟨rfl, ⟨nd, rfl⟩⟩; (try first | exact ⟨rfl, _, World.drewN_drewN _ _ _⟩ | exact ⟨rfl, _, Eq.trans (World.drewN_drewN _ _ _) (congrArg (World.drewN _) (Nat.add_assoc _ _ _))⟩)) | (go_at_call 47; (with_reducible refine (scan_Edit.calls kj5 a0 a2 a3 a4 t595 t596 _ A14.out).mono ?_); rintro e w' ⟨rfl, ⟨nd, rfl⟩⟩; (try first | exact ⟨rfl, _, World.drewN_drewN _ _ _⟩ | exact ⟨rfl, _, Eq.trans (World.drewN_drewN _ _ _) (congrArg (World.drewN _) (Nat.add_assoc _ _ _))⟩)) | (go_at_call 16; (with_reducible refine (qanatlaw03_sanity.calls  true _ (TabOK.of_below hT (by repeat (first | (with_reducible first | exact HB.out | apply below_alloc | apply pw_below_drewN | apply below_drew1) | exact HB.out))) A16.out).mono ?_); rintro e w28 ⟨rfl, hb⟩; have n0_ := Aside0.mk (Kd.R_below (by (with_reducible repeat (first | apply Kd.R_alloc | apply Kd.R_drewN | apply Kd.R_drew)); exact HO591.out) hb); have n1_ := Aside0.mk (below_step (by repeat (first | (with_reducible first | exact HB.out | apply below_alloc | apply pw_below_drewN | apply below_drew1) | exact HB.out)) hb); clear HO591; clear HB; have HO591 := n0_; have HB := n1_; clear n0_ n1_; (try clear hb); (try clear hb2); (try clear hk); (try clear hi); obtain ⟨Ao29, co29, eo29⟩ := Kd.R_slice HO591.out; subst eo29)); try go_wp2_with (first | (go_at_call 46; (with_reducible refine (scan_Lines.calls kj5 a0 t588 t589 _ (TabOK.of_below hT (by repeat (first | (with_reducible first | exact HB.out | apply below_alloc | apply pw_below_drewN | apply below_drew1) | exact HB.out))) A12.out).mono ?_); rintro e w27 ⟨v590, rfl, ho0, hb⟩; have n0_ := Aside0.mk (Kd.R_lower ho0 (below_size (by repeat (first | (with_reducible first | exact HB.out | apply below_alloc | apply pw_below_drewN | apply below_drew1) | exact HB.out)))); have n1_ := Aside0.mk (below_step (by repeat (first | (with_reducible first | exact HB.out | apply below_alloc | apply pw_below_drewN | apply below_drew1) | exact HB.out)) hb); clear HB; have HO591 := n0_; have HB := n1_; clear n0_ n1_; (try clear hb); (try clear hb2); (try clear hk); (try clear hi); (try clear ho0)) | (go_at_call 45; (with_reducible refine (scan_Place.calls kj5 a0 a1 t592 t593 t594 _ A13.out).mono ?_); rintro e w' ⟨rfl, ⟨nd, rfl⟩⟩; (try first | exact ⟨rfl, _, World.drewN_drewN _ _ _⟩ | exact ⟨rfl, _, Eq.trans (World.drewN_drewN _ _ _) (congrArg (World.drewN _) (Nat.add_assoc _ _ _))⟩)) | (go_at_call 47; (with_reducible refine (scan_Edit.calls kj5 a0 a2 a3 a4 t595 t596 _ A14.out).mono ?_); rintro e w' ⟨rfl, ⟨nd, rfl⟩⟩; (try first | exact ⟨rfl, _, World.drewN_drewN _ _ _⟩ | exact ⟨rfl, _, Eq.trans (World.drewN_drewN _ _ _) (congrArg (World.drewN _) (Nat.add_assoc _ _ _))⟩)) | (go_at_call 16; (with_reducible refine (qanatlaw03_sanity.calls  true _ (TabOK.of_below hT (by repeat (first | (with_reducible first | exact HB.out | apply below_alloc | apply pw_below_drewN | apply below_drew1) | exact HB.out))) A16.out).mono ?_); rintro e w28 ⟨rfl, hb⟩; have n0_ := Aside0.mk (Kd.R_below (by (with_reducible repeat (first | apply Kd.R_alloc | apply Kd.R_drewN | apply Kd.R_drew)); exact HO591.out) hb); have n1_ := Aside0.mk (below_step (by repeat (first | (with_reducible first | exact HB.out | apply below_alloc | apply pw_below_drewN | apply below_drew1) | exact HB.out)) hb); clear HO591; clear HB; have HO591 := n0_; have HB := n1_; clear n0_ n1_; (try clear hb); (try clear hb2); (try clear hk); (try clear hi); obtain ⟨Ao29, co29, eo29⟩ := Kd.R_slice HO591.out; subst eo29)))
                        go_ret
                        exact ⟨by first | rfl | (simp [errW_none, errW_some] <;> rfl) | (simp [*, errW_none, errW_some] <;> rfl), by repeat (first | (with_reducible first | exact HB.out | apply below_alloc | apply pw_below_drewN | apply below_drew1) | exact HB.out)⟩
                    · rw [if_neg c22] at H
                      have c22b0 : (t592 == 0) = false := beq_eq_false_iff_ne.mpr c22
                      have c22b1 : (t592 != 0) = true := bne_iff_ne.mpr c22
                      obtain rfl := Option.some.inj H
                      go_wp2_with (first | (go_at_call 46; (with_reducible refine (scan_Lines.calls kj5 a0 t588 t589 _ (TabOK.of_below hT (by repeat (first | (with_reducible first | exact HB.out | apply below_alloc | apply pw_below_drewN | apply below_drew1) | exact HB.out))) A12.out).mono ?_); rintro e w30 ⟨v590, rfl, ho0, hb⟩; have n0_ := Aside0.mk (Kd.R_lower ho0 (below_size (by repeat (first | (with_reducible first | exact HB.out | apply below_alloc | apply pw_below_drewN | apply below_drew1) | exact HB.out)))); have n1_ := Aside0.mk (below_step (by repeat (first | (with_reducible first | exact HB.out | apply below_alloc | apply pw_below_drewN | apply below_drew1) | exact HB.out)) hb); clear HB; have HO591 := n0_; have HB := n1_; clear n0_ n1_; (try clear hb); (try clear hb2); (try clear hk); (try clear hi); (try clear ho0)) | (go_at_call 45; (with_reducible refine (scan_Place.calls kj5 a0 a1 t592 t593 t594 _ A13.out).mono ?_); rintro e w' ⟨rfl, ⟨nd, rfl⟩⟩; (try first | exact ⟨rfl, _, World.drewN_drewN _ _ _⟩ | exact ⟨rfl, _, Eq.trans (World.drewN_drewN _ _ _) (congrArg (World.drewN _) (Nat.add_assoc _ _ _))⟩)) | (go_at_call 47; (with_reducible refine (scan_Edit.calls kj5 a0 a2 a3 a4 t595 t596 _ A14.out).mono ?_); rintro e w' ⟨rfl, ⟨nd, rfl⟩⟩; (try first | exact ⟨rfl, _, World.drewN_drewN _ _ _⟩ | exact ⟨rfl, _, Eq.trans (World.drewN_drewN _ _ _) (congrArg (World.drewN _) (Nat.add_assoc _ _ _))⟩)) | (go_at_call 16; (with_reducible refine (qanatlaw03_sanity.calls  true _ (TabOK.of_below hT (by repeat (first | (with_reducible first | exact HB.out | apply below_alloc | apply pw_below_drewN | apply below_drew1) | exact HB.out))) A16.out).mono ?_); rintro e w31 ⟨rfl, hb⟩; have n0_ := Aside0.mk (Kd.R_below (by (with_reducible repeat (first | apply Kd.R_alloc | apply Kd.R_drewN | apply Kd.R_drew)); exact HO591.out) hb); have n1_ := Aside0.mk (below_step (by repeat (first | (with_reducible first | exact HB.out | apply below_alloc | apply pw_below_drewN | apply below_drew1) | exact HB.out)) hb); clear HO591; clear HB; have HO591 := n0_; have HB := n1_; clear n0_ n1_; (try clear hb); (try clear hb2); (try clear hk); (try clear hi); obtain ⟨Ao32, co32, eo32⟩ := Kd.R_slice HO591.out; subst eo32))
                      repeat (go_quiet (first | (go_at_call 46; (with_reducible refine (scan_Lines.calls kj5 a0 t588 t589 _ (TabOK.of_below hT (by repeat (first | (with_reducible first | exact HB.out | apply below_alloc | apply pw_below_drewN | apply below_drew1) | exact HB.out))) A12.out).mono ?_); rintro e w30 ⟨v590, rfl, ho0, hb⟩; have n0_ := Aside0.mk (Kd.R_lower ho0 (below_size (by repeat (first | (with_reducible first | exact HB.out | apply below_alloc | apply pw_below_drewN | apply below_drew1) | exact HB.out)))); have n1_ := Aside0.mk (below_step (by repeat (first | (with_reducible first | exact HB.out | apply below_alloc | apply pw_below_drewN | apply below_drew1) | exact HB.out)) hb); clear HB; have HO591 := n0_; have HB := n1_; clear n0_ n1_; (try clear hb); (try clear hb2); (try clear hk); (try clear hi); (try clear ho0)) | (go_at_call 45; (with_reducible refine (scan_Place.calls kj5 a0 a1 t592 t593 t594 _ A13.out).mono ?_); rintro e w' ⟨rfl, ⟨nd, rfl⟩⟩; (try first | exact ⟨rfl, _, World.drewN_drewN _ _ _⟩ | exact ⟨rfl, _, Eq.trans (World.drewN_drewN _ _ _) (congrArg (World.drewN _) (Nat.add_assoc _ _ _))⟩)) | (go_at_call 47; (with_reducible refine (scan_Edit.calls kj5 a0 a2 a3 a4 t595 t596 _ A14.out).mono ?_); rintro e w' ⟨rfl, ⟨nd, rfl⟩⟩; (try first | exact ⟨rfl, _, World.drewN_drewN _ _ _⟩ | exact ⟨rfl, _, Eq.trans (World.drewN_drewN _ _ _) (congrArg (World.drewN _) (Nat.add_assoc _ _ _))⟩)) | (go_at_call 16; (with_reducible refine (qanatlaw03_sanity.calls  true _ (TabOK.of_below hT (by repeat (first | (with_reducible first | exact HB.out | apply below_alloc | apply pw_below_drewN | apply below_drew1) | exact HB.out))) A16.out).mono ?_); rintro e w31 ⟨rfl, hb⟩; have n0_ := Aside0.mk (Kd.R_below (by (with_reducible repeat (first | apply Kd.R_alloc | apply Kd.R_drewN | apply Kd.R_drew)); exact HO591.out) hb); have n1_ := Aside0.mk (below_step (by repeat (first | (with_reducible first | exact HB.out | apply below_alloc | apply pw_below_drewN | apply below_drew1) | exact HB.out)) hb); clear HO591; clear HB; have HO591 := n0_; have HB := n1_; clear n0_ n1_; (try clear hb); (try clear hb2); (try clear hk); (try clear hi); obtain ⟨Ao32, co32, eo32⟩ := Kd.R_slice HO591.out; subst eo32)); try go_wp2_with (first | (go_at_call 46; (with_reducible refine (scan_Lines.calls kj5 a0 t588 t589 _ (TabOK.of_below hT (by repeat (first | (with_reducible first | exact HB.out | apply below_alloc | apply pw_below_drewN | apply below_drew1) | exact HB.out))) A12.out).mono ?_); rintro e w30 ⟨v590, rfl, ho0, hb⟩; have n0_ := Aside0.mk (Kd.R_lower ho0 (below_size (by repeat (first | (with_reducible first | exact HB.out | apply below_alloc | apply pw_below_drewN | apply below_drew1) | exact HB.out)))); have n1_ := Aside0.mk (below_step (by repeat (first | (with_reducible first | exact HB.out | apply below_alloc | apply pw_below_drewN | apply below_drew1) | exact HB.out)) hb); clear HB; have HO591 := n0_; have HB := n1_; clear n0_ n1_; (try clear hb); (try clear hb2); (try clear hk); (try clear hi); (try clear ho0)) | (go_at_call 45; (with_reducible refine (scan_Place.calls kj5 a0 a1 t592 t593 t594 _ A13.out).mono ?_); rintro e w' ⟨rfl, ⟨nd, rfl⟩⟩; (try first | exact ⟨rfl, _, World.drewN_drewN _ _ _⟩ | exact ⟨rfl, _, Eq.trans (World.drewN_drewN _ _ _) (congrArg (World.drewN _) (Nat.add_assoc _ _ _))⟩)) | (go_at_call 47; (with_reducible refine (scan_Edit.calls kj5 a0 a2 a3 a4 t595 t596 _ A14.out).mono ?_); rintro e w' ⟨rfl, ⟨nd, rfl⟩⟩; (try first | exact ⟨rfl, _, World.drewN_drewN _ _ _⟩ | exact ⟨rfl, _, Eq.trans (World.drewN_drewN _ _ _) (congrArg (World.drewN _) (Nat.add_assoc _ _ _))⟩)) | (go_at_call 16; (with_reducible refine (qanatlaw03_sanity.calls  true _ (TabOK.of_below hT (by repeat (first | (with_reducible first | exact HB.out | apply below_alloc | apply pw_below_drewN | apply below_drew1) | exact HB.out))) A16.out).mono ?_); rintro e w31 ⟨rfl, hb⟩; have n0_ := Aside0.mk (Kd.R_below (by (with_reducible repeat (first | apply Kd.R_alloc | apply Kd.R_drewN | apply Kd.R_drew)); exact HO591.out) hb); have n1_ := Aside0.mk (below_step (by repeat (first | (with_reducible first | exact HB.out | apply below_alloc | apply pw_below_drewN | apply below_drew1) | exact HB.out)) hb); clear HO591; clear HB; have HO591 := n0_; have HB := n1_; clear n0_ n1_; (try clear hb); (try clear hb2); (try clear hk); (try clear hi); obtain ⟨Ao32, co32, eo32⟩ := Kd.R_slice HO591.out; subst eo32)))
                      go_ret
                      exact ⟨by first | rfl | (simp [errW_none, errW_some] <;> rfl) | (simp [*, errW_none, errW_some] <;> rfl), by repeat (first | (with_reducible first | exact HB.out | apply below_alloc | apply pw_below_drewN | apply below_drew1) | exact HB.out)⟩
                  · rw [if_neg c21] at H
                    have c21b0 : ((t588.length : Int) == 0) = false := beq_eq_false_iff_ne.mpr c21
                    have c21b1 : ((t588.length : Int) != 0) = true := bne_iff_ne.mpr c21
                    have c21b2 : ¬ (t588 = []) := fun h_ => c21 (by rw [h_]; rfl)
                    obtain rfl := Option.some.inj H
                    go_wp2_with (first | (go_at_call 46; (with_reducible refine (scan_Lines.calls kj5 a0 t588 t589 _ (TabOK.of_below hT (by repeat (first | (with_reducible first | exact HB.out | apply below_alloc | apply pw_below_drewN | apply below_drew1) | exact HB.out))) A12.out).mono ?_); rintro e w33 ⟨v590, rfl, ho0, hb⟩; have n0_ := Aside0.mk (Kd.R_lower ho0 (below_size (by repeat (first | (with_reducible first | exact HB.out | apply below_alloc | apply pw_below_drewN | apply below_drew1) | exact HB.out)))); have n1_ := Aside0.mk (below_step (by repeat (first | (with_reducible first | exact HB.out | apply below_alloc | apply pw_below_drewN | apply below_drew1) | exact HB.out)) hb); clear HB; have HO591 := n0_; have HB := n1_; clear n0_ n1_; (try clear hb); (try clear hb2); (try clear hk); (try clear hi); (try clear ho0)) | (go_at_call 45; (with_reducible refine (scan_Place.calls kj5 a0 a1 t592 t593 t594 _ A13.out).mono ?_); rintro e w' ⟨rfl, ⟨nd, rfl⟩⟩; (try first | exact ⟨rfl, _, World.drewN_drewN _ _ _⟩ | exact ⟨rfl, _, Eq.trans (World.drewN_drewN _ _ _) (congrArg (World.drewN _) (Nat.add_assoc _ _ _))⟩)) | (go_at_call 47; (with_reducible refine (scan_Edit.calls kj5 a0 a2 a3 a4 t595 t596 _ A14.out).mono ?_); rintro e w' ⟨rfl, ⟨nd, rfl⟩⟩; (try first | exact ⟨rfl, _, World.drewN_drewN _ _ _⟩ | exact ⟨rfl, _, Eq.trans (World.drewN_drewN _ _ _) (congrArg (World.drewN _) (Nat.add_assoc _ _ _))⟩)) | (go_at_call 16; (with_reducible refine (qanatlaw03_sanity.calls  true _ (TabOK.of_below hT (by repeat (first | (with_reducible first | exact HB.out | apply below_alloc | apply pw_below_drewN | apply below_drew1) | exact HB.out))) A16.out).mono ?_); rintro e w34 ⟨rfl, hb⟩; have n0_ := Aside0.mk (Kd.R_below (by (with_reducible repeat (first | apply Kd.R_alloc | apply Kd.R_drewN | apply Kd.R_drew)); exact HO591.out) hb); have n1_ := Aside0.mk (below_step (by repeat (first | (with_reducible first | exact HB.out | apply below_alloc | apply pw_below_drewN | apply below_drew1) | exact HB.out)) hb); clear HO591; clear HB; have HO591 := n0_; have HB := n1_; clear n0_ n1_; (try clear hb); (try clear hb2); (try clear hk); (try clear hi); obtain ⟨Ao35, co35, eo35⟩ := Kd.R_slice HO591.out; subst eo35))
                    repeat (go_quiet (first | (go_at_call 46; (with_reducible refine (scan_Lines.calls kj5 a0 t588 t589 _ (TabOK.of_below hT (by repeat (first | (with_reducible first | exact HB.out | apply below_alloc | apply pw_below_drewN | apply below_drew1) | exact HB.out))) A12.out).mono ?_); rintro e w33 ⟨v590, rfl, ho0, hb⟩; have n0_ := Aside0.mk (Kd.R_lower ho0 (below_size (by repeat (first | (with_reducible first | exact HB.out | apply below_alloc | apply pw_below_drewN | apply below_drew1) | exact HB.out)))); have n1_ := Aside0.mk (below_step (by repeat (first | (with_reducible first | exact HB.out | apply below_alloc | apply pw_below_drewN | apply below_drew1) | exact HB.out)) hb); clear HB; have HO591 := n0_; have HB := n1_; clear n0_ n1_; (try clear hb); (try clear hb2); (try clear hk); (try clear hi); (try clear ho0)) | (go_at_call 45; (with_reducible refine (scan_Place.calls kj5 a0 a1 t592 t593 t594 _ A13.out).mono ?_); rintro e w' ⟨rfl, ⟨nd, rfl⟩⟩; (try first | exact ⟨rfl, _, World.drewN_drewN _ _ _⟩ | exact ⟨rfl, _, Eq.trans (World.drewN_drewN _ _ _) (congrArg (World.drewN _) (Nat.add_assoc _ _ _))⟩)) | (go_at_call 47; (with_reducible refine (scan_Edit.calls kj5 a0 a2 a3 a4 t595 t596 _ A14.out).mono ?_); rintro e w' ⟨rfl, ⟨nd, rfl⟩⟩; (try first | exact ⟨rfl, _, World.drewN_drewN _ _ _⟩ | exact ⟨rfl, _, Eq.trans (World.drewN_drewN _ _ _) (congrArg (World.drewN _) (Nat.add_assoc _ _ _))⟩)) | (go_at_call 16; (with_reducible refine (qanatlaw03_sanity.calls  true _ (TabOK.of_below hT (by repeat (first | (with_reducible first | exact HB.out | apply below_alloc | apply pw_below_drewN | apply below_drew1) | exact HB.out))) A16.out).mono ?_); rintro e w34 ⟨rfl, hb⟩; have n0_ := Aside0.mk (Kd.R_below (by (with_reducible repeat (first | apply Kd.R_alloc | apply Kd.R_drewN | apply Kd.R_drew)); exact HO591.out) hb); have n1_ := Aside0.mk (below_step (by repeat (first | (with_reducible first | exact HB.out | apply below_alloc | apply pw_below_drewN | apply below_drew1) | exact HB.out)) hb); clear HO591; clear HB; have HO591 := n0_; have HB := n1_; clear n0_ n1_; (try clear hb); (try clear hb2); (try clear hk); (try clear hi); obtain ⟨Ao35, co35, eo35⟩ := Kd.R_slice HO591.out; subst eo35)); try go_wp2_with (first | (go_at_call 46; (with_reducible refine (scan_Lines.calls kj5 a0 t588 t589 _ (TabOK.of_below hT (by repeat (first | (with_reducible first | exact HB.out | apply below_alloc | apply pw_below_drewN | apply below_drew1) | exact HB.out))) A12.out).mono ?_); rintro e w33 ⟨v590, rfl, ho0, hb⟩; have n0_ := Aside0.mk (Kd.R_lower ho0 (below_size (by repeat (first | (with_reducible first | exact HB.out | apply below_alloc | apply pw_below_drewN | apply below_drew1) | exact HB.out)))); have n1_ := Aside0.mk (below_step (by repeat (first | (with_reducible first | exact HB.out | apply below_alloc | apply pw_below_drewN | apply below_drew1) | exact HB.out)) hb); clear HB; have HO591 := n0_; have HB := n1_; clear n0_ n1_; (try clear hb); (try clear hb2); (try clear hk); (try clear hi); (try clear ho0)) | (go_at_call 45; (with_reducible refine (scan_Place.calls kj5 a0 a1 t592 t593 t594 _ A13.out).mono ?_); rintro e w' ⟨rfl, ⟨nd, rfl⟩⟩; (try first | exact ⟨rfl, _, World.drewN_drewN _ _ _⟩ | exact ⟨rfl, _, Eq.trans (World.drewN_drewN _ _ _) (congrArg (World.drewN _) (Nat.add_assoc _ _ _))⟩)) | (go_at_call 47; (with_reducible refine (scan_Edit.calls kj5 a0 a2 a3 a4 t595 t596 _ A14.out).mono ?_); rintro e w' ⟨rfl, ⟨nd, rfl⟩⟩; (try first | exact ⟨rfl, _, World.drewN_drewN _ _ _⟩ | exact ⟨rfl, _, Eq.trans (World.drewN_drewN _ _ _) (congrArg (World.drewN _) (Nat.add_assoc _ _ _))⟩)) | (go_at_call 16; (with_reducible refine (qanatlaw03_sanity.calls  true _ (TabOK.of_below hT (by repeat (first | (with_reducible first | exact HB.out | apply below_alloc | apply pw_below_drewN | apply below_drew1) | exact HB.out))) A16.out).mono ?_); rintro e w34 ⟨rfl, hb⟩; have n0_ := Aside0.mk (Kd.R_below (by (with_reducible repeat (first | apply Kd.R_alloc | apply Kd.R_drewN | apply Kd.R_drew)); exact HO591.out) hb); have n1_ := Aside0.mk (below_step (by repeat (first | (with_reducible first | exact HB.out | apply below_alloc | apply pw_below_drewN | apply below_drew1) | exact HB.out)) hb); clear HO591; clear HB; have HO591 := n0_; have HB := n1_; clear n0_ n1_; (try clear hb); (try clear hb2); (try clear hk); (try clear hi); obtain ⟨Ao35, co35, eo35⟩ := Kd.R_slice HO591.out; subst eo35)))
                    go_ret
                    exact ⟨by first | rfl | (simp [errW_none, errW_some] <;> rfl) | (simp [*, errW_none, errW_some] <;> rfl), by repeat (first | (with_reducible first | exact HB.out | apply below_alloc | apply pw_below_drewN | apply below_drew1) | exact HB.out)⟩
                · rw [if_neg c20] at H
                  have c20b0 : (t596 == 3) = false := beq_eq_false_iff_ne.mpr c20
                  have c20b1 : (t596 != 3) = true := bne_iff_ne.mpr c20
                  obtain rfl := Option.some.inj H
                  go_wp2_with (first | (go_at_call 46; (with_reducible refine (scan_Lines.calls kj5 a0 t588 t589 _ (TabOK.of_below hT (by repeat (first | (with_reducible first | exact HB.out | apply below_alloc | apply pw_below_drewN | apply below_drew1) | exact HB.out))) A12.out).mono ?_); rintro e w36 ⟨v590, rfl, ho0, hb⟩; have n0_ := Aside0.mk (Kd.R_lower ho0 (below_size (by repeat (first | (with_reducible first | exact HB.out | apply below_alloc | apply pw_below_drewN | apply below_drew1) | exact HB.out)))); have n1_ := Aside0.mk (below_step (by repeat (first | (with_reducible first | exact HB.out | apply below_alloc | apply pw_below_drewN | apply below_drew1) | exact HB.out)) hb); clear HB; have HO591 := n0_; have HB := n1_; clear n0_ n1_; (try clear hb); (try clear hb2); (try clear hk); (try clear hi); (try clear ho0)) | (go_at_call 45; (with_reducible refine (scan_Place.calls kj5 a0 a1 t592 t593 t594 _ A13.out).mono ?_); rintro e w' ⟨rfl, ⟨nd, rfl⟩⟩; (try first | exact ⟨rfl, _, World.drewN_drewN _ _ _⟩ | exact ⟨rfl, _, Eq.trans (World.drewN_drewN _ _ _) (congrArg (World.drewN _) (Nat.add_assoc _ _ _))⟩)) | (go_at_call 47; (with_reducible refine (scan_Edit.calls kj5 a0 a2 a3 a4 t595 t596 _ A14.out).mono ?_); rintro e w' ⟨rfl, ⟨nd, rfl⟩⟩; (try first | exact ⟨rfl, _, World.drewN_drewN _ _ _⟩ | exact ⟨rfl, _, Eq.trans (World.drewN_drewN _ _ _) (congrArg (World.drewN _) (Nat.add_assoc _ _ _))⟩)) | (go_at_call 16; (with_reducible refine (qanatlaw03_sanity.calls  true _ (TabOK.of_below hT (by repeat (first | (with_reducible first | exact HB.out | apply below_alloc | apply pw_below_drewN | apply below_drew1) | exact HB.out))) A16.out).mono ?_); rintro e w37 ⟨rfl, hb⟩; have n0_ := Aside0.mk (Kd.R_below (by (with_reducible repeat (first | apply Kd.R_alloc | apply Kd.R_drewN | apply Kd.R_drew)); exact HO591.out) hb); have n1_ := Aside0.mk (below_step (by repeat (first | (with_reducible first | exact HB.out | apply below_alloc | apply pw_below_drewN | apply below_drew1) | exact HB.out)) hb); clear HO591; clear HB; have HO591 := n0_; have HB := n1_; clear n0_ n1_; (try clear hb); (try clear hb2); (try clear hk); (try clear hi)))
                  repeat (go_quiet (first | (go_at_call 46; (with_reducible refine (scan_Lines.calls kj5 a0 t588 t589 _ (TabOK.of_below hT (by repeat (first | (with_reducible first | exact HB.out | apply below_alloc | apply pw_below_drewN | apply below_drew1) | exact HB.out))) A12.out).mono ?_); rintro e w36 ⟨v590, rfl, ho0, hb⟩; have n0_ := Aside0.mk (Kd.R_lower ho0 (below_size (by repeat (first | (with_reducible first | exact HB.out | apply below_alloc | apply pw_below_drewN | apply below_drew1) | exact HB.out)))); have n1_ := Aside0.mk (below_step (by repeat (first | (with_reducible first | exact HB.out | apply below_alloc | apply pw_below_drewN | apply below_drew1) | exact HB.out)) hb); clear HB; have HO591 := n0_; have HB := n1_; clear n0_ n1_; (try clear hb); (try clear hb2); (try clear hk); (try clear hi); (try clear ho0)) | (go_at_call 45; (with_reducible refine (scan_Place.calls kj5 a0 a1 t592 t593 t594 _ A13.out).mono ?_); rintro e w' ⟨rfl, ⟨nd, rfl⟩⟩; (try first | exact ⟨rfl, _, World.drewN_drewN _ _ _⟩ | exact ⟨rfl, _, Eq.trans (World.drewN_drewN _ _ _) (congrArg (World.drewN _) (Nat.add_assoc _ _ _))⟩)) | (go_at_call 47; (with_reducible refine (scan_Edit.calls kj5 a0 a2 a3 a4 t595 t596 _ A14.out).mono ?_); rintro e w' ⟨rfl, ⟨nd, rfl⟩⟩; (try first | exact ⟨rfl, _, World.drewN_drewN _ _ _⟩ | exact ⟨rfl, _, Eq.trans (World.drewN_drewN _ _ _) (congrArg (World.drewN _) (Nat.add_assoc _ _ _))⟩)) | (go_at_call 16; (with_reducible refine (qanatlaw03_sanity.calls  true _ (TabOK.of_below hT (by repeat (first | (with_reducible first | exact HB.out | apply below_alloc | apply pw_below_drewN | apply below_drew1) | exact HB.out))) A16.out).mono ?_); rintro e w37 ⟨rfl, hb⟩; have n0_ := Aside0.mk (Kd.R_below (by (with_reducible repeat (first | apply Kd.R_alloc | apply Kd.R_drewN | apply Kd.R_drew)); exact HO591.out) hb); have n1_ := Aside0.mk (below_step (by repeat (first | (with_reducible first | exact HB.out | apply below_alloc | apply pw_below_drewN | apply below_drew1) | exact HB.out)) hb); clear HO591; clear HB; have HO591 := n0_; have HB := n1_; clear n0_ n1_; (try clear hb); (try clear hb2); (try clear hk); (try clear hi))); try go_wp2_with (first | (go_at_call 46; (with_reducible refine (scan_Lines.calls kj5 a0 t588 t589 _ (TabOK.of_below hT (by repeat (first | (with_reducible first | exact HB.out | apply below_alloc | apply pw_below_drewN | apply below_drew1) | exact HB.out))) A12.out).mono ?_); rintro e w36 ⟨v590, rfl, ho0, hb⟩; have n0_ := Aside0.mk (Kd.R_lower ho0 (below_size (by repeat (first | (with_reducible first | exact HB.out | apply below_alloc | apply pw_below_drewN | apply below_drew1) | exact HB.out)))); have n1_ := Aside0.mk (below_step (by repeat (first | (with_reducible first | exact HB.out | apply below_alloc | apply pw_below_drewN | apply below_drew1) | exact HB.out)) hb); clear HB; have HO591 := n0_; have HB := n1_; clear n0_ n1_; (try clear hb); (try clear hb2); (try clear hk); (try clear hi); (try clear ho0)) | (go_at_call 45; (with_reducible refine (scan_Place.calls kj5 a0 a1 t592 t593 t594 _ A13.out).mono ?_); rintro e w' ⟨rfl, ⟨nd, rfl⟩⟩; (try first | exact ⟨rfl, _, World.drewN_drewN _ _ _⟩ | exact ⟨rfl, _, Eq.trans (World.drewN_drewN _ _ _) (congrArg (World.drewN _) (Nat.add_assoc _ _ _))⟩)) | (go_at_call 47; (with_reducible refine (scan_Edit.calls kj5 a0 a2 a3 a4 t595 t596 _ A14.out).mono ?_); rintro e w' ⟨rfl, ⟨nd, rfl⟩⟩; (try first | exact ⟨rfl, _, World.drewN_drewN _ _ _⟩ | exact ⟨rfl, _, Eq.trans (World.drewN_drewN _ _ _) (congrArg (World.drewN _) (Nat.add_assoc _ _ _))⟩)) | (go_at_call 16; (with_reducible refine (qanatlaw03_sanity.calls  true _ (TabOK.of_below hT (by repeat (first | (with_reducible first | exact HB.out | apply below_alloc | apply pw_below_drewN | apply below_drew1) | exact HB.out))) A16.out).mono ?_); rintro e w37 ⟨rfl, hb⟩; have n0_ := Aside0.mk (Kd.R_below (by (with_reducible repeat (first | apply Kd.R_alloc | apply Kd.R_drewN | apply Kd.R_drew)); exact HO591.out) hb); have n1_ := Aside0.mk (below_step (by repeat (first | (with_reducible first | exact HB.out | apply below_alloc | apply pw_below_drewN | apply below_drew1) | exact HB.out)) hb); clear HO591; clear HB; have HO591 := n0_; have HB := n1_; clear n0_ n1_; (try clear hb); (try clear hb2); (try clear hk); (try clear hi))))
                  go_ret
                  exact ⟨by first | rfl | (simp [errW_none, errW_some] <;> rfl) | (simp [*, errW_none, errW_some] <;> rfl), by repeat (first | (with_reducible first | exact HB.out | apply below_alloc | apply pw_below_drewN | apply below_drew1) | exact HB.out)⟩
              · rw [if_neg c19] at H
                have c19b0 : (t594 == 3) = false := beq_eq_false_iff_ne.mpr c19
                have c19b1 : (t594 != 3) = true := bne_iff_ne.mpr c19
                obtain rfl := Option.some.inj H
                go_wp2_with (first | (go_at_call 46; (with_reducible refine (scan_Lines.calls kj5 a0 t588 t589 _ (TabOK.of_below hT (by repeat (first | (with_reducible first | exact HB.out | apply below_alloc | apply pw_below_drewN | apply below_drew1) | exact HB.out))) A12.out).mono ?_); rintro e w38 ⟨v590, rfl, ho0, hb⟩; have n0_ := Aside0.mk (Kd.R_lower ho0 (below_size (by repeat (first | (with_reducible first | exact HB.out | apply below_alloc | apply pw_below_drewN | apply below_drew1) | exact HB.out)))); have n1_ := Aside0.mk (below_step (by repeat (first | (with_reducible first | exact HB.out | apply below_alloc | apply pw_below_drewN | apply below_drew1) | exact HB.out)) hb); clear HB; have HO591 := n0_; have HB := n1_; clear n0_ n1_; (try clear hb); (try clear hb2); (try clear hk); (try clear hi); (try clear ho0)) | (go_at_call 45; (with_reducible refine (scan_Place.calls kj5 a0 a1 t592 t593 t594 _ A13.out).mono ?_); rintro e w' ⟨rfl, ⟨nd, rfl⟩⟩; (try first | exact ⟨rfl, _, World.drewN_drewN _ _ _⟩ | exact ⟨rfl, _, Eq.trans (World.drewN_drewN _ _ _) (congrArg (World.drewN _) (Nat.add_assoc _ _ _))⟩)) | (go_at_call 47; (with_reducible refine (scan_Edit.calls kj5 a0 a2 a3 a4 t595 t596 _ A14.out).mono ?_); rintro e w' ⟨rfl, ⟨nd, rfl⟩⟩; (try first | exact ⟨rfl, _, World.drewN_drewN _ _ _⟩ | exact ⟨rfl, _, Eq.trans (World.drewN_drewN _ _ _) (congrArg (World.drewN _) (Nat.add_assoc _ _ _))⟩)) | (go_at_call 16; (with_reducible refine (qanatlaw03_sanity.calls  true _ (TabOK.of_below hT (by repeat (first | (with_reducible first | exact HB.out | apply below_alloc | apply pw_below_drewN | apply below_drew1) | exact HB.out))) A16.out).mono ?_); rintro e w39 ⟨rfl, hb⟩; have n0_ := Aside0.mk (Kd.R_below (by (with_reducible repeat (first | apply Kd.R_alloc | apply Kd.R_drewN | apply Kd.R_drew)); exact HO591.out) hb); have n1_ := Aside0.mk (below_step (by repeat (first | (with_reducible first | exact HB.out | apply below_alloc | apply pw_below_drewN | apply below_drew1) | exact HB.out)) hb); clear HO591; clear HB; have HO591 := n0_; have HB := n1_; clear n0_ n1_; (try clear hb); (try clear hb2); (try clear hk); (try clear hi)))
                repeat (go_quiet (first | (go_at_call 46; (with_reducible refine (scan_Lines.calls kj5 a0 t588 t589 _ (TabOK.of_below hT (by repeat (first | (with_reducible first | exact HB.out | apply below_alloc | apply pw_below_drewN | apply below_drew1) | exact HB.out))) A12.out).mono ?_); rintro e w38 ⟨v590, rfl, ho0, hb⟩; have n0_ := Aside0.mk (Kd.R_lower ho0 (below_size (by repeat (first | (with_reducible first | exact HB.out | apply below_alloc | apply pw_below_drewN | apply below_drew1) | exact HB.out)))); have n1_ := Aside0.mk (below_step (by repeat (first | (with_reducible first | exact HB.out | apply below_alloc | apply pw_below_drewN | apply below_drew1) | exact HB.out)) hb); clear HB; have HO591 := n0_; have HB := n1_; clear n0_ n1_; (try clear hb); (try clear hb2); (try clear hk); (try clear hi); (try clear ho0)) | (go_at_call 45; (with_reducible refine (scan_Place.calls kj5 a0 a1 t592 t593 t594 _ A13.out).mono ?_); rintro e w' ⟨rfl, ⟨nd, rfl⟩⟩; (try first | exact ⟨rfl, _, World.drewN_drewN _ _ _⟩ | exact ⟨rfl, _, Eq.trans (World.drewN_drewN _ _ _) (congrArg (World.drewN _) (Nat.add_assoc _ _ _))⟩)) | (go_at_call 47; (with_reducible refine (scan_Edit.calls kj5 a0 a2 a3 a4 t595 t596 _ A14.out).mono ?_); rintro e w' ⟨rfl, ⟨nd, rfl⟩⟩; (try first | exact ⟨rfl, _, World.drewN_drewN _ _ _⟩ | exact ⟨rfl, _, Eq.trans (World.drewN_drewN _ _ _) (congrArg (World.drewN _) (Nat.add_assoc _ _ _))⟩)) | (go_at_call 16; (with_reducible refine (qanatlaw03_sanity.calls  true _ (TabOK.of_below hT (by repeat (first | (with_reducible first | exact HB.out | apply below_alloc | apply pw_below_drewN | apply below_drew1) | exact HB.out))) A16.out).mono ?_); rintro e w39 ⟨rfl, hb⟩; have n0_ := Aside0.mk (Kd.R_below (by (with_reducible repeat (first | apply Kd.R_alloc | apply Kd.R_drewN | apply Kd.R_drew)); exact HO591.out) hb); have n1_ := Aside0.mk (below_step (by repeat (first | (with_reducible first | exact HB.out | apply below_alloc | apply pw_below_drewN | apply below_drew1) | exact HB.out)) hb); clear HO591; clear HB; have HO591 := n0_; have HB := n1_; clear n0_ n1_; (try clear hb); (try clear hb2); (try clear hk); (try clear hi))); try go_wp2_with (first | (go_at_call 46; (with_reducible refine (scan_Lines.calls kj5 a0 t588 t589 _ (TabOK.of_below hT (by repeat (first | (with_reducible first | exact HB.out | apply below_alloc | apply pw_below_drewN | apply below_drew1) | exact HB.out))) A12.out).mono ?_); rintro e w38 ⟨v590, rfl, ho0, hb⟩; have n0_ := Aside0.mk (Kd.R_lower ho0 (below_size (by repeat (first | (with_reducible first | exact HB.out | apply below_alloc | apply pw_below_drewN | apply below_drew1) | exact HB.out)))); have n1_ := Aside0.mk (below_step (by repeat (first | (with_reducible first | exact HB.out | apply below_alloc | apply pw_below_drewN | apply below_drew1) | exact HB.out)) hb); clear HB; have HO591 := n0_; have HB := n1_; clear n0_ n1_; (try clear hb); (try clear hb2); (try clear hk); (try clear hi); (try clear ho0)) | (go_at_call 45; (with_reducible refine (scan_Place.calls kj5 a0 a1 t592 t593 t594 _ A13.out).mono ?_); rintro e w' ⟨rfl, ⟨nd, rfl⟩⟩; (try first | exact ⟨rfl, _, World.drewN_drewN _ _ _⟩ | exact ⟨rfl, _, Eq.trans (World.drewN_drewN _ _ _) (congrArg (World.drewN _) (Nat.add_assoc _ _ _))⟩)) | (go_at_call 47; (with_reducible refine (scan_Edit.calls kj5 a0 a2 a3 a4 t595 t596 _ A14.out).mono ?_); rintro e w' ⟨rfl, ⟨nd, rfl⟩⟩; (try first | exact ⟨rfl, _, World.drewN_drewN _ _ _⟩ | exact ⟨rfl, _, Eq.trans (World.drewN_drewN _ _ _) (congrArg (World.drewN _) (Nat.add_assoc _ _ _))⟩)) | (go_at_call 16; (with_reducible refine (qanatlaw03_sanity.calls  true _ (TabOK.of_below hT (by repeat (first | (with_reducible first | exact HB.out | apply below_alloc | apply pw_below_drewN | apply below_drew1) | exact HB.out))) A16.out).mono ?_); rintro e w39 ⟨rfl, hb⟩; have n0_ := Aside0.mk (Kd.R_below (by (with_reducible repeat (first | apply Kd.R_alloc | apply Kd.R_drewN | apply Kd.R_drew)); exact HO591.out) hb); have n1_ := Aside0.mk (below_step (by repeat (first | (with_reducible first | exact HB.out | apply below_alloc | apply pw_below_drewN | apply below_drew1) | exact HB.out)) hb); clear HO591; clear HB; have HO591 := n0_; have HB := n1_; clear n0_ n1_; (try clear hb); (try clear hb2); (try clear hk); (try clear hi))))
                go_ret
                exact ⟨by first | rfl | (simp [errW_none, errW_some] <;> rfl) | (simp [*, errW_none, errW_some] <;> rfl), by repeat (first | (with_reducible first | exact HB.out | apply below_alloc | apply pw_below_drewN | apply below_drew1) | exact HB.out)⟩
            · rw [if_neg c18] at H
              have c18b0 : (t589 == 3) = false := beq_eq_false_iff_ne.mpr c18
              have c18b1 : (t589 != 3) = true := bne_iff_ne.mpr c18
              obtain rfl := Option.some.inj H
              go_wp2_with (first | (go_at_call 46; (with_reducible refine (scan_Lines.calls kj5 a0 t588 t589 _ (TabOK.of_below hT (by repeat (first | (with_reducible first | exact HB.out | apply below_alloc | apply pw_below_drewN | apply below_drew1) | exact HB.out))) A12.out).mono ?_); rintro e w40 ⟨v590, rfl, ho0, hb⟩; have n0_ := Aside0.mk (Kd.R_lower ho0 (below_size (by repeat (first | (with_reducible first | exact HB.out | apply below_alloc | apply pw_below_drewN | apply below_drew1) | exact HB.out)))); have n1_ := Aside0.mk (below_step (by repeat (first | (with_reducible first | exact HB.out | apply below_alloc | apply pw_below_drewN | apply below_drew1) | exact HB.out)) hb); clear HB; have HO591 := n0_; have HB := n1_; clear n0_ n1_; (try clear hb); (try clear hb2); (try clear hk); (try clear hi); (try clear ho0)) | (go_at_call 45; (with_reducible refine (scan_Place.calls kj5 a0 a1 t592 t593 t594 _ A13.out).mono ?_); rintro e w' ⟨rfl, ⟨nd, rfl⟩⟩; (try first | exact ⟨rfl, _, World.drewN_drewN _ _ _⟩ | exact ⟨rfl, _, Eq.trans (World.drewN_drewN _ _ _) (congrArg (World.drewN _) (Nat.add_assoc _ _ _))⟩)) | (go_at_call 47; (with_reducible refine (scan_Edit.calls kj5 a0 a2 a3 a4 t595 t596 _ A14.out).mono ?_); rintro e w' ⟨rfl, ⟨nd, rfl⟩⟩; (try first | exact ⟨rfl, _, World.drewN_drewN _ _ _⟩ | exact ⟨rfl, _, Eq.trans (World.drewN_drewN _ _ _) (congrArg (World.drewN _) (Nat.add_assoc _ _ _))⟩)) | (go_at_call 16; (with_reducible refine (qanatlaw03_sanity.calls  true _ (TabOK.of_below hT (by repeat (first | (with_reducible first | exact HB.out | apply below_alloc | apply pw_below_drewN | apply below_drew1) | exact HB.out))) A16.out).mono ?_); rintro e w41 ⟨rfl, hb⟩; have n0_ := Aside0.mk (Kd.R_below (by (with_reducible repeat (first | apply Kd.R_alloc | apply Kd.R_drewN | apply Kd.R_drew)); exact HO591.out) hb); have n1_ := Aside0.mk (below_step (by repeat (first | (with_reducible first | exact HB.out | apply below_alloc | apply pw_below_drewN | apply below_drew1) | exact HB.out)) hb); clear HO591; clear HB; have HO591 := n0_; have HB := n1_; clear n0_ n1_; (try clear hb); (try clear hb2); (try clear hk); (try clear hi)))
              repeat (go_quiet (first | (go_at_call 46; (with_reducible refine (scan_Lines.calls kj5 a0 t588 t589 _ (TabOK.of_below hT (by repeat (first | (with_reducible first | exact HB.out | apply below_alloc | apply pw_below_drewN | apply below_drew1) | exact HB.out))) A12.out).mono ?_); rintro e w40 ⟨v590, rfl, ho0, hb⟩; have n0_ := Aside0.mk (Kd.R_lower ho0 (below_size (by repeat (first | (with_reducible first | exact HB.out | apply below_alloc | apply pw_below_drewN | apply below_drew1) | exact HB.out)))); have n1_ := Aside0.mk (below_step (by repeat (first | (with_reducible first | exact HB.out | apply below_alloc | apply pw_below_drewN | apply below_drew1) | exact HB.out)) hb); clear HB; have HO591 := n0_; have HB := n1_; clear n0_ n1_; (try clear hb); (try clear hb2); (try clear hk); (try clear hi); (try clear ho0)) | (go_at_call 45; (with_reducible refine (scan_Place.calls kj5 a0 a1 t592 t593 t594 _ A13.out).mono ?_); rintro e w' ⟨rfl, ⟨nd, rfl⟩⟩; (try first | exact ⟨rfl, _, World.drewN_drewN _ _ _⟩ | exact ⟨rfl, _, Eq.trans (World.drewN_drewN _ _ _) (congrArg (World.drewN _) (Nat.add_assoc _ _ _))⟩)) | (go_at_call 47; (with_reducible refine (scan_Edit.calls kj5 a0 a2 a3 a4 t595 t596 _ A14.out).mono ?_); rintro e w' ⟨rfl, ⟨nd, rfl⟩⟩; (try first | exact ⟨rfl, _, World.drewN_drewN _ _ _⟩ | exact ⟨rfl, _, Eq.trans (World.drewN_drewN _ _ _) (congrArg (World.drewN _) (Nat.add_assoc _ _ _))⟩)) | (go_at_call 16; (with_reducible refine (qanatlaw03_sanity.calls  true _ (TabOK.of_below hT (by repeat (first | (with_reducible first | exact HB.out | apply below_alloc | apply pw_below_drewN | apply below_drew1) | exact HB.out))) A16.out).mono ?_); rintro e w41 ⟨rfl, hb⟩; have n0_ := Aside0.mk (Kd.R_below (by (with_reducible repeat (first | apply Kd.R_alloc | apply Kd.R_drewN | apply Kd.R_drew)); exact HO591.out) hb); have n1_ := Aside0.mk (below_step (by repeat (first | (with_reducible first | exact HB.out | apply below_alloc | apply pw_below_drewN | apply below_drew1) | exact HB.out)) hb); clear HO591; clear HB; have HO591 := n0_; have HB := n1_; clear n0_ n1_; (try clear hb); (try clear hb2); (try clear hk); (try clear hi))); try go_wp2_with (first | (go_at_call 46; (with_reducible refine (scan_Lines.calls kj5 a0 t588 t589 _ (TabOK.of_below hT (by repeat (first | (with_reducible first | exact HB.out | apply below_alloc | apply pw_below_drewN | apply below_drew1) | exact HB.out))) A12.out).mono ?_); rintro e w40 ⟨v590, rfl, ho0, hb⟩; have n0_ := Aside0.mk (Kd.R_lower ho0 (below_size (by repeat (first | (with_reducible first | exact HB.out | apply below_alloc | apply pw_below_drewN | apply below_drew1) | exact HB.out)))); have n1_ := Aside0.mk (below_step (by repeat (first | (with_reducible first | exact HB.out | apply below_alloc | apply pw_below_drewN | apply below_drew1) | exact HB.out)) hb); clear HB; have HO591 := n0_; have HB := n1_; clear n0_ n1_; (try clear hb); (try clear hb2); (try clear hk); (try clear hi); (try clear ho0)) | (go_at_call 45; (with_reducible refine (scan_Place.calls kj5 a0 a1 t592 t593 t594 _ A13.out).mono ?_); rintro e w' ⟨rfl, ⟨nd, rfl⟩⟩; (try first | exact ⟨rfl, _, World.drewN_drewN _ _ _⟩ | exact ⟨rfl, _, Eq.trans (World.drewN_drewN _ _ _) (congrArg (World.drewN _) (Nat.add_assoc _ _ _))⟩)) | (go_at_call 47; (with_reducible refine (scan_Edit.calls kj5 a0 a2 a3 a4 t595 t596 _ A14.out).mono ?_); rintro e w' ⟨rfl, ⟨nd, rfl⟩⟩; (try first | exact ⟨rfl, _, World.drewN_drewN _ _ _⟩ | exact ⟨rfl, _, Eq.trans (World.drewN_drewN _ _ _) (congrArg (World.drewN _) (Nat.add_assoc _ _ _))⟩)) | (go_at_call 16; (with_reducible refine (qanatlaw03_sanity.calls  true _ (TabOK.of_below hT (by repeat (first | (with_reducible first | exact HB.out | apply below_alloc | apply pw_below_drewN | apply below_drew1) | exact HB.out))) A16.out).mono ?_); rintro e w41 ⟨rfl, hb⟩; have n0_ := Aside0.mk (Kd.R_below (by (with_reducible repeat (first | apply Kd.R_alloc | apply Kd.R_drewN | apply Kd.R_drew)); exact HO591.out) hb); have n1_ := Aside0.mk (below_step (by repeat (first | (with_reducible first | exact HB.out | apply below_alloc | apply pw_below_drewN | apply below_drew1) | exact HB.out)) hb); clear HO591; clear HB; have HO591 := n0_; have HB := n1_; clear n0_ n1_; (try clear hb); (try clear hb2); (try clear hk); (try clear hi))))
              go_ret
              exact ⟨by first | rfl | (simp [errW_none, errW_some] <;> rfl) | (simp [*, errW_none, errW_some] <;> rfl), by repeat (first | (with_reducible first | exact HB.out | apply below_alloc | apply pw_below_drewN | apply below_drew1) | exact HB.out)⟩
          · replace c17 := Bool.eq_false_iff.mpr c17
            subst c17
            have H1 : (some false) = some r := by rw [if_neg (show ¬ (false = true) by decide)] at H; exact H
            clear H
            have H := H1
            clear H1
            obtain rfl := Option.some.inj H
            go_wp2_with (first | (go_at_call 46; (with_reducible refine (scan_Lines.calls kj5 a0 t588 t589 _ (TabOK.of_below hT (by repeat (first | (with_reducible first | exact HB.out | apply below_alloc | apply pw_below_drewN | apply below_drew1) | exact HB.out))) A12.out).mono ?_); rintro e w42 ⟨v590, rfl, ho0, hb⟩; have n0_ := Aside0.mk (Kd.R_lower ho0 (below_size (by repeat (first | (with_reducible first | exact HB.out | apply below_alloc | apply pw_below_drewN | apply below_drew1) | exact HB.out)))); have n1_ := Aside0.mk (below_step (by repeat (first | (with_reducible first | exact HB.out | apply below_alloc | apply pw_below_drewN | apply below_drew1) | exact HB.out)) hb); clear HB; have HO591 := n0_; have HB := n1_; clear n0_ n1_; (try clear hb); (try clear hb2); (try clear hk); (try clear hi); (try clear ho0)) | (go_at_call 45; (with_reducible refine (scan_Place.calls kj5 a0 a1 t592 t593 t594 _ A13.out).mono ?_); rintro e w' ⟨rfl, ⟨nd, rfl⟩⟩; (try first | exact ⟨rfl, _, World.drewN_drewN _ _ _⟩ | exact ⟨rfl, _, Eq.trans (World.drewN_drewN _ _ _) (congrArg (World.drewN _) (Nat.add_assoc _ _ _))⟩)) | (go_at_call 47; (with_reducible refine (scan_Edit.calls kj5 a0 a2 a3 a4 t595 t596 _ A14.out).mono ?_); rintro e w' ⟨rfl, ⟨nd, rfl⟩⟩; (try first | exact ⟨rfl, _, World.drewN_drewN _ _ _⟩ | exact ⟨rfl, _, Eq.trans (World.drewN_drewN _ _ _) (congrArg (World.drewN _) (Nat.add_assoc _ _ _))⟩)) | (go_at_call 16; (with_reducible refine (qanatlaw03_sanity.calls  false _ (TabOK.of_below hT (by repeat (first | (with_reducible first | exact HB.out | apply below_alloc | apply pw_below_drewN | apply below_drew1) | exact HB.out))) A16.out).mono ?_); rintro e w43 ⟨rfl, hb⟩; have n0_ := Aside0.mk (Kd.R_below (by (with_reducible repeat (first | apply Kd.R_alloc | apply Kd.R_drewN | apply Kd.R_drew)); exact HO591.out) hb); have n1_ := Aside0.mk (below_step (by repeat (first | (with_reducible first | exact HB.out | apply below_alloc | apply pw_below_drewN | apply below_drew1) | exact HB.out)) hb); clear HO591; clear HB; have HO591 := n0_; have HB := n1_; clear n0_ n1_; (try clear hb); (try clear hb2); (try clear hk); (try clear hi)))
            repeat (go_quiet (first | (go_at_call 46; (with_reducible refine (scan_Lines.calls kj5 a0 t588 t589 _ (TabOK.of_below hT (by repeat (first | (with_reducible first | exact HB.out | apply below_alloc | apply pw_below_drewN | apply below_drew1) | exact HB.out))) A12.out).mono ?_); rintro e w42 ⟨v590, rfl, ho0, hb⟩; have n0_ := Aside0.mk (Kd.R_lower ho0 (below_size (by repeat (first | (with_reducible first | exact HB.out | apply below_alloc | apply pw_below_drewN | apply below_drew1) | exact HB.out)))); have n1_ := Aside0.mk (below_step (by repeat (first | (with_reducible first | exact HB.out | apply below_alloc | apply pw_below_drewN | apply below_drew1) | exact HB.out)) hb); clear HB; have HO591 := n0_; have HB := n1_; clear n0_ n1_; (try clear hb); (try clear hb2); (try clear hk); (try clear hi); (try clear ho0)) | (go_at_call 45; (with_reducible refine (scan_Place.calls kj5 a0 a1 t592 t593 t594 _ A13.out).mono ?_); rintro e w' ⟨rfl, ⟨nd, rfl⟩⟩; (try first | exact ⟨rfl, _, World.drewN_drewN _ _ _⟩ | exact ⟨rfl, _, Eq.trans (World.drewN_drewN _ _ _) (congrArg (World.drewN _) (Nat.add_assoc _ _ _))⟩)) | (go_at_call 47; (with_reducible refine (scan_Edit.calls kj5 a0 a2 a3 a4 t595 t596 _ A14.out).mono ?_); rintro e w' ⟨rfl, ⟨nd, rfl⟩⟩; (try first | exact ⟨rfl, _, World.drewN_drewN _ _ _⟩ | exact ⟨rfl, _, Eq.trans (World.drewN_drewN _ _ _) (congrArg (World.drewN _) (Nat.add_assoc _ _ _))⟩)) | (go_at_call 16; (with_reducible refine (qanatlaw03_sanity.calls  false _ (TabOK.of_below hT (by repeat (first | (with_reducible first | exact HB.out | apply below_alloc | apply pw_below_drewN | apply below_drew1) | exact HB.out))) A16.out).mono ?_); rintro e w43 ⟨rfl, hb⟩; have n0_ := Aside0.mk (Kd.R_below (by (with_reducible repeat (first | apply Kd.R_alloc | apply Kd.R_drewN | apply Kd.R_drew)); exact HO591.out) hb); have n1_ := Aside0.mk (below_step (by repeat (first | (with_reducible first | exact HB.out | apply below_alloc | apply pw_below_drewN | apply below_drew1) | exact HB.out)) hb); clear HO591; clear HB; have HO591 := n0_; have HB := n1_; clear n0_ n1_; (try clear hb); (try clear hb2); (try clear hk); (try clear hi))); try go_wp2_with (first | (go_at_call 46; (with_reducible refine (scan_Lines.calls kj5 a0 t588 t589 _ (TabOK.of_below hT (by repeat (first | (with_reducible first | exact HB.out | apply below_alloc | apply pw_below_drewN | apply below_drew1) | exact HB.out))) A12.out).mono ?_); rintro e w42 ⟨v590, rfl, ho0, hb⟩; have n0_ := Aside0.mk (Kd.R_lower ho0 (below_size (by repeat (first | (with_reducible first | exact HB.out | apply below_alloc | apply pw_below_drewN | apply below_drew1) | exact HB.out)))); have n1_ := Aside0.mk (below_step (by repeat (first | (with_reducible first | exact HB.out | apply below_alloc | apply pw_below_drewN | apply below_drew1) | exact HB.out)) hb); clear HB; have HO591 := n0_; have HB := n1_; clear n0_ n1_; (try clear hb); (try clear hb2); (try clear hk); (try clear hi); (try clear ho0)) | (go_at_call 45; (with_reducible refine (scan_Place.calls kj5 a0 a1 t592 t593 t594 _ A13.out).mono ?_); rintro e w' ⟨rfl, ⟨nd, rfl⟩⟩; (try first | exact ⟨rfl, _, World.drewN_drewN _ _ _⟩ | exact ⟨rfl, _, Eq.trans (World.drewN_drewN _ _ _) (congrArg (World.drewN _) (Nat.add_assoc _ _ _))⟩)) | (go_at_call 47; (with_reducible refine (scan_Edit.calls kj5 a0 a2 a3 a4 t595 t596 _ A14.out).mono ?_); rintro e w' ⟨rfl, ⟨nd, rfl⟩⟩; (try first | exact ⟨rfl, _, World.drewN_drewN _ _ _⟩ | exact ⟨rfl, _, Eq.trans (World.drewN_drewN _ _ _) (congrArg (World.drewN _) (Nat.add_assoc _ _ _))⟩)) | (go_at_call 16; (with_reducible refine (qanatlaw03_sanity.calls  false _ (TabOK.of_below hT (by repeat (first | (with_reducible first | exact HB.out | apply below_alloc | apply pw_below_drewN | apply below_drew1) | exact HB.out))) A16.out).mono ?_); rintro e w43 ⟨rfl, hb⟩; have n0_ := Aside0.mk (Kd.R_below (by (with_reducible repeat (first | apply Kd.R_alloc | apply Kd.R_drewN | apply Kd.R_drew)); exact HO591.out) hb); have n1_ := Aside0.mk (below_step (by repeat (first | (with_reducible first | exact HB.out | apply below_alloc | apply pw_below_drewN | apply below_drew1) | exact HB.out)) hb); clear HO591; clear HB; have HO591 := n0_; have HB := n1_; clear n0_ n1_; (try clear hb); (try clear hb2); (try clear hk); (try clear hi))))
            go_ret
            exact ⟨by first | rfl | (simp [errW_none, errW_some] <;> rfl) | (simp [*, errW_none, errW_some] <;> rfl), by repeat (first | (with_reducible first | exact HB.out | apply below_alloc | apply pw_below_drewN | apply below_drew1) | exact HB.out)⟩
        · rw [if_neg c15] at H
          have c15b0 : decide (20000 < (a0.size : Int)) = false := decide_eq_false c15
          have c15b1 : decide (20000 < a0.size) = false := decide_eq_false (by omega)
          clear c15
          replace H := Option.bind_eq_some_iff.mp H
          obtain ⟨t598, A440, H⟩ := H
          replace H : ((qanatref03_SameStrings.f kj5 t588 t598).bind fun t601 => (if t589 = 0 then (qanatlaw03_ScanLines.j1 kj5 a0 a1 a2 a3 a4 t592 t593 t594 t595 t596 (!t601)) else (qanatlaw03_ScanLines.j1 kj5 a0 a1 a2 a3 a4 t592 t593 t594 t595 t596 true))) = some r := H
          have A44 := Aside0.mk A440
          clear A440
          replace H := Option.bind_eq_some_iff.mp H
          obtain ⟨t601, A450, H⟩ := H
          replace H : (if t589 = 0 then (qanatlaw03_ScanLines.j1 kj5 a0 a1 a2 a3 a4 t592 t593 t594 t595 t596 (!t601)) else (qanatlaw03_ScanLines.j1 kj5 a0 a1 a2 a3 a4 t592 t593 t594 t595 t596 true)) = some r := H
          have A45 := Aside0.mk A450
          clear A450
          have HC46 := Aside0.mk H
          clear H
          go_upto_region 9 with (first | (go_at_call 46; (with_reducible refine (scan_Lines.calls kj5 a0 t588 t589 _ (TabOK.of_below hT (by repeat (first | (with_reducible first | exact HB.out | apply below_alloc | apply pw_below_drewN | apply below_drew1) | exact HB.out))) A12.out).mono ?_); rintro e w47 ⟨v590, rfl, ho0, hb⟩; have n0_ := Aside0.mk (Kd.R_lower ho0 (below_size (by repeat (first | (with_reducible first | exact HB.out | apply below_alloc | apply pw_below_drewN | apply below_drew1) | exact HB.out)))); have n1_ := Aside0.mk (below_step (by repeat (first | (with_reducible first | exact HB.out | apply below_alloc | apply pw_below_drewN | apply below_drew1) | exact HB.out)) hb); clear HB; have HO591 := n0_; have HB := n1_; clear n0_ n1_; (try clear hb); (try clear hb2); (try clear hk); (try clear hi); (try clear ho0)) | (go_at_call 45; (with_reducible refine (scan_Place.calls kj5 a0 a1 t592 t593 t594 _ A13.out).mono ?_); rintro e w' ⟨rfl, ⟨nd, rfl⟩⟩; (try first | exact ⟨rfl, _, World.drewN_drewN _ _ _⟩ | exact ⟨rfl, _, Eq.trans (World.drewN_drewN _ _ _) (congrArg (World.drewN _) (Nat.add_assoc _ _ _))⟩)) | (go_at_call 47; (with_reducible refine (scan_Edit.calls kj5 a0 a2 a3 a4 t595 t596 _ A14.out).mono ?_); rintro e w' ⟨rfl, ⟨nd, rfl⟩⟩; (try first | exact ⟨rfl, _, World.drewN_drewN _ _ _⟩ | exact ⟨rfl, _, Eq.trans (World.drewN_drewN _ _ _) (congrArg (World.drewN _) (Nat.add_assoc _ _ _))⟩)) | (go_at_call 48; (with_reducible refine (qanatref03_Lines.calls kj5 a0 t598 _ A44.out).mono ?_); rintro e w48 ⟨v599, rfl, ho0, hb⟩; have n0_ := Aside0.mk (Kd.R_elder' (by (with_reducible repeat (first | apply Kd.R_alloc | apply Kd.R_drewN | apply Kd.R_drew)); exact HO591.out) (Kd.R_base ho0) hb); have n1_ := Aside0.mk (Kd.R_lower (Kd.R_new' ho0 (Kd.R_lt (by (with_reducible repeat (first | apply Kd.R_alloc | apply Kd.R_drewN | apply Kd.R_drew)); exact HO591.out))) (below_size (by repeat (first | (with_reducible first | exact HB.out | apply below_alloc | apply pw_below_drewN | apply below_drew1) | exact HB.out)))); have n2_ := Aside0.mk (below_step (by repeat (first | (with_reducible first | exact HB.out | apply below_alloc | apply pw_below_drewN | apply below_drew1) | exact HB.out)) hb); clear HO591; clear HB; have HO591 := n0_; have HO600 := n1_; have HB := n2_; clear n0_ n1_ n2_; (try clear hb); (try clear hb2); (try clear hk); (try clear hi); (try clear ho0); obtain ⟨Ao49, co49, eo49⟩ := Kd.R_slice HO591.out; subst eo49; obtain ⟨Ao50, co50, eo50⟩ := Kd.R_slice HO600.out; subst eo50) | (go_at_call 29; (with_reducible refine (qanatref03_SameStrings.calls kj5 _ _ t588 _ _ t598 t601 _ ?side1 ?side2 ?side3 ?side4 A45.out).mono ?_); (case side1 => repeat (first | exact (Kd.R_reads' HO591.out).2.2 | (with_reducible refine Kd.C_alloc ?_ _) | (with_reducible refine Kd.C_drewN ?_ _) | (with_reducible refine Kd.C_drew ?_))); (case side2 => exact (Kd.R_reads' HO591.out).2.1); (case side3 => repeat (first | exact (Kd.R_reads' HO600.out).2.2 | (with_reducible refine Kd.C_alloc ?_ _) | (with_reducible refine Kd.C_drewN ?_ _) | (with_reducible refine Kd.C_drew ?_))); (case side4 => exact (Kd.R_reads' HO600.out).2.1); rintro e w' ⟨rfl, ⟨nd, rfl⟩⟩; (try first | exact ⟨rfl, _, World.drewN_drewN _ _ _⟩ | exact ⟨rfl, _, Eq.trans (World.drewN_drewN _ _ _) (congrArg (World.drewN _) (Nat.add_assoc _ _ _))⟩)))
          repeat (go_quiet (first | (go_at_call 46; (with_reducible refine (scan_Lines.calls kj5 a0 t588 t589 _ (TabOK.of_below hT (by repeat (first | (with_reducible first | exact HB.out | apply below_alloc | apply pw_below_drewN | apply below_drew1) | exact HB.out))) A12.out).mono ?_); rintro e w47 ⟨v590, rfl, ho0, hb⟩; have n0_ := Aside0.mk (Kd.R_lower ho0 (below_size (by repeat (first | (with_reducible first | exact HB.out | apply below_alloc | apply pw_below_drewN | apply below_drew1) | exact HB.out)))); have n1_ := Aside0.mk (below_step (by repeat (first | (with_reducible first | exact HB.out | apply below_alloc | apply pw_below_drewN | apply below_drew1) | exact HB.out)) hb); clear HB; have HO591 := n0_; have HB := n1_; clear n0_ n1_; (try clear hb); (try clear hb2); (try clear hk); (try clear hi); (try clear ho0)) | (go_at_call 45; (with_reducible refine (scan_Place.calls kj5 a0 a1 t592 t593 t594 _ A13.out).mono ?_); rintro e w' ⟨rfl, ⟨nd, rfl⟩⟩; (try first | exact ⟨rfl, _, World.drewN_drewN _ _ _⟩ | exact ⟨rfl, _, Eq.trans (World.drewN_drewN _ _ _) (congrArg (World.drewN _) (Nat.add_assoc _ _ _))⟩)) | (go_at_call 47; (with_reducible refine (scan_Edit.calls kj5 a0 a2 a3 a4 t595 t596 _ A14.out).mono ?_); rintro e w' ⟨rfl, ⟨nd, rfl⟩⟩; (try first | exact ⟨rfl, _, World.drewN_drewN _ _ _⟩ | exact ⟨rfl, _, Eq.trans (World.drewN_drewN _ _ _) (congrArg (World.drewN _) (Nat.add_assoc _ _ _))⟩)) | (go_at_call 48; (with_reducible refine (qanatref03_Lines.calls kj5 a0 t598 _ A44.out).mono ?_); rintro e w48 ⟨v599, rfl, ho0, hb⟩; have n0_ := Aside0.mk (Kd.R_elder' (by (with_reducible repeat (first | apply Kd.R_alloc | apply Kd.R_drewN | apply Kd.R_drew)); exact HO591.out) (Kd.R_base ho0) hb); have n1_ := Aside0.mk (Kd.R_lower (Kd.R_new' ho0 (Kd.R_lt (by (with_reducible repeat (first | apply Kd.R_alloc | apply Kd.R_drewN | apply Kd.R_drew)); exact HO591.out))) (below_size (by repeat (first | (with_reducible first | exact HB.out | apply below_alloc | apply pw_below_drewN | apply below_drew1) | exact HB.out)))); have n2_ := Aside0.mk (below_step (by repeat (first | (with_reducible first | exact HB.out | apply below_alloc | apply pw_below_drewN | apply below_drew1) | exact HB.out)) hb); clear HO591; clear HB; have HO591 := n0_; have HO600 := n1_; have HB := n2_; clear n0_ n1_ n2_; (try clear hb); (try clear hb2); (try clear hk); (try clear hi); (try clear ho0); obtain ⟨Ao49, co49, eo49⟩ := Kd.R_slice HO591.out; subst eo49; obtain ⟨Ao50, co50, eo50⟩ := Kd.R_slice HO600.out; subst eo50) | (go_at_call 29; (with_reducible refine (qanatref03_SameStrings.calls kj5 _ _ t588 _ _ t598 t601 _ ?side1 ?side2 ?side3 ?side4 A45.out).mono ?_); (case side1 => repeat (first | exact (Kd.R_reads' HO591.out).2.2 | (with_reducible refine Kd.C_alloc ?_ _) | (with_reducible refine Kd.C_drewN ?_ _) | (with_reducible refine Kd.C_drew ?_))); (case side2 => exact (Kd.R_reads' HO591.out).2.1); (case side3 => repeat (first | exact (Kd.R_reads' HO600.out).2.2 | (with_reducible refine Kd.C_alloc ?_ _) | (with_reducible refine Kd.C_drewN ?_ _) | (with_reducible refine Kd.C_drew ?_))); (case side4 => exact (Kd.R_reads' HO600.out).2.1); rintro e w' ⟨rfl, ⟨nd, rfl⟩⟩; (try first | exact ⟨rfl, _, World.drewN_drewN _ _ _⟩ | exact ⟨rfl, _, Eq.trans (World.drewN_drewN _ _ _) (congrArg (World.drewN _) (Nat.add_assoc _ _ _))⟩))); go_upto_region 9 with (first | (go_at_call 46; (with_reducible refine (scan_Lines.calls kj5 a0 t588 t589 _ (TabOK.of_below hT (by repeat (first | (with_reducible first | exact HB.out | apply below_alloc | apply pw_below_drewN | apply below_drew1) | exact HB.out))) A12.out).mono ?_); rintro e w47 ⟨v590, rfl, ho0, hb⟩; have n0_ := Aside0.mk (Kd.R_lower ho0 (below_size (by repeat (first | (with_reducible first | exact HB.out | apply below_alloc | apply pw_below_drewN | apply below_drew1) | exact HB.out)))); have n1_ := Aside0.mk (below_step (by repeat (first | (with_reducible first | exact HB.out | apply below_alloc | apply pw_below_drewN | apply below_drew1) | exact HB.out)) hb); clear HB; have HO591 := n0_; have HB := n1_; clear n0_ n1_; (try clear hb); (try clear hb2); (try clear hk); (try clear hi); (try clear ho0)) | (go_at_call 45; (with_reducible refine (scan_Place.calls kj5 a0 a1 t592 t593 t594 _ A13.out).mono ?_); rintro e w' ⟨rfl, ⟨nd, rfl⟩⟩; (try first | exact ⟨rfl, _, World.drewN_drewN _ _ _⟩ | exact ⟨rfl, _, Eq.trans (World.drewN_drewN _ _ _) (congrArg (World.drewN _) (Nat.add_assoc _ _ _))⟩)) | (go_at_call 47; (with_reducible refine (scan_Edit.calls kj5 a0 a2 a3 a4 t595 t596 _ A14.out).mono ?_); rintro e w' ⟨rfl, ⟨nd, rfl⟩⟩; (try first | exact ⟨rfl, _, World.drewN_drewN _ _ _⟩ | exact ⟨rfl, _, Eq.trans (World.drewN_drewN _ _ _) (congrArg (World.drewN _) (Nat.add_assoc _ _ _))⟩)) | (go_at_call 48; (with_reducible refine (qanatref03_Lines.calls kj5 a0 t598 _ A44.out).mono ?_); rintro e w48 ⟨v599, rfl, ho0, hb⟩; have n0_ := Aside0.mk (Kd.R_elder' (by (with_reducible repeat (first | apply Kd.R_alloc | apply Kd.R_drewN | apply Kd.R_drew)); exact HO591.out) (Kd.R_base ho0) hb); have n1_ := Aside0.mk (Kd.R_lower (Kd.R_new' ho0 (Kd.R_lt (by (with_reducible repeat (first | apply Kd.R_alloc | apply Kd.R_drewN | apply Kd.R_drew)); exact HO591.out))) (below_size (by repeat (first | (with_reducible first | exact HB.out | apply below_alloc | apply pw_below_drewN | apply below_drew1) | exact HB.out)))); have n2_ := Aside0.mk (below_step (by repeat (first | (with_reducible first | exact HB.out | apply below_alloc | apply pw_below_drewN | apply below_drew1) | exact HB.out)) hb); clear HO591; clear HB; have HO591 := n0_; have HO600 := n1_; have HB := n2_; clear n0_ n1_ n2_; (try clear hb); (try clear hb2); (try clear hk); (try clear hi); (try clear ho0); obtain ⟨Ao49, co49, eo49⟩ := Kd.R_slice HO591.out; subst eo49; obtain ⟨Ao50, co50, eo50⟩ := Kd.R_slice HO600.out; subst eo50) | (go_at_call 29; (with_reducible refine (qanatref03_SameStrings.calls kj5 _ _ t588 _ _ t598 t601 _ ?side1 ?side2 ?side3 ?side4 A45.out).mono ?_); (case side1 => repeat (first | exact (Kd.R_reads' HO591.out).2.2 | (with_reducible refine Kd.C_alloc ?_ _) | (with_reducible refine Kd.C_drewN ?_ _) | (with_reducible refine Kd.C_drew ?_))); (case side2 => exact (Kd.R_reads' HO591.out).2.1); (case side3 => repeat (first | exact (Kd.R_reads' HO600.out).2.2 | (with_reducible refine Kd.C_alloc ?_ _) | (with_reducible refine Kd.C_drewN ?_ _) | (with_reducible refine Kd.C_drew ?_))); (case side4 => exact (Kd.R_reads' HO600.out).2.1); rintro e w' ⟨rfl, ⟨nd, rfl⟩⟩; (try first | exact ⟨rfl, _, World.drewN_drewN _ _ _⟩ | exact ⟨rfl, _, Eq.trans (World.drewN_drewN _ _ _) (congrArg (World.drewN _) (Nat.add_assoc _ _ _))⟩))))
          (try simp only [Act.put, List.setIfInBounds_toArray, List.set_cons_zero, List.set_cons_succ])
          go_cut [93] (fun v93 wc => ∃ (kq : Nat) (x93_45 : Bool), v93 = .bool x93_45 ∧ Aside0 (qanatlaw03_ScanLines.j1 kq a0 a1 a2 a3 a4 t592 t593 t594 t595 t596 x93_45 = some r) ∧ Aside0 (kq ≤ kj5) ∧ Aside0 (Below w.heap.size w wc))
          case first =>
            have H := HC46.out
            clear HC46
            by_cases c51 : t589 = 0
            · rw [if_pos c51] at H
              have c51b0 : (t589 == 0) = true := beq_iff_eq.mpr c51
              have c51b1 : (t589 != 0) = false := bne_eq_false_iff_eq.mpr c51
              clear c51
              (first | rw [c51b0] | (simp only [i64_w, i32_w]; rw [c51b0]) | skip)
              have H' := Aside0.mk H
              clear H
              go_wp2
              repeat (go_quiet (fail); try go_wp2)
              go_meet
              case rel => exact ⟨_, (!t601), (by first | rfl | (simp; done) | (simp [*]; done)), H', ⟨by have := HJ5.out; first | omega | exact Nat.le_refl _⟩, ⟨by repeat (first | (with_reducible first | exact HB.out | apply below_alloc | apply pw_below_drewN | apply below_drew1) | exact HB.out)⟩⟩
            · rw [if_neg c51] at H
              have c51b0 : (t589 == 0) = false := beq_eq_false_iff_ne.mpr c51
              have c51b1 : (t589 != 0) = true := bne_iff_ne.mpr c51
              (first | rw [c51b0] | (simp only [i64_w, i32_w]; rw [c51b0]) | skip)
              have H' := Aside0.mk H
              clear H
              go_wp2
              repeat (go_quiet (fail); try go_wp2)
              go_meet
              case rel => exact ⟨_, (true), (by first | rfl | (simp; done) | (simp [*]; done)), H', ⟨by have := HJ5.out; first | omega | exact Nat.le_refl _⟩, ⟨by repeat (first | (with_reducible first | exact HB.out | apply below_alloc | apply pw_below_drewN | apply below_drew1) | exact HB.out)⟩⟩
          case rest =>
            clear HC46
            try clear c1
            try clear c2
            try clear p2
            try clear c5
            try clear c8
            try clear c9
            try clear c14
            try clear c15
            try clear c15b0
            try clear c15b1
            try clear c17
            try clear c18
            try clear c18b0
            try clear c18b1
            try clear c19
            try clear c19b0
            try clear c19b1
            try clear c20
            try clear c20b0
            try clear c20b1
            try clear c21
            try clear c21b0
            try clear c21b1
            try clear c21b2
            try clear c22
            try clear c22b0
            try clear c22b1
            try clear c23
            try clear c23b0
            try clear c23b1
            try clear c51
            try clear c51b0
            try clear c51b1
            try clear p2
            obtain ⟨kq, x93_45, rfl, HA, HJ45, HB⟩ := hcut
            cases kq with
            | zero => exact absurd HA.out (by simp [qanatlaw03_ScanLines.j1])
            | succ kj45 =>
              have H := HA.out
              clear HA
              simp only [qanatlaw03_ScanLines.j1] at H
              by_cases c52 : x93_45 = true
              · subst c52
                have H1 : (some false) = some r := by rw [if_pos rfl] at H; exact H
                clear H
                have H := H1
                clear H1
                obtain rfl := Option.some.inj H
                go_wp2
                repeat (go_quiet (fail); try go_wp2)
                go_ret
                exact ⟨by first | rfl | (simp [errW_none, errW_some] <;> rfl) | (simp [*, errW_none, errW_some] <;> rfl), by repeat (first | (with_reducible first | exact HB.out | apply below_alloc | apply pw_below_drewN | apply below_drew1) | exact HB.out)⟩
              · replace c52 := Bool.eq_false_iff.mpr c52
                subst c52
                have H1 : (if a1 < 0 then (qanatlaw03_ScanLines.j2 kj45 a0 a1 a2 a3 a4 t592 t593 t594 t595 t596 true) else (qanatlaw03_ScanLines.j2 kj45 a0 a1 a2 a3 a4 t592 t593 t594 t595 t596 (decide (a1 > (a0.size : Int))))) = some r := by rw [if_neg (show ¬ (false = true) by decide)] at H; exact H
                clear H
                have H := H1
                clear H1
                have HC53 := Aside0.mk H
                clear H
                go_upto_region 11 with (fail)
                repeat (go_quiet (fail); go_upto_region 11 with (fail))
                go_cut [101] (fun v101 wc => ∃ (kq : Nat) (x101_52 : Bool), v101 = .bool x101_52 ∧ Aside0 (qanatlaw03_ScanLines.j2 kq a0 a1 a2 a3 a4 t592 t593 t594 t595 t596 x101_52 = some r) ∧ Aside0 (kq ≤ kj45) ∧ Aside0 (Below w.heap.size w wc))
                case first =>
                  have H := HC53.out
                  clear HC53
                  by_cases c54 : a1 < 0
                  · rw [if_pos c54] at H
                    have c54b0 : decide (a1 < 0) = true := decide_eq_true c54
                    clear c54
                    (first | rw [c54b0] | (simp only [i64_w, i32_w]; rw [c54b0]) | skip)
                    have H' := Aside0.mk H
                    clear H
                    go_wp2
                    repeat (go_quiet (fail); try go_wp2)
                    go_meet
                    case rel => exact ⟨_, (true), (by first | rfl | (simp; done) | (simp [*]; done)), H', ⟨by have := HJ5.out; have := HJ45.out; first | omega | exact Nat.le_refl _⟩, ⟨by repeat (first | (with_reducible first | exact HB.out | apply below_alloc | apply pw_below_drewN | apply below_drew1) | exact HB.out)⟩⟩
                  · rw [if_neg c54] at H
                    have c54b0 : decide (a1 < 0) = false := decide_eq_false c54
                    clear c54
                    (first | rw [c54b0] | (simp only [i64_w, i32_w]; rw [c54b0]) | skip)
                    have H' := Aside0.mk H
                    clear H
                    go_wp2
                    repeat (go_quiet (fail); try go_wp2)
                    go_meet
                    case rel => exact ⟨_, (decide (a1 > (a0.size : Int))), (by first | rfl | (simp; done) | (simp [*]; done)), H', ⟨by have := HJ5.out; have := HJ45.out; first | omega | exact Nat.le_refl _⟩, ⟨by repeat (first | (with_reducible first | exact HB.out | apply below_alloc | apply pw_below_drewN | apply below_drew1) | exact HB.out)⟩⟩
                case rest =>
                  clear HC53
                  try clear c1
                  try clear c2
                  try clear p2
                  try clear c5
                  try clear c8
                  try clear c9
                  try clear c14
                  try clear c15
                  try clear c15b0
                  try clear c15b1
                  try clear c17
                  try clear c18
                  try clear c18b0
                  try clear c18b1
                  try clear c19
                  try clear c19b0
                  try clear c19b1
                  try clear c20
                  try clear c20b0
                  try clear c20b1
                  try clear c21
                  try clear c21b0
                  try clear c21b1
                  try clear c21b2
                  try clear c22
                  try clear c22b0
                  try clear c22b1
                  try clear c23
                  try clear c23b0
                  try clear c23b1
                  try clear c51
                  try clear c51b0
                  try clear c51b1
                  try clear c52
                  try clear c54
                  try clear c54b0
                  try clear p2
                  obtain ⟨kq, x101_52, rfl, HA, HJ52, HB⟩ := hcut
                  cases kq with
                  | zero => exact absurd HA.out (by simp [qanatlaw03_ScanLines.j2])
                  | succ kj52 =>
                    have H := HA.out
                    clear HA
                    simp only [qanatlaw03_ScanLines.j2] at H
                    have HC55 := Aside0.mk H
                    clear H
                    go_upto_if 101 with (fail)
                    repeat (go_quiet (fail); go_upto_if 101 with (fail))
                    go_cut [] (fun wc => ∃ (kq : Nat), Aside0 (qanatlaw03_ScanLines.j3 kq a0 a2 a3 a4 t595 t596 = some r) ∧ Aside0 (kq ≤ kj52) ∧ Aside0 (Below w.heap.size w wc))
                    case first =>
                      have H := HC55.out
                      clear HC55
                      by_cases c56 : x101_52 = true
                      · subst c56
                        have H1 : (if t594 = 1 then (if t592 = 0 then (if t593 = 0 then (qanatlaw03_ScanLines.j3 kj52 a0 a2 a3 a4 t595 t596) else (some false)) else (some false)) else (some false)) = some r := by rw [if_pos rfl] at H; exact H
                        clear H
                        have H := H1
                        clear H1
                        by_cases c57 : t594 = 1
                        · rw [if_pos c57] at H
                          have c57b0 : (t594 == 1) = true := beq_iff_eq.mpr c57
                          have c57b1 : (t594 != 1) = false := bne_eq_false_iff_eq.mpr c57
                          clear c57
                          (first | rw [c57b0] | (simp only [i64_w, i32_w]; rw [c57b0]) | skip)
                          by_cases c58 : t592 = 0
                          · rw [if_pos c58] at H
                            have c58b0 : (t592 == 0) = true := beq_iff_eq.mpr c58
                            have c58b1 : (t592 != 0) = false := bne_eq_false_iff_eq.mpr c58
                            clear c58
                            by_cases c59 : t593 = 0
                            · rw [if_pos c59] at H
                              have c59b0 : (t593 == 0) = true := beq_iff_eq.mpr c59
                              have c59b1 : (t593 != 0) = false := bne_eq_false_iff_eq.mpr c59
                              clear c59
                              have H' := Aside0.mk H
                              clear H
                              go_wp2
                              repeat (go_quiet (fail); try go_wp2)
                              go_meet
                              case rel => exact ⟨_, H', ⟨by have := HJ5.out; have := HJ45.out; have := HJ52.out; first | omega | exact Nat.le_refl _⟩, ⟨by repeat (first | (with_reducible first | exact HB.out | apply below_alloc | apply pw_below_drewN | apply below_drew1) | exact HB.out)⟩⟩
                            · rw [if_neg c59] at H
                              have c59b0 : (t593 == 0) = false := beq_eq_false_iff_ne.mpr c59
                              have c59b1 : (t593 != 0) = true := bne_iff_ne.mpr c59
                              obtain rfl := Option.some.inj H
                              go_wp2
                              repeat (go_quiet (fail); try go_wp2)
                              go_ret
                              exact ⟨by first | rfl | (simp [errW_none, errW_some] <;> rfl) | (simp [*, errW_none, errW_some] <;> rfl), by repeat (first | (with_reducible first | exact HB.out | apply below_alloc | apply pw_below_drewN | apply below_drew1) | exact HB.out)⟩
                          · rw [if_neg c58] at H
                            have c58b0 : (t592 == 0) = false := beq_eq_false_iff_ne.mpr c58
                            have c58b1 : (t592 != 0) = true := bne_iff_ne.mpr c58
                            obtain rfl := Option.some.inj H
                            go_wp2
                            repeat (go_quiet (fail); try go_wp2)
                            go_ret
                            exact ⟨by first | rfl | (simp [errW_none, errW_some] <;> rfl) | (simp [*, errW_none, errW_some] <;> rfl), by repeat (first | (with_reducible first | exact HB.out | apply below_alloc | apply pw_below_drewN | apply below_drew1) | exact HB.out)⟩
                        · rw [if_neg c57] at H
                          have c57b0 : (t594 == 1) = false := beq_eq_false_iff_ne.mpr c57
                          have c57b1 : (t594 != 1) = true := bne_iff_ne.mpr c57
                          (first | rw [c57b0] | (simp only [i64_w, i32_w]; rw [c57b0]) | skip)
                          obtain rfl := Option.some.inj H
                          go_wp2
                          repeat (go_quiet (fail); try go_wp2)
                          go_ret
                          exact ⟨by first | rfl | (simp [errW_none, errW_some] <;> rfl) | (simp [*, errW_none, errW_some] <;> rfl), by repeat (first | (with_reducible first | exact HB.out | apply below_alloc | apply pw_below_drewN | apply below_drew1) | exact HB.out)⟩
                      · replace c56 := Bool.eq_false_iff.mpr c56
                        subst c56
                        have H1 : ((qanatref03_Place.f kj52 a0 a1).bind fun bt602 => (if t594 = 0 then (if t592 = bt602.1 then (if t593 = bt602.2 then (qanatlaw03_ScanLines.j3 kj52 a0 a2 a3 a4 t595 t596) else (some false)) else (some false)) else (some false))) = some r := by rw [if_neg (show ¬ (false = true) by decide)] at H; exact H
                        clear H
                        have H := H1
                        clear H1
                        replace H := Option.bind_eq_some_iff.mp H
                        obtain ⟨⟨t602, t603⟩, A600, H⟩ := H
                        replace H : (if t594 = 0 then (if t592 = t602 then (if t593 = t603 then (qanatlaw03_ScanLines.j3 kj52 a0 a2 a3 a4 t595 t596) else (some false)) else (some false)) else (some false)) = some r := H
                        have A60 := Aside0.mk A600
                        clear A600
                        by_cases c61 : t594 = 0
                        · rw [if_pos c61] at H
                          have c61b0 : (t594 == 0) = true := beq_iff_eq.mpr c61
                          have c61b1 : (t594 != 0) = false := bne_eq_false_iff_eq.mpr c61
                          clear c61
                          by_cases c62 : t592 = t602
                          · rw [if_pos c62] at H
                            have c62b0 : (t592 == t602) = true := beq_iff_eq.mpr c62
                            have c62b1 : (t592 != t602) = false := bne_eq_false_iff_eq.mpr c62
                            clear c62
                            by_cases c63 : t593 = t603
                            · rw [if_pos c63] at H
                              have c63b0 : (t593 == t603) = true := beq_iff_eq.mpr c63
                              have c63b1 : (t593 != t603) = false := bne_eq_false_iff_eq.mpr c63
                              clear c63
                              have H' := Aside0.mk H
                              clear H
                              go_wp2_with (first | (go_at_call 49; (with_reducible refine (qanatref03_Place.calls kj52 a0 a1 t602 t603 _ A60.out).mono ?_); rintro e w' ⟨rfl, ⟨nd, rfl⟩⟩; (try first | exact ⟨rfl, _, World.drewN_drewN _ _ _⟩ | exact ⟨rfl, _, Eq.trans (World.drewN_drewN _ _ _) (congrArg (World.drewN _) (Nat.add_assoc _ _ _))⟩)))
                              repeat (go_quiet (first | (go_at_call 49; (with_reducible refine (qanatref03_Place.calls kj52 a0 a1 t602 t603 _ A60.out).mono ?_); rintro e w' ⟨rfl, ⟨nd, rfl⟩⟩; (try first | exact ⟨rfl, _, World.drewN_drewN _ _ _⟩ | exact ⟨rfl, _, Eq.trans (World.drewN_drewN _ _ _) (congrArg (World.drewN _) (Nat.add_assoc _ _ _))⟩))); try go_wp2_with (first | (go_at_call 49; (with_reducible refine (qanatref03_Place.calls kj52 a0 a1 t602 t603 _ A60.out).mono ?_); rintro e w' ⟨rfl, ⟨nd, rfl⟩⟩; (try first | exact ⟨rfl, _, World.drewN_drewN _ _ _⟩ | exact ⟨rfl, _, Eq.trans (World.drewN_drewN _ _ _) (congrArg (World.drewN _) (Nat.add_assoc _ _ _))⟩))))
                              go_meet
                              case rel => exact ⟨_, H', ⟨by have := HJ5.out; have := HJ45.out; have := HJ52.out; first | omega | exact Nat.le_refl _⟩, ⟨by repeat (first | (with_reducible first | exact HB.out | apply below_alloc | apply pw_below_drewN | apply below_drew1) | exact HB.out)⟩⟩
                            · rw [if_neg c63] at H
                              have c63b0 : (t593 == t603) = false := beq_eq_false_iff_ne.mpr c63
                              have c63b1 : (t593 != t603) = true := bne_iff_ne.mpr c63
                              obtain rfl := Option.some.inj H
                              go_wp2_with (first | (go_at_call 49; (with_reducible refine (qanatref03_Place.calls kj52 a0 a1 t602 t603 _ A60.out).mono ?_); rintro e w' ⟨rfl, ⟨nd, rfl⟩⟩; (try first | exact ⟨rfl, _, World.drewN_drewN _ _ _⟩ | exact ⟨rfl, _, Eq.trans (World.drewN_drewN _ _ _) (congrArg (World.drewN _) (Nat.add_assoc _ _ _))⟩)))
                              repeat (go_quiet (first | (go_at_call 49; (with_reducible refine (qanatref03_Place.calls kj52 a0 a1 t602 t603 _ A60.out).mono ?_); rintro e w' ⟨rfl, ⟨nd, rfl⟩⟩; (try first | exact ⟨rfl, _, World.drewN_drewN _ _ _⟩ | exact ⟨rfl, _, Eq.trans (World.drewN_drewN _ _ _) (congrArg (World.drewN _) (Nat.add_assoc _ _ _))⟩))); try go_wp2_with (first | (go_at_call 49; (with_reducible refine (qanatref03_Place.calls kj52 a0 a1 t602 t603 _ A60.out).mono ?_); rintro e w' ⟨rfl, ⟨nd, rfl⟩⟩; (try first | exact ⟨rfl, _, World.drewN_drewN _ _ _⟩ | exact ⟨rfl, _, Eq.trans (World.drewN_drewN _ _ _) (congrArg (World.drewN _) (Nat.add_assoc _ _ _))⟩))))
                              go_ret
                              exact ⟨by first | rfl | (simp [errW_none, errW_some] <;> rfl) | (simp [*, errW_none, errW_some] <;> rfl), by repeat (first | (with_reducible first | exact HB.out | apply below_alloc | apply pw_below_drewN | apply below_drew1) | exact HB.out)⟩
                          · rw [if_neg c62] at H
                            have c62b0 : (t592 == t602) = false := beq_eq_false_iff_ne.mpr c62
                            have c62b1 : (t592 != t602) = true := bne_iff_ne.mpr c62
                            obtain rfl := Option.some.inj H
                            go_wp2_with (first | (go_at_call 49; (with_reducible refine (qanatref03_Place.calls kj52 a0 a1 t602 t603 _ A60.out).mono ?_); rintro e w' ⟨rfl, ⟨nd, rfl⟩⟩; (try first | exact ⟨rfl, _, World.drewN_drewN _ _ _⟩ | exact ⟨rfl, _, Eq.trans (World.drewN_drewN _ _ _) (congrArg (World.drewN _) (Nat.add_assoc _ _ _))⟩)))
                            repeat (go_quiet (first | (go_at_call 49; (with_reducible refine (qanatref03_Place.calls kj52 a0 a1 t602 t603 _ A60.out).mono ?_); rintro e w' ⟨rfl, ⟨nd, rfl⟩⟩; (try first | exact ⟨rfl, _, World.drewN_drewN _ _ _⟩ | exact ⟨rfl, _, Eq.trans (World.drewN_drewN _ _ _) (congrArg (World.drewN _) (Nat.add_assoc _ _ _))⟩))); try go_wp2_with (first | (go_at_call 49; (with_reducible refine (qanatref03_Place.calls kj52 a0 a1 t602 t603 _ A60.out).mono ?_); rintro e w' ⟨rfl, ⟨nd, rfl⟩⟩; (try first | exact ⟨rfl, _, World.drewN_drewN _ _ _⟩ | exact ⟨rfl, _, Eq.trans (World.drewN_drewN _ _ _) (congrArg (World.drewN _) (Nat.add_assoc _ _ _))⟩))))
                            go_ret
                            exact ⟨by first | rfl | (simp [errW_none, errW_some] <;> rfl) | (simp [*, errW_none, errW_some] <;> rfl), by repeat (first | (with_reducible first | exact HB.out | apply below_alloc | apply pw_below_drewN | apply below_drew1) | exact HB.out)⟩
                        · rw [if_neg c61] at H
                          have c61b0 : (t594 == 0) = false := beq_eq_false_iff_ne.mpr c61
                          have c61b1 : (t594 != 0) = true := bne_iff_ne.mpr c61
                          obtain rfl := Option.some.inj H
                          go_wp2_with (first | (go_at_call 49; (with_reducible refine (qanatref03_Place.calls kj52 a0 a1 t602 t603 _ A60.out).mono ?_); rintro e w' ⟨rfl, ⟨nd, rfl⟩⟩; (try first | exact ⟨rfl, _, World.drewN_drewN _ _ _⟩ | exact ⟨rfl, _, Eq.trans (World.drewN_drewN _ _ _) (congrArg (World.drewN _) (Nat.add_assoc _ _ _))⟩)))
                          repeat (go_quiet (first | (go_at_call 49; (with_reducible refine (qanatref03_Place.calls kj52 a0 a1 t602 t603 _ A60.out).mono ?_); rintro e w' ⟨rfl, ⟨nd, rfl⟩⟩; (try first | exact ⟨rfl, _, World.drewN_drewN _ _ _⟩ | exact ⟨rfl, _, Eq.trans (World.drewN_drewN _ _ _) (congrArg (World.drewN _) (Nat.add_assoc _ _ _))⟩))); try go_wp2_with (first | (go_at_call 49; (with_reducible refine (qanatref03_Place.calls kj52 a0 a1 t602 t603 _ A60.out).mono ?_); rintro e w' ⟨rfl, ⟨nd, rfl⟩⟩; (try first | exact ⟨rfl, _, World.drewN_drewN _ _ _⟩ | exact ⟨rfl, _, Eq.trans (World.drewN_drewN _ _ _) (congrArg (World.drewN _) (Nat.add_assoc _ _ _))⟩))))
                          go_ret
                          exact ⟨by first | rfl | (simp [errW_none, errW_some] <;> rfl) | (simp [*, errW_none, errW_some] <;> rfl), by repeat (first | (with_reducible first | exact HB.out | apply below_alloc | apply pw_below_drewN | apply below_drew1) | exact HB.out)⟩
                    case rest =>
                      clear HC55
                      try clear c1
                      try clear c2
                      try clear p2
                      try clear c5
                      try clear c6
                      try clear c8
                      try clear c9
                      try clear c14
                      try clear c15
                      try clear c15b0
                      try clear c15b1
                      try clear c17
                      try clear c18
                      try clear c18b0
                      try clear c18b1
                      try clear c19
                      try clear c19b0
                      try clear c19b1
                      try clear c20
                      try clear c20b0
                      try clear c20b1
                      try clear c21
                      try clear c21b0
                      try clear c21b1
                      try clear c21b2
                      try clear c22
                      try clear c22b0
                      try clear c22b1
                      try clear c23
                      try clear c23b0
                      try clear c23b1
                      try clear c51
                      try clear c51b0
                      try clear c51b1
                      try clear c52
                      try clear c54
                      try clear c54b0
                      try clear c56
                      try clear c57
                      try clear c57b0
                      try clear c57b1
                      try clear c58
                      try clear c58b0
                      try clear c58b1
                      try clear c59
                      try clear c59b0
                      try clear c59b1
                      try clear c61
                      try clear c61b0
                      try clear c61b1
                      try clear c62
                      try clear c62b0
                      try clear c62b1
                      try clear c63
                      try clear c63b0
                      try clear c63b1
                      try clear p2
                      obtain ⟨kq, HA, HJ54, HB⟩ := hcut
                      cases kq with
                      | zero => exact absurd HA.out (by simp [qanatlaw03_ScanLines.j3])
                      | succ kj54 =>
                        have H := HA.out
                        clear HA
                        simp only [qanatlaw03_ScanLines.j3] at H
                        have HC64 := Aside0.mk H
                        clear H
                        go_upto_region 17 with (fail)
                        repeat (go_quiet (fail); go_upto_region 17 with (fail))
                        go_cut [142] (fun v142 wc => ∃ (kq : Nat) (x142_63 : Bool), v142 = .bool x142_63 ∧ Aside0 (qanatlaw03_ScanLines.j4 kq a0 a2 a3 a4 t595 t596 x142_63 = some r) ∧ Aside0 (kq ≤ kj54) ∧ Aside0 (Below w.heap.size w wc))
                        case first =>
                          have H := HC64.out
                          clear HC64
                          by_cases c65 : a2 < 0
                          · rw [if_pos c65] at H
                            have c65b0 : decide (a2 < 0) = true := decide_eq_true c65
                            clear c65
                            (first | rw [c65b0] | (simp only [i64_w, i32_w]; rw [c65b0]) | skip)
                            have H' := Aside0.mk H
                            clear H
                            go_wp2
                            repeat (go_quiet (fail); try go_wp2)
                            go_meet
                            case rel => exact ⟨_, (true), (by first | rfl | (simp; done) | (simp [*]; done)), H', ⟨by have := HJ5.out; have := HJ45.out; have := HJ52.out; have := HJ54.out; first | omega | exact Nat.le_refl _⟩, ⟨by repeat (first | (with_reducible first | exact HB.out | apply below_alloc | apply pw_below_drewN | apply below_drew1) | exact HB.out)⟩⟩
                          · rw [if_neg c65] at H
                            have c65b0 : decide (a2 < 0) = false := decide_eq_false c65
                            clear c65
                            (first | rw [c65b0] | (simp only [i64_w, i32_w]; rw [c65b0]) | skip)
                            by_cases c66 : a3 < a2
                            · rw [if_pos c66] at H
                              have c66b0 : decide (a3 < a2) = true := decide_eq_true c66
                              clear c66
                              have H' := Aside0.mk H
                              clear H
                              go_wp2
                              repeat (go_quiet (fail); try go_wp2)
                              go_meet
                              case rel => exact ⟨_, (true), (by first | rfl | (simp; done) | (simp [*]; done)), H', ⟨by have := HJ5.out; have := HJ45.out; have := HJ52.out; have := HJ54.out; first | omega | exact Nat.le_refl _⟩, ⟨by repeat (first | (with_reducible first | exact HB.out | apply below_alloc | apply pw_below_drewN | apply below_drew1) | exact HB.out)⟩⟩
                            · rw [if_neg c66] at H
                              have c66b0 : decide (a3 < a2) = false := decide_eq_false c66
                              clear c66
                              have H' := Aside0.mk H
                              clear H
                              go_wp2
                              repeat (go_quiet (fail); try go_wp2)
                              go_meet
                              case rel => exact ⟨_, (decide (a3 > (a0.size : Int))), (by first | rfl | (simp; done) | (simp [*]; done)), H', ⟨by have := HJ5.out; have := HJ45.out; have := HJ52.out; have := HJ54.out; first | omega | exact Nat.le_refl _⟩, ⟨by repeat (first | (with_reducible first | exact HB.out | apply below_alloc | apply pw_below_drewN | apply below_drew1) | exact HB.out)⟩⟩
                        case rest =>
                          clear HC64
                          try clear c1
                          try clear c2
                          try clear p2
                          try clear c5
                          try clear c6
                          try clear c8
                          try clear c9
                          try clear c14
                          try clear c15
                          try clear c15b0
                          try clear c15b1
                          try clear c17
                          try clear c18
                          try clear c18b0
                          try clear c18b1
                          try clear c19
                          try clear c19b0
                          try clear c19b1
                          try clear c20
                          try clear c20b0
                          try clear c20b1
                          try clear c21
                          try clear c21b0
                          try clear c21b1
                          try clear c21b2
                          try clear c22
                          try clear c22b0
                          try clear c22b1
                          try clear c23
                          try clear c23b0
                          try clear c23b1
                          try clear c51
                          try clear c51b0
                          try clear c51b1
                          try clear c52
                          try clear c54
                          try clear c54b0
                          try clear c56
                          try clear c57
                          try clear c57b0
                          try clear c57b1
                          try clear c58
                          try clear c58b0
                          try clear c58b1
                          try clear c59
                          try clear c59b0
                          try clear c59b1
                          try clear c61
                          try clear c61b0
                          try clear c61b1
                          try clear c62
                          try clear c62b0
                          try clear c62b1
                          try clear c63
                          try clear c63b0
                          try clear c63b1
                          try clear c65
                          try clear c65b0
                          try clear c66
                          try clear c66b0
                          try clear p2
                          obtain ⟨kq, x142_63, rfl, HA, HJ63, HB⟩ := hcut
                          cases kq with
                          | zero => exact absurd HA.out (by simp [qanatlaw03_ScanLines.j4])
                          | succ kj63 =>
                            have H := HA.out
                            clear HA
                            simp only [qanatlaw03_ScanLines.j4] at H
                            by_cases c67 : x142_63 = true
                            · subst c67
                              have H1 : ((qanatlaw03_sanity.f).bind fun t604 => (if t604 = true then (if t596 = 1 then (some (t595.toList == ([] : List UInt8))) else (some false)) else (some false))) = some r := by rw [if_pos rfl] at H; exact H
                              clear H
                              have H := H1
                              clear H1
                              replace H := Option.bind_eq_some_iff.mp H
                              obtain ⟨t604, A680, H⟩ := H
                              replace H : (if t604 = true then (if t596 = 1 then (some (t595.toList == ([] : List UInt8))) else (some false)) else (some false)) = some r := H
                              have A68 := Aside0.mk A680
                              clear A680
                              by_cases c69 : t604 = true
                              · subst c69
                                have H1 : (if t596 = 1 then (some (t595.toList == ([] : List UInt8))) else (some false)) = some r := by rw [if_pos rfl] at H; exact H
                                clear H
                                have H := H1
                                clear H1
                                by_cases c70 : t596 = 1
                                · rw [if_pos c70] at H
                                  have c70b0 : (t596 == 1) = true := beq_iff_eq.mpr c70
                                  have c70b1 : (t596 != 1) = false := bne_eq_false_iff_eq.mpr c70
                                  clear c70
                                  obtain rfl := Option.some.inj H
                                  go_wp2_with (first | (go_at_call 16; (with_reducible refine (qanatlaw03_sanity.calls  true _ (TabOK.of_below hT (by repeat (first | (with_reducible first | exact HB.out | apply below_alloc | apply pw_below_drewN | apply below_drew1) | exact HB.out))) A68.out).mono ?_); rintro e w71 ⟨rfl, hb⟩; have n0_ := Aside0.mk (below_step (by repeat (first | (with_reducible first | exact HB.out | apply below_alloc | apply pw_below_drewN | apply below_drew1) | exact HB.out)) hb); clear HB; have HB := n0_; clear n0_; (try clear hb); (try clear hb2); (try clear hk); (try clear hi)))
                                  repeat (go_quiet (first | (go_at_call 16; (with_reducible refine (qanatlaw03_sanity.calls  true _ (TabOK.of_below hT (by repeat (first | (with_reducible first | exact HB.out | apply below_alloc | apply pw_below_drewN | apply below_drew1) | exact HB.out))) A68.out).mono ?_); rintro e w71 ⟨rfl, hb⟩; have n0_ := Aside0.mk (below_step (by repeat (first | (with_reducible first | exact HB.out | apply below_alloc | apply pw_below_drewN | apply below_drew1) | exact HB.out)) hb); clear HB; have HB := n0_; clear n0_; (try clear hb); (try clear hb2); (try clear hk); (try clear hi))); try go_wp2_with (first | (go_at_call 16; (with_reducible refine (qanatlaw03_sanity.calls  true _ (TabOK.of_below hT (by repeat (first | (with_reducible first | exact HB.out | apply below_alloc | apply pw_below_drewN | apply below_drew1) | exact HB.out))) A68.out).mono ?_); rintro e w71 ⟨rfl, hb⟩; have n0_ := Aside0.mk (below_step (by repeat (first | (with_reducible first | exact HB.out | apply below_alloc | apply pw_below_drewN | apply below_drew1) | exact HB.out)) hb); clear HB; have HB := n0_; clear n0_; (try clear hb); (try clear hb2); (try clear hk); (try clear hi))))
                                  go_ret
                                  exact ⟨by first | rfl | (simp [errW_none, errW_some] <;> rfl) | (simp [*, errW_none, errW_some] <;> rfl), by repeat (first | (with_reducible first | exact HB.out | apply below_alloc | apply pw_below_drewN | apply below_drew1) | exact HB.out)⟩
                                · rw [if_neg c70] at H
                                  have c70b0 : (t596 == 1) = false := beq_eq_false_iff_ne.mpr c70
                                  have c70b1 : (t596 != 1) = true := bne_iff_ne.mpr c70
                                  obtain rfl := Option.some.inj H
                                  go_wp2_with (first | (go_at_call 16; (with_reducible refine (qanatlaw03_sanity.calls  true _ (TabOK.of_below hT (by repeat (first | (with_reducible first | exact HB.out | apply below_alloc | apply pw_below_drewN | apply below_drew1) | exact HB.out))) A68.out).mono ?_); rintro e w72 ⟨rfl, hb⟩; have n0_ := Aside0.mk (below_step (by repeat (first | (with_reducible first | exact HB.out | apply below_alloc | apply pw_below_drewN | apply below_drew1) | exact HB.out)) hb); clear HB; have HB := n0_; clear n0_; (try clear hb); (try clear hb2); (try clear hk); (try clear hi)))
                                  repeat (go_quiet (first | (go_at_call 16; (with_reducible refine (qanatlaw03_sanity.calls  true _ (TabOK.of_below hT (by repeat (first | (with_reducible first | exact HB.out | apply below_alloc | apply pw_below_drewN | apply below_drew1) | exact HB.out))) A68.out).mono ?_); rintro e w72 ⟨rfl, hb⟩; have n0_ := Aside0.mk (below_step (by repeat (first | (with_reducible first | exact HB.out | apply below_alloc | apply pw_below_drewN | apply below_drew1) | exact HB.out)) hb); clear HB; have HB := n0_; clear n0_; (try clear hb); (try clear hb2); (try clear hk); (try clear hi))); try go_wp2_with (first | (go_at_call 16; (with_reducible refine (qanatlaw03_sanity.calls  true _ (TabOK.of_below hT (by repeat (first | (with_reducible first | exact HB.out | apply below_alloc | apply pw_below_drewN | apply below_drew1) | exact HB.out))) A68.out).mono ?_); rintro e w72 ⟨rfl, hb⟩; have n0_ := Aside0.mk (below_step (by repeat (first | (with_reducible first | exact HB.out | apply below_alloc | apply pw_below_drewN | apply below_drew1) | exact HB.out)) hb); clear HB; have HB := n0_; clear n0_; (try clear hb); (try clear hb2); (try clear hk); (try clear hi))))
                                  go_ret
                                  exact ⟨by first | rfl | (simp [errW_none, errW_some] <;> rfl) | (simp [*, errW_none, errW_some] <;> rfl), by repeat (first | (with_reducible first | exact HB.out | apply below_alloc | apply pw_below_drewN | apply below_drew1) | exact HB.out)⟩
                              · replace c69 := Bool.eq_false_iff.mpr c69
                                subst c69
                                have H1 : (some false) = some r := by rw [if_neg (show ¬ (false = true) by decide)] at H; exact H
                                clear H
                                have H := H1
                                clear H1
                                obtain rfl := Option.some.inj H
                                go_wp2_with (first | (go_at_call 16; (with_reducible refine (qanatlaw03_sanity.calls  false _ (TabOK.of_below hT (by repeat (first | (with_reducible first | exact HB.out | apply below_alloc | apply pw_below_drewN | apply below_drew1) | exact HB.out))) A68.out).mono ?_); rintro e w73 ⟨rfl, hb⟩; have n0_ := Aside0.mk (below_step (by repeat (first | (with_reducible first | exact HB.out | apply below_alloc | apply pw_below_drewN | apply below_drew1) | exact HB.out)) hb); clear HB; have HB := n0_; clear n0_; (try clear hb); (try clear hb2); (try clear hk); (try clear hi)))
                                repeat (go_quiet (first | (go_at_call 16; (with_reducible refine (qanatlaw03_sanity.calls  false _ (TabOK.of_below hT (by repeat (first | (with_reducible first | exact HB.out | apply below_alloc | apply pw_below_drewN | apply below_drew1) | exact HB.out))) A68.out).mono ?_); rintro e w73 ⟨rfl, hb⟩; have n0_ := Aside0.mk (below_step (by repeat (first | (with_reducible first | exact HB.out | apply below_alloc | apply pw_below_drewN | apply below_drew1) | exact HB.out)) hb); clear HB; have HB := n0_; clear n0_; (try clear hb); (try clear hb2); (try clear hk); (try clear hi))); try go_wp2_with (first | (go_at_call 16; (with_reducible refine (qanatlaw03_sanity.calls  false _ (TabOK.of_below hT (by repeat (first | (with_reducible first | exact HB.out | apply below_alloc | apply pw_below_drewN | apply below_drew1) | exact HB.out))) A68.out).mono ?_); rintro e w73 ⟨rfl, hb⟩; have n0_ := Aside0.mk (below_step (by repeat (first | (with_reducible first | exact HB.out | apply below_alloc | apply pw_below_drewN | apply below_drew1) | exact HB.out)) hb); clear HB; have HB := n0_; clear n0_; (try clear hb); (try clear hb2); (try clear hk); (try clear hi))))
                                go_ret
                                exact ⟨by first | rfl | (simp [errW_none, errW_some] <;> rfl) | (simp [*, errW_none, errW_some] <;> rfl), by repeat (first | (with_reducible first | exact HB.out | apply below_alloc | apply pw_below_drewN | apply below_drew1) | exact HB.out)⟩
                            · replace c67 := Bool.eq_false_iff.mpr c67
                              subst c67
                              have H1 : (if 0 ≤ a2 then (if a2 ≤ (a0.size : Int) then (if (a0.extract 0 (a2 : Int).toNat).size + a4.size ≤ 9223372036854775807 then (if 0 ≤ a3 then (if a3 ≤ (a0.size : Int) then (if ((a0.extract 0 (a2 : Int).toNat) ++ a4).size + (a0.extract (a3 : Int).toNat a0.size).size ≤ 9223372036854775807 then (if ((((a0.extract 0 (a2 : Int).toNat) ++ a4) ++ (a0.extract (a3 : Int).toNat a0.size)).size : Int) > 20000 then ((qanatlaw03_sanity.f).bind fun t605 => (if t605 = true then (if t596 = 3 then (some (t595.toList == ([] : List UInt8))) else (some false)) else (some false))) else ((qanatlaw03_sanity.f).bind fun t606 => (if t606 = true then (if t596 = 0 then (some (t595.toList == (((a0.extract 0 (a2 : Int).toNat) ++ a4) ++ (a0.extract (a3 : Int).toNat a0.size)).toList)) else (some false)) else (some false)))) else (none)) else (none)) else (none)) else (none)) else (none)) else (none)) = some r := by rw [if_neg (show ¬ (false = true) by decide)] at H; exact H
                              clear H
                              have H := H1
                              clear H1
                              by_cases c74 : 0 ≤ a2
                              · rw [if_pos c74] at H
                                have c74b0 := eq_true c74
                                have c74b1 : decide (0 ≤ a2) = true := decide_eq_true c74
                                clear c74
                                by_cases c75 : a2 ≤ (a0.size : Int)
                                · rw [if_pos c75] at H
                                  have c75b0 := eq_true c75
                                  have c75b1 : decide (a2 ≤ (a0.size : Int)) = true := decide_eq_true c75
                                  clear c75
                                  by_cases c76 : (a0.extract 0 (a2 : Int).toNat).size + a4.size ≤ 9223372036854775807
                                  · rw [if_pos c76] at H
                                    have c76b0 := eq_true c76
                                    have c76b1 : decide ((a0.extract 0 (a2 : Int).toNat).size + a4.size ≤ 9223372036854775807) = true := decide_eq_true c76
                                    try have c76b2 : (9223372036854775807 < (a0.extract 0 (a2 : Int).toNat).size + a4.size) = False := eq_false (Nat.not_lt.2 c76)
                                    try have c76b3 : (9223372036854775807 < a2.toNat + a4.size) = False := eq_false (by have q_ := c76; have p_ : a2 ≤ (a0.size : Int) := of_decide_eq_true (by assumption); simp only [ByteArray.size_extract] at q_; omega)
                                    by_cases c77 : 0 ≤ a3
                                    · rw [if_pos c77] at H
                                      have c77b0 := eq_true c77
                                      have c77b1 : decide (0 ≤ a3) = true := decide_eq_true c77
                                      clear c77
                                      by_cases c78 : a3 ≤ (a0.size : Int)
                                      · rw [if_pos c78] at H
                                        have c78b0 := eq_true c78
                                        have c78b1 : decide (a3 ≤ (a0.size : Int)) = true := decide_eq_true c78
                                        clear c78
                                        by_cases c79 : ((a0.extract 0 (a2 : Int).toNat) ++ a4).size + (a0.extract (a3 : Int).toNat a0.size).size ≤ 9223372036854775807
                                        · rw [if_pos c79] at H
                                          have c79b0 := eq_true c79
                                          have c79b1 : decide (((a0.extract 0 (a2 : Int).toNat) ++ a4).size + (a0.extract (a3 : Int).toNat a0.size).size ≤ 9223372036854775807) = true := decide_eq_true c79
                                          try have c79b2 : (9223372036854775807 < ((a0.extract 0 (a2 : Int).toNat) ++ a4).size + (a0.extract (a3 : Int).toNat a0.size).size) = False := eq_false (Nat.not_lt.2 c79)
                                          by_cases c80 : ((((a0.extract 0 (a2 : Int).toNat) ++ a4) ++ (a0.extract (a3 : Int).toNat a0.size)).size : Int) > 20000
                                          · rw [if_pos c80] at H
                                            have c80b0 : decide (20000 < ((((a0.extract 0 (a2 : Int).toNat) ++ a4) ++ (a0.extract (a3 : Int).toNat a0.size)).size : Int)) = true := decide_eq_true c80
                                            have c80b1 : decide (20000 < (((a0.extract 0 (a2 : Int).toNat) ++ a4) ++ (a0.extract (a3 : Int).toNat a0.size)).size) = true := decide_eq_true (by omega)
                                            have c80b2 : decide (20000 < max a2 0 + (a4.size : Int) + ((a0.size - a3.toNat : Nat) : Int)) = true := decide_eq_true (by have h := c80; rw [ByteArray.size_append, ByteArray.size_append, ByteArray.size_extract, ByteArray.size_extract] at h; have q0 : (0 : Int) ≤ a2 := of_decide_eq_true (by assumption); have q1 : a2 ≤ (a0.size : Int) := of_decide_eq_true (by assumption); have q2 : (0 : Int) ≤ a3 := of_decide_eq_true (by assumption); have q3 : a3 ≤ (a0.size : Int) := of_decide_eq_true (by assumption); omega)
                                            clear c80
                                            replace H := Option.bind_eq_some_iff.mp H
                                            obtain ⟨t605, A810, H⟩ := H
                                            replace H : (if t605 = true then (if t596 = 3 then (some (t595.toList == ([] : List UInt8))) else (some false)) else (some false)) = some r := H
                                            have A81 := Aside0.mk A810
                                            clear A810
                                            by_cases c82 : t605 = true
                                            · subst c82
                                              have H1 : (if t596 = 3 then (some (t595.toList == ([] : List UInt8))) else (some false)) = some r := by rw [if_pos rfl] at H; exact H
                                              clear H
                                              have H := H1
                                              clear H1
                                              by_cases c83 : t596 = 3
                                              · rw [if_pos c83] at H
                                                have c83b0 : (t596 == 3) = true := beq_iff_eq.mpr c83
                                                have c83b1 : (t596 != 3) = false := bne_eq_false_iff_eq.mpr c83
                                                clear c83
                                                obtain rfl := Option.some.inj H
                                                go_wp2_with (first | (go_at_call 16; (with_reducible refine (qanatlaw03_sanity.calls  true _ (TabOK.of_below hT (by repeat (first | (with_reducible first | exact HB.out | apply below_alloc | apply pw_below_drewN | apply below_drew1) | exact HB.out))) A81.out).mono ?_); rintro e w84 ⟨rfl, hb⟩; have n0_ := Aside0.mk (below_step (by repeat (first | (with_reducible first | exact HB.out | apply below_alloc | apply pw_below_drewN | apply below_drew1) | exact HB.out)) hb); clear HB; have HB := n0_; clear n0_; (try clear hb); (try clear hb2); (try clear hk); (try clear hi)))
                                                repeat (go_quiet (first | (go_at_call 16; (with_reducible refine (qanatlaw03_sanity.calls  true _ (TabOK.of_below hT (by repeat (first | (with_reducible first | exact HB.out | apply below_alloc | apply pw_below_drewN | apply below_drew1) | exact HB.out))) A81.out).mono ?_); rintro e w84 ⟨rfl, hb⟩; have n0_ := Aside0.mk (below_step (by repeat (first | (with_reducible first | exact HB.out | apply below_alloc | apply pw_below_drewN | apply below_drew1) | exact HB.out)) hb); clear HB; have HB := n0_; clear n0_; (try clear hb); (try clear hb2); (try clear hk); (try clear hi))); try go_wp2_with (first | (go_at_call 16; (with_reducible refine (qanatlaw03_sanity.calls  true _ (TabOK.of_below hT (by repeat (first | (with_reducible first | exact HB.out | apply below_alloc | apply pw_below_drewN | apply below_drew1) | exact HB.out))) A81.out).mono ?_); rintro e w84 ⟨rfl, hb⟩; have n0_ := Aside0.mk (below_step (by repeat (first | (with_reducible first | exact HB.out | apply below_alloc | apply pw_below_drewN | apply below_drew1) | exact HB.out)) hb); clear HB; have HB := n0_; clear n0_; (try clear hb); (try clear hb2); (try clear hk); (try clear hi))))
                                                go_ret
                                                exact ⟨by first | rfl | (simp [errW_none, errW_some] <;> rfl) | (simp [*, errW_none, errW_some] <;> rfl), by repeat (first | (with_reducible first | exact HB.out | apply below_alloc | apply pw_below_drewN | apply below_drew1) | exact HB.out)⟩
                                              · rw [if_neg c83] at H
                                                have c83b0 : (t596 == 3) = false := beq_eq_false_iff_ne.mpr c83
                                                have c83b1 : (t596 != 3) = true := bne_iff_ne.mpr c83
                                                obtain rfl := Option.some.inj H
                                                go_wp2_with (first | (go_at_call 16; (with_reducible refine (qanatlaw03_sanity.calls  true _ (TabOK.of_below hT (by repeat (first | (with_reducible first | exact HB.out | apply below_alloc | apply pw_below_drewN | apply below_drew1) | exact HB.out))) A81.out).mono ?_); rintro e w85 ⟨rfl, hb⟩; have n0_ := Aside0.mk (below_step (by repeat (first | (with_reducible first | exact HB.out | apply below_alloc | apply pw_below_drewN | apply below_drew1) | exact HB.out)) hb); clear HB; have HB := n0_; clear n0_; (try clear hb); (try clear hb2); (try clear hk); (try clear hi)))
                                                repeat (go_quiet (first | (go_at_call 16; (with_reducible refine (qanatlaw03_sanity.calls  true _ (TabOK.of_below hT (by repeat (first | (with_reducible first | exact HB.out | apply below_alloc | apply pw_below_drewN | apply below_drew1) | exact HB.out))) A81.out).mono ?_); rintro e w85 ⟨rfl, hb⟩; have n0_ := Aside0.mk (below_step (by repeat (first | (with_reducible first | exact HB.out | apply below_alloc | apply pw_below_drewN | apply below_drew1) | exact HB.out)) hb); clear HB; have HB := n0_; clear n0_; (try clear hb); (try clear hb2); (try clear hk); (try clear hi))); try go_wp2_with (first | (go_at_call 16; (with_reducible refine (qanatlaw03_sanity.calls  true _ (TabOK.of_below hT (by repeat (first | (with_reducible first | exact HB.out | apply below_alloc | apply pw_below_drewN | apply below_drew1) | exact HB.out))) A81.out).mono ?_); rintro e w85 ⟨rfl, hb⟩; have n0_ := Aside0.mk (below_step (by repeat (first | (with_reducible first | exact HB.out | apply below_alloc | apply pw_below_drewN | apply below_drew1) | exact HB.out)) hb); clear HB; have HB := n0_; clear n0_; (try clear hb); (try clear hb2); (try clear hk); (try clear hi))))
                                                go_ret
                                                exact ⟨by first | rfl | (simp [errW_none, errW_some] <;> rfl) | (simp [*, errW_none, errW_some] <;> rfl), by repeat (first | (with_reducible first | exact HB.out | apply below_alloc | apply pw_below_drewN | apply below_drew1) | exact HB.out)⟩
                                            · replace c82 := Bool.eq_false_iff.mpr c82
                                              subst c82
                                              have H1 : (some false) = some r := by rw [if_neg (show ¬ (false = true) by decide)] at H; exact H
                                              clear H
                                              have H := H1
                                              clear H1
                                              obtain rfl := Option.some.inj H
                                              go_wp2_with (first | (go_at_call 16; (with_reducible refine (qanatlaw03_sanity.calls  false _ (TabOK.of_below hT (by repeat (first | (with_reducible first | exact HB.out | apply below_alloc | apply pw_below_drewN | apply below_drew1) | exact HB.out))) A81.out).mono ?_); rintro e w86 ⟨rfl, hb⟩; have n0_ := Aside0.mk (below_step (by repeat (first | (with_reducible first | exact HB.out | apply below_alloc | apply pw_below_drewN | apply below_drew1) | exact HB.out)) hb); clear HB; have HB := n0_; clear n0_; (try clear hb); (try clear hb2); (try clear hk); (try clear hi)))
                                              repeat (go_quiet (first | (go_at_call 16; (with_reducible refine (qanatlaw03_sanity.calls  false _ (TabOK.of_below hT (by repeat (first | (with_reducible first | exact HB.out | apply below_alloc | apply pw_below_drewN | apply below_drew1) | exact HB.out))) A81.out).mono ?_); rintro e w86 ⟨rfl, hb⟩; have n0_ := Aside0.mk (below_step (by repeat (first | (with_reducible first | exact HB.out | apply below_alloc | apply pw_below_drewN | apply below_drew1) | exact HB.out)) hb); clear HB; have HB := n0_; clear n0_; (try clear hb); (try clear hb2); (try clear hk); (try clear hi))); try go_wp2_with (first | (go_at_call 16; (with_reducible refine (qanatlaw03_sanity.calls  false _ (TabOK.of_below hT (by repeat (first | (with_reducible first | exact HB.out | apply below_alloc | apply pw_below_drewN | apply below_drew1) | exact HB.out))) A81.out).mono ?_); rintro e w86 ⟨rfl, hb⟩; have n0_ := Aside0.mk (below_step (by repeat (first | (with_reducible first | exact HB.out | apply below_alloc | apply pw_below_drewN | apply below_drew1) | exact HB.out)) hb); clear HB; have HB := n0_; clear n0_; (try clear hb); (try clear hb2); (try clear hk); (try clear hi))))
                                              go_ret
                                              exact ⟨by first | rfl | (simp [errW_none, errW_some] <;> rfl) | (simp [*, errW_none, errW_some] <;> rfl), by repeat (first | (with_reducible first | exact HB.out | apply below_alloc | apply pw_below_drewN | apply below_drew1) | exact HB.out)⟩
                                          · rw [if_neg c80] at H
                                            have c80b0 : decide (20000 < ((((a0.extract 0 (a2 : Int).toNat) ++ a4) ++ (a0.extract (a3 : Int).toNat a0.size)).size : Int)) = false := decide_eq_false c80
                                            have c80b1 : decide (20000 < (((a0.extract 0 (a2 : Int).toNat) ++ a4) ++ (a0.extract (a3 : Int).toNat a0.size)).size) = false := decide_eq_false (by omega)
                                            have c80b2 : decide (20000 < max a2 0 + (a4.size : Int) + ((a0.size - a3.toNat : Nat) : Int)) = false := decide_eq_false (by have h := c80; rw [ByteArray.size_append, ByteArray.size_append, ByteArray.size_extract, ByteArray.size_extract] at h; have q0 : (0 : Int) ≤ a2 := of_decide_eq_true (by assumption); have q1 : a2 ≤ (a0.size : Int) := of_decide_eq_true (by assumption); have q2 : (0 : Int) ≤ a3 := of_decide_eq_true (by assumption); have q3 : a3 ≤ (a0.size : Int) := of_decide_eq_true (by assumption); omega)
                                            clear c80
                                            replace H := Option.bind_eq_some_iff.mp H
                                            obtain ⟨t606, A870, H⟩ := H
                                            replace H : (if t606 = true then (if t596 = 0 then (some (t595.toList == (((a0.extract 0 (a2 : Int).toNat) ++ a4) ++ (a0.extract (a3 : Int).toNat a0.size)).toList)) else (some false)) else (some false)) = some r := H
                                            have A87 := Aside0.mk A870
                                            clear A870
                                            by_cases c88 : t606 = true
                                            · subst c88
                                              have H1 : (if t596 = 0 then (some (t595.toList == (((a0.extract 0 (a2 : Int).toNat) ++ a4) ++ (a0.extract (a3 : Int).toNat a0.size)).toList)) else (some false)) = some r := by rw [if_pos rfl] at H; exact H
                                              clear H
                                              have H := H1
                                              clear H1
                                              by_cases c89 : t596 = 0
                                              · rw [if_pos c89] at H
                                                have c89b0 : (t596 == 0) = true := beq_iff_eq.mpr c89
                                                have c89b1 : (t596 != 0) = false := bne_eq_false_iff_eq.mpr c89
                                                clear c89
                                                obtain rfl := Option.some.inj H
                                                go_wp2_with (first | (go_at_call 16; (with_reducible refine (qanatlaw03_sanity.calls  true _ (TabOK.of_below hT (by repeat (first | (with_reducible first | exact HB.out | apply below_alloc | apply pw_below_drewN | apply below_drew1) | exact HB.out))) A87.out).mono ?_); rintro e w90 ⟨rfl, hb⟩; have n0_ := Aside0.mk (below_step (by repeat (first | (with_reducible first | exact HB.out | apply below_alloc | apply pw_below_drewN | apply below_drew1) | exact HB.out)) hb); clear HB; have HB := n0_; clear n0_; (try clear hb); (try clear hb2); (try clear hk); (try clear hi)))
                                                repeat (go_quiet (first | (go_at_call 16; (with_reducible refine (qanatlaw03_sanity.calls  true _ (TabOK.of_below hT (by repeat (first | (with_reducible first | exact HB.out | apply below_alloc | apply pw_below_drewN | apply below_drew1) | exact HB.out))) A87.out).mono ?_); rintro e w90 ⟨rfl, hb⟩; have n0_ := Aside0.mk (below_step (by repeat (first | (with_reducible first | exact HB.out | apply below_alloc | apply pw_below_drewN | apply below_drew1) | exact HB.out)) hb); clear HB; have HB := n0_; clear n0_; (try clear hb); (try clear hb2); (try clear hk); (try clear hi))); try go_wp2_with (first | (go_at_call 16; (with_reducible refine (qanatlaw03_sanity.calls  true _ (TabOK.of_below hT (by repeat (first | (with_reducible first | exact HB.out | apply below_alloc | apply pw_below_drewN | apply below_drew1) | exact HB.out))) A87.out).mono ?_); rintro e w90 ⟨rfl, hb⟩; have n0_ := Aside0.mk (below_step (by repeat (first | (with_reducible first | exact HB.out | apply below_alloc | apply pw_below_drewN | apply below_drew1) | exact HB.out)) hb); clear HB; have HB := n0_; clear n0_; (try clear hb); (try clear hb2); (try clear hk); (try clear hi))))
                                                go_ret
                                                exact ⟨by first | rfl | (simp [errW_none, errW_some] <;> rfl) | (simp [*, errW_none, errW_some] <;> rfl), by repeat (first | (with_reducible first | exact HB.out | apply below_alloc | apply pw_below_drewN | apply below_drew1) | exact HB.out)⟩
                                              · rw [if_neg c89] at H
                                                have c89b0 : (t596 == 0) = false := beq_eq_false_iff_ne.mpr c89
                                                have c89b1 : (t596 != 0) = true := bne_iff_ne.mpr c89
                                                obtain rfl := Option.some.inj H
                                                go_wp2_with (first | (go_at_call 16; (with_reducible refine (qanatlaw03_sanity.calls  true _ (TabOK.of_below hT (by repeat (first | (with_reducible first | exact HB.out | apply below_alloc | apply pw_below_drewN | apply below_drew1) | exact HB.out))) A87.out).mono ?_); rintro e w91 ⟨rfl, hb⟩; have n0_ := Aside0.mk (below_step (by repeat (first | (with_reducible first | exact HB.out | apply below_alloc | apply pw_below_drewN | apply below_drew1) | exact HB.out)) hb); clear HB; have HB := n0_; clear n0_; (try clear hb); (try clear hb2); (try clear hk); (try clear hi)))
                                                repeat (go_quiet (first | (go_at_call 16; (with_reducible refine (qanatlaw03_sanity.calls  true _ (TabOK.of_below hT (by repeat (first | (with_reducible first | exact HB.out | apply below_alloc | apply pw_below_drewN | apply below_drew1) | exact HB.out))) A87.out).mono ?_); rintro e w91 ⟨rfl, hb⟩; have n0_ := Aside0.mk (below_step (by repeat (first | (with_reducible first | exact HB.out | apply below_alloc | apply pw_below_drewN | apply below_drew1) | exact HB.out)) hb); clear HB; have HB := n0_; clear n0_; (try clear hb); (try clear hb2); (try clear hk); (try clear hi))); try go_wp2_with (first | (go_at_call 16; (with_reducible refine (qanatlaw03_sanity.calls  true _ (TabOK.of_below hT (by repeat (first | (with_reducible first | exact HB.out | apply below_alloc | apply pw_below_drewN | apply below_drew1) | exact HB.out))) A87.out).mono ?_); rintro e w91 ⟨rfl, hb⟩; have n0_ := Aside0.mk (below_step (by repeat (first | (with_reducible first | exact HB.out | apply below_alloc | apply pw_below_drewN | apply below_drew1) | exact HB.out)) hb); clear HB; have HB := n0_; clear n0_; (try clear hb); (try clear hb2); (try clear hk); (try clear hi))))
                                                go_ret
                                                exact ⟨by first | rfl | (simp [errW_none, errW_some] <;> rfl) | (simp [*, errW_none, errW_some] <;> rfl), by repeat (first | (with_reducible first | exact HB.out | apply below_alloc | apply pw_below_drewN | apply below_drew1) | exact HB.out)⟩
                                            · replace c88 := Bool.eq_false_iff.mpr c88
                                              subst c88
                                              have H1 : (some false) = some r := by rw [if_neg (show ¬ (false = true) by decide)] at H; exact H
                                              clear H
                                              have H := H1
                                              clear H1
                                              obtain rfl := Option.some.inj H
                                              go_wp2_with (first | (go_at_call 16; (with_reducible refine (qanatlaw03_sanity.calls  false _ (TabOK.of_below hT (by repeat (first | (with_reducible first | exact HB.out | apply below_alloc | apply pw_below_drewN | apply below_drew1) | exact HB.out))) A87.out).mono ?_); rintro e w92 ⟨rfl, hb⟩; have n0_ := Aside0.mk (below_step (by repeat (first | (with_reducible first | exact HB.out | apply below_alloc | apply pw_below_drewN | apply below_drew1) | exact HB.out)) hb); clear HB; have HB := n0_; clear n0_; (try clear hb); (try clear hb2); (try clear hk); (try clear hi)))
                                              repeat (go_quiet (first | (go_at_call 16; (with_reducible refine (qanatlaw03_sanity.calls  false _ (TabOK.of_below hT (by repeat (first | (with_reducible first | exact HB.out | apply below_alloc | apply pw_below_drewN | apply below_drew1) | exact HB.out))) A87.out).mono ?_); rintro e w92 ⟨rfl, hb⟩; have n0_ := Aside0.mk (below_step (by repeat (first | (with_reducible first | exact HB.out | apply below_alloc | apply pw_below_drewN | apply below_drew1) | exact HB.out)) hb); clear HB; have HB := n0_; clear n0_; (try clear hb); (try clear hb2); (try clear hk); (try clear hi))); try go_wp2_with (first | (go_at_call 16; (with_reducible refine (qanatlaw03_sanity.calls  false _ (TabOK.of_below hT (by repeat (first | (with_reducible first | exact HB.out | apply below_alloc | apply pw_below_drewN | apply below_drew1) | exact HB.out))) A87.out).mono ?_); rintro e w92 ⟨rfl, hb⟩; have n0_ := Aside0.mk (below_step (by repeat (first | (with_reducible first | exact HB.out | apply below_alloc | apply pw_below_drewN | apply below_drew1) | exact HB.out)) hb); clear HB; have HB := n0_; clear n0_; (try clear hb); (try clear hb2); (try clear hk); (try clear hi))))
                                              go_ret
                                              exact ⟨by first | rfl | (simp [errW_none, errW_some] <;> rfl) | (simp [*, errW_none, errW_some] <;> rfl), by repeat (first | (with_reducible first | exact HB.out | apply below_alloc | apply pw_below_drewN | apply below_drew1) | exact HB.out)⟩
                                        · rw [if_neg c79] at H
                                          exact absurd H (by simp)
                                      · rw [if_neg c78] at H
                                        exact absurd H (by simp)
                                    · rw [if_neg c77] at H
                                      exact absurd H (by simp)
                                  · rw [if_neg c76] at H
                                    exact absurd H (by simp)
                                · rw [if_neg c75] at H
                                  exact absurd H (by simp)
                              · rw [if_neg c74] at H
                                exact absurd H (by simp)

/-- THE ONE PURE STATEMENT of qanatlaw03_ScanLines: yours. -/
def qanatlaw03_ScanLines.Pure : Prop := ∀ (a0 : ByteArray) (a1 : Int) (a2 : Int) (a3 : Int) (a4 : ByteArray), a0.size ≤ 140737488351232 → (Lit.int .i64 a1).wf = true → (Lit.int .i64 a2).wf = true → (Lit.int .i64 a3).wf = true → a4.size ≤ 140737488351232 → ∃ k, qanatlaw03_ScanLines.f k a0 a1 a2 a3 a4 = some true
theorem qanatlaw03_ScanLines.walk (P : qanatlaw03_ScanLines.Pure) (a0 : ByteArray) (a1 : Int) (a2 : Int) (a3 : Int) (a4 : ByteArray) (w : World) (hT : TabOK w) (w0 : a0.size ≤ 140737488351232) (w1 : (Lit.int .i64 a1).wf = true) (w2 : (Lit.int .i64 a2).wf = true) (w3 : (Lit.int .i64 a3).wf = true) (w4 : a4.size ≤ 140737488351232) :
    Calls Tryz.prog 14 #[.string a0, .int .i64 a1, .int .i64 a2, .int .i64 a3, .string a4] w fun e w' => e = .returned (.bool true) ∧ Below w.heap.size w w' := by
  obtain ⟨k, h⟩ := P a0 a1 a2 a3 a4 w0 w1 w2 w3 w4
  refine (qanatlaw03_ScanLines.calls k a0 a1 a2 a3 a4 true w hT h).mono ?_
  rintro e w' ⟨rfl, hd⟩
  exact ⟨rfl, hd⟩

end Go.Proofs.YtkkpjonfaflkmaaGreatDoor.T

/- Small laws on bytes and strings that the pure laws share. -/
namespace Go.Proofs.YtkkpjonfaflkmaaGreatDoor.T
set_option linter.unusedSimpArgs false
set_option linter.unusedVariables false
open Go.RowKit Go.Proofs.YtkkpjonfaflkmaaGreatDoorW.PrintWords Go.Proofs.YtkkpjonfaflkmaaGreatDoorW.PrintLast Go.Proofs.YtkkpjonfaflkmaaGreatDoorW.PrintMore

theorem w64n {i : Nat} (h : i ≤ 1000000000000) : wrap64 ((i : Int) + 1) = ((i + 1 : Nat) : Int) := by unfold wrap64; omega
theorem drop_bt (a0 : ByteArray) {i : Nat} (h : i < a0.size) : (bytesOf a0).drop i = bt a0 (i : Int) :: (bytesOf a0).drop (i + 1) := by
  rw [bt_getD a0 i h]
  exact drop_at _ _ (by rw [bytesOf_length]; exact h)
theorem prn_all_str (L : List Int) (h : ∀ x ∈ L, 0 ≤ x ∧ x < 256) : (strOfNums L).size = L.length := by simp [strOfNums, ByteArray.size]
theorem bt_str {q : Int} {L : List Int} (h : ∀ x ∈ q :: L, 0 ≤ x ∧ x < 256) : bt (strOfNums (q :: L)) 0 = q := by
  have hs : 0 < (strOfNums (q :: L)).size := by rw [prn_all_str _ h]; simp
  have := bt_getD (strOfNums (q :: L)) 0 hs
  rw [bytesOf_str _ h] at this
  exact this
theorem str_bytes (a0 : ByteArray) : strOfNums (bytesOf a0) = a0 := by
  apply bytesOf_inj
  rw [bytesOf_str _ (bo_range a0)]
end Go.Proofs.YtkkpjonfaflkmaaGreatDoor.T

/- ScanLines: the statement. -/
namespace Go.Proofs.YtkkpjonfaflkmaaGreatDoor.T
set_option linter.unusedSimpArgs false
set_option linter.unusedVariables false
open Go.RowKit Go.Proofs.YtkkpjonfaflkmaaGreatDoorW.PrintWords Go.Proofs.YtkkpjonfaflkmaaGreatDoorW.PrintLast Go.Proofs.YtkkpjonfaflkmaaGreatDoorW.PrintMore

/-- A text cut at its line feeds, what stands before the first cut being known. -/
def cutC : List Int → List Int → List (List Int)
  | [], cur => [cur]
  | c :: t, cur => if c = 10 then cur :: cutC t [] else cutC t (cur ++ [c])
def linesL : List Int → List Int → List (List Int)
  | [], cur => if cur = [] then [] else [cur]
  | c :: t, cur => if c = 10 then cur :: linesL t [] else linesL t (cur ++ [c])
theorem lines_feed : ∀ (ys cur : List Int), linesL (ys ++ [10]) cur = cutC ys cur
  | [], cur => by simp [linesL, cutC]
  | c :: t, cur => by
    show linesL (c :: (t ++ [10])) cur = _
    rw [linesL, cutC]
    by_cases h : c = 10
    · rw [if_pos h, if_pos h, lines_feed t]
    · rw [if_neg h, if_neg h, lines_feed t]
theorem lines_no : ∀ (xs cur : List Int), xs ≠ [] → xs.getLast? ≠ some 10 → linesL xs cur = cutC xs cur
  | [], cur, h, _ => absurd rfl h
  | [c], cur, _, h => by
    have hc : c ≠ 10 := fun e => h (by rw [e]; rfl)
    simp [linesL, cutC, hc]
  | c :: d :: t, cur, _, h => by
    have ih := fun cur => lines_no (d :: t) cur (by simp) (by simpa using h)
    rw [linesL, cutC]
    by_cases h1 : c = 10
    · rw [if_pos h1, if_pos h1, ih]
    · rw [if_neg h1, if_neg h1, ih]
theorem ixn_self (q : UInt8) (t : List UInt8) : Lib.index (q :: t) [q] = 0 := by simp [Lib.index]
theorem ixn_other (q b : UInt8) (t : List UInt8) (h : b ≠ q) : Lib.index (b :: t) [q] = if Lib.index t [q] == -1 then -1 else Lib.index t [q] + 1 := by
  rw [Lib.index, if_neg]
  simp
  exact fun e => h e.symm
/-- The pieces between line feeds, the first one lengthened. -/
def headOn (cur : List UInt8) : List (List UInt8) → List (List UInt8)
  | [] => [cur]
  | h :: r => (cur ++ h) :: r
theorem splitK_other (b : UInt8) (t : List UInt8) (hb : b ≠ 10) (k : Nat) : Lib.splitK [10] 0 k (b :: t) = headOn [b] (Lib.splitK [10] 0 k t) := by
  cases k with
  | zero => rfl
  | succ k =>
    have hg := Lib.index_ge t [10]
    rw [Lib.splitK, Lib.splitK, ixn_other 10 b t hb]
    by_cases e : Lib.index t [10] = -1
    · rw [e]; rfl
    · obtain ⟨i, hi⟩ : ∃ i : Nat, Lib.index t [10] = i := ⟨(Lib.index t [10]).toNat, by omega⟩
      have c1 : ((i : Int) == -1) = false := beq_eq_false_iff_ne.mpr (by omega)
      have c2 : ((i : Int) + 1 == -1) = false := beq_eq_false_iff_ne.mpr (by omega)
      rw [hi]
      simp only [c1, Bool.false_eq_true, if_false, c2]
      rw [show ((i : Int) + 1).toNat = i + 1 by omega, Int.toNat_natCast]
      rfl
theorem headOn_ne : ∀ (k : Nat) (s : List UInt8), Lib.splitK [10] 0 k s ≠ []
  | 0, s => by simp [Lib.splitK]
  | k + 1, s => by unfold Lib.splitK; split <;> simp
theorem splitK_cut : ∀ (s cur : List UInt8), (headOn cur (Lib.splitK [10] 0 (s.count 10) s)).map nums = cutC (nums s) (nums cur)
  | [], cur => by simp [Lib.splitK, headOn, cutC, nums]
  | b :: t, cur => by
    have hn : nums (b :: t) = (b.toNat : Int) :: nums t := rfl
    by_cases hb : b = 10
    · subst hb
      rw [List.count_cons_self, Lib.splitK, ixn_self, if_neg (by decide), hn, cutC, if_pos (by decide)]
      have ih := splitK_cut t []
      rcases hsp : Lib.splitK [10] 0 (t.count 10) t with _ | ⟨h, r⟩
      · exact absurd hsp (headOn_ne _ _)
      · rw [hsp] at ih
        have ih' : (h :: r).map nums = cutC (nums t) [] := ih
        show (headOn cur (List.take 0 (10 :: t) :: Lib.splitK [10] 0 (t.count 10) t)).map nums = _
        rw [hsp]
        simp only [headOn, List.take_zero, List.append_nil, List.map_cons] at ih' ⊢
        rw [← ih']
    · rw [List.count_cons_of_ne (fun e => hb e), splitK_other b t hb, hn, cutC, if_neg (fun e => hb (u8_inj (e.trans (show (10 : Int) = ((10 : UInt8).toNat : Int) from rfl))))]
      have ih := splitK_cut t (cur ++ [b])
      rcases hsp : Lib.splitK [10] 0 (t.count 10) t with _ | ⟨h, r⟩
      · exact absurd hsp (headOn_ne _ _)
      · rw [hsp] at ih
        simp only [headOn] at ih ⊢
        rw [← List.append_assoc] 
        rw [ih]
        simp [nums]
theorem splitB_lines (s : ByteArray) : (Lib.splitB ⟨#[10]⟩ 0 (Lib.countB s ⟨#[10]⟩) s).map bytesOf = cutC (bytesOf s) [] := by
  have h := Lib.splitB_data ⟨#[10]⟩ 0 (Lib.countB s ⟨#[10]⟩) s
  rw [countB_one] at h ⊢
  have h2 := splitK_cut s.data.toList []
  rw [bytesOf_nums, ← show nums ([] : List UInt8) = [] from rfl, ← h2]
  have h3 : (Lib.splitB ⟨#[10]⟩ 0 (List.count 10 s.data.toList) s).map bytesOf = ((Lib.splitB ⟨#[10]⟩ 0 (List.count 10 s.data.toList) s).map (·.data.toList)).map nums := by
    rw [List.map_map]; rfl
  rw [h3, h]
  rcases hsp : Lib.splitK [10] 0 (s.data.toList.count 10) s.data.toList with _ | ⟨h, r⟩
  · exact absurd hsp (headOn_ne _ _)
  · rfl
theorem map_inj : ∀ {a b : List ByteArray}, a.map bytesOf = b.map bytesOf → a = b
  | [], [], _ => rfl
  | [], _ :: _, h => by cases h
  | _ :: _, [], h => by cases h
  | x :: a, y :: b, h => by
    simp only [List.map_cons, List.cons.injEq] at h
    rw [bytesOf_inj h.1, map_inj h.2]
theorem reflines_l0 (x0 : ByteArray) (hs : x0.size ≤ 100000) : ∀ (m k i from_ : Nat) (acc : List ByteArray), i + m = x0.size → m < k → from_ ≤ i → acc.length ≤ i → ∃ r, qanatref03_Lines.l0 k x0 acc (from_ : Int) (i : Int) = some (acc ++ r) ∧ r.map bytesOf = linesL ((bytesOf x0).drop i) (((bytesOf x0).drop from_).take (i - from_))
  | m, 0, i, from_, acc, _, h, _, _ => absurd h (Nat.not_lt_zero _)
  | 0, k + 1, i, from_, acc, h, _, hf, ha => by
    have hl : (bytesOf x0).length = x0.size := bytesOf_length x0
    have hd0 : (bytesOf x0).drop i = [] := List.drop_eq_nil_of_le (by omega)
    rw [qanatref03_Lines.l0, if_neg (by omega), hd0]
    by_cases h1 : from_ < x0.size
    · rw [if_pos (by omega), if_pos (by omega), if_pos (by omega), if_pos (by omega), Int.toNat_natCast]
      refine ⟨[x0.extract from_ x0.size], rfl, ?_⟩
      rw [List.map_cons, List.map_nil, bytesOf_rest, List.take_of_length_le (by rw [List.length_drop]; omega)]
      unfold linesL
      rw [if_neg]
      intro e
      have : ((bytesOf x0).drop from_).length = 0 := by rw [e]; rfl
      rw [List.length_drop] at this
      omega
    · rw [if_neg (by omega)]
      refine ⟨[], by rw [List.append_nil], ?_⟩
      rw [List.drop_eq_nil_of_le (by omega)]
      simp [linesL]
  | m + 1, k + 1, i, from_, acc, h, hk, hf, ha => by
    have hl : (bytesOf x0).length = x0.size := bytesOf_length x0
    rw [qanatref03_Lines.l0, if_pos (by omega), if_pos (by omega), drop_bt x0 (i := i) (by omega), linesL, w64n (i := i) (by omega)]
    by_cases h10 : bt x0 (i : Int) = 10
    · obtain ⟨r, h1, h2⟩ := reflines_l0 x0 hs m k (i + 1) (i + 1) (acc ++ [x0.extract from_ i]) (by omega) (by omega) (Nat.le_refl _) (by rw [List.length_append, List.length_singleton]; omega)
      rw [if_pos h10, if_pos (by omega), if_pos (by omega), if_pos (by omega), if_pos (by omega), Int.toNat_natCast, Int.toNat_natCast, if_pos h10, h1]
      refine ⟨x0.extract from_ i :: r, by simp, ?_⟩
      rw [List.map_cons, h2, bytesOf_extract, Nat.sub_self, List.take_zero]
    · obtain ⟨r, h1, h2⟩ := reflines_l0 x0 hs m k (i + 1) from_ acc (by omega) (by omega) (by omega) (by omega)
      rw [if_neg h10, if_neg h10, h1]
      refine ⟨r, rfl, ?_⟩
      rw [h2]
      congr 1
      rw [show i + 1 - from_ = (i - from_) + 1 by omega, List.take_add_one]
      congr 1
      rw [List.getElem?_drop, show from_ + (i - from_) = i by omega]
      have hd := drop_bt x0 (i := i) (by omega)
      have : (bytesOf x0)[i]? = some (bt x0 (i : Int)) := by
        have e : ((bytesOf x0).drop i)[0]? = some (bt x0 (i : Int)) := by rw [hd]; rfl
        rw [List.getElem?_drop, Nat.add_zero] at e
        exact e
      rw [this]; rfl
theorem same_l0 (l : List ByteArray) (hl : l.length ≤ 1000000) : ∀ (m k i : Nat), i + m = l.length → m < k → qanatref03_SameStrings.l0 k l l (i : Int) = some true
  | m, 0, i, _, h => absurd h (Nat.not_lt_zero _)
  | 0, k + 1, i, h, _ => by rw [qanatref03_SameStrings.l0, if_neg (by omega)]
  | m + 1, k + 1, i, h, hk => by
    have ih := same_l0 l hl m k (i + 1) (by omega) (by omega)
    rw [qanatref03_SameStrings.l0, if_pos (by omega), if_pos (by omega), if_pos (by omega), if_pos rfl, w64n (by omega), ih]
theorem same_f (l : List ByteArray) (hl : l.length ≤ 1000000) (k : Nat) (hk : l.length < k) : qanatref03_SameStrings.f k l l = some true := by
  unfold qanatref03_SameStrings.f
  rw [if_pos rfl]
  exact same_l0 l hl l.length k 0 (by omega) hk
end Go.Proofs.YtkkpjonfaflkmaaGreatDoor.T
