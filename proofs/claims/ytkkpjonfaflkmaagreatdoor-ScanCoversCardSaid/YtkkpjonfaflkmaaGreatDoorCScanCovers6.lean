/- Part 6 of the proof of ScanCovers: the functions that it calls return what their plain descriptions say. -/
import Derived.Test.YtkkpjonfaflkmaaGreatDoorCScanCovers2
import Derived.Test.YtkkpjonfaflkmaaGreatDoorCScanCovers4
import Derived.Test.YtkkpjonfaflkmaaGreatDoorCScanCovers5

-- Written by a program of this session (mp.py over the kit's print.py), out of the translation.
namespace Go.Proofs.YtkkpjonfaflkmaaGreatDoor.T
set_option linter.unusedSimpArgs false
open Go.RowKit Go.Proofs.YtkkpjonfaflkmaaGreatDoorW.PrintWords Go.Proofs.YtkkpjonfaflkmaaGreatDoorW.PrintLast Go.Proofs.YtkkpjonfaflkmaaGreatDoorW.PrintMore
attribute [local go_sem] max2_int min2_int max_two min_two max_three min_three max_four min_four   -- for this text's walks alone
set_option linter.unusedVariables false
set_option linter.unusedSimpArgs false

/-! ### scan_Labels: function 20 -/
def scan_Labels.l0 : Nat → List (S73) → List (List (S53)) → Int → Int → Option ((List (S73)) × Int × Int × Int)
  | 0, _, _, _, _ => none
  | k + 1, x10, x25, x26, x27 => if x27 < x26 then (if 0 ≤ x27 then (if x27 < (x25.length : Int) then ((scan_label.f (rd_L4 x25 x27)).bind fun t112 => (if t112 = true then (if 0 < ((rd_L4 x25 x27).length : Int) then (if x10.length < 5864062014805 then (scan_Labels.l0 k (x10 ++ [(⟨(rd_T53 (rd_L4 x25 x27) 0).f1, (rd_T53 (rd_L4 x25 x27) 0).f3⟩ : S73)]) x25 x26 (wrap64 (x27 + 1))) else (none)) else (none)) else (scan_Labels.l0 k x10 x25 x26 (wrap64 (x27 + 1))))) else (none)) else (none)) else (some (x10, 0, 0, 0))
def scan_Labels.f (k : Nat) (a0 : ByteArray) : Option ((List (S73)) × Int × Int × Int) := (scan_Clauses.f a0).bind fun bt105 => (if bt105.2.2.2 = 0 then (scan_Labels.l0 k ([] : List (S73)) bt105.1 (bt105.1.length : Int) 0) else (some (([] : List (S73)), bt105.2.1, bt105.2.2.1, bt105.2.2.2)))
theorem scan_Labels.mono_l : ∀ k, (∀ y0 y1 y2 y3, LeO (scan_Labels.l0 k y0 y1 y2 y3) (scan_Labels.l0 (k + 1) y0 y1 y2 y3))
  | 0 => fun _ _ _ _ r h => by simp [scan_Labels.l0] at h
  | k + 1 => by
    have ih0 := scan_Labels.mono_l k
    · intro y0 y1 y2 y3
      unfold scan_Labels.l0
      repeat' first
      | (with_reducible exact ih0 _ _ _ _)
      | (with_reducible exact LeO.refl _)
      | (with_reducible exact LeO.none _)
      | (with_reducible refine LeO.ite ?_ ?_)
      | (with_reducible refine LeO.bind ?_ (fun _ => ?_))
      | exact ih0 _ _ _ _
      | exact LeO.none _
      | refine LeO.ite ?_ ?_
      | refine LeO.bind ?_ (fun _ => ?_)
theorem scan_Labels.mono : ∀ a0 k, LeO (scan_Labels.f k a0) (scan_Labels.f (k + 1) a0) := by
  intro a0 k
  have ih0 := scan_Labels.mono_l k
  unfold scan_Labels.f
  repeat' first
      | (with_reducible exact ih0 _ _ _ _)
      | (with_reducible exact LeO.refl _)
      | (with_reducible exact LeO.none _)
      | (with_reducible refine LeO.ite ?_ ?_)
      | (with_reducible refine LeO.bind ?_ (fun _ => ?_))
      | exact ih0 _ _ _ _
      | exact LeO.none _
      | refine LeO.ite ?_ ?_
      | refine LeO.bind ?_ (fun _ => ?_)
def scan_Labels.T9 : Bool × List (List Nat × List Nat) := (true, [([], []), ([], []), ([1], [1]), ([2], [2]), ([3], [3]), ([], []), ([5], [5]), ([6], [6]), ([7], [7]), ([4, 8], [4, 8]), ([9], [9]), ([0, 10], [0, 10]), ([11, 11, 0, 1, 2, 3, 4, 5, 6, 7, 8, 9, 10, 11], [0, 11])])
def scan_Labels.B9 : List Nat := [0, 0, 2, 6, 14, 0, 32, 96, 224, 510, 1022, 2047, 4095]
theorem scan_Labels.tab9 : rtab .any (opsOf Tryz.f20 9) = scan_Labels.T9 := by kernel_rfl
theorem scan_Labels.bits9 : waitsOk scan_Labels.T9.2 scan_Labels.B9 = true := by kernel_rfl
set_option maxHeartbeats 8000000 in
set_option maxRecDepth 100000 in
theorem scan_Labels.calls (k : Nat) (a0 : ByteArray) (r1 : List (S73)) (r2 : Int) (r3 : Int) (r4 : Int) (w : World) (hT : TabOK w) (h : scan_Labels.f k a0 = some (r1, r2, r3, r4)) :
    Calls Tryz.prog 20 #[.string a0] w fun e w' => ∃ v0_ : Value, e = .returned (.tuple #[v0_, .int .i64 r2, .int .i64 r3, .int .i64 r4]) ∧ Kd.R k73 73 w' w.heap.size (fun _ => True) v0_ r1 ∧ Below w.heap.size w w' := by
  have hu73 := Tryz.underlying73
  have HB := Aside0.mk (Below.refl w.heap.size w)
  have H : ((scan_Clauses.f a0).bind fun bt105 => (if bt105.2.2.2 = 0 then (scan_Labels.l0 k ([] : List (S73)) bt105.1 (bt105.1.length : Int) 0) else (some (([] : List (S73)), bt105.2.1, bt105.2.2.1, bt105.2.2.2)))) = some (r1, r2, r3, r4) := h
  clear h
  replace H := Option.bind_eq_some_iff.mp H
  obtain ⟨⟨t105, t106, t107, t108⟩, A20, H⟩ := H
  replace H : (if t108 = 0 then (scan_Labels.l0 k ([] : List (S73)) t105 (t105.length : Int) 0) else (some (([] : List (S73)), t106, t107, t108))) = some (r1, r2, r3, r4) := H
  have A2 := Aside0.mk A20
  clear A20
  by_cases c3 : t108 = 0
  · rw [if_pos c3] at H
    have c3b0 : (t108 == 0) = true := beq_iff_eq.mpr c3
    have c3b1 : (t108 != 0) = false := bne_eq_false_iff_eq.mpr c3
    clear c3
    have H' := Aside0.mk H
    clear H
    go_enter Tryz.func20, Tryz.ntmps20
    go_wp2_with (first | ((with_reducible refine gate_callee (f := 19) rfl ?_); refine goesL_ (some 15) rfl rfl Tryz.func19 (by kernel_rfl) rfl #[.string a0] rfl (by (try simp only [List.map_toArray, List.map_cons, List.map_nil]); first | done | rfl | (simp only [List.length_drop, List.length_take]; rfl)) ?_; (with_reducible refine (scan_Clauses.calls a0 t105 t106 t107 t108 _ (TabOK.of_below hT (by repeat (first | (with_reducible first | exact HB.out | apply below_alloc | apply pw_below_drewN | apply below_drew1) | exact HB.out))) A2.out).mono ?_); rintro e w4 ⟨v109, rfl, ho0, hb⟩; refine ⟨_, rfl, ?_⟩; have n0_ := Aside0.mk (Kd.N_lower (Kd.N_mono (ok' := fun k_ => True) ho0 (fun k_ hk_ => trivial)) (below_size (by repeat (first | (with_reducible first | exact HB.out | apply below_alloc | apply pw_below_drewN | apply below_drew1) | exact HB.out)))); have n1_ := Aside0.mk (below_step (by repeat (first | (with_reducible first | exact HB.out | apply below_alloc | apply pw_below_drewN | apply below_drew1) | exact HB.out)) hb); clear HB; have HO110 := n0_; have HB := n1_; clear n0_ n1_; (try clear hb); (try clear hb2); (try clear hk); (try clear hi); (try clear ho0); obtain ⟨Ao5, co5, eo5⟩ := Kd.N_slice HO110.out; subst eo5))
    go_loopg [10, 27] k (fun kq v10 v27 w' => ∃ (x10_1 : List (S73)) (x27_1 : Int), v27 = .int .i64 x27_1 ∧ Aside0 (scan_Labels.l0 kq x10_1 t105 (t105.length : Int) x27_1 = some (r1, r2, r3, r4)) ∧ Aside0 (kq ≤ k) ∧ Aside0 (Kd.R k73 73 w' w.heap.size (fun _ => True) v10 x10_1) ∧ Aside0 (Kd.N (Kd.slice 53 k53) 24 w' w.heap.size (fun k_ => some k_ ≠ (v10 : Value).ownBlock) (.slice Ao5 t105.length co5) t105) ∧ Aside0 (Below w.heap.size w w'))
    case atStart => exact ⟨(([] : List (S73))), (0), (by first | rfl | (simp; done) | (simp [*]; done)), H', ⟨Nat.le_refl _⟩, ⟨by first | exact Kd.R_nil _ _ _ _ _ | exact Kd.N_nil _ _ _ _ _ | exact Kd.V_nil _ _ _ _ _ | exact Kd.Q_nil _ _ _ _ _ | exact Kd.S_nil _ _ _ _ _⟩, ⟨by (with_reducible repeat (first | apply Kd.N_alloc | apply Kd.N_drewN | apply Kd.N_drew)); exact Kd.N_mono HO110.out (fun _ hk => (by simp [Value.ownBlock]))⟩, ⟨by repeat (first | (with_reducible first | exact HB.out | apply below_alloc | apply pw_below_drewN | apply below_drew1) | exact HB.out)⟩⟩
    case round =>
      clear H'
      try clear c1
      try clear c2
      try clear p2
      try clear c3
      try clear c3b0
      try clear c3b1
      obtain ⟨x10_1, x27_1, rfl, HA, HK1, HO_10, HO_25, HB⟩ := hrel
      cases gk with
      | zero => exact absurd HA.out (by simp [scan_Labels.l0])
      | succ k1 =>
        have H := HA.out
        clear HA
        simp only [scan_Labels.l0] at H
        by_cases c6 : x27_1 < (t105.length : Int)
        · rw [if_pos c6] at H
          have c6b0 : decide (x27_1 < (t105.length : Int)) = true := decide_eq_true c6
          clear c6
          by_cases c7 : 0 ≤ x27_1
          · rw [if_pos c7] at H
            have c7b0 : decide (0 ≤ x27_1) = true := decide_eq_true c7
            clear c7
            by_cases c8 : x27_1 < (t105.length : Int)
            · rw [if_pos c8] at H
              have c8b0 : decide (x27_1 < (t105.length : Int)) = true := decide_eq_true c8
              clear c8
              replace H := Option.bind_eq_some_iff.mp H
              obtain ⟨t112, A90, H⟩ := H
              replace H : (if t112 = true then (if 0 < ((rd_L4 t105 x27_1).length : Int) then (if x10_1.length < 5864062014805 then (scan_Labels.l0 k1 (x10_1 ++ [(⟨(rd_T53 (rd_L4 t105 x27_1) 0).f1, (rd_T53 (rd_L4 t105 x27_1) 0).f3⟩ : S73)]) t105 (t105.length : Int) (wrap64 (x27_1 + 1))) else (none)) else (none)) else (scan_Labels.l0 k1 x10_1 t105 (t105.length : Int) (wrap64 (x27_1 + 1)))) = some (r1, r2, r3, r4) := H
              have A9 := Aside0.mk A90
              clear A90
              by_cases c10 : t112 = true
              · subst c10
                have H1 : (if 0 < ((rd_L4 t105 x27_1).length : Int) then (if x10_1.length < 5864062014805 then (scan_Labels.l0 k1 (x10_1 ++ [(⟨(rd_T53 (rd_L4 t105 x27_1) 0).f1, (rd_T53 (rd_L4 t105 x27_1) 0).f3⟩ : S73)]) t105 (t105.length : Int) (wrap64 (x27_1 + 1))) else (none)) else (none)) = some (r1, r2, r3, r4) := by rw [if_pos rfl] at H; exact H
                clear H
                have H := H1
                clear H1
                by_cases c11 : 0 < ((rd_L4 t105 x27_1).length : Int)
                · rw [if_pos c11] at H
                  have c11b0 : decide (0 < ((rd_L4 t105 x27_1).length : Int)) = true := decide_eq_true c11
                  have c11b1 : decide (0 < (rd_L4 t105 x27_1).length) = true := decide_eq_true (by omega)
                  clear c11
                  by_cases c12 : x10_1.length < 5864062014805
                  · rw [if_pos c12] at H
                    have LMc12 := Aside0.mk c12
                    clear c12
                    obtain ⟨y115, hy115⟩ : ∃ y_ : List (S73), y_ = (x10_1 ++ [(⟨(rd_T53 (rd_L4 t105 x27_1) 0).f1, (rd_T53 (rd_L4 t105 x27_1) 0).f3⟩ : S73)]) := ⟨_, rfl⟩
                    replace H : (scan_Labels.l0 k1 y115 t105 (t105.length : Int) (wrap64 (x27_1 + 1))) = some (r1, r2, r3, r4) := by first | (rw [hy115]; with_reducible exact H) | (have H2_ := (Option.bind_some _ _).symm.trans H; rw [hy115]; with_reducible exact H2_) | (have H2_ := (Option.bind_some _ _).symm.trans H; with_reducible exact H2_) | with_reducible exact H | (rw [hy115]; exact H) | exact H
                    have Ny115 := Aside0.mk hy115
                    clear hy115
                    have H' := Aside0.mk H
                    clear H
                    have p111 : 0 ≤ (x27_1 : Int) := of_decide_eq_true (by first | (with_reducible assumption) | assumption)
                    have q111 : x27_1 < (t105.length : Int) := of_decide_eq_true (by first | (with_reducible assumption) | assumption)
                    obtain ⟨ad111, A111_0, c111_0, e111, hx111_0, hl111_0, hi111_0⟩ := at_L4 (Kd.N_reads' HO_25.out).2.2 x27_1 p111 q111
                    cases e111
                    obtain ⟨ce111, hce111, hMe111, hcc111⟩ := Kd.N_get HO_25.out [] x27_1 p111 (by first | exact q111 | exact of_decide_eq_true (by first | (with_reducible assumption) | assumption) | (have e_ := (Kd.N_reads' HO_25.out).1; omega))
                    obtain ⟨ua111_0, uc111_0, rfl, ul111_0, ge111_0⟩ := Kd.FK_slice_open hMe111
                    have hv111_0 := hcc111 0 _ rfl
                    rw [Nat.add_zero, show ((Kd.slice 53 k53)).sz = 1 from rfl, Nat.mul_one] at hv111_0
                    replace hv111_0 := Option.some.inj (hv111_0.symm.trans hx111_0)
                    injection hv111_0 with hva_ hvn_ hvc_
                    rw [hva_] at ge111_0
                    rw [hvc_] at ul111_0
                    have HL111_0 := Aside0.mk (show Kd.V k53 53 _ w.heap.size _ _ (rd_L4 t105 x27_1) from Kd.V_mk ul111_0 ge111_0)
                    clear hva_ hvn_ hvc_ ge111_0 ul111_0
                    clear hcc111 hce111
                    have HR111_0 := Aside0.mk hi111_0
                    have HC111_0 := Aside0.mk hl111_0
                    clear hi111_0 hl111_0
                    replace p111 := eq_true p111
                    replace q111 := eq_true q111
                    try go_wp2_with (first | ((with_reducible refine gate_callee (f := 54) rfl ?_); refine goesL_ (some 32) rfl rfl Tryz.func54 (by kernel_rfl) rfl #[.slice A111_0 (rd_L4 t105 x27_1).length c111_0] rfl (by (try simp only [List.map_toArray, List.map_cons, List.map_nil]); first | done | rfl | (simp only [List.length_drop, List.length_take]; rfl)) ?_; (with_reducible refine (scan_label.calls _ _ (rd_L4 t105 x27_1) true _ ?side1 ?side2 A9.out).mono ?_); (case side1 => repeat (first | exact (by repeat (first | (with_reducible exact HR111_0.out) | (with_reducible refine Kd.C_alloc ?_ _) | (with_reducible refine Kd.C_drewN ?_ _) | (with_reducible refine Kd.C_drew ?_) | exact HR111_0.out)) | (with_reducible refine Kd.C_alloc ?_ _) | (with_reducible refine Kd.C_drewN ?_ _) | (with_reducible refine Kd.C_drew ?_))); (case side2 => exact HC111_0.out); rintro e w' ⟨rfl, ⟨nd, rfl⟩⟩; refine ⟨_, rfl, ?_⟩))
                    (try (rw [drewN_self wr]; generalize hq_ : World.drewN wr _ = wr; have n0_ : Aside0 (Kd.V k53 53 wr w.heap.size (fun k_ => some k_ ≠ (u10 : Value).ownBlock ∧ some k_ ≠ (.slice (some ad111) t105.length co5 : Value).ownBlock) (.slice A111_0 (rd_L4 t105 x27_1).length c111_0) (rd_L4 t105 x27_1)) := ⟨by rw [← hq_]; exact (by (with_reducible repeat (first | apply Kd.V_alloc | apply Kd.V_drewN | apply Kd.V_drew)); exact HL111_0.out)⟩; have n1_ : Aside0 (Kd.R k73 73 wr w.heap.size (fun _ => True) u10 x10_1) := ⟨by rw [← hq_]; exact (by (with_reducible repeat (first | apply Kd.R_alloc | apply Kd.R_drewN | apply Kd.R_drew)); exact HO_10.out)⟩; have n2_ : Aside0 (Kd.N (Kd.slice 53 k53) 24 wr w.heap.size (fun k_ => some k_ ≠ (u10 : Value).ownBlock) (.slice (some ad111) t105.length co5) t105) := ⟨by rw [← hq_]; exact (by (with_reducible repeat (first | apply Kd.N_alloc | apply Kd.N_drewN | apply Kd.N_drew)); exact HO_25.out)⟩; have n3_ : Aside0 (Below w.heap.size w wr) := ⟨by rw [← hq_]; exact (by repeat (first | (with_reducible first | exact HB.out | apply below_alloc | apply pw_below_drewN | apply below_drew1) | exact HB.out))⟩; have n4_ : Aside0 (Kd.C k53 wr A111_0 (rd_L4 t105 x27_1).length (rd_L4 t105 x27_1)) := ⟨by rw [← hq_]; exact (by repeat (first | (with_reducible exact HR111_0.out) | (with_reducible refine Kd.C_alloc ?_ _) | (with_reducible refine Kd.C_drewN ?_ _) | (with_reducible refine Kd.C_drew ?_) | exact HR111_0.out))⟩; clear HL111_0 HO_10 HO_25 HB HR111_0 hq_; have HL111_0 := n0_; have HO_10 := n1_; have HO_25 := n2_; have HB := n3_; have HR111_0 := n4_; clear n0_ n1_ n2_ n3_ n4_))
                    have n0_ := Aside0.mk (Kd.R_drew HO_10.out)
                    have n1_ := Aside0.mk (Kd.N_drew HO_25.out)
                    have n2_ := Aside0.mk (Kd.V_drew HL111_0.out)
                    have n3_ := Aside0.mk (Kd.C_drew HR111_0.out)
                    have n4_ := Aside0.mk (below_drew1 HB.out)
                    clear HO_10
                    clear HO_25
                    clear HL111_0
                    clear HR111_0
                    clear HB
                    have HO_10 := n0_
                    have HO_25 := n1_
                    have HL111_0 := n2_
                    have HR111_0 := n3_
                    have HB := n4_
                    clear n0_ n1_ n2_ n3_ n4_
                    have p113 : 0 ≤ (0 : Int) := (by omega)
                    have q113 : 0 < ((rd_L4 t105 x27_1).length : Int) := of_decide_eq_true (by first | (with_reducible assumption) | assumption)
                    obtain ⟨ad113, e113, hx113_0, hx113_1, hx113_2, hx113_3, hx113_4, hx113_5⟩ := at_T53 (by repeat (first | (with_reducible exact HR111_0.out) | (with_reducible refine Kd.C_alloc ?_ _) | (with_reducible refine Kd.C_drewN ?_ _) | (with_reducible refine Kd.C_drew ?_) | exact HR111_0.out)) 0 p113 q113
                    cases e113
                    have qi113 : (0 < (rd_L4 t105 x27_1).length) = True := eq_true (by omega)
                    (try rw [show ((0 : Int)).toNat = 0 from rfl] at hx113_0)
                    (try rw [show 0 * 6 = 0 from rfl] at hx113_0)
                    (try rw [Addr.add_zero'] at hx113_0)
                    (try rw [show ((0 : Int)).toNat = 0 from rfl] at hx113_1)
                    (try rw [show 0 * 6 = 0 from rfl] at hx113_1)
                    (try rw [Addr.add_zero'] at hx113_1)
                    (try rw [show ((0 : Int)).toNat = 0 from rfl] at hx113_2)
                    (try rw [show 0 * 6 = 0 from rfl] at hx113_2)
                    (try rw [Addr.add_zero'] at hx113_2)
                    (try rw [show ((0 : Int)).toNat = 0 from rfl] at hx113_3)
                    (try rw [show 0 * 6 = 0 from rfl] at hx113_3)
                    (try rw [Addr.add_zero'] at hx113_3)
                    (try rw [show ((0 : Int)).toNat = 0 from rfl] at hx113_4)
                    (try rw [show 0 * 6 = 0 from rfl] at hx113_4)
                    (try rw [Addr.add_zero'] at hx113_4)
                    (try rw [show ((0 : Int)).toNat = 0 from rfl] at hx113_5)
                    (try rw [show 0 * 6 = 0 from rfl] at hx113_5)
                    (try rw [Addr.add_zero'] at hx113_5)
                    replace p113 := eq_true p113
                    replace q113 := eq_true q113
                    have p114 : 0 ≤ (0 : Int) := (by omega)
                    have q114 : 0 < ((rd_L4 t105 x27_1).length : Int) := of_decide_eq_true (by first | (with_reducible assumption) | assumption)
                    obtain ⟨ad114, e114, hx114_0, hx114_1, hx114_2, hx114_3, hx114_4, hx114_5⟩ := at_T53 (by repeat (first | (with_reducible exact HR111_0.out) | (with_reducible refine Kd.C_alloc ?_ _) | (with_reducible refine Kd.C_drewN ?_ _) | (with_reducible refine Kd.C_drew ?_) | exact HR111_0.out)) 0 p114 q114
                    obtain rfl : ad113 = ad114 := (by injection e114)
                    have qi114 : (0 < (rd_L4 t105 x27_1).length) = True := eq_true (by omega)
                    (try rw [show ((0 : Int)).toNat = 0 from rfl] at hx114_0)
                    (try rw [show 0 * 6 = 0 from rfl] at hx114_0)
                    (try rw [Addr.add_zero'] at hx114_0)
                    (try rw [show ((0 : Int)).toNat = 0 from rfl] at hx114_1)
                    (try rw [show 0 * 6 = 0 from rfl] at hx114_1)
                    (try rw [Addr.add_zero'] at hx114_1)
                    (try rw [show ((0 : Int)).toNat = 0 from rfl] at hx114_2)
                    (try rw [show 0 * 6 = 0 from rfl] at hx114_2)
                    (try rw [Addr.add_zero'] at hx114_2)
                    (try rw [show ((0 : Int)).toNat = 0 from rfl] at hx114_3)
                    (try rw [show 0 * 6 = 0 from rfl] at hx114_3)
                    (try rw [Addr.add_zero'] at hx114_3)
                    (try rw [show ((0 : Int)).toNat = 0 from rfl] at hx114_4)
                    (try rw [show 0 * 6 = 0 from rfl] at hx114_4)
                    (try rw [Addr.add_zero'] at hx114_4)
                    (try rw [show ((0 : Int)).toNat = 0 from rfl] at hx114_5)
                    (try rw [show 0 * 6 = 0 from rfl] at hx114_5)
                    (try rw [Addr.add_zero'] at hx114_5)
                    replace p114 := eq_true p114
                    replace q114 := eq_true q114
                    refine start_ (n := 13) (S := fun w' => w'.cell? ad113 = some (.int .i64 ((rd_T53 (rd_L4 t105 x27_1) 0).f0)) ∧ w'.cell? ⟨ad113.block, ad113.off + 1, none⟩ = some (.string ((rd_T53 (rd_L4 t105 x27_1) 0).f1)) ∧ w'.cell? ⟨ad113.block, ad113.off + 2, none⟩ = some (.bool ((rd_T53 (rd_L4 t105 x27_1) 0).f2)) ∧ w'.cell? ⟨ad113.block, ad113.off + 3, none⟩ = some (.int .i64 ((rd_T53 (rd_L4 t105 x27_1) 0).f3)) ∧ w'.cell? ⟨ad113.block, ad113.off + 4, none⟩ = some (.int .i64 ((rd_T53 (rd_L4 t105 x27_1) 0).f4)) ∧ w'.cell? ⟨ad113.block, ad113.off + 5, none⟩ = some (.int .i64 ((rd_T53 (rd_L4 t105 x27_1) 0).f5)) ∧ w'.cell? ad113 = some (.int .i64 ((rd_T53 (rd_L4 t105 x27_1) 0).f0)) ∧ w'.cell? ⟨ad113.block, ad113.off + 1, none⟩ = some (.string ((rd_T53 (rd_L4 t105 x27_1) 0).f1)) ∧ w'.cell? ⟨ad113.block, ad113.off + 2, none⟩ = some (.bool ((rd_T53 (rd_L4 t105 x27_1) 0).f2)) ∧ w'.cell? ⟨ad113.block, ad113.off + 3, none⟩ = some (.int .i64 ((rd_T53 (rd_L4 t105 x27_1) 0).f3)) ∧ w'.cell? ⟨ad113.block, ad113.off + 4, none⟩ = some (.int .i64 ((rd_T53 (rd_L4 t105 x27_1) 0).f4)) ∧ w'.cell? ⟨ad113.block, ad113.off + 5, none⟩ = some (.int .i64 ((rd_T53 (rd_L4 t105 x27_1) 0).f5))) (ds := [10, 11]) #[false, false, false, false, false, false, false, false, false, false, false, false, false] (by kernel_rfl) rfl rfl ⟨hx113_0, hx113_1, hx113_2, hx113_3, hx113_4, hx113_5, hx114_0, hx114_1, hx114_2, hx114_3, hx114_4, hx114_5⟩ (fun hHeld => ?_); refine with_tabW scan_Labels.tab9 scan_Labels.bits9 (fun HT_ HW_ => ?_)
                    generalize wr.drew = w13 at HO_10 HO_25 HL111_0 HR111_0 HB hx113_0 hx113_1 hx113_2 hx113_3 hx113_4 hx113_5 hx114_0 hx114_1 hx114_2 hx114_3 hx114_4 hx114_5 hHeld ⊢
                    refine pure_ (i := 0) (N := some 33) (v := ?_) (a' := ?_) #[true, false, false, false, false, false, false, false, false, false, false, false, false] rfl rfl (any_of HT_.out (by kernel_rfl)) (fun _ _ _ h => h) (Or.inl ⟨by rfl, ?_⟩) ?_ ?_
                    rotate_left
                    · intro w'
                      go_simp
                      with_reducible rfl
                    rotate_left
                    · simp only [Act.put, List.setIfInBounds_toArray, List.set_cons_zero, List.set_cons_succ, i64_w, i32_w]
                      rfl
                    refine pure_ (i := 1) (N := some 34) (v := ?_) (a' := ?_) #[true, true, false, false, false, false, false, false, false, false, false, false, false] rfl rfl (any_of HT_.out (by kernel_rfl)) (fun _ _ _ h => h) (Or.inl ⟨by rfl, ?_⟩) ?_ ?_
                    rotate_left
                    · intro w'
                      go_simp
                      with_reducible rfl
                    rotate_left
                    · simp only [Act.put, List.setIfInBounds_toArray, List.set_cons_zero, List.set_cons_succ, i64_w, i32_w]
                      rfl
                    refine pure_ (i := 2) (N := some 35) (v := ?_) (a' := ?_) #[true, true, true, false, false, false, false, false, false, false, false, false, false] rfl rfl (any_of HT_.out (by kernel_rfl)) (fun _ _ _ h => h) (Or.inl ⟨by rfl, ?_⟩) ?_ ?_
                    rotate_left
                    · intro w'
                      go_simp
                      with_reducible rfl
                    rotate_left
                    · simp only [Act.put, List.setIfInBounds_toArray, List.set_cons_zero, List.set_cons_succ, i64_w, i32_w]
                      rfl
                    refine pure_ (i := 3) (N := some 36) (v := ?_) (a' := ?_) #[true, true, true, true, false, false, false, false, false, false, false, false, false] rfl rfl (any_of HT_.out (by kernel_rfl)) (fun _ _ _ h => h) (Or.inl ⟨by rfl, ?_⟩) ?_ ?_
                    rotate_left
                    · intro w'
                      go_simp
                      with_reducible rfl
                    rotate_left
                    · simp only [Act.put, List.setIfInBounds_toArray, List.set_cons_zero, List.set_cons_succ, i64_w, i32_w]
                      rfl
                    refine pure_ (i := 5) (N := some 38) (v := ?_) (a' := ?_) #[true, true, true, true, false, true, false, false, false, false, false, false, false] rfl rfl (any_of HT_.out (by kernel_rfl)) (fun _ _ _ h => h) (Or.inl ⟨by rfl, ?_⟩) ?_ ?_
                    rotate_left
                    · intro w'
                      go_simp
                      with_reducible rfl
                    rotate_left
                    · simp only [Act.put, List.setIfInBounds_toArray, List.set_cons_zero, List.set_cons_succ, i64_w, i32_w]
                      rfl
                    refine pure_ (i := 6) (N := some 39) (v := ?_) (a' := ?_) #[true, true, true, true, false, true, true, false, false, false, false, false, false] rfl rfl (any_of HT_.out (by kernel_rfl)) (fun _ _ _ h => h) (Or.inl ⟨by rfl, ?_⟩) ?_ ?_
                    rotate_left
                    · intro w'
                      go_simp
                      with_reducible rfl
                    rotate_left
                    · simp only [Act.put, List.setIfInBounds_toArray, List.set_cons_zero, List.set_cons_succ, i64_w, i32_w]
                      rfl
                    refine pure_ (i := 7) (N := some 40) (v := ?_) (a' := ?_) #[true, true, true, true, false, true, true, true, false, false, false, false, false] rfl rfl (any_of HT_.out (by kernel_rfl)) (fun _ _ _ h => h) (Or.inl ⟨by rfl, ?_⟩) ?_ ?_
                    rotate_left
                    · intro w'
                      go_simp
                      with_reducible rfl
                    rotate_left
                    · simp only [Act.put, List.setIfInBounds_toArray, List.set_cons_zero, List.set_cons_succ, i64_w, i32_w]
                      rfl
                    refine take_ (i := 4) (N := some 37) (v := ?_) (a' := ?_) #[true, true, true, true, true, true, true, true, false, false, false, false, false] rfl rfl (take_ofW HT_.out HW_.out (by kernel_rfl)) (fun _ _ _ h => h) (Or.inl ⟨by rfl, ?_⟩) hHeld ?_ ?_
                    rotate_left
                    · rintro w' ⟨s0, s1, s2, s3, s4, s5, s6, s7, s8, s9, s10, s11⟩
                      go_simp
                      with_reducible rfl
                    rotate_left
                    · simp only [Act.put, List.setIfInBounds_toArray, List.set_cons_zero, List.set_cons_succ, i64_w, i32_w]
                      rfl
                    refine take_ (i := 8) (N := some 41) (v := ?_) (a' := ?_) #[true, true, true, true, true, true, true, true, true, false, false, false, false] rfl rfl (take_ofW HT_.out HW_.out (by kernel_rfl)) (fun _ _ _ h => h) (Or.inl ⟨by rfl, ?_⟩) hHeld ?_ ?_
                    rotate_left
                    · rintro w' ⟨s0, s1, s2, s3, s4, s5, s6, s7, s8, s9, s10, s11⟩
                      go_simp
                      with_reducible rfl
                    rotate_left
                    · simp only [Act.put, List.setIfInBounds_toArray, List.set_cons_zero, List.set_cons_succ, i64_w, i32_w]
                      rfl
                    refine pure_ (i := 9) (N := some 42) (v := ?_) (a' := ?_) #[true, true, true, true, true, true, true, true, true, true, false, false, false] rfl rfl (any_of HT_.out (by kernel_rfl)) (fun _ _ _ h => h) (Or.inl ⟨by rfl, ?_⟩) ?_ ?_
                    rotate_left
                    · intro w'
                      go_simp
                      with_reducible rfl
                    rotate_left
                    · simp only [Act.put, List.setIfInBounds_toArray, List.set_cons_zero, List.set_cons_succ, i64_w, i32_w]
                      rfl
                    refine last_ (i := 10) (N := some 43) #[true, true, true, true, true, true, true, true, true, true, true, false, false] rfl rfl (one_of HT_.out (by kernel_rfl)) (by decide) (fun K hK => ?_)
                    refine value_ (w1 := ?_) (v := ?_) (by rfl) rfl ?_ ?_
                    rotate_left 2
                    · go_simp
                      constructor
                      · rfl
                      · rfl
                    refine hK.out _ _ ?_
                    clear hK K
                    refine norm_ (a' := ?_) ?_ ?_
                    rotate_left
                    · show Act.put _ (some 43) _ = _
                      simp only [Act.put, List.setIfInBounds_toArray, List.set_cons_zero, List.set_cons_succ, i64_w, i32_w]
                      rfl
                    refine last_ (i := 11) (N := some 44) #[true, true, true, true, true, true, true, true, true, true, true, true, false] rfl rfl (one_of HT_.out (by kernel_rfl)) (by decide) (fun K hK => ?_)
                    refine Kd.R_append_step k73 (w0 := w) w.heap.size (by rfl) (.tmp 33) (.tmp 43) 34 73 (.agg #[(.string ⟨#[]⟩), (.int .i64 0)]) 24 rfl Tryz.underlying34 info73 rfl (by decide) (by omega) u10 x10_1 (⟨(rd_T53 (rd_L4 t105 x27_1) 0).f1, (rd_T53 (rd_L4 t105 x27_1) 0).f3⟩ : S73) [.string ((rd_T53 (rd_L4 t105 x27_1) 0).f1), .int .i64 ((rd_T53 (rd_L4 t105 x27_1) 0).f3)] (fun _ => True) (fun _ => False) rfl rfl ?aP (fun _ hk => hk.elim) ?aF ?aO ?aB ?aS ?aL ?_
                    (case aP => exact k73_mkM _ _ _ (⟨(rd_T53 (rd_L4 t105 x27_1) 0).f1, (rd_T53 (rd_L4 t105 x27_1) 0).f3⟩ : S73))
                    (case aB => exact (by repeat (first | (with_reducible first | exact HB.out | apply below_alloc | apply pw_below_drewN | apply below_drew1) | exact HB.out)))
                    (case aF => exact (fun _ _ => trivial))
                    (case aO => exact (by (with_reducible repeat (first | apply Kd.R_alloc | apply Kd.R_drewN | apply Kd.R_drew)); exact HO_10.out))
                    (case aS => exact (below_size (by repeat (first | (with_reducible first | exact HB.out | apply below_alloc | apply pw_below_drewN | apply below_drew1) | exact HB.out))))
                    (case aL => have := LMc12.out; omega)
                    intro v116 w14 ho hb hg hat
                    rw [← Ny115.out] at ho
                    have n0_ := Aside0.mk (Kd.N_afterv (ok := (fun _ => True)) (by (with_reducible repeat (first | apply Kd.N_alloc | apply Kd.N_drewN | apply Kd.N_drew)); exact Kd.N_mono HO_25.out (fun _ hk => ⟨trivial, hk⟩)) hg hat)
                    have n1_ := Aside0.mk (Kd.V_afterv (ok := (fun k_ => some k_ ≠ (.slice (some ad111) t105.length co5 : Value).ownBlock)) (by (with_reducible repeat (first | apply Kd.V_alloc | apply Kd.V_drewN | apply Kd.V_drew)); exact Kd.V_mono HL111_0.out (fun _ hk => ⟨hk.2, hk.1⟩)) hg hat)
                    have n2_ := Aside0.mk (hb)
                    have n3_ := Aside0.mk (ho)
                    clear HO_25
                    clear HL111_0
                    clear HB
                    clear HO_10
                    have HO_25 := n0_
                    have HL111_0 := n1_
                    have HB := n2_
                    have HO117 := n3_
                    clear n0_ n1_ n2_ n3_
                    clear ho hb hg hat
                    refine hK.out _ _ ?_
                    clear hK K
                    refine norm_ (a' := ?_) ?_ ?_
                    rotate_left
                    · show Act.put _ (some 44) _ = _
                      simp only [Act.put, List.setIfInBounds_toArray, List.set_cons_zero, List.set_cons_succ, i64_w, i32_w]
                      rfl
                    refine pure_ (i := 12) (N := some 10) (v := ?_) (a' := ?_) #[true, true, true, true, true, true, true, true, true, true, true, true, true] rfl rfl (any_of HT_.out (by kernel_rfl)) (fun _ _ _ h => h) (Or.inl ⟨by rfl, ?_⟩) ?_ ?_
                    rotate_left
                    · intro w'
                      go_simp
                      with_reducible rfl
                    rotate_left
                    · simp only [Act.put, List.setIfInBounds_toArray, List.set_cons_zero, List.set_cons_succ, i64_w, i32_w]
                      rfl
                    refine done_ (done_of HT_.out (by kernel_rfl)) ?_
                    try go_wp2
                    go_roundg k1
                    case measure => have := HK1.out; omega
                    case rel => exact ⟨(y115), (wrap64 (x27_1 + 1)), (by first | rfl | (simp; done) | (simp [*]; done)), H', ⟨by have := HK1.out; omega⟩, ⟨by (with_reducible repeat (first | apply Kd.R_alloc | apply Kd.R_drewN | apply Kd.R_drew)); exact HO117.out⟩, ⟨by (with_reducible repeat (first | apply Kd.N_alloc | apply Kd.N_drewN | apply Kd.N_drew)); exact Kd.N_mono HO_25.out (fun _ hk => hk.2)⟩, ⟨by repeat (first | (with_reducible first | exact HB.out | apply below_alloc | apply pw_below_drewN | apply below_drew1) | exact HB.out)⟩⟩
                  · rw [if_neg c12] at H
                    exact absurd H (by simp)
                · rw [if_neg c11] at H
                  exact absurd H (by simp)
              · replace c10 := Bool.eq_false_iff.mpr c10
                subst c10
                have H1 : (scan_Labels.l0 k1 x10_1 t105 (t105.length : Int) (wrap64 (x27_1 + 1))) = some (r1, r2, r3, r4) := by rw [if_neg (show ¬ (false = true) by decide)] at H; exact H
                clear H
                have H := H1
                clear H1
                have H' := Aside0.mk H
                clear H
                have p111 : 0 ≤ (x27_1 : Int) := of_decide_eq_true (by first | (with_reducible assumption) | assumption)
                have q111 : x27_1 < (t105.length : Int) := of_decide_eq_true (by first | (with_reducible assumption) | assumption)
                obtain ⟨ad111, A111_0, c111_0, e111, hx111_0, hl111_0, hi111_0⟩ := at_L4 (Kd.N_reads' HO_25.out).2.2 x27_1 p111 q111
                cases e111
                obtain ⟨ce111, hce111, hMe111, hcc111⟩ := Kd.N_get HO_25.out [] x27_1 p111 (by first | exact q111 | exact of_decide_eq_true (by first | (with_reducible assumption) | assumption) | (have e_ := (Kd.N_reads' HO_25.out).1; omega))
                obtain ⟨ua111_0, uc111_0, rfl, ul111_0, ge111_0⟩ := Kd.FK_slice_open hMe111
                have hv111_0 := hcc111 0 _ rfl
                rw [Nat.add_zero, show ((Kd.slice 53 k53)).sz = 1 from rfl, Nat.mul_one] at hv111_0
                replace hv111_0 := Option.some.inj (hv111_0.symm.trans hx111_0)
                injection hv111_0 with hva_ hvn_ hvc_
                rw [hva_] at ge111_0
                rw [hvc_] at ul111_0
                have HL111_0 := Aside0.mk (show Kd.V k53 53 _ w.heap.size _ _ (rd_L4 t105 x27_1) from Kd.V_mk ul111_0 ge111_0)
                clear hva_ hvn_ hvc_ ge111_0 ul111_0
                clear hcc111 hce111
                have HR111_0 := Aside0.mk hi111_0
                have HC111_0 := Aside0.mk hl111_0
                clear hi111_0 hl111_0
                replace p111 := eq_true p111
                replace q111 := eq_true q111
                go_wp2_with (first | ((with_reducible refine gate_callee (f := 54) rfl ?_); refine goesL_ (some 32) rfl rfl Tryz.func54 (by kernel_rfl) rfl #[.slice A111_0 (rd_L4 t105 x27_1).length c111_0] rfl (by (try simp only [List.map_toArray, List.map_cons, List.map_nil]); first | done | rfl | (simp only [List.length_drop, List.length_take]; rfl)) ?_; (with_reducible refine (scan_label.calls _ _ (rd_L4 t105 x27_1) false _ ?side1 ?side2 A9.out).mono ?_); (case side1 => repeat (first | exact (by repeat (first | (with_reducible exact HR111_0.out) | (with_reducible refine Kd.C_alloc ?_ _) | (with_reducible refine Kd.C_drewN ?_ _) | (with_reducible refine Kd.C_drew ?_) | exact HR111_0.out)) | (with_reducible refine Kd.C_alloc ?_ _) | (with_reducible refine Kd.C_drewN ?_ _) | (with_reducible refine Kd.C_drew ?_))); (case side2 => exact HC111_0.out); rintro e w' ⟨rfl, ⟨nd, rfl⟩⟩; refine ⟨_, rfl, ?_⟩))
                go_roundg k1
                case measure => have := HK1.out; omega
                case rel => exact ⟨(x10_1), (wrap64 (x27_1 + 1)), (by first | rfl | (simp; done) | (simp [*]; done)), H', ⟨by have := HK1.out; omega⟩, ⟨by (with_reducible repeat (first | apply Kd.R_alloc | apply Kd.R_drewN | apply Kd.R_drew)); exact HO_10.out⟩, ⟨by (with_reducible repeat (first | apply Kd.N_alloc | apply Kd.N_drewN | apply Kd.N_drew)); exact HO_25.out⟩, ⟨by repeat (first | (with_reducible first | exact HB.out | apply below_alloc | apply pw_below_drewN | apply below_drew1) | exact HB.out)⟩⟩
            · rw [if_neg c8] at H
              exact absurd H (by simp)
          · rw [if_neg c7] at H
            exact absurd H (by simp)
        · rw [if_neg c6] at H
          have c6b0 : decide (x27_1 < (t105.length : Int)) = false := decide_eq_false c6
          clear c6
          simp only [Option.some.injEq, Prod.mk.injEq] at H
          obtain ⟨rfl, rfl, rfl, rfl⟩ := H
          go_wp2
          refine bodyPost_ret (results_list (rs := [.tmp 2, .tmp 3, .tmp 4, .tmp 5]) rfl (by simp) (.tmp (.tmp (.tmp (.tmp .nil))))) rfl ?_
          exact ⟨_, by first | rfl | (simp [errW_none, errW_some] <;> rfl) | (simp [*, errW_none, errW_some] <;> rfl), by (with_reducible repeat (first | apply Kd.R_alloc | apply Kd.R_drewN | apply Kd.R_drew)); exact HO_10.out, by repeat (first | (with_reducible first | exact HB.out | apply below_alloc | apply pw_below_drewN | apply below_drew1) | exact HB.out)⟩
  · rw [if_neg c3] at H
    have c3b0 : (t108 == 0) = false := beq_eq_false_iff_ne.mpr c3
    have c3b1 : (t108 != 0) = true := bne_iff_ne.mpr c3
    simp only [Option.some.injEq, Prod.mk.injEq] at H
    obtain ⟨rfl, rfl, rfl, rfl⟩ := H
    go_enter Tryz.func20, Tryz.ntmps20
    go_wp2_with (first | ((with_reducible refine gate_callee (f := 19) rfl ?_); refine goesL_ (some 15) rfl rfl Tryz.func19 (by kernel_rfl) rfl #[.string a0] rfl (by (try simp only [List.map_toArray, List.map_cons, List.map_nil]); first | done | rfl | (simp only [List.length_drop, List.length_take]; rfl)) ?_; (with_reducible refine (scan_Clauses.calls a0 t105 t106 t107 t108 _ (TabOK.of_below hT (by repeat (first | (with_reducible first | exact HB.out | apply below_alloc | apply pw_below_drewN | apply below_drew1) | exact HB.out))) A2.out).mono ?_); rintro e w15 ⟨v109, rfl, ho0, hb⟩; refine ⟨_, rfl, ?_⟩; have n0_ := Aside0.mk (Kd.N_lower (Kd.N_mono (ok' := fun k_ => True) ho0 (fun k_ hk_ => trivial)) (below_size (by repeat (first | (with_reducible first | exact HB.out | apply below_alloc | apply pw_below_drewN | apply below_drew1) | exact HB.out)))); have n1_ := Aside0.mk (below_step (by repeat (first | (with_reducible first | exact HB.out | apply below_alloc | apply pw_below_drewN | apply below_drew1) | exact HB.out)) hb); clear HB; have HO110 := n0_; have HB := n1_; clear n0_ n1_; (try clear hb); (try clear hb2); (try clear hk); (try clear hi); (try clear ho0)))
    refine bodyPost_ret (results_list (rs := [.tmp 2, .tmp 3, .tmp 4, .tmp 5]) rfl (by simp) (.tmp (.tmp (.tmp (.tmp .nil))))) rfl ?_
    exact ⟨_, by first | rfl | (simp [errW_none, errW_some] <;> rfl) | (simp [*, errW_none, errW_some] <;> rfl), by first | exact Kd.R_nil _ _ _ _ _ | exact Kd.N_nil _ _ _ _ _ | exact Kd.V_nil _ _ _ _ _ | exact Kd.Q_nil _ _ _ _ _ | exact Kd.S_nil _ _ _ _ _, by repeat (first | (with_reducible first | exact HB.out | apply below_alloc | apply pw_below_drewN | apply below_drew1) | exact HB.out)⟩

end Go.Proofs.YtkkpjonfaflkmaaGreatDoor.T

-- Written by a program of this session (mp.py over the kit's print.py), out of the translation.
namespace Go.Proofs.YtkkpjonfaflkmaaGreatDoor.T
set_option linter.unusedSimpArgs false
open Go.RowKit Go.Proofs.YtkkpjonfaflkmaaGreatDoorW.PrintWords Go.Proofs.YtkkpjonfaflkmaaGreatDoorW.PrintLast Go.Proofs.YtkkpjonfaflkmaaGreatDoorW.PrintMore
attribute [local go_sem] max2_int min2_int max_two min_two max_three min_three max_four min_four   -- for this text's walks alone
set_option linter.unusedVariables false
set_option linter.unusedSimpArgs false

theorem eqA73 (d : Nat) (w : World) (x0 y0 : ByteArray) (x1 y1 : Int) :
    (Op.equalIn (d + 2) 73 (.agg #[.string x0, .int .i64 x1]) (.agg #[.string y0, .int .i64 y1])).run Tryz.prog w = .ok (x0.toList == y0.toList && (x1 == y1)) w := by
  refine eqA_of Tryz.underlying73 (by kernel_rfl) ?_
  refine eqf_cons (by rfl) (by go_simp; rfl) (by go_simp; rfl) (by go_simp) ?_
  exact eqf_last (by rfl) (by go_simp; rfl) (by go_simp; rfl) (by go_simp)
end Go.Proofs.YtkkpjonfaflkmaaGreatDoor.T

/- The statements' sanity: its closed calls. -/
namespace Go.Proofs.YtkkpjonfaflkmaaGreatDoor.T
set_option linter.unusedSimpArgs false
set_option linter.unusedVariables false
open Go.RowKit Go.Maps Go.Proofs.YtkkpjonfaflkmaaGreatDoorW.PrintWords Go.Proofs.YtkkpjonfaflkmaaGreatDoorW.PrintLast Go.Proofs.YtkkpjonfaflkmaaGreatDoorW.PrintMore
attribute [local go_sem] Oper.semAt_some

def sanA : ByteArray := ⟨#[115, 97, 121, 32, 49, 32, 43, 32, 97, 46, 98, 32, 45, 45, 32, 47, 42, 32, 120, 32, 42, 47, 32, 39, 105, 116, 39, 39, 115, 39]⟩
def sanB : ByteArray := ⟨#[49, 101, 43, 53, 120]⟩
def sanC : ByteArray := ⟨#[102, 40, 97, 44, 32, 10, 98, 41]⟩
def sanD : ByteArray := ⟨#[120, 58, 32, 121, 58, 32, 115, 97, 121, 32, 49, 59, 32, 59, 32, 115, 97, 121, 32, 50]⟩
def sanE : ByteArray := ⟨#[97, 10, 39, 98]⟩
def sanF : ByteArray := ⟨#[97, 32, 47, 42, 32, 98, 32, 47, 42, 32, 99, 32, 42, 47, 10, 100]⟩
def sanW : List S53 := [⟨1, ⟨#[65]⟩, false, 0, 0, 0⟩, ⟨1, ⟨#[66]⟩, false, 0, 0, 0⟩, ⟨4, ⟨#[]⟩, false, 0, 0, 0⟩]
def toksOf (s : ByteArray) : List S53 := (S.tokens (bytesOf s)).map toS
/-- Tokens of a source: how it ends; its row, if it has tokens. -/
theorem san_tokens (s : ByteArray) (n : Nat) (c l e : Int) (hf : scan_Tokens.f s = some (toksOf s, c, l, e)) (hn : (toksOf s).length = n) (h0 : 0 < n) (w : World) (hT : TabOK w) :
    Calls Tryz.prog 17 #[.string s] w fun e' w' => ∃ ad cp, e' = .returned (.tuple #[.slice (some ad) n cp, .int .i64 c, .int .i64 l, .int .i64 e]) ∧ Kd.C k53 w' (some ad) n (toksOf s) ∧ Below w.heap.size w w' := by
  refine (scan_Tokens.calls s _ _ _ _ w hT hf).mono ?_
  rintro e' w' ⟨v0, rfl, hR, hb⟩
  obtain ⟨A, cp, rfl, hc, hC⟩ := Kd.R_reads hR
  rw [hn] at hC ⊢
  obtain ⟨ad, rfl⟩ : ∃ ad, A = some ad := by
    obtain ⟨h1, h2, h3⟩ := hC
    obtain ⟨ad, e, _⟩ := h3 h0
    exact ⟨ad, e⟩
  exact ⟨ad, cp, rfl, hC, hb⟩
theorem sanA_f : scan_Tokens.f sanA = some (toksOf sanA, 0, 0, 0) := by
  have h1 : (S.scan (bytesOf sanA)).err = none := by decide +kernel
  unfold scan_Tokens.f
  rw [if_pos (by decide), h1]; rfl
theorem sanB_f : scan_Tokens.f sanB = some (toksOf sanB, 0, 0, 0) := by
  have h1 : (S.scan (bytesOf sanB)).err = none := by decide +kernel
  unfold scan_Tokens.f
  rw [if_pos (by decide), h1]; rfl
theorem sanC_f : scan_Tokens.f sanC = some (toksOf sanC, 0, 0, 0) := by
  have h1 : (S.scan (bytesOf sanC)).err = none := by decide +kernel
  unfold scan_Tokens.f
  rw [if_pos (by decide), h1]; rfl
theorem sanE_f : scan_Tokens.f sanE = some (toksOf sanE, 6, 2, 7) := by
  have h1 : (S.scan (bytesOf sanE)).err = some (6, 2) := by decide +kernel
  unfold scan_Tokens.f
  rw [if_pos (by decide), h1]; rfl
theorem sanF_f : scan_Tokens.f sanF = some (toksOf sanF, 6, 1, 7) := by
  have h1 : (S.scan (bytesOf sanF)).err = some (6, 1) := by decide +kernel
  unfold scan_Tokens.f
  rw [if_pos (by decide), h1]; rfl
theorem sanW_f : scan_Write.f sanW = some (⟨#[65, 47, 42, 42, 47, 66, 10]⟩, 0) := by decide +kernel
theorem san_split : scan_Split.f ⟨#[97, 46, 98, 46]⟩ = some (⟨#[65, 46]⟩, [⟨#[66]⟩, ⟨#[]⟩], 0) := by decide +kernel
theorem san_val : scan_Value.f ⟨#[39, 52, 97, 52, 66, 39, 120]⟩ = some (⟨#[74, 75]⟩, 0, 0) := by decide +kernel
theorem san_lit : scan_Literal.f ⟨#[105, 116, 39, 115]⟩ = some (⟨#[34, 105, 116, 39, 115, 34]⟩, 0) := by decide +kernel
def sanM : List S73 := [⟨⟨#[88]⟩, 1⟩, ⟨⟨#[89]⟩, 1⟩]
theorem marks_inj : ∀ l : List S73, l.map (fun x => (x.f0, x.f1)) = [((⟨#[88]⟩ : ByteArray), (1 : Int)), (⟨#[89]⟩, 1)] → l = sanM
  | [], h => by cases h
  | [_], h => by simp at h
  | [a, b], h => by
    obtain ⟨a0, a1⟩ := a
    obtain ⟨b0, b1⟩ := b
    simp only [List.map_cons, List.map_nil, List.cons.injEq, Prod.mk.injEq, and_true] at h
    obtain ⟨⟨rfl, rfl⟩, rfl, rfl⟩ := h
    rfl
  | _ :: _ :: _ :: _, h => by simp at h
theorem san_labels : scan_Labels.f 10 sanD = some (sanM, 0, 0, 0) := by
  have h : (scan_Labels.f 10 sanD).map (fun p => (p.1.map (fun x => (x.f0, x.f1)), p.2)) = some ([((⟨#[88]⟩ : ByteArray), (1 : Int)), (⟨#[89]⟩, 1)], 0, 0, 0) := by decide +kernel
  obtain ⟨p, h1, h2⟩ := Option.map_eq_some_iff.1 h
  obtain ⟨l, q⟩ := p
  simp only [Prod.mk.injEq] at h2
  rw [h1, marks_inj l h2.1]
  obtain ⟨h3, rfl, rfl, rfl⟩ := h2
  rfl
theorem san_labels_c (w : World) (hT : TabOK w) :
    Calls Tryz.prog 20 #[.string sanD] w fun e' w' => ∃ ad cp, e' = .returned (.tuple #[.slice (some ad) 2 cp, .int .i64 0, .int .i64 0, .int .i64 0]) ∧ Kd.C k73 w' (some ad) 2 sanM ∧ Below w.heap.size w w' := by
  refine (scan_Labels.calls 10 sanD _ _ _ _ w hT san_labels).mono ?_
  rintro e' w' ⟨v0, rfl, hR, hb⟩
  obtain ⟨A, cp, rfl, hc, hC⟩ := Kd.R_reads hR
  obtain ⟨ad, rfl⟩ : ∃ ad, A = some ad := by
    obtain ⟨h1, h2, h3⟩ := hC
    obtain ⟨ad, e, _⟩ := h3 (by decide)
    exact ⟨ad, e⟩
  exact ⟨ad, cp, rfl, hC, hb⟩
theorem san_split_c (w : World) (hT : TabOK w) :
    Calls Tryz.prog 27 #[.string ⟨#[97, 46, 98, 46]⟩] w fun e' w' => ∃ ad cp, e' = .returned (.tuple #[.string ⟨#[65, 46]⟩, .slice (some ad) 2 cp, .int .i64 0]) ∧ Kd.C Kd.string w' (some ad) 2 [⟨#[66]⟩, ⟨#[]⟩] ∧ Below w.heap.size w w' := by
  refine (scan_Split.calls _ _ _ _ w hT san_split).mono ?_
  rintro e' w' ⟨v0, rfl, hR, hb⟩
  obtain ⟨A, cp, rfl, hc, hC⟩ := Kd.R_reads hR
  obtain ⟨ad, rfl⟩ : ∃ ad, A = some ad := by
    obtain ⟨h1, h2, h3⟩ := hC
    obtain ⟨ad, e, _⟩ := h3 (by decide)
    exact ⟨ad, e⟩
  exact ⟨ad, cp, rfl, hC, hb⟩
/-- One token of a row, by its cells. -/
theorem tok_at {w : World} {ad : Addr} {n : Nat} {l : List S53} (h : Kd.C k53 w (some ad) n l) (i : Nat) (hi : i < n) (t : S53) (ht : rd_T53 l (i : Int) = t) :
    w.cell? (ad.add (i * 6)) = some (.int .i64 t.f0) ∧ w.cell? ⟨(ad.add (i * 6)).block, (ad.add (i * 6)).off + 1, none⟩ = some (.string t.f1) ∧ w.cell? ⟨(ad.add (i * 6)).block, (ad.add (i * 6)).off + 2, none⟩ = some (.bool t.f2) ∧ w.cell? ⟨(ad.add (i * 6)).block, (ad.add (i * 6)).off + 3, none⟩ = some (.int .i64 t.f3) := by
  obtain ⟨ad', e, x0, x1, x2, x3, _⟩ := at_T53 h (i : Int) (by omega) (by omega)
  cases e
  simp only [Int.toNat_natCast] at x0 x1 x2 x3
  subst ht
  exact ⟨x0, x1, x2, x3⟩
theorem add_lit (ad : Addr) (n : Nat) (h : 0 < n) : ad.add n = ⟨ad.block, ad.off + n, none⟩ := by
  unfold Addr.add
  rw [if_neg (by omega)]
attribute [local go_sem high] eqA73
set_option maxRecDepth 100000 in
set_option maxHeartbeats 16000000 in
theorem san_holds (w : World) (hT : TabOK w) : Calls Tryz.prog 16 #[] w fun e w' => e = .returned (.bool true) ∧ Below w.heap.size w w' := by
  have HT := Aside0.mk hT
  have HA := Lib.hid (fun W hW => san_tokens sanA 8 _ _ _ sanA_f (by decide +kernel) (by decide) W hW)
  have HB := Lib.hid (fun W hW => san_tokens sanB 3 _ _ _ sanB_f (by decide +kernel) (by decide) W hW)
  have HC := Lib.hid (fun W hW => san_tokens sanC 6 _ _ _ sanC_f (by decide +kernel) (by decide) W hW)
  have HD := Lib.hid (fun W hW => san_labels_c W hW)
  have HE := Lib.hid (fun W hW => san_tokens sanE 2 _ _ _ sanE_f (by decide +kernel) (by decide) W hW)
  have HF := Lib.hid (fun W hW => san_tokens sanF 1 _ _ _ sanF_f (by decide +kernel) (by decide) W hW)
  have HV := Lib.hid (fun W => scan_Value.calls _ _ _ _ W san_val)
  have HS := Lib.hid (fun W hW => san_split_c W hW)
  clear hT
  go_enter Tryz.func16, Tryz.ntmps16
  go_upto_region 2 with (go_at_call 17; refine (HA.out _ HT.out).mono ?_; rintro e w1 ⟨adA, cpA, rfl, hCA, hb1⟩)
  have HT1 := Aside0.mk (HT.out.of_below hb1)
  go_upto_region 3 with (go_at_call 17; refine (HB.out _ HT1.out).mono ?_; rintro e w2 ⟨adB, cpB, rfl, hCB, hb2⟩)
  have HT2 := Aside0.mk (HT1.out.of_below hb2)
  go_upto_region 4 with (go_at_call 17; refine (HC.out _ HT2.out).mono ?_; rintro e w3 ⟨adC, cpC, rfl, hCC, hb3⟩)
  have HT3 := Aside0.mk (HT2.out.of_below hb3)
  go_upto_region 5 with (go_at_call 20; refine (HD.out _ HT3.out).mono ?_; rintro e w4 ⟨adD, cpD, rfl, hCD, hb4⟩)
  have HT4 := Aside0.mk (HT3.out.of_below hb4)
  go_upto_region 6 with (go_at_call 17; refine (HE.out _ HT4.out).mono ?_; rintro e w5 ⟨adE, cpE, rfl, hCE, hb5⟩)
  have HT5 := Aside0.mk (HT4.out.of_below hb5)
  go_upto_region 7 with (go_at_call 17; refine (HF.out _ HT5.out).mono ?_; rintro e w6 ⟨adF, cpF, rfl, hCF, hb6⟩)
  have HT6 := Aside0.mk (HT5.out.of_below hb6)
  go_upto_region 8 with (go_at_call 32; refine (HV.out _).mono ?_; rintro e w7 ⟨rfl, hb7⟩)
  have HT7 := Aside0.mk (HT6.out.of_below hb7)
  go_upto_region 9 with (go_at_call 27; refine (HS.out _ HT7.out).mono ?_; rintro e w8 ⟨adS, cpS, rfl, hCS, hb8⟩)
  have kA := Kd.C_below (Kd.C_below (Kd.C_below (Kd.C_below (Kd.C_below (Kd.C_below (Kd.C_below hCA hb2) hb3) hb4) hb5) hb6) hb7) hb8
  have kB := Kd.C_below (Kd.C_below (Kd.C_below (Kd.C_below (Kd.C_below (Kd.C_below hCB hb3) hb4) hb5) hb6) hb7) hb8
  have kC := Kd.C_below (Kd.C_below (Kd.C_below (Kd.C_below (Kd.C_below hCC hb4) hb5) hb6) hb7) hb8
  have kD := Kd.C_below (Kd.C_below (Kd.C_below (Kd.C_below hCD hb5) hb6) hb7) hb8
  have hB8 : Below w.heap.size w w8 := by
    have s1 := hb1.size
    have s2 := hb2.size
    have s3 := hb3.size
    have s4 := hb4.size
    have s5 := hb5.size
    have s6 := hb6.size
    have s7 := hb7.size
    exact hb1.trans ((hb2.mono (by omega)).trans ((hb3.mono (by omega)).trans ((hb4.mono (by omega)).trans ((hb5.mono (by omega)).trans ((hb6.mono (by omega)).trans ((hb7.mono (by omega)).trans (hb8.mono (by omega))))))))
  have HT8 := Aside0.mk (HT7.out.of_below hb8)
  have HB8 := Aside0.mk hB8
  have HS8 := Aside0.mk hCS
  clear hCA hCB hCC hCD hCE hCF hb1 hb2 hb3 hb4 hb5 hb6 hb7 hb8 hB8 hCS HT1 HT2 HT3 HT4 HT5 HT6 HT7 HT HA HB HC HD HE HF HV HS
  have KA := Aside0.mk kA
  have KB := Aside0.mk kB
  have KC := Aside0.mk kC
  have KD := Aside0.mk kD
  clear kA kB kC kD
  go_upto_region 11 with (fail)
  obtain ⟨p30, p31, p32, p33⟩ := tok_at KA.out 3 (by decide) ⟨1, ⟨#[65, 46, 66]⟩, true, 1, 8, 11⟩ (by kernel_rfl)
  rw [add_lit _ _ (by decide)] at p30 p31 p32 p33
  simp only [Nat.reduceMul] at p30 p31 p32 p33
  obtain ⟨p50, p51, p52, p53⟩ := tok_at KA.out 5 (by decide) ⟨3, ⟨#[45]⟩, false, 1, 13, 14⟩ (by kernel_rfl)
  rw [add_lit _ _ (by decide)] at p50 p51 p52 p53
  simp only [Nat.reduceMul] at p50 p51 p52 p53
  obtain ⟨p60, p61, p62, p63⟩ := tok_at KA.out 6 (by decide) ⟨2, ⟨#[105, 116, 39, 115]⟩, true, 1, 23, 30⟩ (by kernel_rfl)
  rw [add_lit _ _ (by decide)] at p60 p61 p62 p63
  simp only [Nat.reduceMul] at p60 p61 p62 p63
  obtain ⟨p70, p71, p72, p73⟩ := tok_at KA.out 7 (by decide) ⟨4, ⟨#[]⟩, false, 1, 30, 30⟩ (by kernel_rfl)
  rw [add_lit _ _ (by decide)] at p70 p71 p72 p73
  simp only [Nat.reduceMul] at p70 p71 p72 p73
  obtain ⟨q00, q01, q02, q03⟩ := tok_at KB.out 0 (by decide) ⟨1, ⟨#[49, 69, 43, 53]⟩, false, 1, 0, 4⟩ (by kernel_rfl)
  rw [show (0 : Nat) * 6 = 0 from rfl, Addr.add_zero'] at q00 q01 q02 q03
  obtain ⟨q10, q11, q12, q13⟩ := tok_at KB.out 1 (by decide) ⟨1, ⟨#[88]⟩, false, 1, 4, 5⟩ (by kernel_rfl)
  rw [add_lit _ _ (by decide)] at q10 q11 q12 q13
  simp only [Nat.reduceMul] at q10 q11 q12 q13
  go_upto_region 12 with (fail)
  clear p30 p31 p32 p33 p50 p51 p52 p53 p60 p61 p62 p63 p70 p71 p72 p73 q00 q01 q02 q03 q10 q11 q12 q13
  obtain ⟨r20, r21, r22, r23⟩ := tok_at KC.out 2 (by decide) ⟨1, ⟨#[65]⟩, false, 1, 2, 3⟩ (by kernel_rfl)
  rw [add_lit _ _ (by decide)] at r20 r21 r22 r23
  simp only [Nat.reduceMul] at r20 r21 r22 r23
  obtain ⟨r30, r31, r32, r33⟩ := tok_at KC.out 3 (by decide) ⟨1, ⟨#[66]⟩, true, 2, 6, 7⟩ (by kernel_rfl)
  rw [add_lit _ _ (by decide)] at r30 r31 r32 r33
  simp only [Nat.reduceMul] at r30 r31 r32 r33
  obtain ⟨am, em, m0, m1⟩ := at_T73 KD.out (1 : Int) (by decide) (by decide)
  cases em
  rw [show rd_T73 sanM (1 : Int) = ⟨⟨#[89]⟩, 1⟩ from rfl, show (1 : Int).toNat * 2 = 2 from rfl, add_lit _ _ (by decide)] at m0 m1
  have HW := Lib.hid (fun (W : World) (g : Nat) (h : W.heap[g]? = some (.cells #[.int .i64 1, .string ⟨#[65]⟩, .bool false, .int .i64 0, .int .i64 0, .int .i64 0, .int .i64 1, .string ⟨#[66]⟩, .bool false, .int .i64 0, .int .i64 0, .int .i64 0, .int .i64 4, .string ⟨#[]⟩, .bool false, .int .i64 0, .int .i64 0, .int .i64 0] 53 (0, 0))) (hW : TabOK W) => scan_Write.calls (some ⟨g, 0, none⟩) 3 sanW _ _ W hW (row_C h rfl (by decide)) (Nat.le_refl _) sanW_f)
  go_upto_region 13 with (fail)
  clear r20 r21 r22 r23 r30 r31 r32 r33 m0 m1
  have hal : Below w8.heap.size w8 (w8.alloc (.cells #[.int .i64 1, .string ⟨#[65]⟩, .bool false, .int .i64 0, .int .i64 0, .int .i64 0, .int .i64 1, .string ⟨#[66]⟩, .bool false, .int .i64 0, .int .i64 0, .int .i64 0, .int .i64 4, .string ⟨#[]⟩, .bool false, .int .i64 0, .int .i64 0, .int .i64 0] 53)) := below_alloc (Below.refl _ _) _
  have HAL := Aside0.mk hal
  have HNW := Aside0.mk (heap_alloc_new w8 (.cells #[.int .i64 1, .string ⟨#[65]⟩, .bool false, .int .i64 0, .int .i64 0, .int .i64 0, .int .i64 1, .string ⟨#[66]⟩, .bool false, .int .i64 0, .int .i64 0, .int .i64 0, .int .i64 4, .string ⟨#[]⟩, .bool false, .int .i64 0, .int .i64 0, .int .i64 0] 53))
  clear hal
  go_upto_region 14 with (go_at_call 35; refine (HW.out _ _ HNW.out (HT8.out.of_below HAL.out)).mono ?_; rintro e w9 ⟨rfl, hb9⟩)
  have HT9 := Aside0.mk ((HT8.out.of_below HAL.out).of_below hb9)
  have HL := Lib.hid (fun W hW => scan_Literal.calls _ _ _ W hW san_lit)
  go_upto_region 15 with (go_at_call 30; refine (HL.out _ HT9.out).mono ?_; rintro e w10 ⟨rfl, hb10⟩)
  have hB9 : Below w8.heap.size w8 w10 := by
    have s1 := HAL.out.size
    have s2 := hb9.size
    exact HAL.out.trans ((hb9.mono (by omega)).trans (hb10.mono (by omega)))
  have kS := Kd.C_below HS8.out hB9
  obtain ⟨sa, es, s0⟩ := Kd.at_string kS (0 : Int) (by decide) (by decide)
  cases es
  obtain ⟨sa, es, s1⟩ := Kd.at_string kS (1 : Int) (by decide) (by decide)
  cases es
  rw [show (0 : Int).toNat = 0 from rfl, Addr.add_zero'] at s0
  rw [show (1 : Int).toNat = 1 from rfl, add_lit _ _ (by decide)] at s1
  have s0' : w10.cell? adS = some (.string ⟨#[66]⟩) := s0
  have s1' : w10.cell? ⟨adS.block, adS.off + 1, none⟩ = some (.string ⟨#[]⟩) := s1
  have HFB := Aside0.mk (HB8.out.trans (hB9.mono HB8.out.size))
  clear s0 s1 hB9 hb9 hb10 kS
  go_wp2_with (fail)
  refine bodyPost_ret (results_tmp rfl _ _ _) rfl ?_
  exact ⟨rfl, HFB.out⟩
def qanatlaw03_sanity.f : Option Bool := some true
theorem qanatlaw03_sanity.calls (r : Bool) (w : World) (hT : TabOK w) (h : qanatlaw03_sanity.f = some r) : Calls Tryz.prog 16 #[] w fun e w' => e = .returned (.bool r) ∧ Below w.heap.size w w' := by
  obtain rfl := Option.some.inj h
  exact san_holds w hT
end Go.Proofs.YtkkpjonfaflkmaaGreatDoor.T

-- Written by a program of this session (mp.py over the kit's print.py), out of the translation.
namespace Go.Proofs.YtkkpjonfaflkmaaGreatDoor.T
set_option linter.unusedSimpArgs false
open Go.RowKit Go.Proofs.YtkkpjonfaflkmaaGreatDoorW.PrintWords Go.Proofs.YtkkpjonfaflkmaaGreatDoorW.PrintLast Go.Proofs.YtkkpjonfaflkmaaGreatDoorW.PrintMore
attribute [local go_sem] max2_int min2_int max_two min_two max_three min_three max_four min_four   -- for this text's walks alone
set_option linter.unusedVariables false
set_option linter.unusedSimpArgs false

/-! ### qanatlaw03_ScanCovers: function 13 -/
mutual
def qanatlaw03_ScanCovers.j0 : Nat → ByteArray → List (S53) → Bool → Option (Bool)
  | 0, _, _, _ => none
  | k + 1, x0, x3, x28 => if x28 = true then ((qanatlaw03_sanity.f).bind fun t563 => (some t563)) else (qanatlaw03_ScanCovers.l0 k x0 x3 0 1 0)
def qanatlaw03_ScanCovers.l0 : Nat → ByteArray → List (S53) → Int → Int → Int → Option (Bool)
  | 0, _, _, _, _, _ => none
  | k + 1, x0, x3, x7, x8, x9 => if x9 < (x3.length : Int) then (if 0 ≤ x9 then (if ((rd_T53 x3 x9).f4) < x7 then (qanatlaw03_ScanCovers.j2 k x0 x3 x7 x9 true ((rd_T53 x3 x9).f0) ((rd_T53 x3 x9).f1) ((rd_T53 x3 x9).f2) ((rd_T53 x3 x9).f3) ((rd_T53 x3 x9).f4) ((rd_T53 x3 x9).f5)) else (if ((rd_T53 x3 x9).f5) < ((rd_T53 x3 x9).f4) then (qanatlaw03_ScanCovers.j2 k x0 x3 x7 x9 true ((rd_T53 x3 x9).f0) ((rd_T53 x3 x9).f1) ((rd_T53 x3 x9).f2) ((rd_T53 x3 x9).f3) ((rd_T53 x3 x9).f4) ((rd_T53 x3 x9).f5)) else (if ((rd_T53 x3 x9).f5) > (x0.size : Int) then (qanatlaw03_ScanCovers.j2 k x0 x3 x7 x9 true ((rd_T53 x3 x9).f0) ((rd_T53 x3 x9).f1) ((rd_T53 x3 x9).f2) ((rd_T53 x3 x9).f3) ((rd_T53 x3 x9).f4) ((rd_T53 x3 x9).f5)) else (if ((rd_T53 x3 x9).f3) < x8 then (qanatlaw03_ScanCovers.j2 k x0 x3 x7 x9 true ((rd_T53 x3 x9).f0) ((rd_T53 x3 x9).f1) ((rd_T53 x3 x9).f2) ((rd_T53 x3 x9).f3) ((rd_T53 x3 x9).f4) ((rd_T53 x3 x9).f5)) else (if ((rd_T53 x3 x9).f0) = 4 then (qanatlaw03_ScanCovers.j2 k x0 x3 x7 x9 false ((rd_T53 x3 x9).f0) ((rd_T53 x3 x9).f1) ((rd_T53 x3 x9).f2) ((rd_T53 x3 x9).f3) ((rd_T53 x3 x9).f4) ((rd_T53 x3 x9).f5)) else (qanatlaw03_ScanCovers.j2 k x0 x3 x7 x9 (((rd_T53 x3 x9).f5) == ((rd_T53 x3 x9).f4)) ((rd_T53 x3 x9).f0) ((rd_T53 x3 x9).f1) ((rd_T53 x3 x9).f2) ((rd_T53 x3 x9).f3) ((rd_T53 x3 x9).f4) ((rd_T53 x3 x9).f5))))))) else (none)) else ((qanatlaw03_sanity.f).bind fun t564 => (if t564 = true then (if 0 ≤ x7 then (if x7 ≤ (x0.size : Int) then ((qanatlaw03_idle.f k (x0.extract (x7 : Int).toNat x0.size)).bind fun t565 => (some t565)) else (none)) else (none)) else (some false)))
def qanatlaw03_ScanCovers.j2 : Nat → ByteArray → List (S53) → Int → Int → Bool → Int → ByteArray → Bool → Int → Int → Int → Option (Bool)
  | 0, _, _, _, _, _, _, _, _, _, _, _ => none
  | k + 1, x0, x3, x7, x9, x75, x568000, x568001, x568002, x568003, x568004, x568005 => if x75 = true then (some false) else (if 0 ≤ x7 then (if x7 ≤ x568004 then (if x568004 ≤ (x0.size : Int) then ((qanatlaw03_idle.f k (x0.extract (x7 : Int).toNat (x568004 : Int).toNat)).bind fun t568 => ((scan_Place.f k x0 x568004).bind fun bt569 => (if t568 = true then (if bt569.2.2 = 0 then (if bt569.1 = x568003 then (qanatlaw03_ScanCovers.l0 k x0 x3 x568005 x568003 (wrap64 (x9 + 1))) else (some false)) else (some false)) else (some false)))) else (none)) else (none)) else (none))
end
def qanatlaw03_ScanCovers.f (k : Nat) (a0 : ByteArray) : Option (Bool) := (scan_Tokens.f a0).bind fun bt556 => ((qanatlaw03_small.f a0).bind fun t562 => (if t562 = true then (qanatlaw03_ScanCovers.j0 k a0 bt556.1 (bt556.2.2.2 != 0)) else (qanatlaw03_ScanCovers.j0 k a0 bt556.1 true)))
theorem qanatlaw03_ScanCovers.mono_l : ∀ k, (∀ y0 y1 y2, LeO (qanatlaw03_ScanCovers.j0 k y0 y1 y2) (qanatlaw03_ScanCovers.j0 (k + 1) y0 y1 y2)) ∧ (∀ y0 y1 y2 y3 y4, LeO (qanatlaw03_ScanCovers.l0 k y0 y1 y2 y3 y4) (qanatlaw03_ScanCovers.l0 (k + 1) y0 y1 y2 y3 y4)) ∧ (∀ y0 y1 y2 y3 y4 y5 y6 y7 y8 y9 y10, LeO (qanatlaw03_ScanCovers.j2 k y0 y1 y2 y3 y4 y5 y6 y7 y8 y9 y10) (qanatlaw03_ScanCovers.j2 (k + 1) y0 y1 y2 y3 y4 y5 y6 y7 y8 y9 y10))
  | 0 => ⟨fun _ _ _ r h => by simp [qanatlaw03_ScanCovers.j0] at h, fun _ _ _ _ _ r h => by simp [qanatlaw03_ScanCovers.l0] at h, fun _ _ _ _ _ _ _ _ _ _ _ r h => by simp [qanatlaw03_ScanCovers.j2] at h⟩
  | k + 1 => by
    obtain ⟨ih0, ih1, ih2⟩ := qanatlaw03_ScanCovers.mono_l k
    refine ⟨?_, ?_, ?_⟩
    · intro y0 y1 y2
      unfold qanatlaw03_ScanCovers.j0
      repeat' first
      | (with_reducible exact ih0 _ _ _)
      | (with_reducible exact ih1 _ _ _ _ _)
      | (with_reducible exact ih2 _ _ _ _ _ _ _ _ _ _ _)
      | (with_reducible exact qanatlaw03_idle.mono _ _)
      | (with_reducible exact scan_Place.mono _ _ _)
      | (with_reducible exact LeO.refl _)
      | (with_reducible exact LeO.none _)
      | (with_reducible refine LeO.ite ?_ ?_)
      | (with_reducible refine LeO.bind ?_ (fun _ => ?_))
      | exact ih0 _ _ _
      | exact ih1 _ _ _ _ _
      | exact ih2 _ _ _ _ _ _ _ _ _ _ _
      | exact qanatlaw03_idle.mono _ _
      | exact scan_Place.mono _ _ _
      | exact LeO.none _
      | refine LeO.ite ?_ ?_
      | refine LeO.bind ?_ (fun _ => ?_)
    · intro y0 y1 y2 y3 y4
      unfold qanatlaw03_ScanCovers.l0
      repeat' first
      | (with_reducible exact ih0 _ _ _)
      | (with_reducible exact ih1 _ _ _ _ _)
      | (with_reducible exact ih2 _ _ _ _ _ _ _ _ _ _ _)
      | (with_reducible exact qanatlaw03_idle.mono _ _)
      | (with_reducible exact scan_Place.mono _ _ _)
      | (with_reducible exact LeO.refl _)
      | (with_reducible exact LeO.none _)
      | (with_reducible refine LeO.ite ?_ ?_)
      | (with_reducible refine LeO.bind ?_ (fun _ => ?_))
      | exact ih0 _ _ _
      | exact ih1 _ _ _ _ _
      | exact ih2 _ _ _ _ _ _ _ _ _ _ _
      | exact qanatlaw03_idle.mono _ _
      | exact scan_Place.mono _ _ _
      | exact LeO.none _
      | refine LeO.ite ?_ ?_
      | refine LeO.bind ?_ (fun _ => ?_)
    · intro y0 y1 y2 y3 y4 y5 y6 y7 y8 y9 y10
      unfold qanatlaw03_ScanCovers.j2
      repeat' first
      | (with_reducible exact ih0 _ _ _)
      | (with_reducible exact ih1 _ _ _ _ _)
      | (with_reducible exact ih2 _ _ _ _ _ _ _ _ _ _ _)
      | (with_reducible exact qanatlaw03_idle.mono _ _)
      | (with_reducible exact scan_Place.mono _ _ _)
      | (with_reducible exact LeO.refl _)
      | (with_reducible exact LeO.none _)
      | (with_reducible refine LeO.ite ?_ ?_)
      | (with_reducible refine LeO.bind ?_ (fun _ => ?_))
      | exact ih0 _ _ _
      | exact ih1 _ _ _ _ _
      | exact ih2 _ _ _ _ _ _ _ _ _ _ _
      | exact qanatlaw03_idle.mono _ _
      | exact scan_Place.mono _ _ _
      | exact LeO.none _
      | refine LeO.ite ?_ ?_
      | refine LeO.bind ?_ (fun _ => ?_)
theorem qanatlaw03_ScanCovers.mono : ∀ a0 k, LeO (qanatlaw03_ScanCovers.f k a0) (qanatlaw03_ScanCovers.f (k + 1) a0) := by
  intro a0 k
  obtain ⟨ih0, ih1, ih2⟩ := qanatlaw03_ScanCovers.mono_l k
  unfold qanatlaw03_ScanCovers.f
  repeat' first
      | (with_reducible exact ih0 _ _ _)
      | (with_reducible exact ih1 _ _ _ _ _)
      | (with_reducible exact ih2 _ _ _ _ _ _ _ _ _ _ _)
      | (with_reducible exact qanatlaw03_idle.mono _ _)
      | (with_reducible exact scan_Place.mono _ _ _)
      | (with_reducible exact LeO.refl _)
      | (with_reducible exact LeO.none _)
      | (with_reducible refine LeO.ite ?_ ?_)
      | (with_reducible refine LeO.bind ?_ (fun _ => ?_))
      | exact ih0 _ _ _
      | exact ih1 _ _ _ _ _
      | exact ih2 _ _ _ _ _ _ _ _ _ _ _
      | exact qanatlaw03_idle.mono _ _
      | exact scan_Place.mono _ _ _
      | exact LeO.none _
      | refine LeO.ite ?_ ?_
      | refine LeO.bind ?_ (fun _ => ?_)
set_option maxHeartbeats 8000000 in
set_option maxRecDepth 100000 in
theorem qanatlaw03_ScanCovers.calls (k : Nat) (a0 : ByteArray) (r : Bool) (w : World) (hT : TabOK w) (h : qanatlaw03_ScanCovers.f k a0 = some r) :
    Calls Tryz.prog 13 #[.string a0] w fun e w' => e = .returned (.bool r) ∧ Below w.heap.size w w' := by
  have hu53 := Tryz.underlying53
  have HB := Aside0.mk (Below.refl w.heap.size w)
  have H : ((scan_Tokens.f a0).bind fun bt556 => ((qanatlaw03_small.f a0).bind fun t562 => (if t562 = true then (qanatlaw03_ScanCovers.j0 k a0 bt556.1 (bt556.2.2.2 != 0)) else (qanatlaw03_ScanCovers.j0 k a0 bt556.1 true)))) = some r := h
  clear h
  replace H := Option.bind_eq_some_iff.mp H
  obtain ⟨⟨t556, t557, t558, t559⟩, A20, H⟩ := H
  replace H : ((qanatlaw03_small.f a0).bind fun t562 => (if t562 = true then (qanatlaw03_ScanCovers.j0 k a0 t556 (t559 != 0)) else (qanatlaw03_ScanCovers.j0 k a0 t556 true))) = some r := H
  have A2 := Aside0.mk A20
  clear A20
  have HC3 := Aside0.mk H
  clear H
  go_enter Tryz.func13, Tryz.ntmps13
  go_upto_region 2 with (first | ((with_reducible refine gate_callee (f := 17) rfl ?_); refine goesL_ (some 17) rfl rfl Tryz.func17 (by kernel_rfl) rfl #[.string a0] rfl (by (try simp only [List.map_toArray, List.map_cons, List.map_nil]); first | done | rfl | (simp only [List.length_drop, List.length_take]; rfl)) ?_; (with_reducible refine (scan_Tokens.calls a0 t556 t557 t558 t559 _ (TabOK.of_below hT (by repeat (first | (with_reducible first | exact HB.out | apply below_alloc | apply pw_below_drewN | apply below_drew1) | exact HB.out))) A2.out).mono ?_); rintro e w4 ⟨v560, rfl, ho0, hb⟩; refine ⟨_, rfl, ?_⟩; have n0_ := Aside0.mk (Kd.R_lower ho0 (below_size (by repeat (first | (with_reducible first | exact HB.out | apply below_alloc | apply pw_below_drewN | apply below_drew1) | exact HB.out)))); have n1_ := Aside0.mk (below_step (by repeat (first | (with_reducible first | exact HB.out | apply below_alloc | apply pw_below_drewN | apply below_drew1) | exact HB.out)) hb); clear HB; have HO561 := n0_; have HB := n1_; clear n0_ n1_; (try clear hb); (try clear hb2); (try clear hk); (try clear hi); (try clear ho0)))
  (try simp only [Act.put, List.setIfInBounds_toArray, List.set_cons_zero, List.set_cons_succ])
  go_cut [28] (fun v28 wc => ∃ (kq : Nat) (x28_2 : Bool), v28 = .bool x28_2 ∧ Aside0 (qanatlaw03_ScanCovers.j0 kq a0 t556 x28_2 = some r) ∧ Aside0 (kq ≤ k) ∧ Aside0 (Kd.R k53 53 wc w.heap.size (fun _ => True) v560 t556) ∧ Aside0 (Below w.heap.size w wc))
  case first =>
    have H := HC3.out
    clear HC3
    replace H := Option.bind_eq_some_iff.mp H
    obtain ⟨t562, A50, H⟩ := H
    replace H : (if t562 = true then (qanatlaw03_ScanCovers.j0 k a0 t556 (t559 != 0)) else (qanatlaw03_ScanCovers.j0 k a0 t556 true)) = some r := H
    have A5 := Aside0.mk A50
    clear A50
    by_cases c6 : t562 = true
    · subst c6
      have H1 : (qanatlaw03_ScanCovers.j0 k a0 t556 (t559 != 0)) = some r := by rw [if_pos rfl] at H; exact H
      clear H
      have H := H1
      clear H1
      have H' := Aside0.mk H
      clear H
      go_wp2_with (first | ((with_reducible refine gate_callee (f := 39) rfl ?_); refine goesL_ (some 23) rfl rfl Tryz.func39 (by kernel_rfl) rfl #[.string a0] rfl (by (try simp only [List.map_toArray, List.map_cons, List.map_nil]); first | done | rfl | (simp only [List.length_drop, List.length_take]; rfl)) ?_; (with_reducible refine (qanatlaw03_small.calls a0 true _ A5.out).mono ?_); rintro e w' ⟨rfl, ⟨nd, rfl⟩⟩; refine ⟨_, rfl, ?_⟩))
      go_meet
      case rel => exact ⟨_, ((t559 != 0)), (by first | rfl | (simp; done) | (simp [*]; done)), H', ⟨by first | omega | exact Nat.le_refl _⟩, ⟨by (with_reducible repeat (first | apply Kd.R_alloc | apply Kd.R_drewN | apply Kd.R_drew)); exact HO561.out⟩, ⟨by repeat (first | (with_reducible first | exact HB.out | apply below_alloc | apply pw_below_drewN | apply below_drew1) | exact HB.out)⟩⟩
    · replace c6 := Bool.eq_false_iff.mpr c6
      subst c6
      have H1 : (qanatlaw03_ScanCovers.j0 k a0 t556 true) = some r := by rw [if_neg (show ¬ (false = true) by decide)] at H; exact H
      clear H
      have H := H1
      clear H1
      have H' := Aside0.mk H
      clear H
      go_wp2_with (first | ((with_reducible refine gate_callee (f := 39) rfl ?_); refine goesL_ (some 23) rfl rfl Tryz.func39 (by kernel_rfl) rfl #[.string a0] rfl (by (try simp only [List.map_toArray, List.map_cons, List.map_nil]); first | done | rfl | (simp only [List.length_drop, List.length_take]; rfl)) ?_; (with_reducible refine (qanatlaw03_small.calls a0 false _ A5.out).mono ?_); rintro e w' ⟨rfl, ⟨nd, rfl⟩⟩; refine ⟨_, rfl, ?_⟩))
      go_meet
      case rel => exact ⟨_, (true), (by first | rfl | (simp; done) | (simp [*]; done)), H', ⟨by first | omega | exact Nat.le_refl _⟩, ⟨by (with_reducible repeat (first | apply Kd.R_alloc | apply Kd.R_drewN | apply Kd.R_drew)); exact HO561.out⟩, ⟨by repeat (first | (with_reducible first | exact HB.out | apply below_alloc | apply pw_below_drewN | apply below_drew1) | exact HB.out)⟩⟩
  case rest =>
    clear HC3
    try clear c1
    try clear p2
    try clear c3
    try clear c6
    obtain ⟨kq, x28_2, rfl, HA, HJ2, HO_3, HB⟩ := hcut
    cases kq with
    | zero => exact absurd HA.out (by simp [qanatlaw03_ScanCovers.j0])
    | succ kj2 =>
      have H := HA.out
      clear HA
      simp only [qanatlaw03_ScanCovers.j0] at H
      by_cases c7 : x28_2 = true
      · subst c7
        have H1 : ((qanatlaw03_sanity.f).bind fun t563 => (some t563)) = some r := by rw [if_pos rfl] at H; exact H
        clear H
        have H := H1
        clear H1
        replace H := Option.bind_eq_some_iff.mp H
        obtain ⟨t563, A80, H⟩ := H
        replace H : (some t563) = some r := H
        have A8 := Aside0.mk A80
        clear A80
        obtain rfl := Option.some.inj H
        go_wp2_with (first | ((with_reducible refine gate_callee (f := 16) rfl ?_); refine goesL_ (some 29) rfl rfl Tryz.func16 (by kernel_rfl) rfl #[] rfl (by (try simp only [List.map_toArray, List.map_cons, List.map_nil]); first | done | rfl | (simp only [List.length_drop, List.length_take]; rfl)) ?_; (with_reducible refine (qanatlaw03_sanity.calls  t563 _ (TabOK.of_below hT (by repeat (first | (with_reducible first | exact HB.out | apply below_alloc | apply pw_below_drewN | apply below_drew1) | exact HB.out))) A8.out).mono ?_); rintro e w9 ⟨rfl, hb⟩; refine ⟨_, rfl, ?_⟩; have n0_ := Aside0.mk (Kd.R_below (by (with_reducible repeat (first | apply Kd.R_alloc | apply Kd.R_drewN | apply Kd.R_drew)); exact HO_3.out) hb); have n1_ := Aside0.mk (below_step (by repeat (first | (with_reducible first | exact HB.out | apply below_alloc | apply pw_below_drewN | apply below_drew1) | exact HB.out)) hb); clear HO_3; clear HB; have HO_3 := n0_; have HB := n1_; clear n0_ n1_; (try clear hb); (try clear hb2); (try clear hk); (try clear hi)))
        go_ret
        exact ⟨by first | rfl | (simp [errW_none, errW_some] <;> rfl) | (simp [*, errW_none, errW_some] <;> rfl), by repeat (first | (with_reducible first | exact HB.out | apply below_alloc | apply pw_below_drewN | apply below_drew1) | exact HB.out)⟩
      · replace c7 := Bool.eq_false_iff.mpr c7
        subst c7
        have H1 : (qanatlaw03_ScanCovers.l0 kj2 a0 t556 0 1 0) = some r := by rw [if_neg (show ¬ (false = true) by decide)] at H; exact H
        clear H
        have H := H1
        clear H1
        have H' := Aside0.mk H
        clear H
        go_wp2
        go_loopg [7, 8, 9] kj2 (fun kq v7 v8 v9 w' => ∃ (x7_2 : Int) (x8_2 : Int) (x9_2 : Int), v7 = .int .i64 x7_2 ∧ v8 = .int .i64 x8_2 ∧ v9 = .int .i64 x9_2 ∧ Aside0 (qanatlaw03_ScanCovers.l0 kq a0 t556 x7_2 x8_2 x9_2 = some r) ∧ Aside0 (kq ≤ kj2) ∧ Aside0 (Kd.R k53 53 w' w.heap.size (fun _ => True) v560 t556) ∧ Aside0 (Below w.heap.size w w'))
        case atStart => exact ⟨(0), (1), (0), (by first | rfl | (simp; done) | (simp [*]; done)), (by first | rfl | (simp; done) | (simp [*]; done)), (by first | rfl | (simp; done) | (simp [*]; done)), H', ⟨Nat.le_refl _⟩, ⟨by (with_reducible repeat (first | apply Kd.R_alloc | apply Kd.R_drewN | apply Kd.R_drew)); exact HO_3.out⟩, ⟨by repeat (first | (with_reducible first | exact HB.out | apply below_alloc | apply pw_below_drewN | apply below_drew1) | exact HB.out)⟩⟩
        case round =>
          clear H'
          try clear c1
          try clear p2
          try clear c3
          try clear c6
          try clear c7
          try clear p2
          obtain ⟨x7_2, x8_2, x9_2, rfl, rfl, rfl, HA, HK2, HO_3, HB⟩ := hrel
          cases gk with
          | zero => exact absurd HA.out (by simp [qanatlaw03_ScanCovers.l0])
          | succ k2 =>
            have H := HA.out
            clear HA
            simp only [qanatlaw03_ScanCovers.l0] at H
            by_cases c10 : x9_2 < (t556.length : Int)
            · rw [if_pos c10] at H
              have c10b0 : decide (x9_2 < (t556.length : Int)) = true := decide_eq_true c10
              clear c10
              by_cases c11 : 0 ≤ x9_2
              · rw [if_pos c11] at H
                have c11b0 : decide (0 ≤ x9_2) = true := decide_eq_true c11
                clear c11
                have HC12 := Aside0.mk H
                clear H
                obtain ⟨Ao13, co13, eo13⟩ := Kd.R_slice HO_3.out
                subst eo13
                have p566 : 0 ≤ (x9_2 : Int) := of_decide_eq_true (by first | (with_reducible assumption) | assumption)
                have q566 : x9_2 < (t556.length : Int) := of_decide_eq_true (by first | (with_reducible assumption) | assumption)
                obtain ⟨ad566, e566, hx566_0, hx566_1, hx566_2, hx566_3, hx566_4, hx566_5⟩ := at_T53 (Kd.R_reads' HO_3.out).2.2 x9_2 p566 q566
                cases e566
                replace p566 := eq_true p566
                replace q566 := eq_true q566
                go_upto_region 10 with (first | ((with_reducible refine gate_dst (N := 10) rfl ?_); (try (refine gate_guard (by rfl) ?_; dsimp only)); refine box_event ?hg (N := 10) ?hd (cs := #[.int .i64 0, .string (⟨#[]⟩ : ByteArray), .bool false, .int .i64 0, .int .i64 0, .int .i64 0]) (t := 53) ?hr ?_; (case hd => rfl); (case hg => rfl); (case hr => first | (go_simp; done) | (go_simp; rfl)); intro gb567 hg w14 hbox hb; have n0_ := Aside0.mk (Kd.R_below (Kd.R_elderB (by (with_reducible repeat (first | apply Kd.R_alloc | apply Kd.R_drewN | apply Kd.R_drew)); exact HO_3.out) gb567 (Nat.le_of_eq hg.symm)) hb); have n1_ := Aside0.mk (below_step (by repeat (first | (with_reducible first | exact HB.out | apply below_alloc | apply pw_below_drewN | apply below_drew1) | exact HB.out)) hb); have n2_ := Aside0.mk (hbox); have n3_ := Aside0.mk ((by rw [hg]; exact (below_size (by repeat (first | (with_reducible first | exact HB.out | apply below_alloc | apply pw_below_drewN | apply below_drew1) | exact HB.out))) : w.heap.size ≤ gb567)); have n4_ := Aside0.mk ((by rw [hg]; exact (below_size (by repeat (first | (with_reducible first | exact HB.out | apply below_alloc | apply pw_below_drewN | apply below_drew1) | exact HB.out))) : w.heap.size ≤ gb567)); clear HO_3; clear HB; have HO_3 := n0_; have HB := n1_; have BK567 := n2_; have GW567 := n3_; have GE567 := n4_; clear n0_ n1_ n2_ n3_ n4_; clear hb hbox hg; have hcz15_0 : w14.cell? ⟨gb567, 0, none⟩ = some (.int .i64 0) := (blk_cell BK567.out 0).trans rfl; have hcz15_1 : w14.cell? ⟨gb567, 1, none⟩ = some (.string (⟨#[]⟩ : ByteArray)) := (blk_cell BK567.out 1).trans rfl; have hcz15_2 : w14.cell? ⟨gb567, 2, none⟩ = some (.bool false) := (blk_cell BK567.out 2).trans rfl; have hcz15_3 : w14.cell? ⟨gb567, 3, none⟩ = some (.int .i64 0) := (blk_cell BK567.out 3).trans rfl; have hcz15_4 : w14.cell? ⟨gb567, 4, none⟩ = some (.int .i64 0) := (blk_cell BK567.out 4).trans rfl; have hcz15_5 : w14.cell? ⟨gb567, 5, none⟩ = some (.int .i64 0) := (blk_cell BK567.out 5).trans rfl; have hfz15_0 := blk_frozen BK567.out 0; have hfz15_1 := blk_frozen BK567.out 1; have hfz15_2 := blk_frozen BK567.out 2; have hfz15_3 := blk_frozen BK567.out 3; have hfz15_4 := blk_frozen BK567.out 4; have hfz15_5 := blk_frozen BK567.out 5))
                (try simp only [Act.put, List.setIfInBounds_toArray, List.set_cons_zero, List.set_cons_succ])
                go_cut [75] (fun v75 wc => ∃ (kq : Nat) (x75_11 : Bool), v75 = .bool x75_11 ∧ Aside0 (qanatlaw03_ScanCovers.j2 kq a0 t556 x7_2 x9_2 x75_11 ((rd_T53 t556 x9_2).f0) ((rd_T53 t556 x9_2).f1) ((rd_T53 t556 x9_2).f2) ((rd_T53 t556 x9_2).f3) ((rd_T53 t556 x9_2).f4) ((rd_T53 t556 x9_2).f5) = some r) ∧ Aside0 (kq ≤ k2) ∧ Aside0 (Kd.R k53 53 wc w.heap.size (fun k_ => k_ ≠ gb567) (.slice (some ad566) t556.length co13) t556) ∧ Aside0 (wc.heap[gb567]? = some (.cells #[.int .i64 ((rd_T53 t556 x9_2).f0), .string ((rd_T53 t556 x9_2).f1), .bool ((rd_T53 t556 x9_2).f2), .int .i64 ((rd_T53 t556 x9_2).f3), .int .i64 ((rd_T53 t556 x9_2).f4), .int .i64 ((rd_T53 t556 x9_2).f5)] 53 (0, 0))) ∧ Aside0 (Below w.heap.size w wc))
                case first =>
                  have H := HC12.out
                  clear HC12
                  by_cases c16 : ((rd_T53 t556 x9_2).f4) < x7_2
                  · rw [if_pos c16] at H
                    have c16b0 : decide (((rd_T53 t556 x9_2).f4) < x7_2) = true := decide_eq_true c16
                    clear c16
                    (first | rw [c16b0] | (simp only [i64_w, i32_w]; rw [c16b0]) | skip)
                    have H' := Aside0.mk H
                    clear H
                    have hcz17_0 : w14.cell? ⟨gb567, 0, none⟩ = some (.int .i64 0) := (blk_cell BK567.out 0).trans rfl
                    have hcz17_1 : w14.cell? ⟨gb567, 1, none⟩ = some (.string (⟨#[]⟩ : ByteArray)) := (blk_cell BK567.out 1).trans rfl
                    have hcz17_2 : w14.cell? ⟨gb567, 2, none⟩ = some (.bool false) := (blk_cell BK567.out 2).trans rfl
                    have hcz17_3 : w14.cell? ⟨gb567, 3, none⟩ = some (.int .i64 0) := (blk_cell BK567.out 3).trans rfl
                    have hcz17_4 : w14.cell? ⟨gb567, 4, none⟩ = some (.int .i64 0) := (blk_cell BK567.out 4).trans rfl
                    have hcz17_5 : w14.cell? ⟨gb567, 5, none⟩ = some (.int .i64 0) := (blk_cell BK567.out 5).trans rfl
                    have hfz17_0 := blk_frozen BK567.out 0
                    have hfz17_1 := blk_frozen BK567.out 1
                    have hfz17_2 := blk_frozen BK567.out 2
                    have hfz17_3 := blk_frozen BK567.out 3
                    have hfz17_4 := blk_frozen BK567.out 4
                    have hfz17_5 := blk_frozen BK567.out 5
                    go_wp2
                    go_meet
                    case rel => exact ⟨_, (true), (by first | rfl | (simp; done) | (simp [*]; done)), H', ⟨by have := HJ2.out; have := HK2.out; first | omega | exact Nat.le_refl _⟩, ⟨by (with_reducible repeat (first | apply Kd.R_alloc | apply Kd.R_drewN | apply Kd.R_drew)); exact Kd.R_mono (Kd.R_far (p := ⟨gb567, 5, none⟩) (Kd.R_far (p := ⟨gb567, 4, none⟩) (Kd.R_far (p := ⟨gb567, 3, none⟩) (Kd.R_far (p := ⟨gb567, 2, none⟩) (Kd.R_far (p := ⟨gb567, 1, none⟩) (Kd.R_far (p := ⟨gb567, 0, none⟩) (Kd.R_mono HO_3.out (fun k_ hk => (⟨hk, hk.2⟩ : _ ∧ k_ ≠ gb567))) (fun _ hk => hk.2) (.int .i64 ((rd_T53 t556 x9_2).f0))) (fun _ hk => hk.2) (.string ((rd_T53 t556 x9_2).f1))) (fun _ hk => hk.2) (.bool ((rd_T53 t556 x9_2).f2))) (fun _ hk => hk.2) (.int .i64 ((rd_T53 t556 x9_2).f3))) (fun _ hk => hk.2) (.int .i64 ((rd_T53 t556 x9_2).f4))) (fun _ hk => hk.2) (.int .i64 ((rd_T53 t556 x9_2).f5))) (fun _ hk => hk.1.2)⟩, ⟨by (with_reducible repeat (first | refine blk_drewN ?_ _ | refine blk_drew ?_ | refine blk_alloc ?_ _)); refine blk_put (cs := #[.int .i64 ((rd_T53 t556 x9_2).f0), .string ((rd_T53 t556 x9_2).f1), .bool ((rd_T53 t556 x9_2).f2), .int .i64 ((rd_T53 t556 x9_2).f3), .int .i64 ((rd_T53 t556 x9_2).f4), .int .i64 0]) ?_ 5 _ rfl; (with_reducible repeat (first | refine blk_drewN ?_ _ | refine blk_drew ?_ | refine blk_alloc ?_ _)); refine blk_put (cs := #[.int .i64 ((rd_T53 t556 x9_2).f0), .string ((rd_T53 t556 x9_2).f1), .bool ((rd_T53 t556 x9_2).f2), .int .i64 ((rd_T53 t556 x9_2).f3), .int .i64 0, .int .i64 0]) ?_ 4 _ rfl; (with_reducible repeat (first | refine blk_drewN ?_ _ | refine blk_drew ?_ | refine blk_alloc ?_ _)); refine blk_put (cs := #[.int .i64 ((rd_T53 t556 x9_2).f0), .string ((rd_T53 t556 x9_2).f1), .bool ((rd_T53 t556 x9_2).f2), .int .i64 0, .int .i64 0, .int .i64 0]) ?_ 3 _ rfl; (with_reducible repeat (first | refine blk_drewN ?_ _ | refine blk_drew ?_ | refine blk_alloc ?_ _)); refine blk_put (cs := #[.int .i64 ((rd_T53 t556 x9_2).f0), .string ((rd_T53 t556 x9_2).f1), .bool false, .int .i64 0, .int .i64 0, .int .i64 0]) ?_ 2 _ rfl; (with_reducible repeat (first | refine blk_drewN ?_ _ | refine blk_drew ?_ | refine blk_alloc ?_ _)); refine blk_put (cs := #[.int .i64 ((rd_T53 t556 x9_2).f0), .string (⟨#[]⟩ : ByteArray), .bool false, .int .i64 0, .int .i64 0, .int .i64 0]) ?_ 1 _ rfl; (with_reducible repeat (first | refine blk_drewN ?_ _ | refine blk_drew ?_ | refine blk_alloc ?_ _)); refine blk_put (cs := #[.int .i64 0, .string (⟨#[]⟩ : ByteArray), .bool false, .int .i64 0, .int .i64 0, .int .i64 0]) ?_ 0 _ rfl; (with_reducible repeat (first | refine blk_drewN ?_ _ | refine blk_drew ?_ | refine blk_alloc ?_ _)); exact BK567.out⟩, ⟨by repeat (first | (with_reducible first | exact HB.out | apply below_alloc | apply pw_below_drewN | apply below_drew1 | refine below_set ?_ GE567.out) | exact HB.out)⟩⟩
                  · rw [if_neg c16] at H
                    have c16b0 : decide (((rd_T53 t556 x9_2).f4) < x7_2) = false := decide_eq_false c16
                    clear c16
                    (first | rw [c16b0] | (simp only [i64_w, i32_w]; rw [c16b0]) | skip)
                    by_cases c18 : ((rd_T53 t556 x9_2).f5) < ((rd_T53 t556 x9_2).f4)
                    · rw [if_pos c18] at H
                      have c18b0 : decide (((rd_T53 t556 x9_2).f5) < ((rd_T53 t556 x9_2).f4)) = true := decide_eq_true c18
                      clear c18
                      have H' := Aside0.mk H
                      clear H
                      have hcz19_0 : w14.cell? ⟨gb567, 0, none⟩ = some (.int .i64 0) := (blk_cell BK567.out 0).trans rfl
                      have hcz19_1 : w14.cell? ⟨gb567, 1, none⟩ = some (.string (⟨#[]⟩ : ByteArray)) := (blk_cell BK567.out 1).trans rfl
                      have hcz19_2 : w14.cell? ⟨gb567, 2, none⟩ = some (.bool false) := (blk_cell BK567.out 2).trans rfl
                      have hcz19_3 : w14.cell? ⟨gb567, 3, none⟩ = some (.int .i64 0) := (blk_cell BK567.out 3).trans rfl
                      have hcz19_4 : w14.cell? ⟨gb567, 4, none⟩ = some (.int .i64 0) := (blk_cell BK567.out 4).trans rfl
                      have hcz19_5 : w14.cell? ⟨gb567, 5, none⟩ = some (.int .i64 0) := (blk_cell BK567.out 5).trans rfl
                      have hfz19_0 := blk_frozen BK567.out 0
                      have hfz19_1 := blk_frozen BK567.out 1
                      have hfz19_2 := blk_frozen BK567.out 2
                      have hfz19_3 := blk_frozen BK567.out 3
                      have hfz19_4 := blk_frozen BK567.out 4
                      have hfz19_5 := blk_frozen BK567.out 5
                      go_wp2
                      go_meet
                      case rel => exact ⟨_, (true), (by first | rfl | (simp; done) | (simp [*]; done)), H', ⟨by have := HJ2.out; have := HK2.out; first | omega | exact Nat.le_refl _⟩, ⟨by (with_reducible repeat (first | apply Kd.R_alloc | apply Kd.R_drewN | apply Kd.R_drew)); exact Kd.R_mono (Kd.R_far (p := ⟨gb567, 5, none⟩) (Kd.R_far (p := ⟨gb567, 4, none⟩) (Kd.R_far (p := ⟨gb567, 3, none⟩) (Kd.R_far (p := ⟨gb567, 2, none⟩) (Kd.R_far (p := ⟨gb567, 1, none⟩) (Kd.R_far (p := ⟨gb567, 0, none⟩) (Kd.R_mono HO_3.out (fun k_ hk => (⟨hk, hk.2⟩ : _ ∧ k_ ≠ gb567))) (fun _ hk => hk.2) (.int .i64 ((rd_T53 t556 x9_2).f0))) (fun _ hk => hk.2) (.string ((rd_T53 t556 x9_2).f1))) (fun _ hk => hk.2) (.bool ((rd_T53 t556 x9_2).f2))) (fun _ hk => hk.2) (.int .i64 ((rd_T53 t556 x9_2).f3))) (fun _ hk => hk.2) (.int .i64 ((rd_T53 t556 x9_2).f4))) (fun _ hk => hk.2) (.int .i64 ((rd_T53 t556 x9_2).f5))) (fun _ hk => hk.1.2)⟩, ⟨by (with_reducible repeat (first | refine blk_drewN ?_ _ | refine blk_drew ?_ | refine blk_alloc ?_ _)); refine blk_put (cs := #[.int .i64 ((rd_T53 t556 x9_2).f0), .string ((rd_T53 t556 x9_2).f1), .bool ((rd_T53 t556 x9_2).f2), .int .i64 ((rd_T53 t556 x9_2).f3), .int .i64 ((rd_T53 t556 x9_2).f4), .int .i64 0]) ?_ 5 _ rfl; (with_reducible repeat (first | refine blk_drewN ?_ _ | refine blk_drew ?_ | refine blk_alloc ?_ _)); refine blk_put (cs := #[.int .i64 ((rd_T53 t556 x9_2).f0), .string ((rd_T53 t556 x9_2).f1), .bool ((rd_T53 t556 x9_2).f2), .int .i64 ((rd_T53 t556 x9_2).f3), .int .i64 0, .int .i64 0]) ?_ 4 _ rfl; (with_reducible repeat (first | refine blk_drewN ?_ _ | refine blk_drew ?_ | refine blk_alloc ?_ _)); refine blk_put (cs := #[.int .i64 ((rd_T53 t556 x9_2).f0), .string ((rd_T53 t556 x9_2).f1), .bool ((rd_T53 t556 x9_2).f2), .int .i64 0, .int .i64 0, .int .i64 0]) ?_ 3 _ rfl; (with_reducible repeat (first | refine blk_drewN ?_ _ | refine blk_drew ?_ | refine blk_alloc ?_ _)); refine blk_put (cs := #[.int .i64 ((rd_T53 t556 x9_2).f0), .string ((rd_T53 t556 x9_2).f1), .bool false, .int .i64 0, .int .i64 0, .int .i64 0]) ?_ 2 _ rfl; (with_reducible repeat (first | refine blk_drewN ?_ _ | refine blk_drew ?_ | refine blk_alloc ?_ _)); refine blk_put (cs := #[.int .i64 ((rd_T53 t556 x9_2).f0), .string (⟨#[]⟩ : ByteArray), .bool false, .int .i64 0, .int .i64 0, .int .i64 0]) ?_ 1 _ rfl; (with_reducible repeat (first | refine blk_drewN ?_ _ | refine blk_drew ?_ | refine blk_alloc ?_ _)); refine blk_put (cs := #[.int .i64 0, .string (⟨#[]⟩ : ByteArray), .bool false, .int .i64 0, .int .i64 0, .int .i64 0]) ?_ 0 _ rfl; (with_reducible repeat (first | refine blk_drewN ?_ _ | refine blk_drew ?_ | refine blk_alloc ?_ _)); exact BK567.out⟩, ⟨by repeat (first | (with_reducible first | exact HB.out | apply below_alloc | apply pw_below_drewN | apply below_drew1 | refine below_set ?_ GE567.out) | exact HB.out)⟩⟩
                    · rw [if_neg c18] at H
                      have c18b0 : decide (((rd_T53 t556 x9_2).f5) < ((rd_T53 t556 x9_2).f4)) = false := decide_eq_false c18
                      clear c18
                      by_cases c20 : ((rd_T53 t556 x9_2).f5) > (a0.size : Int)
                      · rw [if_pos c20] at H
                        have c20b0 : decide ((a0.size : Int) < ((rd_T53 t556 x9_2).f5)) = true := decide_eq_true c20
                        clear c20
                        have H' := Aside0.mk H
                        clear H
                        have hcz21_0 : w14.cell? ⟨gb567, 0, none⟩ = some (.int .i64 0) := (blk_cell BK567.out 0).trans rfl
                        have hcz21_1 : w14.cell? ⟨gb567, 1, none⟩ = some (.string (⟨#[]⟩ : ByteArray)) := (blk_cell BK567.out 1).trans rfl
                        have hcz21_2 : w14.cell? ⟨gb567, 2, none⟩ = some (.bool false) := (blk_cell BK567.out 2).trans rfl
                        have hcz21_3 : w14.cell? ⟨gb567, 3, none⟩ = some (.int .i64 0) := (blk_cell BK567.out 3).trans rfl
                        have hcz21_4 : w14.cell? ⟨gb567, 4, none⟩ = some (.int .i64 0) := (blk_cell BK567.out 4).trans rfl
                        have hcz21_5 : w14.cell? ⟨gb567, 5, none⟩ = some (.int .i64 0) := (blk_cell BK567.out 5).trans rfl
                        have hfz21_0 := blk_frozen BK567.out 0
                        have hfz21_1 := blk_frozen BK567.out 1
                        have hfz21_2 := blk_frozen BK567.out 2
                        have hfz21_3 := blk_frozen BK567.out 3
                        have hfz21_4 := blk_frozen BK567.out 4
                        have hfz21_5 := blk_frozen BK567.out 5
                        go_wp2
                        go_meet
                        case rel => exact ⟨_, (true), (by first | rfl | (simp; done) | (simp [*]; done)), H', ⟨by have := HJ2.out; have := HK2.out; first | omega | exact Nat.le_refl _⟩, ⟨by (with_reducible repeat (first | apply Kd.R_alloc | apply Kd.R_drewN | apply Kd.R_drew)); exact Kd.R_mono (Kd.R_far (p := ⟨gb567, 5, none⟩) (Kd.R_far (p := ⟨gb567, 4, none⟩) (Kd.R_far (p := ⟨gb567, 3, none⟩) (Kd.R_far (p := ⟨gb567, 2, none⟩) (Kd.R_far (p := ⟨gb567, 1, none⟩) (Kd.R_far (p := ⟨gb567, 0, none⟩) (Kd.R_mono HO_3.out (fun k_ hk => (⟨hk, hk.2⟩ : _ ∧ k_ ≠ gb567))) (fun _ hk => hk.2) (.int .i64 ((rd_T53 t556 x9_2).f0))) (fun _ hk => hk.2) (.string ((rd_T53 t556 x9_2).f1))) (fun _ hk => hk.2) (.bool ((rd_T53 t556 x9_2).f2))) (fun _ hk => hk.2) (.int .i64 ((rd_T53 t556 x9_2).f3))) (fun _ hk => hk.2) (.int .i64 ((rd_T53 t556 x9_2).f4))) (fun _ hk => hk.2) (.int .i64 ((rd_T53 t556 x9_2).f5))) (fun _ hk => hk.1.2)⟩, ⟨by (with_reducible repeat (first | refine blk_drewN ?_ _ | refine blk_drew ?_ | refine blk_alloc ?_ _)); refine blk_put (cs := #[.int .i64 ((rd_T53 t556 x9_2).f0), .string ((rd_T53 t556 x9_2).f1), .bool ((rd_T53 t556 x9_2).f2), .int .i64 ((rd_T53 t556 x9_2).f3), .int .i64 ((rd_T53 t556 x9_2).f4), .int .i64 0]) ?_ 5 _ rfl; (with_reducible repeat (first | refine blk_drewN ?_ _ | refine blk_drew ?_ | refine blk_alloc ?_ _)); refine blk_put (cs := #[.int .i64 ((rd_T53 t556 x9_2).f0), .string ((rd_T53 t556 x9_2).f1), .bool ((rd_T53 t556 x9_2).f2), .int .i64 ((rd_T53 t556 x9_2).f3), .int .i64 0, .int .i64 0]) ?_ 4 _ rfl; (with_reducible repeat (first | refine blk_drewN ?_ _ | refine blk_drew ?_ | refine blk_alloc ?_ _)); refine blk_put (cs := #[.int .i64 ((rd_T53 t556 x9_2).f0), .string ((rd_T53 t556 x9_2).f1), .bool ((rd_T53 t556 x9_2).f2), .int .i64 0, .int .i64 0, .int .i64 0]) ?_ 3 _ rfl; (with_reducible repeat (first | refine blk_drewN ?_ _ | refine blk_drew ?_ | refine blk_alloc ?_ _)); refine blk_put (cs := #[.int .i64 ((rd_T53 t556 x9_2).f0), .string ((rd_T53 t556 x9_2).f1), .bool false, .int .i64 0, .int .i64 0, .int .i64 0]) ?_ 2 _ rfl; (with_reducible repeat (first | refine blk_drewN ?_ _ | refine blk_drew ?_ | refine blk_alloc ?_ _)); refine blk_put (cs := #[.int .i64 ((rd_T53 t556 x9_2).f0), .string (⟨#[]⟩ : ByteArray), .bool false, .int .i64 0, .int .i64 0, .int .i64 0]) ?_ 1 _ rfl; (with_reducible repeat (first | refine blk_drewN ?_ _ | refine blk_drew ?_ | refine blk_alloc ?_ _)); refine blk_put (cs := #[.int .i64 0, .string (⟨#[]⟩ : ByteArray), .bool false, .int .i64 0, .int .i64 0, .int .i64 0]) ?_ 0 _ rfl; (with_reducible repeat (first | refine blk_drewN ?_ _ | refine blk_drew ?_ | refine blk_alloc ?_ _)); exact BK567.out⟩, ⟨by repeat (first | (with_reducible first | exact HB.out | apply below_alloc | apply pw_below_drewN | apply below_drew1 | refine below_set ?_ GE567.out) | exact HB.out)⟩⟩
                      · rw [if_neg c20] at H
                        have c20b0 : decide ((a0.size : Int) < ((rd_T53 t556 x9_2).f5)) = false := decide_eq_false c20
                        clear c20
                        by_cases c22 : ((rd_T53 t556 x9_2).f3) < x8_2
                        · rw [if_pos c22] at H
                          have c22b0 : decide (((rd_T53 t556 x9_2).f3) < x8_2) = true := decide_eq_true c22
                          clear c22
                          have H' := Aside0.mk H
                          clear H
                          have hcz23_0 : w14.cell? ⟨gb567, 0, none⟩ = some (.int .i64 0) := (blk_cell BK567.out 0).trans rfl
                          have hcz23_1 : w14.cell? ⟨gb567, 1, none⟩ = some (.string (⟨#[]⟩ : ByteArray)) := (blk_cell BK567.out 1).trans rfl
                          have hcz23_2 : w14.cell? ⟨gb567, 2, none⟩ = some (.bool false) := (blk_cell BK567.out 2).trans rfl
                          have hcz23_3 : w14.cell? ⟨gb567, 3, none⟩ = some (.int .i64 0) := (blk_cell BK567.out 3).trans rfl
                          have hcz23_4 : w14.cell? ⟨gb567, 4, none⟩ = some (.int .i64 0) := (blk_cell BK567.out 4).trans rfl
                          have hcz23_5 : w14.cell? ⟨gb567, 5, none⟩ = some (.int .i64 0) := (blk_cell BK567.out 5).trans rfl
                          have hfz23_0 := blk_frozen BK567.out 0
                          have hfz23_1 := blk_frozen BK567.out 1
                          have hfz23_2 := blk_frozen BK567.out 2
                          have hfz23_3 := blk_frozen BK567.out 3
                          have hfz23_4 := blk_frozen BK567.out 4
                          have hfz23_5 := blk_frozen BK567.out 5
                          go_wp2
                          go_meet
                          case rel => exact ⟨_, (true), (by first | rfl | (simp; done) | (simp [*]; done)), H', ⟨by have := HJ2.out; have := HK2.out; first | omega | exact Nat.le_refl _⟩, ⟨by (with_reducible repeat (first | apply Kd.R_alloc | apply Kd.R_drewN | apply Kd.R_drew)); exact Kd.R_mono (Kd.R_far (p := ⟨gb567, 5, none⟩) (Kd.R_far (p := ⟨gb567, 4, none⟩) (Kd.R_far (p := ⟨gb567, 3, none⟩) (Kd.R_far (p := ⟨gb567, 2, none⟩) (Kd.R_far (p := ⟨gb567, 1, none⟩) (Kd.R_far (p := ⟨gb567, 0, none⟩) (Kd.R_mono HO_3.out (fun k_ hk => (⟨hk, hk.2⟩ : _ ∧ k_ ≠ gb567))) (fun _ hk => hk.2) (.int .i64 ((rd_T53 t556 x9_2).f0))) (fun _ hk => hk.2) (.string ((rd_T53 t556 x9_2).f1))) (fun _ hk => hk.2) (.bool ((rd_T53 t556 x9_2).f2))) (fun _ hk => hk.2) (.int .i64 ((rd_T53 t556 x9_2).f3))) (fun _ hk => hk.2) (.int .i64 ((rd_T53 t556 x9_2).f4))) (fun _ hk => hk.2) (.int .i64 ((rd_T53 t556 x9_2).f5))) (fun _ hk => hk.1.2)⟩, ⟨by (with_reducible repeat (first | refine blk_drewN ?_ _ | refine blk_drew ?_ | refine blk_alloc ?_ _)); refine blk_put (cs := #[.int .i64 ((rd_T53 t556 x9_2).f0), .string ((rd_T53 t556 x9_2).f1), .bool ((rd_T53 t556 x9_2).f2), .int .i64 ((rd_T53 t556 x9_2).f3), .int .i64 ((rd_T53 t556 x9_2).f4), .int .i64 0]) ?_ 5 _ rfl; (with_reducible repeat (first | refine blk_drewN ?_ _ | refine blk_drew ?_ | refine blk_alloc ?_ _)); refine blk_put (cs := #[.int .i64 ((rd_T53 t556 x9_2).f0), .string ((rd_T53 t556 x9_2).f1), .bool ((rd_T53 t556 x9_2).f2), .int .i64 ((rd_T53 t556 x9_2).f3), .int .i64 0, .int .i64 0]) ?_ 4 _ rfl; (with_reducible repeat (first | refine blk_drewN ?_ _ | refine blk_drew ?_ | refine blk_alloc ?_ _)); refine blk_put (cs := #[.int .i64 ((rd_T53 t556 x9_2).f0), .string ((rd_T53 t556 x9_2).f1), .bool ((rd_T53 t556 x9_2).f2), .int .i64 0, .int .i64 0, .int .i64 0]) ?_ 3 _ rfl; (with_reducible repeat (first | refine blk_drewN ?_ _ | refine blk_drew ?_ | refine blk_alloc ?_ _)); refine blk_put (cs := #[.int .i64 ((rd_T53 t556 x9_2).f0), .string ((rd_T53 t556 x9_2).f1), .bool false, .int .i64 0, .int .i64 0, .int .i64 0]) ?_ 2 _ rfl; (with_reducible repeat (first | refine blk_drewN ?_ _ | refine blk_drew ?_ | refine blk_alloc ?_ _)); refine blk_put (cs := #[.int .i64 ((rd_T53 t556 x9_2).f0), .string (⟨#[]⟩ : ByteArray), .bool false, .int .i64 0, .int .i64 0, .int .i64 0]) ?_ 1 _ rfl; (with_reducible repeat (first | refine blk_drewN ?_ _ | refine blk_drew ?_ | refine blk_alloc ?_ _)); refine blk_put (cs := #[.int .i64 0, .string (⟨#[]⟩ : ByteArray), .bool false, .int .i64 0, .int .i64 0, .int .i64 0]) ?_ 0 _ rfl; (with_reducible repeat (first | refine blk_drewN ?_ _ | refine blk_drew ?_ | refine blk_alloc ?_ _)); exact BK567.out⟩, ⟨by repeat (first | (with_reducible first | exact HB.out | apply below_alloc | apply pw_below_drewN | apply below_drew1 | refine below_set ?_ GE567.out) | exact HB.out)⟩⟩
                        · rw [if_neg c22] at H
                          have c22b0 : decide (((rd_T53 t556 x9_2).f3) < x8_2) = false := decide_eq_false c22
                          clear c22
                          by_cases c24 : ((rd_T53 t556 x9_2).f0) = 4
                          · rw [if_pos c24] at H
                            have c24b0 : (((rd_T53 t556 x9_2).f0) == 4) = true := beq_iff_eq.mpr c24
                            have c24b1 : (((rd_T53 t556 x9_2).f0) != 4) = false := bne_eq_false_iff_eq.mpr c24
                            clear c24
                            have H' := Aside0.mk H
                            clear H
                            have hcz25_0 : w14.cell? ⟨gb567, 0, none⟩ = some (.int .i64 0) := (blk_cell BK567.out 0).trans rfl
                            have hcz25_1 : w14.cell? ⟨gb567, 1, none⟩ = some (.string (⟨#[]⟩ : ByteArray)) := (blk_cell BK567.out 1).trans rfl
                            have hcz25_2 : w14.cell? ⟨gb567, 2, none⟩ = some (.bool false) := (blk_cell BK567.out 2).trans rfl
                            have hcz25_3 : w14.cell? ⟨gb567, 3, none⟩ = some (.int .i64 0) := (blk_cell BK567.out 3).trans rfl
                            have hcz25_4 : w14.cell? ⟨gb567, 4, none⟩ = some (.int .i64 0) := (blk_cell BK567.out 4).trans rfl
                            have hcz25_5 : w14.cell? ⟨gb567, 5, none⟩ = some (.int .i64 0) := (blk_cell BK567.out 5).trans rfl
                            have hfz25_0 := blk_frozen BK567.out 0
                            have hfz25_1 := blk_frozen BK567.out 1
                            have hfz25_2 := blk_frozen BK567.out 2
                            have hfz25_3 := blk_frozen BK567.out 3
                            have hfz25_4 := blk_frozen BK567.out 4
                            have hfz25_5 := blk_frozen BK567.out 5
                            go_wp2
                            go_meet
                            case rel => exact ⟨_, (false), (by first | rfl | (simp; done) | (simp [*]; done)), H', ⟨by have := HJ2.out; have := HK2.out; first | omega | exact Nat.le_refl _⟩, ⟨by (with_reducible repeat (first | apply Kd.R_alloc | apply Kd.R_drewN | apply Kd.R_drew)); exact Kd.R_mono (Kd.R_far (p := ⟨gb567, 5, none⟩) (Kd.R_far (p := ⟨gb567, 4, none⟩) (Kd.R_far (p := ⟨gb567, 3, none⟩) (Kd.R_far (p := ⟨gb567, 2, none⟩) (Kd.R_far (p := ⟨gb567, 1, none⟩) (Kd.R_far (p := ⟨gb567, 0, none⟩) (Kd.R_mono HO_3.out (fun k_ hk => (⟨hk, hk.2⟩ : _ ∧ k_ ≠ gb567))) (fun _ hk => hk.2) (.int .i64 ((rd_T53 t556 x9_2).f0))) (fun _ hk => hk.2) (.string ((rd_T53 t556 x9_2).f1))) (fun _ hk => hk.2) (.bool ((rd_T53 t556 x9_2).f2))) (fun _ hk => hk.2) (.int .i64 ((rd_T53 t556 x9_2).f3))) (fun _ hk => hk.2) (.int .i64 ((rd_T53 t556 x9_2).f4))) (fun _ hk => hk.2) (.int .i64 ((rd_T53 t556 x9_2).f5))) (fun _ hk => hk.1.2)⟩, ⟨by (with_reducible repeat (first | refine blk_drewN ?_ _ | refine blk_drew ?_ | refine blk_alloc ?_ _)); refine blk_put (cs := #[.int .i64 ((rd_T53 t556 x9_2).f0), .string ((rd_T53 t556 x9_2).f1), .bool ((rd_T53 t556 x9_2).f2), .int .i64 ((rd_T53 t556 x9_2).f3), .int .i64 ((rd_T53 t556 x9_2).f4), .int .i64 0]) ?_ 5 _ rfl; (with_reducible repeat (first | refine blk_drewN ?_ _ | refine blk_drew ?_ | refine blk_alloc ?_ _)); refine blk_put (cs := #[.int .i64 ((rd_T53 t556 x9_2).f0), .string ((rd_T53 t556 x9_2).f1), .bool ((rd_T53 t556 x9_2).f2), .int .i64 ((rd_T53 t556 x9_2).f3), .int .i64 0, .int .i64 0]) ?_ 4 _ rfl; (with_reducible repeat (first | refine blk_drewN ?_ _ | refine blk_drew ?_ | refine blk_alloc ?_ _)); refine blk_put (cs := #[.int .i64 ((rd_T53 t556 x9_2).f0), .string ((rd_T53 t556 x9_2).f1), .bool ((rd_T53 t556 x9_2).f2), .int .i64 0, .int .i64 0, .int .i64 0]) ?_ 3 _ rfl; (with_reducible repeat (first | refine blk_drewN ?_ _ | refine blk_drew ?_ | refine blk_alloc ?_ _)); refine blk_put (cs := #[.int .i64 ((rd_T53 t556 x9_2).f0), .string ((rd_T53 t556 x9_2).f1), .bool false, .int .i64 0, .int .i64 0, .int .i64 0]) ?_ 2 _ rfl; (with_reducible repeat (first | refine blk_drewN ?_ _ | refine blk_drew ?_ | refine blk_alloc ?_ _)); refine blk_put (cs := #[.int .i64 ((rd_T53 t556 x9_2).f0), .string (⟨#[]⟩ : ByteArray), .bool false, .int .i64 0, .int .i64 0, .int .i64 0]) ?_ 1 _ rfl; (with_reducible repeat (first | refine blk_drewN ?_ _ | refine blk_drew ?_ | refine blk_alloc ?_ _)); refine blk_put (cs := #[.int .i64 0, .string (⟨#[]⟩ : ByteArray), .bool false, .int .i64 0, .int .i64 0, .int .i64 0]) ?_ 0 _ rfl; (with_reducible repeat (first | refine blk_drewN ?_ _ | refine blk_drew ?_ | refine blk_alloc ?_ _)); exact BK567.out⟩, ⟨by repeat (first | (with_reducible first | exact HB.out | apply below_alloc | apply pw_below_drewN | apply below_drew1 | refine below_set ?_ GE567.out) | exact HB.out)⟩⟩
                          · rw [if_neg c24] at H
                            have c24b0 : (((rd_T53 t556 x9_2).f0) == 4) = false := beq_eq_false_iff_ne.mpr c24
                            have c24b1 : (((rd_T53 t556 x9_2).f0) != 4) = true := bne_iff_ne.mpr c24
                            have H' := Aside0.mk H
                            clear H
                            have hcz26_0 : w14.cell? ⟨gb567, 0, none⟩ = some (.int .i64 0) := (blk_cell BK567.out 0).trans rfl
                            have hcz26_1 : w14.cell? ⟨gb567, 1, none⟩ = some (.string (⟨#[]⟩ : ByteArray)) := (blk_cell BK567.out 1).trans rfl
                            have hcz26_2 : w14.cell? ⟨gb567, 2, none⟩ = some (.bool false) := (blk_cell BK567.out 2).trans rfl
                            have hcz26_3 : w14.cell? ⟨gb567, 3, none⟩ = some (.int .i64 0) := (blk_cell BK567.out 3).trans rfl
                            have hcz26_4 : w14.cell? ⟨gb567, 4, none⟩ = some (.int .i64 0) := (blk_cell BK567.out 4).trans rfl
                            have hcz26_5 : w14.cell? ⟨gb567, 5, none⟩ = some (.int .i64 0) := (blk_cell BK567.out 5).trans rfl
                            have hfz26_0 := blk_frozen BK567.out 0
                            have hfz26_1 := blk_frozen BK567.out 1
                            have hfz26_2 := blk_frozen BK567.out 2
                            have hfz26_3 := blk_frozen BK567.out 3
                            have hfz26_4 := blk_frozen BK567.out 4
                            have hfz26_5 := blk_frozen BK567.out 5
                            go_wp2
                            go_meet
                            case rel => exact ⟨_, ((((rd_T53 t556 x9_2).f5) == ((rd_T53 t556 x9_2).f4))), (by first | rfl | (simp; done) | (simp [*]; done)), H', ⟨by have := HJ2.out; have := HK2.out; first | omega | exact Nat.le_refl _⟩, ⟨by (with_reducible repeat (first | apply Kd.R_alloc | apply Kd.R_drewN | apply Kd.R_drew)); exact Kd.R_mono (Kd.R_far (p := ⟨gb567, 5, none⟩) (Kd.R_far (p := ⟨gb567, 4, none⟩) (Kd.R_far (p := ⟨gb567, 3, none⟩) (Kd.R_far (p := ⟨gb567, 2, none⟩) (Kd.R_far (p := ⟨gb567, 1, none⟩) (Kd.R_far (p := ⟨gb567, 0, none⟩) (Kd.R_mono HO_3.out (fun k_ hk => (⟨hk, hk.2⟩ : _ ∧ k_ ≠ gb567))) (fun _ hk => hk.2) (.int .i64 ((rd_T53 t556 x9_2).f0))) (fun _ hk => hk.2) (.string ((rd_T53 t556 x9_2).f1))) (fun _ hk => hk.2) (.bool ((rd_T53 t556 x9_2).f2))) (fun _ hk => hk.2) (.int .i64 ((rd_T53 t556 x9_2).f3))) (fun _ hk => hk.2) (.int .i64 ((rd_T53 t556 x9_2).f4))) (fun _ hk => hk.2) (.int .i64 ((rd_T53 t556 x9_2).f5))) (fun _ hk => hk.1.2)⟩, ⟨by (with_reducible repeat (first | refine blk_drewN ?_ _ | refine blk_drew ?_ | refine blk_alloc ?_ _)); refine blk_put (cs := #[.int .i64 ((rd_T53 t556 x9_2).f0), .string ((rd_T53 t556 x9_2).f1), .bool ((rd_T53 t556 x9_2).f2), .int .i64 ((rd_T53 t556 x9_2).f3), .int .i64 ((rd_T53 t556 x9_2).f4), .int .i64 0]) ?_ 5 _ rfl; (with_reducible repeat (first | refine blk_drewN ?_ _ | refine blk_drew ?_ | refine blk_alloc ?_ _)); refine blk_put (cs := #[.int .i64 ((rd_T53 t556 x9_2).f0), .string ((rd_T53 t556 x9_2).f1), .bool ((rd_T53 t556 x9_2).f2), .int .i64 ((rd_T53 t556 x9_2).f3), .int .i64 0, .int .i64 0]) ?_ 4 _ rfl; (with_reducible repeat (first | refine blk_drewN ?_ _ | refine blk_drew ?_ | refine blk_alloc ?_ _)); refine blk_put (cs := #[.int .i64 ((rd_T53 t556 x9_2).f0), .string ((rd_T53 t556 x9_2).f1), .bool ((rd_T53 t556 x9_2).f2), .int .i64 0, .int .i64 0, .int .i64 0]) ?_ 3 _ rfl; (with_reducible repeat (first | refine blk_drewN ?_ _ | refine blk_drew ?_ | refine blk_alloc ?_ _)); refine blk_put (cs := #[.int .i64 ((rd_T53 t556 x9_2).f0), .string ((rd_T53 t556 x9_2).f1), .bool false, .int .i64 0, .int .i64 0, .int .i64 0]) ?_ 2 _ rfl; (with_reducible repeat (first | refine blk_drewN ?_ _ | refine blk_drew ?_ | refine blk_alloc ?_ _)); refine blk_put (cs := #[.int .i64 ((rd_T53 t556 x9_2).f0), .string (⟨#[]⟩ : ByteArray), .bool false, .int .i64 0, .int .i64 0, .int .i64 0]) ?_ 1 _ rfl; (with_reducible repeat (first | refine blk_drewN ?_ _ | refine blk_drew ?_ | refine blk_alloc ?_ _)); refine blk_put (cs := #[.int .i64 0, .string (⟨#[]⟩ : ByteArray), .bool false, .int .i64 0, .int .i64 0, .int .i64 0]) ?_ 0 _ rfl; (with_reducible repeat (first | refine blk_drewN ?_ _ | refine blk_drew ?_ | refine blk_alloc ?_ _)); exact BK567.out⟩, ⟨by repeat (first | (with_reducible first | exact HB.out | apply below_alloc | apply pw_below_drewN | apply below_drew1 | refine below_set ?_ GE567.out) | exact HB.out)⟩⟩
                case rest =>
                  clear HC12
                  try clear c1
                  try clear c2
                  try clear p2
                  try clear c3
                  try clear p5
                  try clear q5
                  try clear hx5
                  try clear c6
                  try clear c7
                  try clear c10
                  try clear c10b0
                  try clear c11
                  try clear c11b0
                  try clear c13
                  try clear c16
                  try clear c16b0
                  try clear c17
                  try clear c18
                  try clear c18b0
                  try clear c20
                  try clear c20b0
                  try clear c22
                  try clear c22b0
                  try clear c24
                  try clear c24b0
                  try clear c24b1
                  try clear hcz15_0
                  try clear hcz15_1
                  try clear hcz15_2
                  try clear hcz15_3
                  try clear hcz15_4
                  try clear hcz15_5
                  try clear hcz17_0
                  try clear hcz17_1
                  try clear hcz17_2
                  try clear hcz17_3
                  try clear hcz17_4
                  try clear hcz17_5
                  try clear hcz19_0
                  try clear hcz19_1
                  try clear hcz19_2
                  try clear hcz19_3
                  try clear hcz19_4
                  try clear hcz19_5
                  try clear hcz21_0
                  try clear hcz21_1
                  try clear hcz21_2
                  try clear hcz21_3
                  try clear hcz21_4
                  try clear hcz21_5
                  try clear hcz23_0
                  try clear hcz23_1
                  try clear hcz23_2
                  try clear hcz23_3
                  try clear hcz23_4
                  try clear hcz23_5
                  try clear hcz25_0
                  try clear hcz25_1
                  try clear hcz25_2
                  try clear hcz25_3
                  try clear hcz25_4
                  try clear hcz25_5
                  try clear hcz26_0
                  try clear hcz26_1
                  try clear hcz26_2
                  try clear hcz26_3
                  try clear hcz26_4
                  try clear hcz26_5
                  try clear hfz15_0
                  try clear hfz15_1
                  try clear hfz15_2
                  try clear hfz15_3
                  try clear hfz15_4
                  try clear hfz15_5
                  try clear hfz17_0
                  try clear hfz17_1
                  try clear hfz17_2
                  try clear hfz17_3
                  try clear hfz17_4
                  try clear hfz17_5
                  try clear hfz19_0
                  try clear hfz19_1
                  try clear hfz19_2
                  try clear hfz19_3
                  try clear hfz19_4
                  try clear hfz19_5
                  try clear hfz21_0
                  try clear hfz21_1
                  try clear hfz21_2
                  try clear hfz21_3
                  try clear hfz21_4
                  try clear hfz21_5
                  try clear hfz23_0
                  try clear hfz23_1
                  try clear hfz23_2
                  try clear hfz23_3
                  try clear hfz23_4
                  try clear hfz23_5
                  try clear hfz25_0
                  try clear hfz25_1
                  try clear hfz25_2
                  try clear hfz25_3
                  try clear hfz25_4
                  try clear hfz25_5
                  try clear hfz26_0
                  try clear hfz26_1
                  try clear hfz26_2
                  try clear hfz26_3
                  try clear hfz26_4
                  try clear hfz26_5
                  try clear hx566_0
                  try clear hx566_1
                  try clear hx566_2
                  try clear hx566_3
                  try clear hx566_4
                  try clear hx566_5
                  try clear p2
                  try clear p566
                  try clear q566
                  obtain ⟨kq, x75_11, rfl, HA, HJ11, HO_3, BK567, HB⟩ := hcut
                  cases kq with
                  | zero => exact absurd HA.out (by simp [qanatlaw03_ScanCovers.j2])
                  | succ kj11 =>
                    have H := HA.out
                    clear HA
                    simp only [qanatlaw03_ScanCovers.j2] at H
                    by_cases c27 : x75_11 = true
                    · subst c27
                      have H1 : (some false) = some r := by rw [if_pos rfl] at H; exact H
                      clear H
                      have H := H1
                      clear H1
                      obtain rfl := Option.some.inj H
                      go_wp2
                      go_ret
                      exact ⟨by first | rfl | (simp [errW_none, errW_some] <;> rfl) | (simp [*, errW_none, errW_some] <;> rfl), by repeat (first | (with_reducible first | exact HB.out | apply below_alloc | apply pw_below_drewN | apply below_drew1 | refine below_set ?_ GE567.out) | exact HB.out)⟩
                    · replace c27 := Bool.eq_false_iff.mpr c27
                      subst c27
                      have H1 : (if 0 ≤ x7_2 then (if x7_2 ≤ ((rd_T53 t556 x9_2).f4) then (if ((rd_T53 t556 x9_2).f4) ≤ (a0.size : Int) then ((qanatlaw03_idle.f kj11 (a0.extract (x7_2 : Int).toNat (((rd_T53 t556 x9_2).f4) : Int).toNat)).bind fun t568 => ((scan_Place.f kj11 a0 ((rd_T53 t556 x9_2).f4)).bind fun bt569 => (if t568 = true then (if bt569.2.2 = 0 then (if bt569.1 = ((rd_T53 t556 x9_2).f3) then (qanatlaw03_ScanCovers.l0 kj11 a0 t556 ((rd_T53 t556 x9_2).f5) ((rd_T53 t556 x9_2).f3) (wrap64 (x9_2 + 1))) else (some false)) else (some false)) else (some false)))) else (none)) else (none)) else (none)) = some r := by rw [if_neg (show ¬ (false = true) by decide)] at H; exact H
                      clear H
                      have H := H1
                      clear H1
                      by_cases c28 : 0 ≤ x7_2
                      · rw [if_pos c28] at H
                        have c28b0 := eq_true c28
                        have c28b1 : decide (0 ≤ x7_2) = true := decide_eq_true c28
                        clear c28
                        by_cases c29 : x7_2 ≤ ((rd_T53 t556 x9_2).f4)
                        · rw [if_pos c29] at H
                          have c29b0 := eq_true c29
                          have c29b1 : decide (x7_2 ≤ ((rd_T53 t556 x9_2).f4)) = true := decide_eq_true c29
                          clear c29
                          by_cases c30 : ((rd_T53 t556 x9_2).f4) ≤ (a0.size : Int)
                          · rw [if_pos c30] at H
                            have c30b0 := eq_true c30
                            have c30b1 : decide (((rd_T53 t556 x9_2).f4) ≤ (a0.size : Int)) = true := decide_eq_true c30
                            clear c30
                            replace H := Option.bind_eq_some_iff.mp H
                            obtain ⟨t568, A310, H⟩ := H
                            replace H : ((scan_Place.f kj11 a0 ((rd_T53 t556 x9_2).f4)).bind fun bt569 => (if t568 = true then (if bt569.2.2 = 0 then (if bt569.1 = ((rd_T53 t556 x9_2).f3) then (qanatlaw03_ScanCovers.l0 kj11 a0 t556 ((rd_T53 t556 x9_2).f5) ((rd_T53 t556 x9_2).f3) (wrap64 (x9_2 + 1))) else (some false)) else (some false)) else (some false))) = some r := H
                            have A31 := Aside0.mk A310
                            clear A310
                            replace H := Option.bind_eq_some_iff.mp H
                            obtain ⟨⟨t569, t570, t571⟩, A320, H⟩ := H
                            replace H : (if t568 = true then (if t571 = 0 then (if t569 = ((rd_T53 t556 x9_2).f3) then (qanatlaw03_ScanCovers.l0 kj11 a0 t556 ((rd_T53 t556 x9_2).f5) ((rd_T53 t556 x9_2).f3) (wrap64 (x9_2 + 1))) else (some false)) else (some false)) else (some false)) = some r := H
                            have A32 := Aside0.mk A320
                            clear A320
                            by_cases c33 : t568 = true
                            · subst c33
                              have H1 : (if t571 = 0 then (if t569 = ((rd_T53 t556 x9_2).f3) then (qanatlaw03_ScanCovers.l0 kj11 a0 t556 ((rd_T53 t556 x9_2).f5) ((rd_T53 t556 x9_2).f3) (wrap64 (x9_2 + 1))) else (some false)) else (some false)) = some r := by rw [if_pos rfl] at H; exact H
                              clear H
                              have H := H1
                              clear H1
                              by_cases c34 : t571 = 0
                              · rw [if_pos c34] at H
                                have c34b0 : (t571 == 0) = true := beq_iff_eq.mpr c34
                                have c34b1 : (t571 != 0) = false := bne_eq_false_iff_eq.mpr c34
                                clear c34
                                by_cases c35 : t569 = ((rd_T53 t556 x9_2).f3)
                                · rw [if_pos c35] at H
                                  have c35b0 : (t569 == ((rd_T53 t556 x9_2).f3)) = true := beq_iff_eq.mpr c35
                                  have c35b1 : (t569 != ((rd_T53 t556 x9_2).f3)) = false := bne_eq_false_iff_eq.mpr c35
                                  clear c35
                                  have H' := Aside0.mk H
                                  clear H
                                  have hcz36_0 : wc.cell? ⟨gb567, 0, none⟩ = some (.int .i64 ((rd_T53 t556 x9_2).f0)) := (blk_cell BK567.out 0).trans rfl
                                  have hcz36_1 : wc.cell? ⟨gb567, 1, none⟩ = some (.string ((rd_T53 t556 x9_2).f1)) := (blk_cell BK567.out 1).trans rfl
                                  have hcz36_2 : wc.cell? ⟨gb567, 2, none⟩ = some (.bool ((rd_T53 t556 x9_2).f2)) := (blk_cell BK567.out 2).trans rfl
                                  have hcz36_3 : wc.cell? ⟨gb567, 3, none⟩ = some (.int .i64 ((rd_T53 t556 x9_2).f3)) := (blk_cell BK567.out 3).trans rfl
                                  have hcz36_4 : wc.cell? ⟨gb567, 4, none⟩ = some (.int .i64 ((rd_T53 t556 x9_2).f4)) := (blk_cell BK567.out 4).trans rfl
                                  have hcz36_5 : wc.cell? ⟨gb567, 5, none⟩ = some (.int .i64 ((rd_T53 t556 x9_2).f5)) := (blk_cell BK567.out 5).trans rfl
                                  have hfz36_0 := blk_frozen BK567.out 0
                                  have hfz36_1 := blk_frozen BK567.out 1
                                  have hfz36_2 := blk_frozen BK567.out 2
                                  have hfz36_3 := blk_frozen BK567.out 3
                                  have hfz36_4 := blk_frozen BK567.out 4
                                  have hfz36_5 := blk_frozen BK567.out 5
                                  go_wp2_with (first | ((with_reducible refine gate_callee (f := 44) rfl ?_); refine goesL_ (some 81) rfl rfl Tryz.func44 (by kernel_rfl) rfl #[.string (a0.extract (x7_2 : Int).toNat (((rd_T53 t556 x9_2).f4) : Int).toNat)] rfl (by (try simp only [List.map_toArray, List.map_cons, List.map_nil]); first | done | rfl | (simp only [List.length_drop, List.length_take]; rfl)) ?_; (with_reducible refine (qanatlaw03_idle.calls kj11 (a0.extract (x7_2 : Int).toNat (((rd_T53 t556 x9_2).f4) : Int).toNat) true _ A31.out).mono ?_); rintro e w' ⟨rfl, ⟨nd, rfl⟩⟩; refine ⟨_, rfl, ?_⟩) | ((with_reducible refine gate_callee (f := 45) rfl ?_); refine goesL_ (some 86) rfl rfl Tryz.func45 (by kernel_rfl) rfl #[.string a0, .int .i64 ((rd_T53 t556 x9_2).f4)] rfl (by (try simp only [List.map_toArray, List.map_cons, List.map_nil]); first | done | rfl | (simp only [List.length_drop, List.length_take]; rfl)) ?_; (with_reducible refine (scan_Place.calls kj11 a0 ((rd_T53 t556 x9_2).f4) t569 t570 t571 _ A32.out).mono ?_); rintro e w' ⟨rfl, ⟨nd, rfl⟩⟩; refine ⟨_, rfl, ?_⟩))
                                  go_roundg kj11
                                  case measure => have := HJ2.out; have := HK2.out; have := HJ11.out; omega
                                  case rel => exact ⟨(((rd_T53 t556 x9_2).f5)), (((rd_T53 t556 x9_2).f3)), (wrap64 (x9_2 + 1)), (by first | rfl | (simp; done) | (simp [*]; done)), (by first | rfl | (simp; done) | (simp [*]; done)), (by first | rfl | (simp; done) | (simp [*]; done)), H', ⟨by have := HJ2.out; have := HK2.out; have := HJ11.out; omega⟩, ⟨by (with_reducible repeat (first | apply Kd.R_alloc | apply Kd.R_drewN | apply Kd.R_drew)); exact Kd.R_mono HO_3.out (fun _ hk => trivial)⟩, ⟨by repeat (first | (with_reducible first | exact HB.out | apply below_alloc | apply pw_below_drewN | apply below_drew1 | refine below_set ?_ GE567.out) | exact HB.out)⟩⟩
                                · rw [if_neg c35] at H
                                  have c35b0 : (t569 == ((rd_T53 t556 x9_2).f3)) = false := beq_eq_false_iff_ne.mpr c35
                                  have c35b1 : (t569 != ((rd_T53 t556 x9_2).f3)) = true := bne_iff_ne.mpr c35
                                  obtain rfl := Option.some.inj H
                                  have hcz37_0 : wc.cell? ⟨gb567, 0, none⟩ = some (.int .i64 ((rd_T53 t556 x9_2).f0)) := (blk_cell BK567.out 0).trans rfl
                                  have hcz37_1 : wc.cell? ⟨gb567, 1, none⟩ = some (.string ((rd_T53 t556 x9_2).f1)) := (blk_cell BK567.out 1).trans rfl
                                  have hcz37_2 : wc.cell? ⟨gb567, 2, none⟩ = some (.bool ((rd_T53 t556 x9_2).f2)) := (blk_cell BK567.out 2).trans rfl
                                  have hcz37_3 : wc.cell? ⟨gb567, 3, none⟩ = some (.int .i64 ((rd_T53 t556 x9_2).f3)) := (blk_cell BK567.out 3).trans rfl
                                  have hcz37_4 : wc.cell? ⟨gb567, 4, none⟩ = some (.int .i64 ((rd_T53 t556 x9_2).f4)) := (blk_cell BK567.out 4).trans rfl
                                  have hcz37_5 : wc.cell? ⟨gb567, 5, none⟩ = some (.int .i64 ((rd_T53 t556 x9_2).f5)) := (blk_cell BK567.out 5).trans rfl
                                  have hfz37_0 := blk_frozen BK567.out 0
                                  have hfz37_1 := blk_frozen BK567.out 1
                                  have hfz37_2 := blk_frozen BK567.out 2
                                  have hfz37_3 := blk_frozen BK567.out 3
                                  have hfz37_4 := blk_frozen BK567.out 4
                                  have hfz37_5 := blk_frozen BK567.out 5
                                  go_wp2_with (first | ((with_reducible refine gate_callee (f := 44) rfl ?_); refine goesL_ (some 81) rfl rfl Tryz.func44 (by kernel_rfl) rfl #[.string (a0.extract (x7_2 : Int).toNat (((rd_T53 t556 x9_2).f4) : Int).toNat)] rfl (by (try simp only [List.map_toArray, List.map_cons, List.map_nil]); first | done | rfl | (simp only [List.length_drop, List.length_take]; rfl)) ?_; (with_reducible refine (qanatlaw03_idle.calls kj11 (a0.extract (x7_2 : Int).toNat (((rd_T53 t556 x9_2).f4) : Int).toNat) true _ A31.out).mono ?_); rintro e w' ⟨rfl, ⟨nd, rfl⟩⟩; refine ⟨_, rfl, ?_⟩) | ((with_reducible refine gate_callee (f := 45) rfl ?_); refine goesL_ (some 86) rfl rfl Tryz.func45 (by kernel_rfl) rfl #[.string a0, .int .i64 ((rd_T53 t556 x9_2).f4)] rfl (by (try simp only [List.map_toArray, List.map_cons, List.map_nil]); first | done | rfl | (simp only [List.length_drop, List.length_take]; rfl)) ?_; (with_reducible refine (scan_Place.calls kj11 a0 ((rd_T53 t556 x9_2).f4) t569 t570 t571 _ A32.out).mono ?_); rintro e w' ⟨rfl, ⟨nd, rfl⟩⟩; refine ⟨_, rfl, ?_⟩))
                                  go_ret
                                  exact ⟨by first | rfl | (simp [errW_none, errW_some] <;> rfl) | (simp [*, errW_none, errW_some] <;> rfl), by repeat (first | (with_reducible first | exact HB.out | apply below_alloc | apply pw_below_drewN | apply below_drew1 | refine below_set ?_ GE567.out) | exact HB.out)⟩
                              · rw [if_neg c34] at H
                                have c34b0 : (t571 == 0) = false := beq_eq_false_iff_ne.mpr c34
                                have c34b1 : (t571 != 0) = true := bne_iff_ne.mpr c34
                                obtain rfl := Option.some.inj H
                                have hcz38_0 : wc.cell? ⟨gb567, 0, none⟩ = some (.int .i64 ((rd_T53 t556 x9_2).f0)) := (blk_cell BK567.out 0).trans rfl
                                have hcz38_1 : wc.cell? ⟨gb567, 1, none⟩ = some (.string ((rd_T53 t556 x9_2).f1)) := (blk_cell BK567.out 1).trans rfl
                                have hcz38_2 : wc.cell? ⟨gb567, 2, none⟩ = some (.bool ((rd_T53 t556 x9_2).f2)) := (blk_cell BK567.out 2).trans rfl
                                have hcz38_3 : wc.cell? ⟨gb567, 3, none⟩ = some (.int .i64 ((rd_T53 t556 x9_2).f3)) := (blk_cell BK567.out 3).trans rfl
                                have hcz38_4 : wc.cell? ⟨gb567, 4, none⟩ = some (.int .i64 ((rd_T53 t556 x9_2).f4)) := (blk_cell BK567.out 4).trans rfl
                                have hcz38_5 : wc.cell? ⟨gb567, 5, none⟩ = some (.int .i64 ((rd_T53 t556 x9_2).f5)) := (blk_cell BK567.out 5).trans rfl
                                have hfz38_0 := blk_frozen BK567.out 0
                                have hfz38_1 := blk_frozen BK567.out 1
                                have hfz38_2 := blk_frozen BK567.out 2
                                have hfz38_3 := blk_frozen BK567.out 3
                                have hfz38_4 := blk_frozen BK567.out 4
                                have hfz38_5 := blk_frozen BK567.out 5
                                go_wp2_with (first | ((with_reducible refine gate_callee (f := 44) rfl ?_); refine goesL_ (some 81) rfl rfl Tryz.func44 (by kernel_rfl) rfl #[.string (a0.extract (x7_2 : Int).toNat (((rd_T53 t556 x9_2).f4) : Int).toNat)] rfl (by (try simp only [List.map_toArray, List.map_cons, List.map_nil]); first | done | rfl | (simp only [List.length_drop, List.length_take]; rfl)) ?_; (with_reducible refine (qanatlaw03_idle.calls kj11 (a0.extract (x7_2 : Int).toNat (((rd_T53 t556 x9_2).f4) : Int).toNat) true _ A31.out).mono ?_); rintro e w' ⟨rfl, ⟨nd, rfl⟩⟩; refine ⟨_, rfl, ?_⟩) | ((with_reducible refine gate_callee (f := 45) rfl ?_); refine goesL_ (some 86) rfl rfl Tryz.func45 (by kernel_rfl) rfl #[.string a0, .int .i64 ((rd_T53 t556 x9_2).f4)] rfl (by (try simp only [List.map_toArray, List.map_cons, List.map_nil]); first | done | rfl | (simp only [List.length_drop, List.length_take]; rfl)) ?_; (with_reducible refine (scan_Place.calls kj11 a0 ((rd_T53 t556 x9_2).f4) t569 t570 t571 _ A32.out).mono ?_); rintro e w' ⟨rfl, ⟨nd, rfl⟩⟩; refine ⟨_, rfl, ?_⟩))
                                go_ret
                                exact ⟨by first | rfl | (simp [errW_none, errW_some] <;> rfl) | (simp [*, errW_none, errW_some] <;> rfl), by repeat (first | (with_reducible first | exact HB.out | apply below_alloc | apply pw_below_drewN | apply below_drew1 | refine below_set ?_ GE567.out) | exact HB.out)⟩
                            · replace c33 := Bool.eq_false_iff.mpr c33
                              subst c33
                              have H1 : (some false) = some r := by rw [if_neg (show ¬ (false = true) by decide)] at H; exact H
                              clear H
                              have H := H1
                              clear H1
                              obtain rfl := Option.some.inj H
                              have hcz39_0 : wc.cell? ⟨gb567, 0, none⟩ = some (.int .i64 ((rd_T53 t556 x9_2).f0)) := (blk_cell BK567.out 0).trans rfl
                              have hcz39_1 : wc.cell? ⟨gb567, 1, none⟩ = some (.string ((rd_T53 t556 x9_2).f1)) := (blk_cell BK567.out 1).trans rfl
                              have hcz39_2 : wc.cell? ⟨gb567, 2, none⟩ = some (.bool ((rd_T53 t556 x9_2).f2)) := (blk_cell BK567.out 2).trans rfl
                              have hcz39_3 : wc.cell? ⟨gb567, 3, none⟩ = some (.int .i64 ((rd_T53 t556 x9_2).f3)) := (blk_cell BK567.out 3).trans rfl
                              have hcz39_4 : wc.cell? ⟨gb567, 4, none⟩ = some (.int .i64 ((rd_T53 t556 x9_2).f4)) := (blk_cell BK567.out 4).trans rfl
                              have hcz39_5 : wc.cell? ⟨gb567, 5, none⟩ = some (.int .i64 ((rd_T53 t556 x9_2).f5)) := (blk_cell BK567.out 5).trans rfl
                              have hfz39_0 := blk_frozen BK567.out 0
                              have hfz39_1 := blk_frozen BK567.out 1
                              have hfz39_2 := blk_frozen BK567.out 2
                              have hfz39_3 := blk_frozen BK567.out 3
                              have hfz39_4 := blk_frozen BK567.out 4
                              have hfz39_5 := blk_frozen BK567.out 5
                              go_wp2_with (first | ((with_reducible refine gate_callee (f := 44) rfl ?_); refine goesL_ (some 81) rfl rfl Tryz.func44 (by kernel_rfl) rfl #[.string (a0.extract (x7_2 : Int).toNat (((rd_T53 t556 x9_2).f4) : Int).toNat)] rfl (by (try simp only [List.map_toArray, List.map_cons, List.map_nil]); first | done | rfl | (simp only [List.length_drop, List.length_take]; rfl)) ?_; (with_reducible refine (qanatlaw03_idle.calls kj11 (a0.extract (x7_2 : Int).toNat (((rd_T53 t556 x9_2).f4) : Int).toNat) false _ A31.out).mono ?_); rintro e w' ⟨rfl, ⟨nd, rfl⟩⟩; refine ⟨_, rfl, ?_⟩) | ((with_reducible refine gate_callee (f := 45) rfl ?_); refine goesL_ (some 86) rfl rfl Tryz.func45 (by kernel_rfl) rfl #[.string a0, .int .i64 ((rd_T53 t556 x9_2).f4)] rfl (by (try simp only [List.map_toArray, List.map_cons, List.map_nil]); first | done | rfl | (simp only [List.length_drop, List.length_take]; rfl)) ?_; (with_reducible refine (scan_Place.calls kj11 a0 ((rd_T53 t556 x9_2).f4) t569 t570 t571 _ A32.out).mono ?_); rintro e w' ⟨rfl, ⟨nd, rfl⟩⟩; refine ⟨_, rfl, ?_⟩))
                              go_ret
                              exact ⟨by first | rfl | (simp [errW_none, errW_some] <;> rfl) | (simp [*, errW_none, errW_some] <;> rfl), by repeat (first | (with_reducible first | exact HB.out | apply below_alloc | apply pw_below_drewN | apply below_drew1 | refine below_set ?_ GE567.out) | exact HB.out)⟩
                          · rw [if_neg c30] at H
                            exact absurd H (by simp)
                        · rw [if_neg c29] at H
                          exact absurd H (by simp)
                      · rw [if_neg c28] at H
                        exact absurd H (by simp)
              · rw [if_neg c11] at H
                exact absurd H (by simp)
            · rw [if_neg c10] at H
              have c10b0 : decide (x9_2 < (t556.length : Int)) = false := decide_eq_false c10
              clear c10
              replace H := Option.bind_eq_some_iff.mp H
              obtain ⟨t564, A400, H⟩ := H
              replace H : (if t564 = true then (if 0 ≤ x7_2 then (if x7_2 ≤ (a0.size : Int) then ((qanatlaw03_idle.f k2 (a0.extract (x7_2 : Int).toNat a0.size)).bind fun t565 => (some t565)) else (none)) else (none)) else (some false)) = some r := H
              have A40 := Aside0.mk A400
              clear A400
              by_cases c41 : t564 = true
              · subst c41
                have H1 : (if 0 ≤ x7_2 then (if x7_2 ≤ (a0.size : Int) then ((qanatlaw03_idle.f k2 (a0.extract (x7_2 : Int).toNat a0.size)).bind fun t565 => (some t565)) else (none)) else (none)) = some r := by rw [if_pos rfl] at H; exact H
                clear H
                have H := H1
                clear H1
                by_cases c42 : 0 ≤ x7_2
                · rw [if_pos c42] at H
                  have c42b0 := eq_true c42
                  have c42b1 : decide (0 ≤ x7_2) = true := decide_eq_true c42
                  clear c42
                  by_cases c43 : x7_2 ≤ (a0.size : Int)
                  · rw [if_pos c43] at H
                    have c43b0 := eq_true c43
                    have c43b1 : decide (x7_2 ≤ (a0.size : Int)) = true := decide_eq_true c43
                    clear c43
                    replace H := Option.bind_eq_some_iff.mp H
                    obtain ⟨t565, A440, H⟩ := H
                    replace H : (some t565) = some r := H
                    have A44 := Aside0.mk A440
                    clear A440
                    obtain rfl := Option.some.inj H
                    obtain ⟨Ao45, co45, eo45⟩ := Kd.R_slice HO_3.out
                    subst eo45
                    go_wp2_with (first | ((with_reducible refine gate_callee (f := 16) rfl ?_); refine goesL_ (some 106) rfl rfl Tryz.func16 (by kernel_rfl) rfl #[] rfl (by (try simp only [List.map_toArray, List.map_cons, List.map_nil]); first | done | rfl | (simp only [List.length_drop, List.length_take]; rfl)) ?_; (with_reducible refine (qanatlaw03_sanity.calls  true _ (TabOK.of_below hT (by repeat (first | (with_reducible first | exact HB.out | apply below_alloc | apply pw_below_drewN | apply below_drew1) | exact HB.out))) A40.out).mono ?_); rintro e w46 ⟨rfl, hb⟩; refine ⟨_, rfl, ?_⟩; have n0_ := Aside0.mk (Kd.R_below (by (with_reducible repeat (first | apply Kd.R_alloc | apply Kd.R_drewN | apply Kd.R_drew)); exact HO_3.out) hb); have n1_ := Aside0.mk (below_step (by repeat (first | (with_reducible first | exact HB.out | apply below_alloc | apply pw_below_drewN | apply below_drew1) | exact HB.out)) hb); clear HO_3; clear HB; have HO_3 := n0_; have HB := n1_; clear n0_ n1_; (try clear hb); (try clear hb2); (try clear hk); (try clear hi)) | (go_at_call 44; (with_reducible refine (qanatlaw03_idle.calls k2 (a0.extract (x7_2 : Int).toNat a0.size) t565 _ A44.out).mono ?_); rintro e w' ⟨rfl, ⟨nd, rfl⟩⟩))
                    go_ret
                    exact ⟨by first | rfl | (simp [errW_none, errW_some] <;> rfl) | (simp [*, errW_none, errW_some] <;> rfl), by repeat (first | (with_reducible first | exact HB.out | apply below_alloc | apply pw_below_drewN | apply below_drew1) | exact HB.out)⟩
                  · rw [if_neg c43] at H
                    exact absurd H (by simp)
                · rw [if_neg c42] at H
                  exact absurd H (by simp)
              · replace c41 := Bool.eq_false_iff.mpr c41
                subst c41
                have H1 : (some false) = some r := by rw [if_neg (show ¬ (false = true) by decide)] at H; exact H
                clear H
                have H := H1
                clear H1
                obtain rfl := Option.some.inj H
                obtain ⟨Ao47, co47, eo47⟩ := Kd.R_slice HO_3.out
                subst eo47
                go_wp2_with (first | ((with_reducible refine gate_callee (f := 16) rfl ?_); refine goesL_ (some 106) rfl rfl Tryz.func16 (by kernel_rfl) rfl #[] rfl (by (try simp only [List.map_toArray, List.map_cons, List.map_nil]); first | done | rfl | (simp only [List.length_drop, List.length_take]; rfl)) ?_; (with_reducible refine (qanatlaw03_sanity.calls  false _ (TabOK.of_below hT (by repeat (first | (with_reducible first | exact HB.out | apply below_alloc | apply pw_below_drewN | apply below_drew1) | exact HB.out))) A40.out).mono ?_); rintro e w48 ⟨rfl, hb⟩; refine ⟨_, rfl, ?_⟩; have n0_ := Aside0.mk (Kd.R_below (by (with_reducible repeat (first | apply Kd.R_alloc | apply Kd.R_drewN | apply Kd.R_drew)); exact HO_3.out) hb); have n1_ := Aside0.mk (below_step (by repeat (first | (with_reducible first | exact HB.out | apply below_alloc | apply pw_below_drewN | apply below_drew1) | exact HB.out)) hb); clear HO_3; clear HB; have HO_3 := n0_; have HB := n1_; clear n0_ n1_; (try clear hb); (try clear hb2); (try clear hk); (try clear hi)))
                go_ret
                exact ⟨by first | rfl | (simp [errW_none, errW_some] <;> rfl) | (simp [*, errW_none, errW_some] <;> rfl), by repeat (first | (with_reducible first | exact HB.out | apply below_alloc | apply pw_below_drewN | apply below_drew1) | exact HB.out)⟩

/-- THE ONE PURE STATEMENT of qanatlaw03_ScanCovers: yours. -/
def qanatlaw03_ScanCovers.Pure : Prop := ∀ (a0 : ByteArray), a0.size ≤ 140737488351232 → ∃ k, qanatlaw03_ScanCovers.f k a0 = some true
theorem qanatlaw03_ScanCovers.walk (P : qanatlaw03_ScanCovers.Pure) (a0 : ByteArray) (w : World) (hT : TabOK w) (w0 : a0.size ≤ 140737488351232) :
    Calls Tryz.prog 13 #[.string a0] w fun e w' => e = .returned (.bool true) ∧ Below w.heap.size w w' := by
  obtain ⟨k, h⟩ := P a0 w0
  refine (qanatlaw03_ScanCovers.calls k a0 true w hT h).mono ?_
  rintro e w' ⟨rfl, hd⟩
  exact ⟨rfl, hd⟩

end Go.Proofs.YtkkpjonfaflkmaaGreatDoor.T

/- How far a rule looks: a token stays the same if what stands behind it changes from a neutral byte on. -/
namespace Go.Proofs.YtkkpjonfaflkmaaGreatDoor.S
set_option linter.unusedSimpArgs false
set_option linter.unusedVariables false

theorem lit_loc (q : Int) : ∀ (xs : List Int) (i : Nat) (acc v : List Int) (j : Nat), lit q xs i acc = some (v, j) →
    ∃ U R, xs = U ++ q :: R ∧ U.length + i = j ∧ R.head? ≠ some q ∧ ∀ R', R'.head? ≠ some q → lit q (U ++ q :: R') i acc = some (v, j)
  | [], _, _, _, _ => fun h => by cases h
  | [c], i, acc, v, j => fun h => by
    rw [lit] at h
    by_cases h1 : c = 10
    · rw [if_pos h1] at h; cases h
    · rw [if_neg h1] at h
      by_cases h2 : c = q
      · rw [if_pos h2] at h; cases h
        subst h2
        refine ⟨[], [], rfl, by simp, by simp, fun R' hR => ?_⟩
        rcases R' with _ | ⟨d, t⟩
        · simp [lit, h1]
        · simp only [List.head?_cons, ne_eq, Option.some.injEq] at hR
          simp [lit, h1, hR]
      · rw [if_neg h2] at h; cases h
  | c :: d :: t, i, acc, v, j => fun h => by
    rw [lit] at h
    by_cases h1 : c = 10
    · rw [if_pos h1] at h; cases h
    · rw [if_neg h1] at h
      by_cases h2 : c = q
      · rw [if_pos h2] at h
        by_cases h3 : d = q
        · rw [if_pos h3] at h
          obtain ⟨U, R, e1, e2, e3, e4⟩ := lit_loc q t (i + 2) (acc ++ [q]) v j h
          subst h2 h3
          refine ⟨d :: d :: U, R, by rw [e1]; rfl, by simp only [List.length_cons]; omega, e3, fun R' hR => ?_⟩
          have := e4 R' hR
          show lit d (d :: d :: (U ++ d :: R')) i acc = _
          rw [lit, if_neg h1, if_pos rfl, if_pos rfl]; exact this
        · rw [if_neg h3] at h; cases h
          subst h2
          refine ⟨[], d :: t, rfl, by simp, by simpa using h3, fun R' hR => ?_⟩
          rcases R' with _ | ⟨d, t⟩
          · simp [lit, h1]
          · simp only [List.head?_cons, ne_eq, Option.some.injEq] at hR
            simp [lit, h1, hR]
      · rw [if_neg h2] at h
        obtain ⟨U, R, e1, e2, e3, e4⟩ := lit_loc q (d :: t) (i + 1) (acc ++ [c]) v j h
        refine ⟨c :: U, R, by rw [e1]; rfl, by simp only [List.length_cons]; omega, e3, fun R' hR => ?_⟩
        have := e4 R' hR
        show lit q (c :: (U ++ q :: R')) i acc = _
        rcases hu : U ++ q :: R' with _ | ⟨e, s⟩
        · simp at hu
        · rw [hu] at this
          rw [lit, if_neg h1, if_neg h2]; exact this

/-- A byte that goes on with nothing. -/
def Neutral (c : Int) : Prop := c = 10 ∨ c = 59 ∨ c = 47
theorem Neutral.facts {c : Int} (h : Neutral c) : sym c = false ∧ dig c = false ∧ sfxOf c = 0 ∧ c ≠ 39 ∧ c ≠ 34 ∧ c ≠ 43 ∧ c ≠ 45 ∧ c ≠ 42 := by
  rcases h with rfl | rfl | rfl <;> decide
/-- What stands behind the token: C then R2; a single byte C is no symbol that goes on in R2. -/
def Two (C R2 : List Int) : Prop := ∀ d, C = [d] → sym d = true → ∀ e s, R2 = e :: s → sym e = false
theorem sfx_sym {d e : Int} {s : List Int} (h : sym e = false) : sfx (d :: e :: s) = sfxOf d := by simp [sfx, h]
theorem sfxOf_sym {d : Int} (h : sym d = false) : sfxOf d = 0 := by
  unfold sfxOf
  by_cases h1 : d = 88 ∨ d = 120
  · rcases h1 with rfl | rfl <;> cases h
  · rw [if_neg h1]
    by_cases h2 : d = 66 ∨ d = 98
    · rcases h2 with rfl | rfl <;> cases h
    · rw [if_neg h2]
theorem sfx_ns {d : Int} {t : List Int} (h : sym d = false) : sfx (d :: t) = 0 := by
  rcases t with _ | ⟨e, s⟩
  · exact sfxOf_sym h
  · simp only [sfx]
    split
    · rfl
    · exact sfxOf_sym h
theorem sfx_loc {C R2 R3 : List Int} {c : Int} (hn : Neutral c) (ht : Two C R2) (h : C = [] → sfx R2 = 0) : sfx (C ++ c :: R3) = sfx (C ++ R2) := by
  obtain ⟨f1, f2, f3, -⟩ := hn.facts
  rcases C with _ | ⟨d, _ | ⟨e, C⟩⟩
  · rw [List.nil_append, List.nil_append, h rfl]
    exact sfx_ns f1
  · show sfx (d :: c :: R3) = sfx (d :: R2)
    rw [sfx_sym f1]
    rcases R2 with _ | ⟨e, s⟩
    · rfl
    · by_cases hd : sym d = true
      · rw [sfx_sym (ht d rfl hd e s rfl)]
      · rw [sfx_ns (by simpa using hd), sfxOf_sym (by simpa using hd)]
  · rfl

theorem litTok_eq (q : Int) (U R R' : List Int) (v : List Int) (h : lit q (U ++ q :: R) 1 [] = some (v, U.length + 1)) (h' : lit q (U ++ q :: R') 1 [] = some (v, U.length + 1)) (hs : sfx R' = sfx R) :
    litTok (q :: (U ++ q :: R')) = litTok (q :: (U ++ q :: R)) := by
  have d : ∀ R : List Int, (q :: (U ++ q :: R)).drop (U.length + 1 + 1) = R := fun R => by
    rw [List.drop_succ_cons, List.drop_append, List.drop_eq_nil_of_le (by omega)]
    simp
  simp only [litTok, h, h', d, hs]
/-- What a literal's text and length hang on. -/
theorem litTok_parts {q : Int} {t : List Int} {x : List Int} {n : Nat} (h : litTok (q :: t) = .ok x n) :
    ∃ v U R, t = U ++ q :: R ∧ R.head? ≠ some q ∧ (∀ R', R'.head? ≠ some q → lit q (U ++ q :: R') 1 [] = some (v, U.length + 1)) ∧ ((sfx R = 0 ∧ n = U.length + 2) ∨ (sfx R ≠ 0 ∧ n = U.length + 3)) := by
  simp only [litTok] at h
  cases hl : lit q t 1 [] with
  | none => rw [hl] at h; cases h
  | some p =>
    obtain ⟨v, i⟩ := p
    rw [hl] at h
    simp only at h
    obtain ⟨U, R, e1, e2, e3, e4⟩ := lit_loc q t 1 [] v i hl
    subst e1
    obtain rfl : i = U.length + 1 := by omega
    have d : (q :: (U ++ q :: R)).drop (U.length + 1 + 1) = R := by
      rw [List.drop_succ_cons, List.drop_append, List.drop_eq_nil_of_le (by omega)]
      simp
    rw [d] at h
    refine ⟨v, U, R, rfl, e3, e4, ?_⟩
    by_cases hp : v.all prn = true
    · rw [if_pos hp] at h
      by_cases hs : sfx R = 0
      · rw [if_pos hs] at h
        exact .inl ⟨hs, (litEnd_ok h).2⟩
      · rw [if_neg hs] at h
        cases hd : litDec v (sfx R) with
        | none => rw [hd] at h; cases h
        | some u => rw [hd] at h; exact .inr ⟨hs, (litEnd_ok h).2⟩
    · rw [if_neg hp] at h; cases h
theorem litTok_loc {A C R2 R3 x : List Int} {c : Int} (hn : Neutral c) (ht : Two C R2) (hq : ∃ q t, A = q :: t ∧ (q = 39 ∨ q = 34)) (h : litTok (A ++ (C ++ R2)) = .ok x A.length) : litTok (A ++ (C ++ c :: R3)) = .ok x A.length := by
  obtain ⟨q, t, rfl, hq⟩ := hq
  rw [List.cons_append] at h ⊢
  obtain ⟨f1, f2, f3, f4, f5, -⟩ := hn.facts
  obtain ⟨v, U, R, e1, e2, e3, e4⟩ := litTok_parts h
  have hc : some c ≠ some q := by rcases hq with rfl | rfl <;> simpa
  rcases e4 with ⟨hs, hl⟩ | ⟨hs, hl⟩
  · obtain ⟨hA, hR⟩ : t = U ++ [q] ∧ C ++ R2 = R := List.append_inj (s₁ := t) (s₂ := U ++ [q]) (by rw [e1]; simp) (by simp only [List.length_cons] at hl; simp; omega)
    subst hA hR
    have hh : (C ++ c :: R3).head? ≠ some q := by
      rcases C with _ | ⟨d, C⟩
      · exact hc
      · simpa using e2
    have := litTok_eq q U (C ++ R2) (C ++ c :: R3) v (e3 _ e2) (e3 _ hh) (sfx_loc hn ht fun e => by subst e; exact hs)
    rw [List.append_assoc] at h ⊢
    exact this.trans h
  · rcases R with _ | ⟨a, R⟩
    · exact absurd rfl hs
    obtain ⟨hA, hR⟩ : t = U ++ [q, a] ∧ C ++ R2 = R := List.append_inj (s₁ := t) (s₂ := U ++ [q, a]) (by rw [e1]; simp) (by simp only [List.length_cons] at hl; simp; omega)
    subst hA hR
    have hsx : sfx (a :: (C ++ c :: R3)) = sfx (a :: (C ++ R2)) := by
      rcases C with _ | ⟨d, C⟩
      · show sfx (a :: c :: R3) = sfx (a :: R2)
        rw [sfx_sym f1]
        rcases R2 with _ | ⟨e, s⟩
        · rfl
        · simp only [List.nil_append, sfx] at hs ⊢
          by_cases he : sym e = true
          · rw [if_pos he] at hs; exact absurd rfl hs
          · rw [if_neg he]
      · rfl
    have := litTok_eq q U (a :: (C ++ R2)) (a :: (C ++ c :: R3)) v (e3 _ e2) (e3 _ (by simpa using e2)) hsx
    rw [List.append_assoc] at h ⊢
    exact this.trans h

theorem run_app (p : Int → Bool) : ∀ (A B : List Int), (∀ x ∈ A, p x = true) → (∀ e s, B = e :: s → p e = false) → run p (A ++ B) = A.length
  | [], B, _, hB => by
    rcases B with _ | ⟨e, s⟩
    · rfl
    · simp [run, hB e s rfl]
  | a :: A, B, hA, hB => by
    rw [List.cons_append, run, if_pos (hA a (by simp)), run_app p A B (fun x hx => hA x (by simp [hx])) hB]
    rfl
theorem run_parts (p : Int → Bool) : ∀ (xs : List Int), (∀ x ∈ xs.take (run p xs), p x = true) ∧ (∀ e s, xs.drop (run p xs) = e :: s → p e = false)
  | [] => ⟨by simp [run], by simp [run]⟩
  | a :: xs => by
    unfold run
    by_cases h : p a = true
    · rw [if_pos h]
      obtain ⟨h1, h2⟩ := run_parts p xs
      refine ⟨fun x hx => ?_, fun e s he => h2 e s (by simpa using he)⟩
      simp only [List.take_succ_cons, List.mem_cons] at hx
      rcases hx with rfl | hx
      · exact h
      · exact h1 x hx
    · rw [if_neg h]
      exact ⟨by simp, fun e s he => by simp only [List.drop_zero, List.cons.injEq] at he; obtain ⟨rfl, -⟩ := he; simpa using h⟩
/-- A symbol in parts: its characters, then (perhaps) a sign and digits. -/
theorem symLen_parts (xs : List Int) : ∃ M R, xs = M ++ R ∧ (∀ x ∈ M, sym x = true) ∧ (∀ e s, R = e :: s → sym e = false) ∧
    ((symLen xs = M.length ∧ ¬ (mant M = true ∧ expo R = true)) ∨ (∃ g D S, R = g :: (D ++ S) ∧ mant M = true ∧ (g = 43 ∨ g = 45) ∧ D ≠ [] ∧ (∀ x ∈ D, dig x = true) ∧ (∀ e s, S = e :: s → dig e = false) ∧ symLen xs = M.length + 1 + D.length)) := by
  obtain ⟨h1, h2⟩ := run_parts sym xs
  have hl := run_le' sym xs
  refine ⟨xs.take (run sym xs), xs.drop (run sym xs), (List.take_append_drop _ _).symm, h1, h2, ?_⟩
  have hml : (xs.take (run sym xs)).length = run sym xs := by rw [List.length_take]; omega
  rw [hml]
  unfold symLen
  by_cases hm : mant (xs.take (run sym xs)) = true ∧ expo (xs.drop (run sym xs)) = true
  · rw [if_pos hm]
    refine .inr ?_
    rcases hd : xs.drop (run sym xs) with _ | ⟨g, _ | ⟨d, t⟩⟩
    · rw [hd] at hm; simp [expo] at hm
    · rw [hd] at hm; simp [expo] at hm
    · have hd2 : xs.drop (run sym xs + 1) = d :: t := by
        have : xs.drop (run sym xs + 1) = (xs.drop (run sym xs)).drop 1 := by rw [List.drop_drop]
        rw [this, hd]; rfl
      rw [hd2]
      have hx := hm.2
      rw [hd] at hx
      simp only [expo, Bool.and_eq_true, Bool.or_eq_true, decide_eq_true_eq] at hx
      obtain ⟨g1, g2⟩ := run_parts dig (d :: t)
      have hl2 := run_le' dig (d :: t)
      refine ⟨g, (d :: t).take (run dig (d :: t)), (d :: t).drop (run dig (d :: t)), by rw [List.take_append_drop], hm.1, hx.1, ?_, g1, g2, ?_⟩
      · rw [run, if_pos hx.2]; simp
      · rw [List.length_take, Nat.min_eq_left hl2]
  · rw [if_neg hm]
    exact .inl ⟨rfl, hm⟩
theorem symLen_plain {M R : List Int} (hM : ∀ x ∈ M, sym x = true) (hR : ∀ e s, R = e :: s → sym e = false) (h : ¬ (mant M = true ∧ expo R = true)) : symLen (M ++ R) = M.length := by
  have hr := run_app sym M R hM hR
  unfold symLen
  rw [hr, List.take_left, List.drop_left, if_neg h]
theorem symLen_expo {M D S : List Int} {g : Int} (hM : ∀ x ∈ M, sym x = true) (hm : mant M = true) (hg : g = 43 ∨ g = 45) (hD : D ≠ []) (hd : ∀ x ∈ D, dig x = true) (hS : ∀ e s, S = e :: s → dig e = false) :
    symLen (M ++ g :: (D ++ S)) = M.length + 1 + D.length := by
  have hgs : sym g = false := by rcases hg with rfl | rfl <;> rfl
  have hr := run_app sym M (g :: (D ++ S)) hM (fun e s h => by cases h; exact hgs)
  unfold symLen
  have hx : expo (g :: (D ++ S)) = true := by
    rcases D with _ | ⟨d, D⟩
    · exact absurd rfl hD
    · simp only [List.cons_append, expo, Bool.and_eq_true, Bool.or_eq_true, decide_eq_true_eq]
      exact ⟨hg, hd d (by simp)⟩
  rw [hr, List.take_left, List.drop_left, if_pos ⟨hm, hx⟩]
  have : (M ++ g :: (D ++ S)).drop (M.length + 1) = D ++ S := by
    rw [List.drop_append, List.drop_eq_nil_of_le (by omega)]
    simp
  rw [this, run_app dig D S hd hS]
theorem symTok_eq {xs ys : List Int} (h : symLen ys = symLen xs) (ht : ys.take (symLen xs) = xs.take (symLen xs)) : symTok ys = symTok xs := by
  unfold symTok
  rw [h, ht]
theorem symLen_loc {A C R2 R3 : List Int} {c : Int} (hn : Neutral c) (h : symLen (A ++ (C ++ R2)) = A.length) : symLen (A ++ (C ++ c :: R3)) = A.length := by
  obtain ⟨f1, f2, f3, f4, f5, f6, f7, -⟩ := hn.facts
  obtain ⟨M, R, e1, hM, hR, hor⟩ := symLen_parts (A ++ (C ++ R2))
  rw [h] at hor
  rcases hor with ⟨hl, hx⟩ | ⟨g, D, S, rfl, hm, hg, hD, hd, hS, hl⟩
  · obtain ⟨rfl, rfl⟩ := List.append_inj e1 hl
    refine symLen_plain hM (fun e s he => ?_) fun ⟨q1, q2⟩ => hx ⟨q1, ?_⟩
    · rcases C with _ | ⟨d, C⟩
      · cases he; exact f1
      · cases he; exact hR e _ rfl
    · rcases C with _ | ⟨d, _ | ⟨e, C⟩⟩
      · rcases R3 with _ | ⟨a, R3⟩
        · simp [expo] at q2
        · simp [expo, f6, f7] at q2
      · simp [expo, f2] at q2
      · exact q2
  · obtain ⟨hA, hB⟩ : A = M ++ g :: D ∧ C ++ R2 = S := List.append_inj (s₁ := A) (s₂ := M ++ g :: D) (by rw [e1]; simp) (by simp; omega)
    subst hA hB
    have := symLen_expo (M := M) (D := D) (S := C ++ c :: R3) hM hm hg hD hd (fun e s he => by
      rcases C with _ | ⟨d, C⟩
      · cases he; exact f2
      · cases he; exact hS e _ rfl)
    rw [List.append_assoc, List.cons_append, this]
    simp; omega
theorem symTok_loc {A C R2 R3 x : List Int} {c : Int} (hn : Neutral c) (h : symTok (A ++ (C ++ R2)) = .ok x A.length) : symTok (A ++ (C ++ c :: R3)) = .ok x A.length := by
  have hs : symLen (A ++ (C ++ R2)) = A.length := by
    unfold symTok at h
    split at h
    · cases h
    · simp only [TR.ok.injEq] at h; exact h.2
  rw [← h]
  refine symTok_eq ?_ ?_
  · rw [hs]; exact symLen_loc hn hs
  · rw [hs, List.take_left, List.take_left]

theorem prefix_app : ∀ (p a : List Int) (b : List Int), p.isPrefixOf a = true → p.isPrefixOf (a ++ b) = true
  | [], _, _, _ => by simp
  | _ :: _, [], _, h => by cases h
  | x :: p, y :: a, b, h => by
    simp only [List.isPrefixOf, Bool.and_eq_true] at h
    simp only [List.cons_append, List.isPrefixOf, Bool.and_eq_true]
    exact ⟨h.1, prefix_app p a b h.2⟩
theorem prefix_cut : ∀ (p a : List Int) (b : List Int), p.isPrefixOf (a ++ b) = true → p.length ≤ a.length → p.isPrefixOf a = true
  | [], _, _, _, _ => by simp
  | _ :: _, [], _, _, h => by simp at h
  | x :: p, y :: a, b, h, hl => by
    simp only [List.cons_append, List.isPrefixOf, Bool.and_eq_true] at h
    simp only [List.isPrefixOf, Bool.and_eq_true]
    exact ⟨h.1, prefix_cut p a b h.2 (by simpa using hl)⟩
theorem prefix_at : ∀ (p a : List Int) (c : Int) (b : List Int), p.isPrefixOf (a ++ c :: b) = true → a.length < p.length → p.take (a.length + 1) = a ++ [c]
  | [], _, _, _, _, h => by simp at h
  | x :: p, [], c, b, h, _ => by
    simp only [List.nil_append, List.isPrefixOf, Bool.and_eq_true, beq_iff_eq] at h
    simp [h.1]
  | x :: p, y :: a, c, b, h, hl => by
    simp only [List.cons_append, List.isPrefixOf, Bool.and_eq_true, beq_iff_eq] at h
    simp only [List.length_cons, List.take_succ_cons, List.cons_append]
    rw [h.1, prefix_at p a c b h.2 (by simpa using hl)]
theorem prefix_self : ∀ (p : List Int), p.isPrefixOf p = true
  | [] => rfl
  | x :: p => by simp [List.isPrefixOf, prefix_self p]
theorem prefix_eq : ∀ (p a : List Int), p.isPrefixOf a = true → a = p ++ a.drop p.length
  | [], a, _ => by simp
  | _ :: _, [], h => by cases h
  | x :: p, y :: a, h => by
    simp only [List.isPrefixOf, Bool.and_eq_true, beq_iff_eq] at h
    obtain ⟨rfl, h2⟩ := h
    simp only [List.length_cons, List.drop_succ_cons, List.cons_append]
    exact congrArg _ (prefix_eq p a h2)
theorem find_keep {α : Type} (P Q : α → Bool) : ∀ (l : List α) (a : α), l.find? P = some a → (∀ x ∈ l, Q x = true → P x = true) → Q a = true → l.find? Q = some a
  | [], a, h, _, _ => by cases h
  | x :: l, a, h, hq, ha => by
    by_cases hp : P x = true
    · rw [List.find?_cons_of_pos hp] at h
      cases h
      rw [List.find?_cons_of_pos ha]
    · rw [List.find?_cons_of_neg hp] at h
      rw [List.find?_cons_of_neg (fun e => hp (hq x (by simp) e))]
      exact find_keep P Q l a h (fun x hx => hq x (by simp [hx])) ha
theorem signs_neutral : ∀ p ∈ signs, ∀ i : Fin 3, 1 ≤ i.val → i.val < p.length → (p.getD i.val 0 = 10 ∨ p.getD i.val 0 = 59 ∨ p.getD i.val 0 = 47) → p = [47, 47] := by decide
theorem signs_len : ∀ p ∈ signs, p.length ≤ 3 := by decide
theorem signs_ne : ∀ p ∈ signs, p ≠ [] := by decide
theorem signTok_loc {A C R2 R3 x : List Int} {c : Int} (hn : Neutral c) (hA : c = 47 → C = [] → A.getLast? ≠ some 47) (h : signTok (A ++ (C ++ R2)) = .ok x A.length) : signTok (A ++ (C ++ c :: R3)) = .ok x A.length := by
  unfold signTok at h ⊢
  cases hf : signs.find? (fun x => x.isPrefixOf (A ++ (C ++ R2))) with
  | none => rw [hf] at h; cases h
  | some l =>
    rw [hf] at h
    simp only [TR.ok.injEq] at h
    obtain ⟨rfl, hl⟩ := h
    have hm := List.mem_of_find?_eq_some hf
    have hp : l.isPrefixOf (A ++ (C ++ R2)) = true := by simpa using List.find?_some hf
    have hAl : A = l := by
      have := prefix_eq _ _ hp
      exact (List.append_inj this (by omega)).1
    subst hAl
    have hA0 : A ≠ [] := signs_ne A hm
    rw [find_keep _ (fun x => x.isPrefixOf (A ++ (C ++ c :: R3))) signs A hf (fun p hps hpx => ?_) (prefix_app _ _ _ (prefix_self _))]
    rw [← List.append_assoc] at hpx ⊢
    by_cases hlen : p.length ≤ (A ++ C).length
    · exact prefix_app _ _ _ (prefix_cut _ _ _ hpx hlen)
    · exfalso
      have ha := prefix_at p (A ++ C) c R3 hpx (by omega)
      have h3 := signs_len p hps
      have hA1 : 0 < A.length := List.length_pos_iff.2 hA0
      have hlt : (A ++ C).length < p.length := by omega
      have hAC : 1 ≤ (A ++ C).length := by simp; omega
      have hget : p.getD (A ++ C).length 0 = c := by
        have h5 : (p.take ((A ++ C).length + 1)).getD (A ++ C).length 0 = ((A ++ C) ++ [c]).getD (A ++ C).length 0 := by rw [ha]
        rw [List.getD_eq_getElem?_getD, List.getD_eq_getElem?_getD, List.getElem?_take_of_lt (by omega), List.getElem?_append_right (Nat.le_refl _)] at h5
        rw [List.getD_eq_getElem?_getD, h5]; simp
      have hpe := signs_neutral p hps ⟨(A ++ C).length, by omega⟩ hAC hlt (by simp only [hget]; exact hn)
      subst hpe
      simp only [List.length_cons, List.length_nil, List.length_append] at hlt hAC
      have hC0 : C = [] := List.length_eq_zero_iff.1 (by omega)
      subst hC0
      have hAe : A.length = 1 := by omega
      obtain ⟨a, rfl⟩ : ∃ a, A = [a] := List.length_eq_one_iff.1 hAe
      simp only [List.append_nil, List.length_cons, List.length_nil, List.take_succ_cons, List.take_nil, List.cons_append, List.nil_append, List.cons.injEq, and_true] at ha
      obtain ⟨rfl, rfl⟩ := ha
      exact hA rfl rfl rfl

/-- A token stays the same if what stands behind it changes from a neutral byte on. -/
theorem step_loc {A C R2 R3 x : List Int} {c : Int} {k : Nat} (hn : Neutral c) (ht : Two C R2) (hA0 : A ≠ []) (hA : c = 47 → C = [] → A.getLast? ≠ some 47) (h : step (A ++ (C ++ R2)) = .tok k x A.length) : step (A ++ (C ++ c :: R3)) = .tok k x A.length := by
  obtain ⟨f1, f2, f3, f4, f5, f6, f7, f8⟩ := hn.facts
  rcases A with _ | ⟨a, A⟩
  · exact absurd rfl hA0
  have hst : starts2 (a :: (A ++ (C ++ c :: R3))) = true → starts2 (a :: (A ++ (C ++ R2))) = true := fun hs => by
    rcases A with _ | ⟨a2, A⟩
    · rcases C with _ | ⟨d, C⟩
      · simp [starts2, f8] at hs
      · exact hs
    · exact hs
  simp only [List.cons_append, step] at h ⊢
  by_cases h1 : a = 10
  · rw [if_pos h1] at h; cases h
  rw [if_neg h1] at h ⊢
  by_cases h2 : a = 32
  · rw [if_pos h2] at h; cases h
  rw [if_neg h2] at h ⊢
  by_cases h3 : starts2 (a :: (A ++ (C ++ R2))) = true
  · rw [if_pos h3] at h; exact (cmtStep_ne h).elim
  rw [if_neg h3] at h
  rw [if_neg (fun e => h3 (hst e))]
  by_cases h4 : a = 39 ∨ a = 34
  · rw [if_pos h4] at h ⊢
    obtain ⟨rfl, hr⟩ := tokStep_tok h
    rw [show a :: (A ++ (C ++ c :: R3)) = (a :: A) ++ (C ++ c :: R3) from rfl, litTok_loc hn ht ⟨a, A, rfl, h4⟩ hr]
    rfl
  rw [if_neg h4] at h ⊢
  by_cases h5 : sym a = true
  · rw [if_pos h5] at h ⊢
    obtain ⟨rfl, hr⟩ := tokStep_tok h
    rw [show a :: (A ++ (C ++ c :: R3)) = (a :: A) ++ (C ++ c :: R3) from rfl, symTok_loc (A := a :: A) hn hr]
    rfl
  rw [if_neg h5] at h ⊢
  obtain ⟨rfl, hr⟩ := tokStep_tok h
  rw [show a :: (A ++ (C ++ c :: R3)) = (a :: A) ++ (C ++ c :: R3) from rfl, signTok_loc (A := a :: A) hn hA hr]
  rfl
end Go.Proofs.YtkkpjonfaflkmaaGreatDoor.S

/- A source that ends a line with an error has that error in every extension. -/
namespace Go.Proofs.YtkkpjonfaflkmaaGreatDoor.S
set_option linter.unusedSimpArgs false
set_option linter.unusedVariables false

theorem cmt_app : ∀ (xs ys : List Int) (i d l b i' l' b' : Nat), cmt xs i d l b = .done i' l' b' → cmt (xs ++ ys) i d l b = .done i' l' b'
  | [], _, _, _, _, _, _, _, _, h => by cases h
  | [_], _, _, _, _, _, _, _, _, h => by cases h
  | c :: e :: t, ys, i, d, l, b, i', l', b', h => by
    rw [cmt] at h
    show cmt (c :: e :: (t ++ ys)) i d l b = _
    rw [cmt]
    by_cases h1 : c = 47 ∧ e = 42
    · rw [if_pos h1] at h ⊢; exact cmt_app t ys _ _ _ _ _ _ _ h
    · rw [if_neg h1] at h ⊢
      by_cases h2 : c = 42 ∧ e = 47
      · rw [if_pos h2] at h ⊢
        by_cases h3 : d = 1
        · rw [if_pos h3] at h ⊢; exact h
        · rw [if_neg h3] at h ⊢; exact cmt_app t ys _ _ _ _ _ _ _ h
      · rw [if_neg h2] at h ⊢; exact cmt_app (e :: t) ys _ _ _ _ _ _ _ h
theorem end_cut {U R C : List Int} {q : Int} (hq : q ≠ 10) (h : U ++ q :: R = C ++ [10]) : ∃ C', R = C' ++ [10] := by
  rcases List.eq_nil_or_concat R with rfl | ⟨C', e, rfl⟩
  · exfalso
    have : (U ++ [q]).getLast? = (C ++ [10]).getLast? := by rw [h]
    rw [List.getLast?_concat, List.getLast?_concat] at this
    exact hq (Option.some.inj this)
  · rw [List.concat_eq_append] at h ⊢
    have : (U ++ q :: (C' ++ [e])).getLast? = (C ++ [10]).getLast? := by rw [h]
    rw [← List.cons_append, ← List.append_assoc, List.getLast?_concat, List.getLast?_concat] at this
    exact ⟨C', by rw [Option.some.inj this]⟩
theorem litTok_ext {q : Int} {t C b : List Int} (hq : q = 39 ∨ q = 34) (h : t = C ++ [10]) (h6 : litTok (q :: t) ≠ .err 6) : litTok (q :: (t ++ b)) = litTok (q :: t) := by
  cases hl : lit q t 1 [] with
  | none => exact absurd (by simp only [litTok, hl]) h6
  | some p =>
    obtain ⟨v, i⟩ := p
    obtain ⟨U, R, e1, e2, e3, e4⟩ := lit_loc q t 1 [] v i hl
    have hq10 : q ≠ 10 := by rcases hq with rfl | rfl <;> decide
    obtain ⟨C', hC⟩ := end_cut hq10 (e1.symm.trans h)
    have hh : (R ++ b).head? ≠ some q := by
      rw [hC] at e3 ⊢
      rcases C' with _ | ⟨d, C'⟩
      · intro e; exact hq10 (Option.some.inj e).symm
      · simpa using e3
    have hs : sfx (R ++ b) = sfx R := by
      rw [hC, List.append_assoc]
      exact sfx_loc (.inl rfl) (fun d _ _ e s he => by cases he; rfl) (fun _ => rfl)
    obtain rfl : i = U.length + 1 := by omega
    rw [e1, List.append_assoc, List.cons_append]
    exact litTok_eq q U R (R ++ b) v (e4 _ e3) (e4 _ hh) hs
theorem symTok_ext {xs C b : List Int} (h : xs = C ++ [10]) : symTok (xs ++ b) = symTok xs := by
  have hl : symLen (xs ++ b) = symLen xs ∧ symLen xs ≤ xs.length := by
    obtain ⟨M, R, e1, hM, hR, hor⟩ := symLen_parts xs
    have hRne : ∃ C', R = C' ++ [10] := by
      rcases List.eq_nil_or_concat R with rfl | ⟨C', e, rfl⟩
      · exfalso
        rw [List.append_nil] at e1
        have : (10 : Int) ∈ M := by rw [← e1, h]; simp
        have := hM 10 this
        cases this
      · rw [List.concat_eq_append] at e1 ⊢
        have h3 : (M ++ (C' ++ [e])).getLast? = (C ++ [10]).getLast? := by rw [← e1, h]
        rw [← List.append_assoc, List.getLast?_concat, List.getLast?_concat] at h3
        exact ⟨C', by rw [Option.some.inj h3]⟩
    obtain ⟨C', hC⟩ := hRne
    have hhd : ∀ (p : Int → Bool) (R b : List Int), R ≠ [] → (∀ e s, R = e :: s → p e = false) → ∀ e s, R ++ b = e :: s → p e = false := fun p R b hne hp e s he => by
      rcases R with _ | ⟨d, R⟩
      · exact absurd rfl hne
      · cases he; exact hp e R rfl
    have hRn : R ≠ [] := by rw [hC]; simp
    rcases hor with ⟨hl, hx⟩ | ⟨g, D, S, hRS, hm, hg, hD, hd, hS, hl⟩
    · refine ⟨?_, by rw [hl, e1]; simp⟩
      rw [hl, e1, List.append_assoc]
      refine symLen_plain hM (hhd sym R b hRn hR) fun ⟨q1, q2⟩ => hx ⟨q1, ?_⟩
      rw [hC] at q2 ⊢
      rcases C' with _ | ⟨d, _ | ⟨e, C'⟩⟩
      · rcases b with _ | ⟨a, b⟩
        · exact q2
        · simp [expo] at q2
      · rcases b with _ | ⟨a, b⟩
        · exact q2
        · exact q2
      · exact q2
    · subst hRS
      have hSn : S ≠ [] := by
        intro e
        subst e
        rw [List.append_nil] at hC
        have h10 : (10 : Int) ∈ g :: D := by rw [hC]; simp
        rcases List.mem_cons.1 h10 with e | e
        · rcases hg with rfl | rfl <;> cases e
        · have := hd 10 e; cases this
      refine ⟨?_, by rw [hl, e1]; simp; omega⟩
      rw [hl, e1, List.append_assoc, List.cons_append, List.append_assoc]
      exact symLen_expo hM hm hg hD hd (hhd dig S b hSn hS)
  refine symTok_eq hl.1 ?_
  rw [List.take_append_of_le_length hl.2]
theorem signs_no10 : ∀ p ∈ signs, (10 : Int) ∉ p := by decide
theorem find_congr {α : Type} (P Q : α → Bool) : ∀ l : List α, (∀ x ∈ l, P x = Q x) → l.find? P = l.find? Q
  | [], _ => rfl
  | x :: l, h => by
    rw [List.find?_cons, List.find?_cons, h x (by simp), find_congr P Q l (fun y hy => h y (by simp [hy]))]
theorem signTok_ext {xs C b : List Int} (h : xs = C ++ [10]) : signTok (xs ++ b) = signTok xs := by
  unfold signTok
  rw [find_congr (fun x => x.isPrefixOf (xs ++ b)) (fun x => x.isPrefixOf xs) signs fun p hp => ?_]
  have h1 : p.isPrefixOf xs = true → p.isPrefixOf (xs ++ b) = true := prefix_app p xs b
  have h2 : p.isPrefixOf (xs ++ b) = true → p.isPrefixOf xs = true := fun hx => by
    rw [h, List.append_assoc] at hx
    by_cases hlen : p.length ≤ C.length
    · rw [h]; exact prefix_app p C [10] (prefix_cut p C _ hx hlen)
    · exfalso
      have := prefix_at p C 10 b hx (by omega)
      exact signs_no10 p hp (List.mem_of_mem_take (by rw [this]; simp))
  cases hq : p.isPrefixOf xs with
  | true => exact h1 hq
  | false =>
    cases hr : p.isPrefixOf (xs ++ b) with
    | true => rw [h2 hr] at hq; cases hq
    | false => rfl
theorem step_ext {xs C b : List Int} (h : xs = C ++ [10]) (h6 : step xs ≠ .err 6 0) : step (xs ++ b) = step xs := by
  rcases xs with _ | ⟨a, t⟩
  · simp at h
  rw [List.cons_append]
  by_cases h1 : a = 10
  · simp only [step, if_pos h1]
  have ht : ∃ C', t = C' ++ [10] := by
    rcases C with _ | ⟨c, C⟩
    · simp only [List.nil_append, List.cons.injEq] at h
      exact absurd h.1 h1
    · simp only [List.cons_append, List.cons.injEq] at h
      exact ⟨C, h.2⟩
  obtain ⟨C', ht⟩ := ht
  simp only [step] at h6 ⊢
  rw [if_neg h1] at h6
  rw [if_neg h1, if_neg h1]
  by_cases h2 : a = 32
  · rw [if_pos h2, if_pos h2]
  rw [if_neg h2] at h6
  rw [if_neg h2, if_neg h2]
  have hst : starts2 (a :: (t ++ b)) = starts2 (a :: t) := by
    rcases t with _ | ⟨e, t⟩
    · simp at ht
    · rfl
  rw [hst]
  by_cases h3 : starts2 (a :: t) = true
  · rw [if_pos h3] at h6
    rw [if_pos h3, if_pos h3]
    cases hc : cmt (a :: t) 0 0 1 0 with
    | eof => rw [hc] at h6; exact absurd rfl h6
    | done i l b' =>
      rw [show a :: (t ++ b) = (a :: t) ++ b from rfl, cmt_app _ b _ _ _ _ _ _ _ hc]
  rw [if_neg h3] at h6
  rw [if_neg h3, if_neg h3]
  by_cases h4 : a = 39 ∨ a = 34
  · rw [if_pos h4] at h6
    rw [if_pos h4, if_pos h4, litTok_ext h4 ht]
    intro e
    rw [e] at h6
    exact h6 rfl
  rw [if_neg h4, if_neg h4]
  by_cases h5 : sym a = true
  · rw [if_pos h5, if_pos h5, show a :: (t ++ b) = (a :: t) ++ b from rfl, symTok_ext h]
  · rw [if_neg h5, if_neg h5, show a :: (t ++ b) = (a :: t) ++ b from rfl, signTok_ext h]
def EndsLine (xs : List Int) : Prop := xs = [] ∨ ∃ C, xs = C ++ [10]
theorem EndsLine.drop {xs : List Int} (h : EndsLine xs) (n : Nat) : EndsLine (xs.drop n) := by
  rcases h with rfl | ⟨C, rfl⟩
  · exact .inl (by simp)
  · by_cases hn : n ≤ C.length
    · exact .inr ⟨C.drop n, by rw [List.drop_append_of_le_length hn]⟩
    · exact .inl (List.drop_eq_nil_of_le (by simp; omega))
theorem pre_err (l : List (List Tk)) (o : Out) : (o.pre l).err = o.err := rfl
theorem go_ext : ∀ (f : Nat) (xs b : List Int) (i line : Nat) (cur : List Tk) (gap : Bool) (c ln f' : Nat), EndsLine xs → (∀ x ∈ xs, 0 ≤ x ∧ x < 256) → xs.length < f → (xs ++ b).length < f' → (go f xs i line cur gap).err = some (c, ln) → c ≠ 6 → go f' (xs ++ b) i line cur gap = go f xs i line cur gap
  | 0, xs, b, i, line, cur, gap, c, ln, f', _, _, hf, _, _, _ => absurd hf (Nat.not_lt_zero _)
  | f + 1, xs, b, i, line, cur, gap, c, ln, 0, _, _, _, hf, _, _ => absurd hf (Nat.not_lt_zero _)
  | f + 1, xs, b, i, line, cur, gap, c, ln, f' + 1, hE, hb, hf, hf', he, h6 => by
    have hbd : ∀ n, ∀ x ∈ xs.drop n, 0 ≤ x ∧ x < 256 := fun n x hx => hb x (List.mem_of_mem_drop hx)
    rcases hE with rfl | ⟨C, hC⟩
    · cases he
    have hE : EndsLine xs := .inr ⟨C, hC⟩
    have hx1 : 1 ≤ xs.length := by rw [hC]; simp
    have hlen : (xs ++ b).length = xs.length + b.length := List.length_append
    have hst : step (xs ++ b) = step xs := step_ext hC (fun e => by
      rw [go, e] at he
      simp only [Option.some.injEq, Prod.mk.injEq] at he
      exact h6 he.1.symm)
    have hdr : ∀ n, n ≤ xs.length → (xs ++ b).drop n = xs.drop n ++ b := fun n hn => List.drop_append_of_le_length hn
    have ih := fun n i line cur gap => go_ext f (xs.drop n) b i line cur gap c ln f' (hE.drop n) (hbd n)
    rw [go] at he ⊢
    conv => { rhs; rw [go] }
    rw [hst]
    cases hs : step xs with
    | fin => rfl
    | line =>
      rw [hs] at he
      simp only at he ⊢
      rw [hdr 1 hx1]
      by_cases hcm : comma cur = true
      · rw [if_pos hcm] at he
        rw [if_pos hcm, if_pos hcm]
        exact ih 1 _ _ _ _ (by rw [List.length_drop]; omega) (by rw [List.length_append, List.length_drop]; omega) he h6
      · rw [if_neg hcm] at he
        rw [if_neg hcm, if_neg hcm]
        rw [ih 1 _ _ _ _ (by rw [List.length_drop]; omega) (by rw [List.length_append, List.length_drop]; omega) he h6]
    | blank =>
      rw [hs] at he
      simp only at he ⊢
      rw [hdr 1 hx1]
      exact ih 1 _ _ _ _ (by rw [List.length_drop]; omega) (by rw [List.length_append, List.length_drop]; omega) he h6
    | cmt n dl =>
      rw [hs] at he
      obtain ⟨h1, h2, -⟩ := step_cmt hs
      simp only at he ⊢
      rw [hdr n h2]
      exact ih n _ _ _ _ (by rw [List.length_drop]; omega) (by rw [List.length_append, List.length_drop]; omega) he h6
    | tok k t n =>
      rw [hs] at he
      obtain ⟨h1, h2, -⟩ := step_tok hb hs
      simp only at he ⊢
      rw [hdr n h2]
      have hl1 : (xs.drop n).length < f := by rw [List.length_drop]; omega
      have hl2 : (xs.drop n ++ b).length < f' := by rw [List.length_append, List.length_drop]; omega
      by_cases hsc : k = 3 ∧ t = [59]
      · rw [if_pos hsc] at he
        rw [if_pos hsc, if_pos hsc, ih n _ _ _ _ hl1 hl2 he h6]
      · rw [if_neg hsc] at he
        rw [if_neg hsc, if_neg hsc]
        by_cases hlb : label (cur ++ [⟨k, t, gap && !decide (cur = []), line, i, i + n⟩]) = true
        · rw [if_pos hlb] at he
          rw [if_pos hlb, if_pos hlb, ih n _ _ _ _ hl1 hl2 he h6]
        · rw [if_neg hlb] at he
          rw [if_neg hlb, if_neg hlb]
          exact ih n _ _ _ _ hl1 hl2 he h6
    | err cc dl => rfl
theorem scan_ext {xs b : List Int} {c ln : Nat} (hE : EndsLine xs) (hb : ∀ x ∈ xs, 0 ≤ x ∧ x < 256) (h : (scan xs).err = some (c, ln)) (h6 : c ≠ 6) : scan (xs ++ b) = scan xs :=
  go_ext (xs.length + 1) xs b 0 1 [] false c ln ((xs ++ b).length + 1) hE hb (Nat.lt_succ_self _) (Nat.lt_succ_self _) h h6
end Go.Proofs.YtkkpjonfaflkmaaGreatDoor.S

/- What stands between tokens. -/
namespace Go.Proofs.YtkkpjonfaflkmaaGreatDoor.S
set_option linter.unusedSimpArgs false
set_option linter.unusedVariables false

def blank (c : Int) : Bool := decide (c = 32) || decide (c = 10) || decide (c = 44) || decide (c = 59)
/-- Blanks, line feeds, commas, semicolons and comments; so deep in comments. -/
def idle : List Int → Nat → Bool
  | [], d => decide (d = 0)
  | [c], d => blank c && decide (d = 0)
  | c :: e :: t, d =>
    if c = 47 ∧ e = 42 then idle t (d + 1)
    else if 0 < d ∧ c = 42 ∧ e = 47 then idle t (d - 1)
    else if 0 < d ∨ blank c = true then idle (e :: t) d else false
theorem blank_ne {c : Int} (h : blank c = true) : c ≠ 47 ∧ c ≠ 42 := by
  simp only [blank, Bool.or_eq_true, decide_eq_true_eq] at h
  omega
theorem idle_blank {c : Int} (h : blank c = true) (t : List Int) : idle (c :: t) 0 = idle t 0 := by
  rcases t with _ | ⟨e, t⟩
  · simp [idle, h]
  · rw [idle, if_neg (fun e => (blank_ne h).1 e.1), if_neg (fun e => by omega), if_pos (.inr h)]
theorem idle_app : ∀ (xs ys : List Int) (d : Nat), idle xs d = true → idle (xs ++ ys) d = idle ys 0
  | [], ys, d, h => by
    simp only [idle, decide_eq_true_eq] at h
    subst h; rfl
  | [c], ys, d, h => by
    simp only [idle, Bool.and_eq_true, decide_eq_true_eq] at h
    obtain ⟨h1, rfl⟩ := h
    exact idle_blank h1 ys
  | c :: e :: t, ys, d, h => by
    rw [idle] at h
    show idle (c :: e :: (t ++ ys)) d = _
    rw [idle]
    by_cases h1 : c = 47 ∧ e = 42
    · rw [if_pos h1] at h ⊢; exact idle_app t ys _ h
    · rw [if_neg h1] at h ⊢
      by_cases h2 : 0 < d ∧ c = 42 ∧ e = 47
      · rw [if_pos h2] at h ⊢; exact idle_app t ys _ h
      · rw [if_neg h2] at h ⊢
        by_cases h3 : 0 < d ∨ blank c = true
        · rw [if_pos h3] at h ⊢; exact idle_app (e :: t) ys _ h
        · rw [if_neg h3] at h; cases h
theorem cmt_idle : ∀ (xs : List Int) (i d l b i' l' b' : Nat), cmt xs i d l b = .done i' l' b' → (1 ≤ d ∨ starts2 xs = true) → idle (xs.take (i' - i)) d = true ∧ l' = l + (xs.take (i' - i)).count 10
  | [], _, _, _, _, _, _, _, h, _ => by cases h
  | [_], _, _, _, _, _, _, _, h, _ => by cases h
  | c :: e :: t, i, d, l, b, i', l', b', h, hd => by
    have hbd := cmt_bounds _ _ _ _ _ _ _ _ h
    rw [cmt] at h
    by_cases h1 : c = 47 ∧ e = 42
    · rw [if_pos h1] at h
      have hb2 := cmt_bounds _ _ _ _ _ _ _ _ h
      obtain ⟨g1, g2⟩ := cmt_idle t (i + 2) (d + 1) l b i' l' b' h (.inl (by omega))
      rw [show i' - i = (i' - (i + 2)) + 1 + 1 by omega, List.take_succ_cons, List.take_succ_cons, idle, if_pos h1]
      refine ⟨g1, ?_⟩
      obtain ⟨rfl, rfl⟩ := h1
      rw [List.count_cons, List.count_cons, if_neg (by decide), if_neg (by decide)]
      omega
    · rw [if_neg h1] at h
      have hd1 : 1 ≤ d := by
        rcases hd with hd | hd
        · exact hd
        · simp only [starts2, Bool.and_eq_true, decide_eq_true_eq] at hd
          exact absurd hd h1
      by_cases h2 : c = 42 ∧ e = 47
      · rw [if_pos h2] at h
        obtain ⟨rfl, rfl⟩ := h2
        by_cases h3 : d = 1
        · rw [if_pos h3] at h
          cases h
          subst h3
          rw [show i + 2 - i = 0 + 1 + 1 by omega, List.take_succ_cons, List.take_succ_cons, List.take_zero]
          exact ⟨rfl, rfl⟩
        · rw [if_neg h3] at h
          have hb2 := cmt_bounds _ _ _ _ _ _ _ _ h
          obtain ⟨g1, g2⟩ := cmt_idle t (i + 2) (d - 1) l b i' l' b' h (.inl (by omega))
          rw [show i' - i = (i' - (i + 2)) + 1 + 1 by omega, List.take_succ_cons, List.take_succ_cons, idle, if_neg h1, if_pos ⟨by omega, rfl, rfl⟩]
          refine ⟨g1, ?_⟩
          rw [List.count_cons, List.count_cons, if_neg (by decide), if_neg (by decide)]
          omega
      · rw [if_neg h2] at h
        have hb2 := cmt_bounds _ _ _ _ _ _ _ _ h
        obtain ⟨g1, g2⟩ := cmt_idle (e :: t) (i + 1) d _ _ i' l' b' h (.inl hd1)
        obtain ⟨m, hm⟩ : ∃ m, i' - (i + 1) = m + 1 := ⟨i' - (i + 1) - 1, by omega⟩
        rw [hm] at g1 g2
        rw [List.take_succ_cons] at g1 g2
        rw [show i' - i = m + 1 + 1 by omega, List.take_succ_cons, List.take_succ_cons, idle, if_neg h1, if_neg (fun q => h2 q.2), if_pos (.inl (by omega))]
        refine ⟨g1, ?_⟩
        rw [List.count_cons]
        rw [g2]
        by_cases h10 : c = 10
        · rw [if_pos h10, if_pos (by simpa using h10)]; omega
        · rw [if_neg h10, if_neg (by simpa using h10)]; omega

/-- A token's own text holds no line feed. -/
theorem lit_no10 (q : Int) (hq : q ≠ 10) : ∀ (xs : List Int) (i : Nat) (acc v : List Int) (j : Nat), lit q xs i acc = some (v, j) → (10 : Int) ∉ xs.take (j - i)
  | [], _, _, _, _ => fun h => by cases h
  | [c], i, acc, v, j => fun h => by
    rw [lit] at h
    by_cases h1 : c = 10
    · rw [if_pos h1] at h; cases h
    · rw [if_neg h1] at h
      by_cases h2 : c = q
      · rw [if_pos h2] at h; cases h; simp
      · rw [if_neg h2] at h; cases h
  | c :: d :: t, i, acc, v, j => fun h => by
    rw [lit] at h
    by_cases h1 : c = 10
    · rw [if_pos h1] at h; cases h
    · rw [if_neg h1] at h
      by_cases h2 : c = q
      · rw [if_pos h2] at h
        by_cases h3 : d = q
        · rw [if_pos h3] at h
          have hb := (lit_bounds q (fun _ => True) trivial t (i + 2) _ v j h (fun _ _ => trivial) (fun _ _ => trivial)).1
          have := lit_no10 q hq t (i + 2) (acc ++ [q]) v j h
          rw [show j - i = (j - (i + 2)) + 1 + 1 by omega, List.take_succ_cons, List.take_succ_cons]
          intro hm
          rcases List.mem_cons.1 hm with e | e
          · exact h1 e.symm
          · rcases List.mem_cons.1 e with e | e
            · rw [h3] at e; exact hq e.symm
            · exact this e
        · rw [if_neg h3] at h; cases h; simp
      · rw [if_neg h2] at h
        have hb := (lit_bounds q (fun _ => True) trivial (d :: t) (i + 1) _ v j h (fun _ _ => trivial) (fun _ _ => trivial)).1
        have := lit_no10 q hq (d :: t) (i + 1) (acc ++ [c]) v j h
        rw [show j - i = (j - (i + 1)) + 1 by omega, List.take_succ_cons]
        intro hm
        rcases List.mem_cons.1 hm with e | e
        · exact h1 e.symm
        · exact this e
theorem sfx_no10 {a : Int} {t : List Int} (h : sfx (a :: t) ≠ 0) : a ≠ 10 := by
  intro e; subst e
  exact h (sfx_ns rfl)
theorem tok_no10 {xs t : List Int} {k n : Nat} (h : step xs = .tok k t n) : (10 : Int) ∉ xs.take n ∧ (k = 3 → xs.take n = t) := by
  rcases xs with _ | ⟨a, r⟩
  · cases h
  simp only [step] at h
  by_cases h1 : a = 10
  · rw [if_pos h1] at h; cases h
  rw [if_neg h1] at h
  by_cases h2 : a = 32
  · rw [if_pos h2] at h; cases h
  rw [if_neg h2] at h
  by_cases h3 : starts2 (a :: r) = true
  · rw [if_pos h3] at h; exact (cmtStep_ne h).elim
  rw [if_neg h3] at h
  by_cases h4 : a = 39 ∨ a = 34
  · rw [if_pos h4] at h
    obtain ⟨rfl, hr⟩ := tokStep_tok h
    refine ⟨?_, fun e => by cases e⟩
    have hq10 : a ≠ 10 := h1
    obtain ⟨v, U, R, e1, e2, e3, e4⟩ := litTok_parts hr
    have hU : (10 : Int) ∉ U := by
      have := lit_no10 a hq10 (U ++ a :: R) 1 [] v (U.length + 1) (e3 R e2)
      rw [Nat.add_sub_cancel, List.take_left] at this
      exact this
    subst e1
    rcases e4 with ⟨hs, rfl⟩ | ⟨hs, rfl⟩
    · have : (a :: (U ++ a :: R)).take (U.length + 2) = a :: (U ++ [a]) := by
        rw [List.take_succ_cons, show U ++ a :: R = (U ++ [a]) ++ R by simp, List.take_left' (by simp)]
      rw [this]
      intro hm
      simp only [List.mem_cons, List.mem_append, List.not_mem_nil, or_false] at hm
      rcases hm with e | e | e
      · exact hq10 e.symm
      · exact hU e
      · exact hq10 e.symm
    · rcases R with _ | ⟨b, R⟩
      · exact absurd rfl hs
      · have : (a :: (U ++ a :: b :: R)).take (U.length + 3) = a :: (U ++ [a, b]) := by
          rw [List.take_succ_cons, show U ++ a :: b :: R = (U ++ [a, b]) ++ R by simp, List.take_left' (by simp)]
        rw [this]
        have hb10 := sfx_no10 hs
        intro hm
        simp only [List.mem_cons, List.mem_append, List.not_mem_nil, or_false] at hm
        rcases hm with e | e | e | e
        · exact hq10 e.symm
        · exact hU e
        · exact hq10 e.symm
        · exact hb10 e.symm
  rw [if_neg h4] at h
  by_cases h5 : sym a = true
  · rw [if_pos h5] at h
    obtain ⟨rfl, hr⟩ := tokStep_tok h
    refine ⟨?_, fun e => by cases e⟩
    have hn : n = symLen (a :: r) := by
      unfold symTok at hr
      split at hr
      · cases hr
      · simp only [TR.ok.injEq] at hr; exact hr.2.symm
    obtain ⟨M, R, e1, hM, hR, hor⟩ := symLen_parts (a :: r)
    have hM10 : (10 : Int) ∉ M := fun e => by have := hM 10 e; cases this
    rw [hn]
    rcases hor with ⟨hl, _⟩ | ⟨g, D, S, hRS, hm, hg, hD, hd, hS, hl⟩
    · rw [hl, e1, List.take_left]; exact hM10
    · have : (a :: r).take (symLen (a :: r)) = M ++ g :: D := by
        rw [hl, e1, hRS, show M ++ g :: (D ++ S) = (M ++ g :: D) ++ S by simp, List.take_left' (by simp; omega)]
      rw [this]
      intro hm
      simp only [List.mem_cons, List.mem_append] at hm
      rcases hm with e | e | e
      · exact hM10 e
      · rcases hg with rfl | rfl <;> cases e
      · have := hd 10 e; cases this
  rw [if_neg h5] at h
  obtain ⟨rfl, hr⟩ := tokStep_tok h
  unfold signTok at hr
  cases hf : signs.find? (fun x => x.isPrefixOf (a :: r)) with
  | none => rw [hf] at hr; cases hr
  | some l =>
    rw [hf] at hr
    simp only [TR.ok.injEq] at hr
    obtain ⟨rfl, rfl⟩ := hr
    have hp : l.isPrefixOf (a :: r) = true := by simpa using List.find?_some hf
    have he := prefix_eq _ _ hp
    have : (a :: r).take l.length = l := by conv => { lhs; rw [he] }; exact List.take_left
    rw [this]
    exact ⟨signs_no10 l (List.mem_of_find?_eq_some hf), fun _ => rfl⟩
end Go.Proofs.YtkkpjonfaflkmaaGreatDoor.S

/- The tokens of a source cover it, but for blanks, line feeds, commas, semicolons and comments. -/
namespace Go.Proofs.YtkkpjonfaflkmaaGreatDoor.S
set_option linter.unusedSimpArgs false
set_option linter.unusedVariables false

def seg (L : List Int) (a b : Nat) : List Int := (L.drop a).take (b - a)
theorem seg_app {L : List Int} {a b c : Nat} (h1 : a ≤ b) (h2 : b ≤ c) : seg L a c = seg L a b ++ seg L b c := by
  unfold seg
  rw [show c - a = (b - a) + (c - b) by omega, List.take_add, List.drop_drop, show a + (b - a) = b by omega]
theorem seg_self (L : List Int) (a : Nat) : seg L a a = [] := by unfold seg; rw [Nat.sub_self, List.take_zero]
theorem seg_end (L : List Int) (a : Nat) : seg L a L.length = L.drop a := by
  unfold seg
  rw [List.take_of_length_le (by rw [List.length_drop]; omega)]
theorem idle_seg {L : List Int} {a b c : Nat} (h1 : a ≤ b) (h2 : b ≤ c) (ha : idle (seg L a b) 0 = true) (hb : idle (seg L b c) 0 = true) : idle (seg L a c) 0 = true := by
  rw [seg_app h1 h2, idle_app _ _ _ ha]; exact hb
structure TokOK (L : List Int) (e ln : Nat) (t : Tk) : Prop where
  h1 : e ≤ t.at_
  h2 : t.at_ ≤ t.to
  h3 : t.to ≤ L.length
  h4 : ln ≤ t.line
  h5 : t.kind ≠ 4 → t.at_ < t.to
  h6 : idle (seg L e t.at_) 0 = true
  h7 : t.line = 1 + (L.take t.at_).count 10
  h8 : t.kind = 3 → seg L t.at_ t.to = t.text
def Pre (L : List Int) : Nat → Nat → List Tk → Nat → Nat → Prop
  | e, ln, [], e', ln' => e' = e ∧ ln' = ln
  | e, ln, t :: ts, e', ln' => TokOK L e ln t ∧ Pre L t.to t.line ts e' ln'
theorem Pre.append {L : List Int} : ∀ {a : List Tk} {e ln m k : Nat} {b : List Tk} {p q : Nat}, Pre L e ln a m k → Pre L m k b p q → Pre L e ln (a ++ b) p q
  | [], e, ln, m, k, b, p, q, h1, h2 => by obtain ⟨rfl, rfl⟩ := h1; exact h2
  | t :: a, e, ln, m, k, b, p, q, h1, h2 => ⟨h1.1, Pre.append h1.2 h2⟩
theorem Pre.one {L : List Int} {e ln : Nat} {t : Tk} (h : TokOK L e ln t) : Pre L e ln [t] t.to t.line := ⟨h, rfl, rfl⟩
theorem Pre.snoc_inv {L : List Int} : ∀ {a : List Tk} {e ln m k : Nat} {t : Tk}, Pre L e ln (a ++ [t]) m k → ∃ m' k', Pre L e ln a m' k' ∧ TokOK L m' k' t ∧ m = t.to ∧ k = t.line
  | [], e, ln, m, k, t, h => ⟨e, ln, ⟨rfl, rfl⟩, h.1, h.2.1, h.2.2⟩
  | s :: a, e, ln, m, k, t, h => by
    obtain ⟨m', k', g1, g2, g3⟩ := Pre.snoc_inv h.2
    exact ⟨m', k', ⟨h.1, g1⟩, g2, g3⟩
theorem count_take (L : List Int) (i n : Nat) : (L.take (i + n)).count 10 = (L.take i).count 10 + ((L.drop i).take n).count 10 := by
  rw [List.take_add, List.count_append]
theorem comma_last {cur : List Tk} (h : comma cur = true) : ∃ a t, cur = a ++ [t] ∧ t.kind = 3 ∧ t.text = [44] := by
  rcases List.eq_nil_or_concat cur with rfl | ⟨a, t, rfl⟩
  · cases h
  · rw [List.concat_eq_append] at h ⊢
    simp only [comma, List.getLast?_concat, Bool.and_eq_true, decide_eq_true_eq] at h
    exact ⟨a, t, rfl, h.1, h.2⟩
theorem step_line {xs : List Int} (h : step xs = .line) : ∃ t, xs = 10 :: t := by
  rcases xs with _ | ⟨a, t⟩
  · cases h
  simp only [step] at h
  by_cases h1 : a = 10
  · exact ⟨t, by rw [h1]⟩
  exfalso
  rw [if_neg h1] at h
  by_cases h2 : a = 32
  · rw [if_pos h2] at h; cases h
  rw [if_neg h2] at h
  by_cases h3 : starts2 (a :: t) = true
  · rw [if_pos h3] at h
    cases hc : cmt (a :: t) 0 0 1 0 with
    | eof => rw [hc] at h; cases h
    | done i l b => rw [hc] at h; simp only [cmtStep] at h; split at h <;> cases h
  rw [if_neg h3] at h
  have key : ∀ k r, tokStep k r ≠ .line := fun k r e => by cases r <;> cases e
  by_cases h4 : a = 39 ∨ a = 34
  · rw [if_pos h4] at h; exact key _ _ h
  rw [if_neg h4] at h
  by_cases h5 : sym a = true
  · rw [if_pos h5] at h; exact key _ _ h
  · rw [if_neg h5] at h; exact key _ _ h
theorem step_blank {xs : List Int} (h : step xs = .blank) : ∃ t, xs = 32 :: t := by
  rcases xs with _ | ⟨a, t⟩
  · cases h
  simp only [step] at h
  by_cases h1 : a = 10
  · rw [if_pos h1] at h; cases h
  rw [if_neg h1] at h
  by_cases h2 : a = 32
  · exact ⟨t, by rw [h2]⟩
  exfalso
  rw [if_neg h2] at h
  by_cases h3 : starts2 (a :: t) = true
  · rw [if_pos h3] at h
    cases hc : cmt (a :: t) 0 0 1 0 with
    | eof => rw [hc] at h; cases h
    | done i l b => rw [hc] at h; simp only [cmtStep] at h; split at h <;> cases h
  rw [if_neg h3] at h
  have key : ∀ k r, tokStep k r ≠ .blank := fun k r e => by cases r <;> cases e
  by_cases h4 : a = 39 ∨ a = 34
  · rw [if_pos h4] at h; exact key _ _ h
  rw [if_neg h4] at h
  by_cases h5 : sym a = true
  · rw [if_pos h5] at h; exact key _ _ h
  · rw [if_neg h5] at h; exact key _ _ h
theorem step_cmt_idle {xs : List Int} {n dl : Nat} (h : step xs = .cmt n dl) : idle (xs.take n) 0 = true ∧ dl = (xs.take n).count 10 := by
  rcases xs with _ | ⟨a, t⟩
  · cases h
  simp only [step] at h
  by_cases h1 : a = 10
  · rw [if_pos h1] at h; cases h
  rw [if_neg h1] at h
  by_cases h2 : a = 32
  · rw [if_pos h2] at h; cases h
  rw [if_neg h2] at h
  by_cases h3 : starts2 (a :: t) = true
  · rw [if_pos h3] at h
    cases hc : cmt (a :: t) 0 0 1 0 with
    | eof => rw [hc] at h; cases h
    | done i l b =>
      rw [hc] at h
      simp only [cmtStep] at h
      split at h
      · cases h
        obtain ⟨g1, g2⟩ := cmt_idle _ _ _ _ _ _ _ _ hc (.inr h3)
        rw [Nat.sub_zero] at g1 g2
        exact ⟨g1, by omega⟩
      · cases h
  rw [if_neg h3] at h
  have key : ∀ k r, tokStep k r ≠ .cmt n dl := fun k r e => by cases r <;> cases e
  by_cases h4 : a = 39 ∨ a = 34
  · rw [if_pos h4] at h; exact (key _ _ h).elim
  rw [if_neg h4] at h
  by_cases h5 : sym a = true
  · rw [if_pos h5] at h; exact (key _ _ h).elim
  · rw [if_neg h5] at h; exact (key _ _ h).elim
theorem go_cov (L : List Int) (hb : ∀ x ∈ L, 0 ≤ x ∧ x < 256) : ∀ (f : Nat) (xs : List Int) (i line : Nat) (cur : List Tk) (gap : Bool) (e ln m k : Nat), xs = L.drop i → i ≤ L.length → line = 1 + (L.take i).count 10 → Pre L e ln cur m k → m ≤ i → k ≤ line →
    idle (seg L m i) 0 = true → xs.length < f → (go f xs i line cur gap).err = none → ∃ e' ln', Pre L e ln (go f xs i line cur gap).cl.flatten e' ln' ∧ e' ≤ L.length ∧ idle (L.drop e') 0 = true
  | 0, xs, i, line, cur, gap, e, ln, m, k, _, _, _, _, _, _, _, hf, _ => absurd hf (Nat.not_lt_zero _)
  | f + 1, xs, i, line, cur, gap, e, ln, m, k, hxs, hi, hline, hpre, hmi, hkl, hid, hf, he => by
    have hbx : ∀ x ∈ xs, 0 ≤ x ∧ x < 256 := fun x hx => hb x (by rw [hxs] at hx; exact List.mem_of_mem_drop hx)
    have hlen : xs.length = L.length - i := by rw [hxs, List.length_drop]
    have ih := fun n line cur gap e ln m k => go_cov L hb f (xs.drop n) (i + n) line cur gap e ln m k (by rw [hxs, List.drop_drop])
    have hcnt : ∀ n, (L.take (i + n)).count 10 = (L.take i).count 10 + (xs.take n).count 10 := fun n => by rw [count_take, hxs]
    have hseg : ∀ n, seg L i (i + n) = xs.take n := fun n => by unfold seg; rw [hxs, Nat.add_sub_cancel_left]
    -- a clause that ends here, with its end
    have emitted : ∀ (cur : List Tk) (p k' i' tu line' : Nat), Pre L e ln cur p k' → TokOK L p k' (endTk i' tu line') → cur ≠ [] → Pre L e ln (emit cur i' tu line').flatten tu line' := fun cur p k' i' tu line' h1 h2 hne => by
      unfold emit
      rw [if_neg hne, List.flatten_cons, List.flatten_nil, List.append_nil]
      exact h1.append (Pre.one h2)
    rw [go] at he ⊢
    cases hs : step xs with
    | err c dl => rw [hs] at he; cases he
    | fin =>
      have hx0 : xs = [] := by
        rcases xs with _ | ⟨a, t⟩
        · rfl
        · exfalso
          simp only [step] at hs
          by_cases h1 : a = 10
          · rw [if_pos h1] at hs; cases hs
          rw [if_neg h1] at hs
          by_cases h2 : a = 32
          · rw [if_pos h2] at hs; cases hs
          rw [if_neg h2] at hs
          by_cases h3 : starts2 (a :: t) = true
          · rw [if_pos h3] at hs
            cases hc : cmt (a :: t) 0 0 1 0 with
            | eof => rw [hc] at hs; cases hs
            | done i l b => rw [hc] at hs; simp only [cmtStep] at hs; split at hs <;> cases hs
          rw [if_neg h3] at hs
          have key : ∀ k r, tokStep k r ≠ .fin := fun k r e => by cases r <;> cases e
          by_cases h4 : a = 39 ∨ a = 34
          · rw [if_pos h4] at hs; exact key _ _ hs
          rw [if_neg h4] at hs
          by_cases h5 : sym a = true
          · rw [if_pos h5] at hs; exact key _ _ hs
          · rw [if_neg h5] at hs; exact key _ _ hs
      have hiL : i = L.length := by
        rw [hx0] at hlen
        simp only [List.length_nil] at hlen
        omega
      simp only
      -- the last clause, its comma cut
      have fin : ∀ (cur : List Tk) (p k' : Nat), Pre L e ln cur p k' → p ≤ i → k' ≤ line → idle (seg L p i) 0 = true → ∃ e' ln', Pre L e ln (emit cur i i line).flatten e' ln' ∧ e' ≤ L.length ∧ idle (L.drop e') 0 = true := fun cur p k' h1 h2 h3 h4 => by
        by_cases hne : cur = []
        · subst hne
          obtain ⟨rfl, rfl⟩ := h1
          refine ⟨_, _, ⟨rfl, rfl⟩, by omega, ?_⟩
          rw [hiL, seg_end] at h4
          exact h4
        · refine ⟨i, line, emitted cur p k' i i line h1 ⟨h2, Nat.le_refl _, hi, h3, fun e => absurd rfl e, h4, hline, fun e => by cases e⟩ hne, hi, ?_⟩
          rw [List.drop_eq_nil_of_le (by omega)]; rfl
      unfold cut
      by_cases hcm : comma cur = true
      · rw [if_pos hcm]
        obtain ⟨a, t, rfl, ht1, ht2⟩ := comma_last hcm
        rw [List.dropLast_concat]
        obtain ⟨m', k', g1, g2, rfl, rfl⟩ := hpre.snoc_inv
        refine fin a m' k' g1 (by have := g2.h1; have := g2.h2; omega) (by have := g2.h4; omega) ?_
        refine idle_seg g2.h1 (Nat.le_trans g2.h2 hmi) g2.h6 (idle_seg g2.h2 hmi ?_ hid)
        rw [g2.h8 ht1, ht2]; rfl
      · rw [if_neg hcm]
        exact fin cur m k hpre hmi hkl hid
    | line =>
      rw [hs] at he
      simp only at he ⊢
      obtain ⟨t, rfl⟩ : ∃ t, xs = 10 :: t := step_line hs
      have hnl : line + 1 = 1 + (L.take (i + 1)).count 10 := by rw [hcnt 1, hline]; simp; omega
      have hi1 : i + 1 ≤ L.length := by simp only [List.length_cons] at hlen; omega
      have hid1 : idle (seg L i (i + 1)) 0 = true := by rw [hseg 1]; rfl
      have hf1 : ((10 :: t).drop 1).length < f := by simp only [List.length_cons] at hf; simp; omega
      by_cases hcm : comma cur = true
      · rw [if_pos hcm] at he ⊢
        obtain ⟨a, tk, rfl, ht1, ht2⟩ := comma_last hcm
        rw [List.dropLast_concat] at he ⊢
        obtain ⟨m', k', g1, g2, rfl, rfl⟩ := hpre.snoc_inv
        refine ih 1 (line + 1) a true e ln m' k' hi1 hnl g1 (by have := g2.h1; have := g2.h2; omega) (by have := g2.h4; omega) ?_ hf1 he
        refine idle_seg g2.h1 (by have := g2.h2; omega) g2.h6 (idle_seg g2.h2 (by omega) ?_ (idle_seg hmi (by omega) hid hid1))
        rw [g2.h8 ht1, ht2]; rfl
      · rw [if_neg hcm] at he ⊢
        rw [pre_err] at he
        unfold Out.pre
        simp only [List.flatten_append]
        by_cases hne : cur = []
        · subst hne
          obtain ⟨rfl, rfl⟩ := hpre
          have := ih 1 (line + 1) [] false m k m k hi1 hnl ⟨rfl, rfl⟩ (by omega) (by omega) (idle_seg hmi (by omega) hid hid1) hf1 he
          simpa [emit] using this
        · obtain ⟨e', ln', g1, g2, g3⟩ := ih 1 (line + 1) [] false (i + 1) line (i + 1) line hi1 hnl ⟨rfl, rfl⟩ (Nat.le_refl _) (by omega) (by rw [seg_self]; rfl) hf1 he
          exact ⟨e', ln', (emitted cur m k i (i + 1) line hpre ⟨hmi, by show i ≤ i + 1; omega, hi1, hkl, fun e => absurd rfl e, hid, hline, fun e => by cases e⟩ hne).append g1, g2, g3⟩
    | blank =>
      rw [hs] at he
      simp only at he ⊢
      obtain ⟨t, rfl⟩ : ∃ t, xs = 32 :: t := step_blank hs
      have hnl : line = 1 + (L.take (i + 1)).count 10 := by rw [hcnt 1, hline]; simp
      refine ih 1 line cur true e ln m k (by simp only [List.length_cons] at hlen; omega) hnl hpre (by omega) hkl (idle_seg hmi (by omega) hid (by rw [hseg 1]; rfl)) (by simp only [List.length_cons] at hf; simp; omega) he
    | cmt n dl =>
      rw [hs] at he
      simp only at he ⊢
      obtain ⟨h1, h2, h3⟩ := step_cmt hs
      obtain ⟨c1, c2⟩ := step_cmt_idle hs
      refine ih n (line + dl) cur gap e ln m k (by omega) (by rw [hcnt n, hline]; omega) hpre (by omega) (by omega) (idle_seg hmi (by omega) hid (by rw [hseg n]; exact c1)) (by rw [List.length_drop]; omega) he
    | tok kd t n =>
      rw [hs] at he
      simp only at he ⊢
      obtain ⟨h1, h2, -, hk1, hk2⟩ := step_tok hbx hs
      obtain ⟨d1, d2⟩ := tok_no10 hs
      have hl0 : (xs.take n).count 10 = 0 := List.count_eq_zero.2 d1
      have hnl : line = 1 + (L.take (i + n)).count 10 := by rw [hcnt n, hline, hl0]; omega
      have hin : i + n ≤ L.length := by omega
      have hfn : (xs.drop n).length < f := by rw [List.length_drop]; omega
      by_cases hsc : kd = 3 ∧ t = [59]
      · rw [if_pos hsc] at he ⊢
        rw [pre_err] at he
        unfold Out.pre
        simp only [List.flatten_append]
        have hsemi : idle (seg L i (i + n)) 0 = true := by rw [hseg n, d2 hsc.1, hsc.2]; rfl
        by_cases hne : cur = []
        · subst hne
          obtain ⟨rfl, rfl⟩ := hpre
          have := ih n line [] false m k m k hin hnl ⟨rfl, rfl⟩ (by omega) (by omega) (idle_seg hmi (by omega) hid hsemi) hfn he
          simpa [emit] using this
        · obtain ⟨e', ln', g1, g2, g3⟩ := ih n line [] false (i + n) line (i + n) line hin hnl ⟨rfl, rfl⟩ (Nat.le_refl _) (Nat.le_refl _) (by rw [seg_self]; rfl) hfn he
          exact ⟨e', ln', (emitted cur m k i (i + n) line hpre ⟨hmi, by show i ≤ i + n; omega, hin, hkl, fun e => absurd rfl e, hid, hline, fun e => by cases e⟩ hne).append g1, g2, g3⟩
      · rw [if_neg hsc] at he ⊢
        obtain ⟨tk, htk⟩ : ∃ tk, (⟨kd, t, gap && !decide (cur = []), line, i, i + n⟩ : Tk) = tk := ⟨_, rfl⟩
        have hok : TokOK L m k tk := by
          rw [← htk]
          exact ⟨hmi, by show i ≤ i + n; omega, hin, hkl, fun _ => by show i < i + n; omega, hid, hline, fun e => by show seg L i (i + n) = t; rw [hseg n]; exact d2 e⟩
        have hto : tk.to = i + n := by rw [← htk]
        have htl : tk.line = line := by rw [← htk]
        rw [htk] at he ⊢
        have hpre2 := hpre.append (Pre.one hok)
        rw [hto, htl] at hpre2
        by_cases hlb : label (cur ++ [tk]) = true
        · rw [if_pos hlb] at he ⊢
          rw [pre_err] at he
          unfold Out.pre
          simp only [List.flatten_append]
          obtain ⟨e', ln', g1, g2, g3⟩ := ih n line [] false (i + n) line (i + n) line hin hnl ⟨rfl, rfl⟩ (Nat.le_refl _) (Nat.le_refl _) (by rw [seg_self]; rfl) hfn he
          exact ⟨e', ln', (emitted (cur ++ [tk]) (i + n) line (i + n) (i + n) line hpre2 ⟨Nat.le_refl _, Nat.le_refl _, hin, Nat.le_refl _, fun e => absurd rfl e, by rw [show (endTk (i + n) (i + n) line).at_ = i + n from rfl, seg_self]; rfl, hnl, fun e => by cases e⟩ (by simp)).append g1, g2, g3⟩
        · rw [if_neg hlb] at he ⊢
          exact ih n line (cur ++ [tk]) false e ln (i + n) line hin hnl hpre2 (Nat.le_refl _) (Nat.le_refl _) (by rw [seg_self]; rfl) hfn he
theorem scan_cov {L : List Int} (hb : ∀ x ∈ L, 0 ≤ x ∧ x < 256) (he : (scan L).err = none) : ∃ e' ln', Pre L 0 1 (tokens L) e' ln' ∧ e' ≤ L.length ∧ idle (L.drop e') 0 = true :=
  go_cov L hb (L.length + 1) L 0 1 [] false 0 1 0 1 (by simp) (Nat.zero_le _) (by simp) ⟨rfl, rfl⟩ (Nat.le_refl _) (Nat.le_refl _) (by rw [seg_self]; rfl) (Nat.lt_succ_self _) he
end Go.Proofs.YtkkpjonfaflkmaaGreatDoor.S

/- Small laws on bytes and strings that the pure laws share. -/
namespace Go.Proofs.YtkkpjonfaflkmaaGreatDoor.T
set_option linter.unusedSimpArgs false
set_option linter.unusedVariables false
open Go.RowKit Go.Proofs.YtkkpjonfaflkmaaGreatDoorW.PrintWords Go.Proofs.YtkkpjonfaflkmaaGreatDoorW.PrintLast Go.Proofs.YtkkpjonfaflkmaaGreatDoorW.PrintMore

theorem w64n {i : Nat} (h : i ≤ 1000000000000) : wrap64 ((i : Int) + 1) = ((i + 1 : Nat) : Int) := by unfold wrap64; omega
theorem drop_bt (a0 : ByteArray) {i : Nat} (h : i < a0.size) : (bytesOf a0).drop i = bt a0 (i : Int) :: (bytesOf a0).drop (i + 1) := by
  rw [bt_getD a0 i h]
  exact drop_at _ _ (by rw [bytesOf_length]; exact h)
theorem prn_all_str (L : List Int) (h : ∀ x ∈ L, 0 ≤ x ∧ x < 256) : (strOfNums L).size = L.length := by simp [strOfNums, ByteArray.size]
theorem bt_str {q : Int} {L : List Int} (h : ∀ x ∈ q :: L, 0 ≤ x ∧ x < 256) : bt (strOfNums (q :: L)) 0 = q := by
  have hs : 0 < (strOfNums (q :: L)).size := by rw [prn_all_str _ h]; simp
  have := bt_getD (strOfNums (q :: L)) 0 hs
  rw [bytesOf_str _ h] at this
  exact this
theorem str_bytes (a0 : ByteArray) : strOfNums (bytesOf a0) = a0 := by
  apply bytesOf_inj
  rw [bytesOf_str _ (bo_range a0)]
end Go.Proofs.YtkkpjonfaflkmaaGreatDoor.T

/- ScanCovers: the statement. -/
namespace Go.Proofs.YtkkpjonfaflkmaaGreatDoor.T
set_option linter.unusedSimpArgs false
set_option linter.unusedVariables false
open Go.RowKit Go.Proofs.YtkkpjonfaflkmaaGreatDoorW.PrintWords Go.Proofs.YtkkpjonfaflkmaaGreatDoorW.PrintLast Go.Proofs.YtkkpjonfaflkmaaGreatDoorW.PrintMore

theorem w64n2 {i : Nat} (h : i ≤ 1000000000000) : wrap64 ((i : Int) + 2) = ((i + 2 : Nat) : Int) := by unfold wrap64; omega
theorem w64p {d : Nat} (h : d ≤ 1000000000000) (h0 : 0 < d) : wrap64 ((d : Int) - 1) = ((d - 1 : Nat) : Int) := by unfold wrap64; omega
theorem beq_dec (a b : Int) : (a == b) = decide (a = b) := by
  by_cases h : a = b
  · rw [decide_eq_true h, h]; simp
  · rw [decide_eq_false h]; simpa using h
theorem idle_j2 (k : Nat) (x0 : ByteArray) (d i : Nat) (hi : i < x0.size) (hs : x0.size ≤ 1000000) (hd : d ≤ 1000000) (o c : Bool) (hc : c = true → 0 < d) :
    qanatlaw03_idle.j2 (k + 1) x0 (d : Int) (i : Int) o c = if o = true then qanatlaw03_idle.l0 k x0 ((d + 1 : Nat) : Int) ((i + 2 : Nat) : Int) else if c = true then qanatlaw03_idle.l0 k x0 ((d - 1 : Nat) : Int) ((i + 2 : Nat) : Int)
      else if 0 < d ∨ S.blank (bt x0 (i : Int)) = true then qanatlaw03_idle.l0 k x0 (d : Int) ((i + 1 : Nat) : Int) else some false := by
  rw [qanatlaw03_idle.j2, w64n (i := i) (by omega), w64n2 (by omega), w64n (i := d) (by omega)]
  cases o with
  | true => rw [if_pos rfl, if_pos rfl]
  | false =>
    rw [if_neg Bool.false_ne_true, if_neg Bool.false_ne_true]
    cases c with
    | true => rw [if_pos rfl, if_pos rfl, w64p (by omega) (hc rfl)]
    | false =>
      rw [if_neg Bool.false_ne_true, if_neg Bool.false_ne_true]
      by_cases h0 : 0 < d
      · rw [if_pos (by omega), if_pos (.inl h0)]
      · rw [if_neg (by omega), if_pos (by omega), if_pos (by omega)]
        generalize bt x0 (i : Int) = x
        by_cases e1 : x = 32
        · rw [if_pos e1, if_pos (.inr (by subst e1; rfl))]
        rw [if_neg e1]
        by_cases e2 : x = 10
        · rw [if_pos e2, if_pos (.inr (by subst e2; rfl))]
        rw [if_neg e2]
        by_cases e3 : x = 44
        · rw [if_pos e3, if_pos (.inr (by subst e3; rfl))]
        rw [if_neg e3]
        by_cases e4 : x = 59
        · rw [if_pos e4, if_pos (.inr (by subst e4; rfl))]
        rw [if_neg e4, if_neg]
        rintro (h | h)
        · exact h0 h
        · simp only [S.blank, Bool.or_eq_true, decide_eq_true_eq] at h
          omega
theorem idle_l0 (x0 : ByteArray) (hs : x0.size ≤ 100000) : ∀ (m k d i : Nat), i + m = x0.size → 3 * m < k → d ≤ i → qanatlaw03_idle.l0 k x0 (d : Int) (i : Int) = some (S.idle ((bytesOf x0).drop i) d)
  | m, 0, d, i, _, h, _ => absurd h (Nat.not_lt_zero _)
  | 0, k + 1, d, i, h, _, _ => by
    rw [qanatlaw03_idle.l0, if_neg (by omega), List.drop_eq_nil_of_le (by rw [bytesOf_length]; omega), beq_dec]
    unfold S.idle
    congr 1
    by_cases e : d = 0
    · rw [decide_eq_true e, decide_eq_true (by omega)]
    · rw [decide_eq_false e, decide_eq_false (by omega)]
  | 1, k + 1, d, i, h, hk, hd => by
    obtain ⟨k, rfl⟩ : ∃ k', k = k' + 2 := ⟨k - 2, by omega⟩
    have ih := idle_l0 x0 hs 0 k d (i + 1) (by omega) (by omega) (by omega)
    rw [List.drop_eq_nil_of_le (by rw [bytesOf_length]; omega)] at ih
    rw [qanatlaw03_idle.l0, if_pos (by omega), w64n (i := i) (by omega), if_neg (by omega), qanatlaw03_idle.j1, w64n (i := i) (by omega), drop_bt x0 (i := i) (by omega), List.drop_eq_nil_of_le (by rw [bytesOf_length]; omega)]
    have e : (if (d : Int) > 0 then (if ((i + 1 : Nat) : Int) < (x0.size : Int) then (if 0 ≤ (i : Int) then (if (i : Int) < (x0.size : Int) then (if (bt x0 (i : Int)) = 42 then (if 0 ≤ ((i + 1 : Nat) : Int) then (qanatlaw03_idle.j2 (k + 1) x0 (d : Int) (i : Int) false ((bt x0 ((i + 1 : Nat) : Int)) == 47)) else (none)) else (qanatlaw03_idle.j2 (k + 1) x0 (d : Int) (i : Int) false false)) else (none)) else (none)) else (qanatlaw03_idle.j2 (k + 1) x0 (d : Int) (i : Int) false false)) else (qanatlaw03_idle.j2 (k + 1) x0 (d : Int) (i : Int) false false)) = qanatlaw03_idle.j2 (k + 1) x0 (d : Int) (i : Int) false false := by
      rw [if_neg (show ¬ ((i + 1 : Nat) : Int) < (x0.size : Int) by omega)]
      split <;> rfl
    rw [e, idle_j2 k x0 d i (by omega) (by omega) (by omega) false false (fun e => by cases e), if_neg Bool.false_ne_true, if_neg Bool.false_ne_true, ih]
    unfold S.idle
    by_cases h0 : 0 < d
    · rw [if_pos (.inl h0), decide_eq_false (by omega), Bool.and_false]
    · cases hb : S.blank (bt x0 (i : Int)) with
      | true => rw [if_pos (.inr rfl), Bool.true_and]
      | false => rw [if_neg (by rintro (q | q); exact h0 q; cases q), Bool.false_and]
  | m + 2, k + 1, d, i, h, hk, hd => by
    obtain ⟨k, rfl⟩ : ∃ k', k = k' + 2 := ⟨k - 2, by omega⟩
    have ih2 := fun d hd => idle_l0 x0 hs m k d (i + 2) (by omega) (by omega) hd
    have ih1 := fun d hd => idle_l0 x0 hs (m + 1) k d (i + 1) (by omega) (by omega) hd
    rw [qanatlaw03_idle.l0, if_pos (by omega), w64n (i := i) (by omega), if_pos (by omega), if_pos (by omega), if_pos (show (0 : Int) ≤ ((i + 1 : Nat) : Int) by omega)]
    have hdr : (bytesOf x0).drop (i + 1) = bt x0 ((i + 1 : Nat) : Int) :: (bytesOf x0).drop (i + 2) := drop_bt x0 (i := i + 1) (by omega)
    have ih1' := ih1 d (by omega)
    rw [hdr] at ih1'
    rw [drop_bt x0 (i := i) (by omega), hdr]
    obtain ⟨x, hx⟩ : ∃ x, bt x0 (i : Int) = x := ⟨_, rfl⟩
    obtain ⟨y, hy⟩ : ∃ y, bt x0 ((i + 1 : Nat) : Int) = y := ⟨_, rfl⟩
    rw [hy] at ih1'
    have hj1 : ∀ o, qanatlaw03_idle.j1 (k + 1 + 1) x0 (d : Int) (i : Int) o = qanatlaw03_idle.j2 (k + 1) x0 (d : Int) (i : Int) o (decide (0 < d) && decide (x = 42) && decide (y = 47)) := fun o => by
      rw [qanatlaw03_idle.j1, w64n (i := i) (by omega), if_pos (show ((i + 1 : Nat) : Int) < (x0.size : Int) by omega), if_pos (show (0 : Int) ≤ (i : Int) by omega), if_pos (show (i : Int) < (x0.size : Int) by omega), if_pos (show (0 : Int) ≤ ((i + 1 : Nat) : Int) by omega), hx, hy, beq_dec]
      by_cases h0 : 0 < d
      · rw [if_pos (by omega), decide_eq_true h0, Bool.true_and]
        by_cases e : x = 42
        · rw [if_pos e, decide_eq_true e, Bool.true_and]
        · rw [if_neg e, decide_eq_false e, Bool.false_and]
      · rw [if_neg (by omega), decide_eq_false h0, Bool.false_and, Bool.false_and]
    have hj2 : ∀ o, qanatlaw03_idle.j1 (k + 1 + 1) x0 (d : Int) (i : Int) o = if o = true then some (S.idle ((bytesOf x0).drop (i + 2)) (d + 1)) else if 0 < d ∧ x = 42 ∧ y = 47 then some (S.idle ((bytesOf x0).drop (i + 2)) (d - 1)) else if 0 < d ∨ S.blank x = true then some (S.idle (y :: (bytesOf x0).drop (i + 2)) d) else some false := fun o => by
      rw [hj1, idle_j2 k x0 d i (by omega) (by omega) (by omega) o _ (fun e => by simp only [Bool.and_eq_true, decide_eq_true_eq] at e; exact e.1.1), ih2 (d + 1) (by omega), ih2 (d - 1) (by omega), ih1', hx]
      simp only [Bool.and_eq_true, decide_eq_true_eq, and_assoc]
    have hop : (if x = 47 then qanatlaw03_idle.j1 (k + 1 + 1) x0 (d : Int) (i : Int) (decide (y = 42)) else qanatlaw03_idle.j1 (k + 1 + 1) x0 (d : Int) (i : Int) false) = qanatlaw03_idle.j1 (k + 1 + 1) x0 (d : Int) (i : Int) (decide (x = 47) && decide (y = 42)) := by
      by_cases e : x = 47
      · rw [if_pos e, decide_eq_true e, Bool.true_and]
      · rw [if_neg e, decide_eq_false e, Bool.false_and]
    rw [hx, hy, beq_dec, show k + 2 = k + 1 + 1 from rfl, hop, hj2]
    conv => { rhs; rw [S.idle] }
    by_cases e1 : x = 47 ∧ y = 42
    · rw [if_pos (by simp [e1.1, e1.2]), if_pos e1]
    · rw [if_neg (by simpa using e1), if_neg e1]
      by_cases e2 : 0 < d ∧ x = 42 ∧ y = 47
      · rw [if_pos e2, if_pos e2]
      · rw [if_neg e2, if_neg e2]
        by_cases e3 : 0 < d ∨ S.blank x = true
        · rw [if_pos e3, if_pos e3]
        · rw [if_neg e3, if_neg e3]
theorem idle_f (x0 : ByteArray) (hs : x0.size ≤ 100000) (k : Nat) (hk : 3 * x0.size < k) : qanatlaw03_idle.f k x0 = some (S.idle (bytesOf x0) 0) := by
  have := idle_l0 x0 hs x0.size k 0 0 (by omega) hk (Nat.le_refl _)
  rw [List.drop_zero] at this
  exact this
theorem lastIdx (x0 : ByteArray) (c : Int) (hs : x0.size ≤ 1000000) : ∀ (m k : Nat), m ≤ x0.size → m < k → ∃ r, bytealg_LastIndexByteString.l0 k x0 c ((m : Int) - 1) = some r
  | m, 0, _, h => absurd h (Nat.not_lt_zero _)
  | 0, k + 1, _, _ => ⟨-1, by rw [bytealg_LastIndexByteString.l0, if_neg (by omega)]⟩
  | m + 1, k + 1, hm, hk => by
    obtain ⟨r, hr⟩ := lastIdx x0 c hs m k (by omega) (by omega)
    rw [bytealg_LastIndexByteString.l0, if_pos (by omega), if_pos (by omega), if_pos (by omega)]
    by_cases e : bt x0 (((m + 1 : Nat) : Int) - 1) = c
    · exact ⟨_, by rw [if_pos e]⟩
    · rw [if_neg e, show wrap64 (((m + 1 : Nat) : Int) - 1 - 1) = (m : Int) - 1 by unfold wrap64; omega]
      exact ⟨r, hr⟩
theorem count_ext (x0 : ByteArray) (n : Nat) : strings_Count.f (x0.extract 0 n) (⟨#[10]⟩ : ByteArray) = some ((((bytesOf x0).take n).count 10 : Nat) : Int) := by
  have h : strings_Count.f (x0.extract 0 n) (⟨#[10]⟩ : ByteArray) = some (Lib.countByte (x0.extract 0 n).data.toList 10 : Int) := rfl
  rw [h]
  have h2 : ((bytesOf (x0.extract 0 n)).count 10 : Nat) = (x0.extract 0 n).data.toList.count 10 := by
    rw [bytesOf_nums]; exact nums_count _ 10
  rw [show Lib.countByte (x0.extract 0 n).data.toList 10 = (x0.extract 0 n).data.toList.count 10 from rfl, ← h2, bytesOf_extract, List.drop_zero, Nat.sub_zero]
theorem place_f (x0 : ByteArray) (at_ k : Nat) (hs : x0.size ≤ 20000) (ha : at_ ≤ x0.size) (hk : 30000 ≤ k) : ∃ c, scan_Place.f k x0 (at_ : Int) = some (((1 + ((bytesOf x0).take at_).count 10 : Nat) : Int), c, 0) := by
  obtain ⟨k, rfl⟩ : ∃ k', k = k' + 1 := ⟨k - 1, by omega⟩
  have hsz : (x0.extract 0 at_).size = at_ := by rw [ByteArray.size_extract]; omega
  obtain ⟨r, hr⟩ := lastIdx (x0.extract 0 at_) 10 (by omega) at_ k (by omega) (by omega)
  have hl : strings_LastIndexByte.f k (x0.extract 0 at_) 10 = some r := by
    unfold strings_LastIndexByte.f bytealg_LastIndexByteString.f
    rw [hsz, show wrap64 ((at_ : Int) - 1) = (at_ : Int) - 1 by unfold wrap64; omega, hr]; rfl
  have hc : ((bytesOf x0).take at_).count 10 ≤ at_ := Nat.le_trans List.count_le_length (by rw [List.length_take]; omega)
  refine ⟨wrap64 ((at_ : Int) - r), ?_⟩
  unfold scan_Place.f scan_limited.f
  rw [if_neg (by omega)]
  simp only [Option.bind_some]
  rw [if_pos trivial, if_neg (by omega), decide_eq_false (by omega), scan_Place.j0, if_neg Bool.false_ne_true, if_pos (by omega), if_pos (by omega), Int.toNat_natCast, count_ext, hl]
  simp only [Option.bind_some]
  congr 2
  unfold wrap64; omega
theorem covers_l0 (x0 : ByteArray) (hs : x0.size ≤ 3000) (all : List S53) : ∀ (ts : List S.Tk) (k e ln e' ln' : Nat) (done : List S53), all = done ++ ts.map toS → all.length ≤ 100000 → 2 * ts.length + 40000 ≤ k → S.Pre (bytesOf x0) e ln ts e' ln' → e' ≤ x0.size → S.idle ((bytesOf x0).drop e') 0 = true →
    qanatlaw03_ScanCovers.l0 k x0 all (e : Int) (ln : Int) (done.length : Int) = some true
  | [], k, e, ln, e', ln', done, hall, hla, hk, hp, he', hid => by
    obtain ⟨rfl, rfl⟩ := hp
    obtain ⟨k, rfl⟩ : ∃ k', k = k' + 1 := ⟨k - 1, by omega⟩
    have hl : all.length = done.length := by rw [hall]; simp
    rw [qanatlaw03_ScanCovers.l0, if_neg (by omega)]
    unfold qanatlaw03_sanity.f
    simp only [Option.bind_some, if_true]
    rw [if_pos (by omega), if_pos (by omega), Int.toNat_natCast, idle_f _ (by rw [ByteArray.size_extract]; omega) k (by rw [ByteArray.size_extract]; omega), bytesOf_rest, hid]
    rfl
  | t :: ts, k, e, ln, e', ln', done, hall, hla, hk, hp, he', hid => by
    obtain ⟨h, hp2⟩ := hp
    obtain ⟨k, rfl⟩ : ∃ k', k = k' + 2 := ⟨k - 2, by omega⟩
    have hLl : (bytesOf x0).length = x0.size := bytesOf_length x0
    have hl : all.length = done.length + (ts.length + 1) := by rw [hall]; simp
    have hrd : rd_T53 all (done.length : Int) = toS t := by
      unfold rd_T53
      rw [Int.toNat_natCast, List.getD_eq_getElem?_getD, hall, List.getElem?_append_right (Nat.le_refl _)]
      simp
    have ih := covers_l0 x0 hs all ts k t.to t.line e' ln' (done ++ [toS t]) (by rw [hall]; simp) hla (by simp only [List.length_cons] at hk; omega) hp2 he' hid
    rw [List.length_append, List.length_singleton] at ih
    have h1 := h.h1
    have h2 := h.h2
    have h3 := h.h3
    have h4 := h.h4
    rw [hLl] at h3
    have hj2 : qanatlaw03_ScanCovers.j2 (k + 1) x0 all (e : Int) (done.length : Int) false (t.kind : Int) (strOfNums t.text) t.gap (t.line : Int) (t.at_ : Int) (t.to : Int) = some true := by
      obtain ⟨c, hc⟩ := place_f x0 t.at_ k (by omega) (by omega) (by omega)
      have hsz : (x0.extract e t.at_).size = t.at_ - e := by rw [ByteArray.size_extract]; omega
      have hi : S.idle (bytesOf (x0.extract e t.at_)) 0 = true := by rw [bytesOf_extract]; exact h.h6
      rw [qanatlaw03_ScanCovers.j2, if_neg Bool.false_ne_true, if_pos (by omega), if_pos (by omega), if_pos (by omega), Int.toNat_natCast, Int.toNat_natCast, idle_f _ (by omega) k (by omega), hi, hc]
      simp only [Option.bind_some, if_true]
      rw [if_pos (by rw [h.h7]), w64n (by omega)]
      exact ih
    rw [qanatlaw03_ScanCovers.l0, if_pos (by omega), if_pos (by omega), hrd]
    show (if (t.at_ : Int) < (e : Int) then _ else _) = _
    rw [if_neg (by omega)]
    show (if (t.to : Int) < (t.at_ : Int) then _ else _) = _
    rw [if_neg (by omega)]
    show (if (t.to : Int) > (x0.size : Int) then _ else _) = _
    rw [if_neg (by omega)]
    show (if (t.line : Int) < (ln : Int) then _ else _) = _
    rw [if_neg (by omega)]
    show (if (t.kind : Int) = 4 then _ else _) = _
    by_cases hk4 : t.kind = 4
    · rw [if_pos (by omega)]; exact hj2
    · rw [if_neg (by omega)]
      have := h.h5 hk4
      have e5 : ((toS t).f5 == (toS t).f4) = false := by
        rw [beq_eq_false_iff_ne]; show ((t.to : Nat) : Int) ≠ ((t.at_ : Nat) : Int); omega
      rw [e5]; exact hj2
theorem scan_covers_pure : qanatlaw03_ScanCovers.Pure := fun a0 _ => by
  refine ⟨60002, ?_⟩
  unfold qanatlaw03_ScanCovers.f qanatlaw03_small.f
  by_cases h0 : (a0.size : Int) ≤ 3000
  · unfold scan_Tokens.f
    rw [if_pos (by omega)]
    cases he : (S.scan (bytesOf a0)).err with
    | none =>
      rw [if_pos (show errC none = 0 from rfl)]
      simp only [Option.bind_some]
      rw [decide_eq_true h0, if_pos rfl]
      show qanatlaw03_ScanCovers.j0 (60001 + 1) a0 ((S.tokens (bytesOf a0)).map toS) false = some true
      rw [qanatlaw03_ScanCovers.j0, if_neg Bool.false_ne_true]
      obtain ⟨e', ln', g1, g2, g3⟩ := S.scan_cov (bo_range a0) he
      have hl := S.tokens_length (bo_range a0)
      have hLl : (bytesOf a0).length = a0.size := bytesOf_length a0
      exact covers_l0 a0 (by omega) ((S.tokens (bytesOf a0)).map toS) (S.tokens (bytesOf a0)) 60001 0 1 e' ln' [] (by simp) (by rw [List.length_map]; omega) (by omega) g1 (by omega) g3
    | some p =>
      have hp := S.scan_err (c := p.1) (ln := p.2) he
      rw [if_neg (show ¬ errC (some p) = 0 from fun e => hp (Int.ofNat_eq_zero.1 e))]
      simp only [Option.bind_some]
      rw [decide_eq_true h0, if_pos rfl]
      rfl
  · have hx : ∃ r, scan_Tokens.f a0 = some r := by
      unfold scan_Tokens.f
      split
      · split <;> exact ⟨_, rfl⟩
      · exact ⟨_, rfl⟩
    obtain ⟨r, hr⟩ := hx
    rw [hr]
    simp only [Option.bind_some]
    rw [decide_eq_false h0, if_neg Bool.false_ne_true]
    rfl
end Go.Proofs.YtkkpjonfaflkmaaGreatDoor.T
