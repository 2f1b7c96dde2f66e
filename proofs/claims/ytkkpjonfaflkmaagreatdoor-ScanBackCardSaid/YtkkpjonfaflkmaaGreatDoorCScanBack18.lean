/- Part 18 of the proof of ScanBack: the functions that it calls return what their plain descriptions say. -/
import Derived.Test.YtkkpjonfaflkmaaGreatDoorCScanBack3
import Derived.Test.YtkkpjonfaflkmaaGreatDoorCScanBack17
import Derived.Test.YtkkpjonfaflkmaaGreatDoorCScanBack12
import Derived.Test.YtkkpjonfaflkmaaGreatDoorCScanBack14
import Derived.Test.YtkkpjonfaflkmaaGreatDoorCScanBack4

namespace Go.Proofs.YtkkpjonfaflkmaaGreatDoor.T
set_option linter.unusedSimpArgs false
open Go.RowKit Go.Proofs.YtkkpjonfaflkmaaGreatDoorW.PrintWords Go.Proofs.YtkkpjonfaflkmaaGreatDoorW.PrintLast Go.Proofs.YtkkpjonfaflkmaaGreatDoorW.PrintMore
attribute [local go_sem] max2_int min2_int max_two min_two max_three min_three max_four min_four   -- for this text's walks alone
set_option linter.unusedVariables false
set_option linter.unusedSimpArgs false
def qanatlaw03_ScanBack.j0 : Nat → List (S53) → Bool → Option (Bool)
  | 0, _, _ => none
  | k + 1, x3, x28 => if x28 = true then ((qanatlaw03_sanity.f).bind fun t436 => (some t436)) else ((scan_Write.f x3).bind fun bt437 => (if bt437.2 = 3 then ((qanatlaw03_sanity.f).bind fun t439 => (some t439)) else ((scan_Tokens.f bt437.1).bind fun bt440 => ((scan_Write.f bt440.1).bind fun bt446 => ((qanatlaw03_sanity.f).bind fun t448 => (if t448 = true then (if bt437.2 = 0 then (if bt440.2.2.2 = 0 then ((qanatref03_Same.f k x3 bt440.1).bind fun t449 => (if t449 = true then (if bt446.2 = 0 then (some (bt446.1.toList == bt437.1.toList)) else (some false)) else (some false))) else (some false)) else (some false)) else (some false)))))))
def qanatlaw03_ScanBack.f (k : Nat) (a0 : ByteArray) : Option (Bool) := (scan_Tokens.f a0).bind fun bt429 => ((qanatlaw03_small.f a0).bind fun t435 => (if t435 = true then (qanatlaw03_ScanBack.j0 k bt429.1 (bt429.2.2.2 != 0)) else (qanatlaw03_ScanBack.j0 k bt429.1 true)))
theorem qanatlaw03_ScanBack.mono_l : ∀ k, (∀ y0 y1, LeO (qanatlaw03_ScanBack.j0 k y0 y1) (qanatlaw03_ScanBack.j0 (k + 1) y0 y1))
  | 0 => fun _ _ r h => by simp [qanatlaw03_ScanBack.j0] at h
  | k + 1 => by
    have ih0 := qanatlaw03_ScanBack.mono_l k
    · intro y0 y1
      unfold qanatlaw03_ScanBack.j0
      repeat' first
      | (with_reducible exact ih0 _ _)
      | (with_reducible exact qanatref03_Same.mono _ _ _)
      | (with_reducible exact LeO.refl _)
      | (with_reducible exact LeO.none _)
      | (with_reducible refine LeO.ite ?_ ?_)
      | (with_reducible refine LeO.bind ?_ (fun _ => ?_))
      | exact ih0 _ _
      | exact qanatref03_Same.mono _ _ _
      | exact LeO.none _
      | refine LeO.ite ?_ ?_
      | refine LeO.bind ?_ (fun _ => ?_)
theorem qanatlaw03_ScanBack.mono : ∀ a0 k, LeO (qanatlaw03_ScanBack.f k a0) (qanatlaw03_ScanBack.f (k + 1) a0) := by
  intro a0 k
  have ih0 := qanatlaw03_ScanBack.mono_l k
  unfold qanatlaw03_ScanBack.f
  repeat' first
      | (with_reducible exact ih0 _ _)
      | (with_reducible exact qanatref03_Same.mono _ _ _)
      | (with_reducible exact LeO.refl _)
      | (with_reducible exact LeO.none _)
      | (with_reducible refine LeO.ite ?_ ?_)
      | (with_reducible refine LeO.bind ?_ (fun _ => ?_))
      | exact ih0 _ _
      | exact qanatref03_Same.mono _ _ _
      | exact LeO.none _
      | refine LeO.ite ?_ ?_
      | refine LeO.bind ?_ (fun _ => ?_)
set_option maxHeartbeats 8000000 in
set_option maxRecDepth 100000 in
theorem qanatlaw03_ScanBack.calls (k : Nat) (a0 : ByteArray) (r : Bool) (hr : r = true) (w : World) (hT : TabOK w) (h : qanatlaw03_ScanBack.f k a0 = some r) :
    Calls Tryz.prog 7 #[.string a0] w fun e w' => e = .returned (.bool r) ∧ Below w.heap.size w w' := by
  have HB := Aside0.mk (Below.refl w.heap.size w)
  have H : ((scan_Tokens.f a0).bind fun bt429 => ((qanatlaw03_small.f a0).bind fun t435 => (if t435 = true then (qanatlaw03_ScanBack.j0 k bt429.1 (bt429.2.2.2 != 0)) else (qanatlaw03_ScanBack.j0 k bt429.1 true)))) = some r := h
  clear h
  replace H := Option.bind_eq_some_iff.mp H
  obtain ⟨⟨t429, t430, t431, t432⟩, A20, H⟩ := H
  replace H : ((qanatlaw03_small.f a0).bind fun t435 => (if t435 = true then (qanatlaw03_ScanBack.j0 k t429 (t432 != 0)) else (qanatlaw03_ScanBack.j0 k t429 true))) = some r := H
  have A2 := Aside0.mk A20
  clear A20
  have HC3 := Aside0.mk H
  clear H
  go_enter Tryz.func7, Tryz.ntmps7
  go_upto_region 2 with (first | ((with_reducible refine gate_callee (f := 17) rfl ?_); refine goesL_ (some 17) rfl rfl Tryz.func17 (by kernel_rfl) rfl #[.string a0] rfl (by (try simp only [List.map_toArray, List.map_cons, List.map_nil]); first | done | rfl | (simp only [List.length_drop, List.length_take]; rfl)) ?_; (with_reducible refine (scan_Tokens.calls a0 t429 t430 t431 t432 _ (TabOK.of_below hT (by repeat (first | (with_reducible first | exact HB.out | apply below_alloc | apply pw_below_drewN | apply below_drew1) | exact HB.out))) A2.out).mono ?_); rintro e w4 ⟨v433, rfl, ho0, hb⟩; refine ⟨_, rfl, ?_⟩; have n0_ := Aside0.mk (Kd.R_lower ho0 (below_size (by repeat (first | (with_reducible first | exact HB.out | apply below_alloc | apply pw_below_drewN | apply below_drew1) | exact HB.out)))); have n1_ := Aside0.mk (below_step (by repeat (first | (with_reducible first | exact HB.out | apply below_alloc | apply pw_below_drewN | apply below_drew1) | exact HB.out)) hb); clear HB; have HO434 := n0_; have HB := n1_; clear n0_ n1_; (try clear hb); (try clear hb2); (try clear hk); (try clear hi); (try clear ho0)))
  (try simp only [Act.put, List.setIfInBounds_toArray, List.set_cons_zero, List.set_cons_succ])
  go_cut [28] (fun v28 wc => ∃ (kq : Nat) (x28_2 : Bool), v28 = .bool x28_2 ∧ Aside0 (qanatlaw03_ScanBack.j0 kq t429 x28_2 = some r) ∧ Aside0 (kq ≤ k) ∧ Aside0 (Kd.R k53 53 wc w.heap.size (fun _ => True) v433 t429) ∧ Aside0 (Below w.heap.size w wc))
  case first =>
    have H := HC3.out
    clear HC3
    replace H := Option.bind_eq_some_iff.mp H
    obtain ⟨t435, A50, H⟩ := H
    replace H : (if t435 = true then (qanatlaw03_ScanBack.j0 k t429 (t432 != 0)) else (qanatlaw03_ScanBack.j0 k t429 true)) = some r := H
    have A5 := Aside0.mk A50
    clear A50
    by_cases c6 : t435 = true
    · subst c6
      have H1 : (qanatlaw03_ScanBack.j0 k t429 (t432 != 0)) = some r := by rw [if_pos rfl] at H; exact H
      clear H
      have H := H1
      clear H1
      have H' := Aside0.mk H
      clear H
      go_wp2_with (first | ((with_reducible refine gate_callee (f := 39) rfl ?_); refine goesL_ (some 23) rfl rfl Tryz.func39 (by kernel_rfl) rfl #[.string a0] rfl (by (try simp only [List.map_toArray, List.map_cons, List.map_nil]); first | done | rfl | (simp only [List.length_drop, List.length_take]; rfl)) ?_; (with_reducible refine (qanatlaw03_small.calls a0 true _ A5.out).mono ?_); rintro e w' ⟨rfl, ⟨nd, rfl⟩⟩; refine ⟨_, rfl, ?_⟩))
      go_meet
      case rel => exact ⟨_, ((t432 != 0)), (by first | rfl | (simp; done) | (simp [*]; done)), H', ⟨by first | omega | exact Nat.le_refl _⟩, ⟨by (with_reducible repeat (first | apply Kd.R_alloc | apply Kd.R_drewN | apply Kd.R_drew)); exact HO434.out⟩, ⟨by repeat (first | (with_reducible first | exact HB.out | apply below_alloc | apply pw_below_drewN | apply below_drew1) | exact HB.out)⟩⟩
    · replace c6 := Bool.eq_false_iff.mpr c6
      subst c6
      have H1 : (qanatlaw03_ScanBack.j0 k t429 true) = some r := by rw [if_neg (show ¬ (false = true) by decide)] at H; exact H
      clear H
      have H := H1
      clear H1
      have H' := Aside0.mk H
      clear H
      go_wp2_with (first | ((with_reducible refine gate_callee (f := 39) rfl ?_); refine goesL_ (some 23) rfl rfl Tryz.func39 (by kernel_rfl) rfl #[.string a0] rfl (by (try simp only [List.map_toArray, List.map_cons, List.map_nil]); first | done | rfl | (simp only [List.length_drop, List.length_take]; rfl)) ?_; (with_reducible refine (qanatlaw03_small.calls a0 false _ A5.out).mono ?_); rintro e w' ⟨rfl, ⟨nd, rfl⟩⟩; refine ⟨_, rfl, ?_⟩))
      go_meet
      case rel => exact ⟨_, (true), (by first | rfl | (simp; done) | (simp [*]; done)), H', ⟨by first | omega | exact Nat.le_refl _⟩, ⟨by (with_reducible repeat (first | apply Kd.R_alloc | apply Kd.R_drewN | apply Kd.R_drew)); exact HO434.out⟩, ⟨by repeat (first | (with_reducible first | exact HB.out | apply below_alloc | apply pw_below_drewN | apply below_drew1) | exact HB.out)⟩⟩
  case rest =>
    clear HC3
    try clear c1
    try clear p2
    try clear c3
    try clear c6
    obtain ⟨kq, x28_2, rfl, HA, HJ2, HO_3, HB⟩ := hcut
    cases kq with
    | zero => exact absurd HA.out (by simp [qanatlaw03_ScanBack.j0])
    | succ kj2 =>
      have H := HA.out
      clear HA
      simp only [qanatlaw03_ScanBack.j0] at H
      by_cases c7 : x28_2 = true
      · subst c7
        have H1 : ((qanatlaw03_sanity.f).bind fun t436 => (some t436)) = some r := by rw [if_pos rfl] at H; exact H
        clear H
        have H := H1
        clear H1
        replace H := Option.bind_eq_some_iff.mp H
        obtain ⟨t436, A80, H⟩ := H
        replace H : (some t436) = some r := H
        have A8 := Aside0.mk A80
        clear A80
        obtain rfl := Option.some.inj H
        go_wp2_with (first | ((with_reducible refine gate_callee (f := 16) rfl ?_); refine goesL_ (some 29) rfl rfl Tryz.func16 (by kernel_rfl) rfl #[] rfl (by (try simp only [List.map_toArray, List.map_cons, List.map_nil]); first | done | rfl | (simp only [List.length_drop, List.length_take]; rfl)) ?_; (with_reducible refine (qanatlaw03_sanity.calls  t436 _ (TabOK.of_below hT (by repeat (first | (with_reducible first | exact HB.out | apply below_alloc | apply pw_below_drewN | apply below_drew1) | exact HB.out))) A8.out).mono ?_); rintro e w9 ⟨rfl, hb⟩; refine ⟨_, rfl, ?_⟩; have n0_ := Aside0.mk (Kd.R_below (by (with_reducible repeat (first | apply Kd.R_alloc | apply Kd.R_drewN | apply Kd.R_drew)); exact HO_3.out) hb); have n1_ := Aside0.mk (below_step (by repeat (first | (with_reducible first | exact HB.out | apply below_alloc | apply pw_below_drewN | apply below_drew1) | exact HB.out)) hb); clear HO_3; clear HB; have HO_3 := n0_; have HB := n1_; clear n0_ n1_; (try clear hb); (try clear hb2); (try clear hk); (try clear hi)))
        go_ret
        exact ⟨by first | rfl | (simp [errW_none, errW_some] <;> rfl) | (simp [*, errW_none, errW_some] <;> rfl), by repeat (first | (with_reducible first | exact HB.out | apply below_alloc | apply pw_below_drewN | apply below_drew1) | exact HB.out)⟩
      · replace c7 := Bool.eq_false_iff.mpr c7
        subst c7
        have H1 : ((scan_Write.f t429).bind fun bt437 => (if bt437.2 = 3 then ((qanatlaw03_sanity.f).bind fun t439 => (some t439)) else ((scan_Tokens.f bt437.1).bind fun bt440 => ((scan_Write.f bt440.1).bind fun bt446 => ((qanatlaw03_sanity.f).bind fun t448 => (if t448 = true then (if bt437.2 = 0 then (if bt440.2.2.2 = 0 then ((qanatref03_Same.f kj2 t429 bt440.1).bind fun t449 => (if t449 = true then (if bt446.2 = 0 then (some (bt446.1.toList == bt437.1.toList)) else (some false)) else (some false))) else (some false)) else (some false)) else (some false))))))) = some r := by rw [if_neg (show ¬ (false = true) by decide)] at H; exact H
        clear H
        have H := H1
        clear H1
        replace H := Option.bind_eq_some_iff.mp H
        obtain ⟨⟨t437, t438⟩, A100, H⟩ := H
        replace H : (if t438 = 3 then ((qanatlaw03_sanity.f).bind fun t439 => (some t439)) else ((scan_Tokens.f t437).bind fun bt440 => ((scan_Write.f bt440.1).bind fun bt446 => ((qanatlaw03_sanity.f).bind fun t448 => (if t448 = true then (if t438 = 0 then (if bt440.2.2.2 = 0 then ((qanatref03_Same.f kj2 t429 bt440.1).bind fun t449 => (if t449 = true then (if bt446.2 = 0 then (some (bt446.1.toList == t437.toList)) else (some false)) else (some false))) else (some false)) else (some false)) else (some false)))))) = some r := H
        have A10 := Aside0.mk A100
        clear A100
        by_cases c11 : t438 = 3
        · rw [if_pos c11] at H
          have c11b0 : (t438 == 3) = true := beq_iff_eq.mpr c11
          have c11b1 : (t438 != 3) = false := bne_eq_false_iff_eq.mpr c11
          clear c11
          replace H := Option.bind_eq_some_iff.mp H
          obtain ⟨t439, A120, H⟩ := H
          replace H : (some t439) = some r := H
          have A12 := Aside0.mk A120
          clear A120
          obtain rfl := Option.some.inj H
          obtain ⟨Ao13, co13, eo13⟩ := Kd.R_slice HO_3.out
          subst eo13
          go_wp2_with (first | ((with_reducible refine gate_callee (f := 35) rfl ?_); refine goesL_ (some 32) rfl rfl Tryz.func35 (by kernel_rfl) rfl #[.slice Ao13 t429.length co13] rfl (by (try simp only [List.map_toArray, List.map_cons, List.map_nil]); first | done | rfl | (simp only [List.length_drop, List.length_take]; rfl)) ?_; (with_reducible refine (scan_Write.calls _ _ t429 t437 t438 _ (TabOK.of_below hT (by repeat (first | (with_reducible first | exact HB.out | apply below_alloc | apply pw_below_drewN | apply below_drew1) | exact HB.out))) ?side1 ?side2 A10.out).mono ?_); (case side1 => repeat (first | exact (Kd.R_reads' HO_3.out).2.2 | (with_reducible refine Kd.C_alloc ?_ _) | (with_reducible refine Kd.C_drewN ?_ _) | (with_reducible refine Kd.C_drew ?_))); (case side2 => exact (Kd.R_reads' HO_3.out).2.1); rintro e w14 ⟨rfl, hb⟩; refine ⟨_, rfl, ?_⟩; have n0_ := Aside0.mk (Kd.R_below (by (with_reducible repeat (first | apply Kd.R_alloc | apply Kd.R_drewN | apply Kd.R_drew)); exact HO_3.out) hb); have n1_ := Aside0.mk (below_step (by repeat (first | (with_reducible first | exact HB.out | apply below_alloc | apply pw_below_drewN | apply below_drew1) | exact HB.out)) hb); clear HO_3; clear HB; have HO_3 := n0_; have HB := n1_; clear n0_ n1_; (try clear hb); (try clear hb2); (try clear hk); (try clear hi)) | ((with_reducible refine gate_callee (f := 16) rfl ?_); refine goesL_ (some 37) rfl rfl Tryz.func16 (by kernel_rfl) rfl #[] rfl (by (try simp only [List.map_toArray, List.map_cons, List.map_nil]); first | done | rfl | (simp only [List.length_drop, List.length_take]; rfl)) ?_; (with_reducible refine (qanatlaw03_sanity.calls  t439 _ (TabOK.of_below hT (by repeat (first | (with_reducible first | exact HB.out | apply below_alloc | apply pw_below_drewN | apply below_drew1) | exact HB.out))) A12.out).mono ?_); rintro e w15 ⟨rfl, hb⟩; refine ⟨_, rfl, ?_⟩; have n0_ := Aside0.mk (Kd.R_below (by (with_reducible repeat (first | apply Kd.R_alloc | apply Kd.R_drewN | apply Kd.R_drew)); exact HO_3.out) hb); have n1_ := Aside0.mk (below_step (by repeat (first | (with_reducible first | exact HB.out | apply below_alloc | apply pw_below_drewN | apply below_drew1) | exact HB.out)) hb); clear HO_3; clear HB; have HO_3 := n0_; have HB := n1_; clear n0_ n1_; (try clear hb); (try clear hb2); (try clear hk); (try clear hi)))
          go_ret
          exact ⟨by first | rfl | (simp [errW_none, errW_some] <;> rfl) | (simp [*, errW_none, errW_some] <;> rfl), by repeat (first | (with_reducible first | exact HB.out | apply below_alloc | apply pw_below_drewN | apply below_drew1) | exact HB.out)⟩
        · rw [if_neg c11] at H
          have c11b0 : (t438 == 3) = false := beq_eq_false_iff_ne.mpr c11
          have c11b1 : (t438 != 3) = true := bne_iff_ne.mpr c11
          replace H := Option.bind_eq_some_iff.mp H
          obtain ⟨⟨t440, t441, t442, t443⟩, A160, H⟩ := H
          replace H : ((scan_Write.f t440).bind fun bt446 => ((qanatlaw03_sanity.f).bind fun t448 => (if t448 = true then (if t438 = 0 then (if t443 = 0 then ((qanatref03_Same.f kj2 t429 t440).bind fun t449 => (if t449 = true then (if bt446.2 = 0 then (some (bt446.1.toList == t437.toList)) else (some false)) else (some false))) else (some false)) else (some false)) else (some false)))) = some r := H
          have A16 := Aside0.mk A160
          clear A160
          replace H := Option.bind_eq_some_iff.mp H
          obtain ⟨⟨t446, t447⟩, A170, H⟩ := H
          replace H : ((qanatlaw03_sanity.f).bind fun t448 => (if t448 = true then (if t438 = 0 then (if t443 = 0 then ((qanatref03_Same.f kj2 t429 t440).bind fun t449 => (if t449 = true then (if t447 = 0 then (some (t446.toList == t437.toList)) else (some false)) else (some false))) else (some false)) else (some false)) else (some false))) = some r := H
          have A17 := Aside0.mk A170
          clear A170
          replace H := Option.bind_eq_some_iff.mp H
          obtain ⟨t448, A180, H⟩ := H
          replace H : (if t448 = true then (if t438 = 0 then (if t443 = 0 then ((qanatref03_Same.f kj2 t429 t440).bind fun t449 => (if t449 = true then (if t447 = 0 then (some (t446.toList == t437.toList)) else (some false)) else (some false))) else (some false)) else (some false)) else (some false)) = some r := H
          have A18 := Aside0.mk A180
          clear A180
          by_cases c19 : t448 = true
          · subst c19
            have H1 : (if t438 = 0 then (if t443 = 0 then ((qanatref03_Same.f kj2 t429 t440).bind fun t449 => (if t449 = true then (if t447 = 0 then (some (t446.toList == t437.toList)) else (some false)) else (some false))) else (some false)) else (some false)) = some r := by rw [if_pos rfl] at H; exact H
            clear H
            have H := H1
            clear H1
            by_cases c20 : t438 = 0
            · rw [if_pos c20] at H
              have c20b0 : (t438 == 0) = true := beq_iff_eq.mpr c20
              have c20b1 : (t438 != 0) = false := bne_eq_false_iff_eq.mpr c20
              clear c20
              by_cases c21 : t443 = 0
              · rw [if_pos c21] at H
                have c21b0 : (t443 == 0) = true := beq_iff_eq.mpr c21
                have c21b1 : (t443 != 0) = false := bne_eq_false_iff_eq.mpr c21
                clear c21
                replace H := Option.bind_eq_some_iff.mp H
                obtain ⟨t449, A220, H⟩ := H
                replace H : (if t449 = true then (if t447 = 0 then (some (t446.toList == t437.toList)) else (some false)) else (some false)) = some r := H
                have A22 := Aside0.mk A220
                clear A220
                by_cases c23 : t449 = true
                · subst c23
                  have H1 : (if t447 = 0 then (some (t446.toList == t437.toList)) else (some false)) = some r := by rw [if_pos rfl] at H; exact H
                  clear H
                  have H := H1
                  clear H1
                  by_cases c24 : t447 = 0
                  · rw [if_pos c24] at H
                    have c24b0 : (t447 == 0) = true := beq_iff_eq.mpr c24
                    have c24b1 : (t447 != 0) = false := bne_eq_false_iff_eq.mpr c24
                    clear c24
                    obtain rfl := Option.some.inj H
                    obtain ⟨Ao25, co25, eo25⟩ := Kd.R_slice HO_3.out
                    subst eo25
                    go_wp2_with (first | ((with_reducible refine gate_callee (f := 35) rfl ?_); refine goesL_ (some 32) rfl rfl Tryz.func35 (by kernel_rfl) rfl #[.slice Ao25 t429.length co25] rfl (by (try simp only [List.map_toArray, List.map_cons, List.map_nil]); first | done | rfl | (simp only [List.length_drop, List.length_take]; rfl)) ?_; (with_reducible refine (scan_Write.calls _ _ t429 t437 t438 _ (TabOK.of_below hT (by repeat (first | (with_reducible first | exact HB.out | apply below_alloc | apply pw_below_drewN | apply below_drew1) | exact HB.out))) ?side1 ?side2 A10.out).mono ?_); (case side1 => repeat (first | exact (Kd.R_reads' HO_3.out).2.2 | (with_reducible refine Kd.C_alloc ?_ _) | (with_reducible refine Kd.C_drewN ?_ _) | (with_reducible refine Kd.C_drew ?_))); (case side2 => exact (Kd.R_reads' HO_3.out).2.1); rintro e w26 ⟨rfl, hb⟩; refine ⟨_, rfl, ?_⟩; have n0_ := Aside0.mk (Kd.R_below (by (with_reducible repeat (first | apply Kd.R_alloc | apply Kd.R_drewN | apply Kd.R_drew)); exact HO_3.out) hb); have n1_ := Aside0.mk (below_step (by repeat (first | (with_reducible first | exact HB.out | apply below_alloc | apply pw_below_drewN | apply below_drew1) | exact HB.out)) hb); clear HO_3; clear HB; have HO_3 := n0_; have HB := n1_; clear n0_ n1_; (try clear hb); (try clear hb2); (try clear hk); (try clear hi)) | ((with_reducible refine gate_callee (f := 17) rfl ?_); refine goesL_ (some 40) rfl rfl Tryz.func17 (by kernel_rfl) rfl #[.string t437] rfl (by (try simp only [List.map_toArray, List.map_cons, List.map_nil]); first | done | rfl | (simp only [List.length_drop, List.length_take]; rfl)) ?_; (with_reducible refine (scan_Tokens.calls t437 t440 t441 t442 t443 _ (TabOK.of_below hT (by repeat (first | (with_reducible first | exact HB.out | apply below_alloc | apply pw_below_drewN | apply below_drew1) | exact HB.out))) A16.out).mono ?_); rintro e w27 ⟨v444, rfl, ho0, hb⟩; refine ⟨_, rfl, ?_⟩; have n0_ := Aside0.mk (Kd.R_elder' (by (with_reducible repeat (first | apply Kd.R_alloc | apply Kd.R_drewN | apply Kd.R_drew)); exact HO_3.out) (Kd.R_base ho0) hb); have n1_ := Aside0.mk (Kd.R_lower (Kd.R_new' ho0 (Kd.R_lt (by (with_reducible repeat (first | apply Kd.R_alloc | apply Kd.R_drewN | apply Kd.R_drew)); exact HO_3.out))) (below_size (by repeat (first | (with_reducible first | exact HB.out | apply below_alloc | apply pw_below_drewN | apply below_drew1) | exact HB.out)))); have n2_ := Aside0.mk (below_step (by repeat (first | (with_reducible first | exact HB.out | apply below_alloc | apply pw_below_drewN | apply below_drew1) | exact HB.out)) hb); clear HO_3; clear HB; have HO_3 := n0_; have HO445 := n1_; have HB := n2_; clear n0_ n1_ n2_; (try clear hb); (try clear hb2); (try clear hk); (try clear hi); (try clear ho0); obtain ⟨Ao28, co28, eo28⟩ := Kd.R_slice HO445.out; subst eo28) | ((with_reducible refine gate_callee (f := 35) rfl ?_); refine goesL_ (some 47) rfl rfl Tryz.func35 (by kernel_rfl) rfl #[.slice Ao28 t440.length co28] rfl (by (try simp only [List.map_toArray, List.map_cons, List.map_nil]); first | done | rfl | (simp only [List.length_drop, List.length_take]; rfl)) ?_; (with_reducible refine (scan_Write.calls _ _ t440 t446 t447 _ (TabOK.of_below hT (by repeat (first | (with_reducible first | exact HB.out | apply below_alloc | apply pw_below_drewN | apply below_drew1) | exact HB.out))) ?side1 ?side2 A17.out).mono ?_); (case side1 => repeat (first | exact (Kd.R_reads' HO445.out).2.2 | (with_reducible refine Kd.C_alloc ?_ _) | (with_reducible refine Kd.C_drewN ?_ _) | (with_reducible refine Kd.C_drew ?_))); (case side2 => exact (Kd.R_reads' HO445.out).2.1); rintro e w29 ⟨rfl, hb⟩; refine ⟨_, rfl, ?_⟩; have n0_ := Aside0.mk (Kd.R_below (by (with_reducible repeat (first | apply Kd.R_alloc | apply Kd.R_drewN | apply Kd.R_drew)); exact HO_3.out) hb); have n1_ := Aside0.mk (Kd.R_below (by (with_reducible repeat (first | apply Kd.R_alloc | apply Kd.R_drewN | apply Kd.R_drew)); exact HO445.out) hb); have n2_ := Aside0.mk (below_step (by repeat (first | (with_reducible first | exact HB.out | apply below_alloc | apply pw_below_drewN | apply below_drew1) | exact HB.out)) hb); clear HO_3; clear HO445; clear HB; have HO_3 := n0_; have HO445 := n1_; have HB := n2_; clear n0_ n1_ n2_; (try clear hb); (try clear hb2); (try clear hk); (try clear hi)) | ((with_reducible refine gate_callee (f := 16) rfl ?_); refine goesL_ (some 50) rfl rfl Tryz.func16 (by kernel_rfl) rfl #[] rfl (by (try simp only [List.map_toArray, List.map_cons, List.map_nil]); first | done | rfl | (simp only [List.length_drop, List.length_take]; rfl)) ?_; (with_reducible refine (qanatlaw03_sanity.calls  true _ (TabOK.of_below hT (by repeat (first | (with_reducible first | exact HB.out | apply below_alloc | apply pw_below_drewN | apply below_drew1) | exact HB.out))) A18.out).mono ?_); rintro e w30 ⟨rfl, hb⟩; refine ⟨_, rfl, ?_⟩; have n0_ := Aside0.mk (Kd.R_below (by (with_reducible repeat (first | apply Kd.R_alloc | apply Kd.R_drewN | apply Kd.R_drew)); exact HO_3.out) hb); have n1_ := Aside0.mk (Kd.R_below (by (with_reducible repeat (first | apply Kd.R_alloc | apply Kd.R_drewN | apply Kd.R_drew)); exact HO445.out) hb); have n2_ := Aside0.mk (below_step (by repeat (first | (with_reducible first | exact HB.out | apply below_alloc | apply pw_below_drewN | apply below_drew1) | exact HB.out)) hb); clear HO_3; clear HO445; clear HB; have HO_3 := n0_; have HO445 := n1_; have HB := n2_; clear n0_ n1_ n2_; (try clear hb); (try clear hb2); (try clear hk); (try clear hi)) | (go_at_call 38; (with_reducible refine (qanatref03_Same.calls kj2 _ _ t429 _ _ t440 true _ ?side1 ?side2 ?side3 ?side4 A22.out).mono ?_); (case side1 => repeat (first | exact (Kd.R_reads' HO_3.out).2.2 | (with_reducible refine Kd.C_alloc ?_ _) | (with_reducible refine Kd.C_drewN ?_ _) | (with_reducible refine Kd.C_drew ?_))); (case side2 => exact (Kd.R_reads' HO_3.out).2.1); (case side3 => repeat (first | exact (Kd.R_reads' HO445.out).2.2 | (with_reducible refine Kd.C_alloc ?_ _) | (with_reducible refine Kd.C_drewN ?_ _) | (with_reducible refine Kd.C_drew ?_))); (case side4 => exact (Kd.R_reads' HO445.out).2.1); rintro e w' ⟨rfl, ⟨nd, rfl⟩⟩))
                    go_ret
                    exact ⟨by first | rfl | (simp [errW_none, errW_some] <;> rfl) | (simp [*, errW_none, errW_some] <;> rfl), by repeat (first | (with_reducible first | exact HB.out | apply below_alloc | apply pw_below_drewN | apply below_drew1) | exact HB.out)⟩
                  · rw [if_neg c24] at H
                    have c24b0 : (t447 == 0) = false := beq_eq_false_iff_ne.mpr c24
                    have c24b1 : (t447 != 0) = true := bne_iff_ne.mpr c24
                    exact absurd ((Option.some.inj H).trans hr) (by decide)
                · replace c23 := Bool.eq_false_iff.mpr c23
                  subst c23
                  have H1 : (some false) = some r := by rw [if_neg (show ¬ (false = true) by decide)] at H; exact H
                  clear H
                  have H := H1
                  clear H1
                  exact absurd ((Option.some.inj H).trans hr) (by decide)
              · rw [if_neg c21] at H
                have c21b0 : (t443 == 0) = false := beq_eq_false_iff_ne.mpr c21
                have c21b1 : (t443 != 0) = true := bne_iff_ne.mpr c21
                exact absurd ((Option.some.inj H).trans hr) (by decide)
            · rw [if_neg c20] at H
              have c20b0 : (t438 == 0) = false := beq_eq_false_iff_ne.mpr c20
              have c20b1 : (t438 != 0) = true := bne_iff_ne.mpr c20
              exact absurd ((Option.some.inj H).trans hr) (by decide)
          · replace c19 := Bool.eq_false_iff.mpr c19
            subst c19
            have H1 : (some false) = some r := by rw [if_neg (show ¬ (false = true) by decide)] at H; exact H
            clear H
            have H := H1
            clear H1
            exact absurd ((Option.some.inj H).trans hr) (by decide)
def qanatlaw03_ScanBack.Pure : Prop := ∀ (a0 : ByteArray), a0.size ≤ 140737488351232 → ∃ k, qanatlaw03_ScanBack.f k a0 = some true
theorem qanatlaw03_ScanBack.walk (P : qanatlaw03_ScanBack.Pure) (a0 : ByteArray) (w : World) (hT : TabOK w) (w0 : a0.size ≤ 140737488351232) :
    Calls Tryz.prog 7 #[.string a0] w fun e w' => e = .returned (.bool true) ∧ Below w.heap.size w w' := by
  obtain ⟨k, h⟩ := P a0 w0
  refine (qanatlaw03_ScanBack.calls k a0 true rfl w hT h).mono ?_
  rintro e w' ⟨rfl, hd⟩
  exact ⟨rfl, hd⟩
end Go.Proofs.YtkkpjonfaflkmaaGreatDoor.T

namespace Go.Proofs.YtkkpjonfaflkmaaGreatDoor.T
set_option linter.unusedSimpArgs false
set_option linter.unusedVariables false
open Go.RowKit Go.Proofs.YtkkpjonfaflkmaaGreatDoorW.PrintWords Go.Proofs.YtkkpjonfaflkmaaGreatDoorW.PrintLast Go.Proofs.YtkkpjonfaflkmaaGreatDoorW.PrintMore
theorem w64n {i : Nat} (h : i ≤ 1000000000000) : wrap64 ((i : Int) + 1) = ((i + 1 : Nat) : Int) := by unfold wrap64; omega
end Go.Proofs.YtkkpjonfaflkmaaGreatDoor.T

namespace Go.Proofs.YtkkpjonfaflkmaaGreatDoor.S
set_option linter.unusedSimpArgs false
set_option linter.unusedVariables false
theorem lit_loc (q : Int) : ∀ (xs : List Int) (i : Nat) (acc v : List Int) (j : Nat), lit q xs i acc = some (v, j) →
    ∃ U R, xs = U ++ q :: R ∧ U.length + i = j ∧ R.head? ≠ some q ∧ ∀ R', R'.head? ≠ some q → lit q (U ++ q :: R') i acc = some (v, j)
  | [], _, _, _, _ => fun h => by cases h
  | [c], i, acc, v, j => fun h => by
    rw [lit] at h
    by_cases h1 : c = 10
    · rw [if_pos h1] at h; cases h
    · rw [if_neg h1] at h
      by_cases h2 : c = q
      · rw [if_pos h2] at h; cases h
        subst h2
        refine ⟨[], [], rfl, by simp, by simp, fun R' hR => ?_⟩
        rcases R' with _ | ⟨d, t⟩
        · simp [lit, h1]
        · simp only [List.head?_cons, ne_eq, Option.some.injEq] at hR
          simp [lit, h1, hR]
      · rw [if_neg h2] at h; cases h
  | c :: d :: t, i, acc, v, j => fun h => by
    rw [lit] at h
    by_cases h1 : c = 10
    · rw [if_pos h1] at h; cases h
    · rw [if_neg h1] at h
      by_cases h2 : c = q
      · rw [if_pos h2] at h
        by_cases h3 : d = q
        · rw [if_pos h3] at h
          obtain ⟨U, R, e1, e2, e3, e4⟩ := lit_loc q t (i + 2) (acc ++ [q]) v j h
          subst h2 h3
          refine ⟨d :: d :: U, R, by rw [e1]; rfl, by simp only [List.length_cons]; omega, e3, fun R' hR => ?_⟩
          have := e4 R' hR
          show lit d (d :: d :: (U ++ d :: R')) i acc = _
          rw [lit, if_neg h1, if_pos rfl, if_pos rfl]; exact this
        · rw [if_neg h3] at h; cases h
          subst h2
          refine ⟨[], d :: t, rfl, by simp, by simpa using h3, fun R' hR => ?_⟩
          rcases R' with _ | ⟨d, t⟩
          · simp [lit, h1]
          · simp only [List.head?_cons, ne_eq, Option.some.injEq] at hR
            simp [lit, h1, hR]
      · rw [if_neg h2] at h
        obtain ⟨U, R, e1, e2, e3, e4⟩ := lit_loc q (d :: t) (i + 1) (acc ++ [c]) v j h
        refine ⟨c :: U, R, by rw [e1]; rfl, by simp only [List.length_cons]; omega, e3, fun R' hR => ?_⟩
        have := e4 R' hR
        show lit q (c :: (U ++ q :: R')) i acc = _
        rcases hu : U ++ q :: R' with _ | ⟨e, s⟩
        · simp at hu
        · rw [hu] at this
          rw [lit, if_neg h1, if_neg h2]; exact this
def Neutral (c : Int) : Prop := c = 10 ∨ c = 59 ∨ c = 47 ∨ c = 32 ∨ c = 44
theorem Neutral.facts {c : Int} (h : Neutral c) : sym c = false ∧ dig c = false ∧ sfxOf c = 0 ∧ c ≠ 39 ∧ c ≠ 34 ∧ c ≠ 43 ∧ c ≠ 45 ∧ c ≠ 42 := by
  rcases h with rfl | rfl | rfl | rfl | rfl <;> decide
def Two (C R2 : List Int) : Prop := ∀ d, C = [d] → sym d = true → ∀ e s, R2 = e :: s → sym e = false
theorem sfx_sym {d e : Int} {s : List Int} (h : sym e = false) : sfx (d :: e :: s) = sfxOf d := by simp [sfx, h]
theorem sfxOf_sym {d : Int} (h : sym d = false) : sfxOf d = 0 := by
  unfold sfxOf
  by_cases h1 : d = 88 ∨ d = 120
  · rcases h1 with rfl | rfl <;> cases h
  · rw [if_neg h1]
    by_cases h2 : d = 66 ∨ d = 98
    · rcases h2 with rfl | rfl <;> cases h
    · rw [if_neg h2]
theorem sfx_ns {d : Int} {t : List Int} (h : sym d = false) : sfx (d :: t) = 0 := by
  rcases t with _ | ⟨e, s⟩
  · exact sfxOf_sym h
  · simp only [sfx]
    split
    · rfl
    · exact sfxOf_sym h
theorem sfx_loc {C R2 R3 : List Int} {c : Int} (hn : Neutral c) (ht : Two C R2) (h : C = [] → sfx R2 = 0) : sfx (C ++ c :: R3) = sfx (C ++ R2) := by
  obtain ⟨f1, f2, f3, -⟩ := hn.facts
  rcases C with _ | ⟨d, _ | ⟨e, C⟩⟩
  · rw [List.nil_append, List.nil_append, h rfl]
    exact sfx_ns f1
  · show sfx (d :: c :: R3) = sfx (d :: R2)
    rw [sfx_sym f1]
    rcases R2 with _ | ⟨e, s⟩
    · rfl
    · by_cases hd : sym d = true
      · rw [sfx_sym (ht d rfl hd e s rfl)]
      · rw [sfx_ns (by simpa using hd), sfxOf_sym (by simpa using hd)]
  · rfl
theorem litTok_eq (q : Int) (U R R' : List Int) (v : List Int) (h : lit q (U ++ q :: R) 1 [] = some (v, U.length + 1)) (h' : lit q (U ++ q :: R') 1 [] = some (v, U.length + 1)) (hs : sfx R' = sfx R) :
    litTok (q :: (U ++ q :: R')) = litTok (q :: (U ++ q :: R)) := by
  have d : ∀ R : List Int, (q :: (U ++ q :: R)).drop (U.length + 1 + 1) = R := fun R => by
    rw [List.drop_succ_cons, List.drop_append, List.drop_eq_nil_of_le (by omega)]
    simp
  simp only [litTok, h, h', d, hs]
theorem litTok_parts {q : Int} {t : List Int} {x : List Int} {n : Nat} (h : litTok (q :: t) = .ok x n) :
    ∃ v U R, t = U ++ q :: R ∧ R.head? ≠ some q ∧ (∀ R', R'.head? ≠ some q → lit q (U ++ q :: R') 1 [] = some (v, U.length + 1)) ∧ ((sfx R = 0 ∧ n = U.length + 2) ∨ (sfx R ≠ 0 ∧ n = U.length + 3)) := by
  simp only [litTok] at h
  cases hl : lit q t 1 [] with
  | none => rw [hl] at h; cases h
  | some p =>
    obtain ⟨v, i⟩ := p
    rw [hl] at h
    simp only at h
    obtain ⟨U, R, e1, e2, e3, e4⟩ := lit_loc q t 1 [] v i hl
    subst e1
    obtain rfl : i = U.length + 1 := by omega
    have d : (q :: (U ++ q :: R)).drop (U.length + 1 + 1) = R := by
      rw [List.drop_succ_cons, List.drop_append, List.drop_eq_nil_of_le (by omega)]
      simp
    rw [d] at h
    refine ⟨v, U, R, rfl, e3, e4, ?_⟩
    by_cases hp : v.all prn = true
    · rw [if_pos hp] at h
      by_cases hs : sfx R = 0
      · rw [if_pos hs] at h
        exact .inl ⟨hs, (litEnd_ok h).2⟩
      · rw [if_neg hs] at h
        cases hd : litDec v (sfx R) with
        | none => rw [hd] at h; cases h
        | some u => rw [hd] at h; exact .inr ⟨hs, (litEnd_ok h).2⟩
    · rw [if_neg hp] at h; cases h
theorem litTok_loc {A C R2 R3 x : List Int} {c : Int} (hn : Neutral c) (ht : Two C R2) (hq : ∃ q t, A = q :: t ∧ (q = 39 ∨ q = 34)) (h : litTok (A ++ (C ++ R2)) = .ok x A.length) : litTok (A ++ (C ++ c :: R3)) = .ok x A.length := by
  obtain ⟨q, t, rfl, hq⟩ := hq
  rw [List.cons_append] at h ⊢
  obtain ⟨f1, f2, f3, f4, f5, -⟩ := hn.facts
  obtain ⟨v, U, R, e1, e2, e3, e4⟩ := litTok_parts h
  have hc : some c ≠ some q := by rcases hq with rfl | rfl <;> simpa
  rcases e4 with ⟨hs, hl⟩ | ⟨hs, hl⟩
  · obtain ⟨hA, hR⟩ : t = U ++ [q] ∧ C ++ R2 = R := List.append_inj (s₁ := t) (s₂ := U ++ [q]) (by rw [e1]; simp) (by simp only [List.length_cons] at hl; simp; omega)
    subst hA hR
    have hh : (C ++ c :: R3).head? ≠ some q := by
      rcases C with _ | ⟨d, C⟩
      · exact hc
      · simpa using e2
    have := litTok_eq q U (C ++ R2) (C ++ c :: R3) v (e3 _ e2) (e3 _ hh) (sfx_loc hn ht fun e => by subst e; exact hs)
    rw [List.append_assoc] at h ⊢
    exact this.trans h
  · rcases R with _ | ⟨a, R⟩
    · exact absurd rfl hs
    obtain ⟨hA, hR⟩ : t = U ++ [q, a] ∧ C ++ R2 = R := List.append_inj (s₁ := t) (s₂ := U ++ [q, a]) (by rw [e1]; simp) (by simp only [List.length_cons] at hl; simp; omega)
    subst hA hR
    have hsx : sfx (a :: (C ++ c :: R3)) = sfx (a :: (C ++ R2)) := by
      rcases C with _ | ⟨d, C⟩
      · show sfx (a :: c :: R3) = sfx (a :: R2)
        rw [sfx_sym f1]
        rcases R2 with _ | ⟨e, s⟩
        · rfl
        · simp only [List.nil_append, sfx] at hs ⊢
          by_cases he : sym e = true
          · rw [if_pos he] at hs; exact absurd rfl hs
          · rw [if_neg he]
      · rfl
    have := litTok_eq q U (a :: (C ++ R2)) (a :: (C ++ c :: R3)) v (e3 _ e2) (e3 _ (by simpa using e2)) hsx
    rw [List.append_assoc] at h ⊢
    exact this.trans h
theorem run_app (p : Int → Bool) : ∀ (A B : List Int), (∀ x ∈ A, p x = true) → (∀ e s, B = e :: s → p e = false) → run p (A ++ B) = A.length
  | [], B, _, hB => by
    rcases B with _ | ⟨e, s⟩
    · rfl
    · simp [run, hB e s rfl]
  | a :: A, B, hA, hB => by
    rw [List.cons_append, run, if_pos (hA a (by simp)), run_app p A B (fun x hx => hA x (by simp [hx])) hB]
    rfl
theorem run_parts (p : Int → Bool) : ∀ (xs : List Int), (∀ x ∈ xs.take (run p xs), p x = true) ∧ (∀ e s, xs.drop (run p xs) = e :: s → p e = false)
  | [] => ⟨by simp [run], by simp [run]⟩
  | a :: xs => by
    unfold run
    by_cases h : p a = true
    · rw [if_pos h]
      obtain ⟨h1, h2⟩ := run_parts p xs
      refine ⟨fun x hx => ?_, fun e s he => h2 e s (by simpa using he)⟩
      simp only [List.take_succ_cons, List.mem_cons] at hx
      rcases hx with rfl | hx
      · exact h
      · exact h1 x hx
    · rw [if_neg h]
      exact ⟨by simp, fun e s he => by simp only [List.drop_zero, List.cons.injEq] at he; obtain ⟨rfl, -⟩ := he; simpa using h⟩
theorem symLen_parts (xs : List Int) : ∃ M R, xs = M ++ R ∧ (∀ x ∈ M, sym x = true) ∧ (∀ e s, R = e :: s → sym e = false) ∧
    ((symLen xs = M.length ∧ ¬ (mant M = true ∧ expo R = true)) ∨ (∃ g D S, R = g :: (D ++ S) ∧ mant M = true ∧ (g = 43 ∨ g = 45) ∧ D ≠ [] ∧ (∀ x ∈ D, dig x = true) ∧ (∀ e s, S = e :: s → dig e = false) ∧ symLen xs = M.length + 1 + D.length)) := by
  obtain ⟨h1, h2⟩ := run_parts sym xs
  have hl := run_le' sym xs
  refine ⟨xs.take (run sym xs), xs.drop (run sym xs), (List.take_append_drop _ _).symm, h1, h2, ?_⟩
  have hml : (xs.take (run sym xs)).length = run sym xs := by rw [List.length_take]; omega
  rw [hml]
  unfold symLen
  by_cases hm : mant (xs.take (run sym xs)) = true ∧ expo (xs.drop (run sym xs)) = true
  · rw [if_pos hm]
    refine .inr ?_
    rcases hd : xs.drop (run sym xs) with _ | ⟨g, _ | ⟨d, t⟩⟩
    · rw [hd] at hm; simp [expo] at hm
    · rw [hd] at hm; simp [expo] at hm
    · have hd2 : xs.drop (run sym xs + 1) = d :: t := by
        have : xs.drop (run sym xs + 1) = (xs.drop (run sym xs)).drop 1 := by rw [List.drop_drop]
        rw [this, hd]; rfl
      rw [hd2]
      have hx := hm.2
      rw [hd] at hx
      simp only [expo, Bool.and_eq_true, Bool.or_eq_true, decide_eq_true_eq] at hx
      obtain ⟨g1, g2⟩ := run_parts dig (d :: t)
      have hl2 := run_le' dig (d :: t)
      refine ⟨g, (d :: t).take (run dig (d :: t)), (d :: t).drop (run dig (d :: t)), by rw [List.take_append_drop], hm.1, hx.1, ?_, g1, g2, ?_⟩
      · rw [run, if_pos hx.2]; simp
      · rw [List.length_take, Nat.min_eq_left hl2]
  · rw [if_neg hm]
    exact .inl ⟨rfl, hm⟩
theorem symLen_plain {M R : List Int} (hM : ∀ x ∈ M, sym x = true) (hR : ∀ e s, R = e :: s → sym e = false) (h : ¬ (mant M = true ∧ expo R = true)) : symLen (M ++ R) = M.length := by
  have hr := run_app sym M R hM hR
  unfold symLen
  rw [hr, List.take_left, List.drop_left, if_neg h]
theorem symLen_expo {M D S : List Int} {g : Int} (hM : ∀ x ∈ M, sym x = true) (hm : mant M = true) (hg : g = 43 ∨ g = 45) (hD : D ≠ []) (hd : ∀ x ∈ D, dig x = true) (hS : ∀ e s, S = e :: s → dig e = false) :
    symLen (M ++ g :: (D ++ S)) = M.length + 1 + D.length := by
  have hgs : sym g = false := by rcases hg with rfl | rfl <;> rfl
  have hr := run_app sym M (g :: (D ++ S)) hM (fun e s h => by cases h; exact hgs)
  unfold symLen
  have hx : expo (g :: (D ++ S)) = true := by
    rcases D with _ | ⟨d, D⟩
    · exact absurd rfl hD
    · simp only [List.cons_append, expo, Bool.and_eq_true, Bool.or_eq_true, decide_eq_true_eq]
      exact ⟨hg, hd d (by simp)⟩
  rw [hr, List.take_left, List.drop_left, if_pos ⟨hm, hx⟩]
  have : (M ++ g :: (D ++ S)).drop (M.length + 1) = D ++ S := by
    rw [List.drop_append, List.drop_eq_nil_of_le (by omega)]
    simp
  rw [this, run_app dig D S hd hS]
theorem symTok_eq {xs ys : List Int} (h : symLen ys = symLen xs) (ht : ys.take (symLen xs) = xs.take (symLen xs)) : symTok ys = symTok xs := by
  unfold symTok
  rw [h, ht]
theorem symLen_loc {A C R2 R3 : List Int} {c : Int} (hn : Neutral c) (h : symLen (A ++ (C ++ R2)) = A.length) : symLen (A ++ (C ++ c :: R3)) = A.length := by
  obtain ⟨f1, f2, f3, f4, f5, f6, f7, -⟩ := hn.facts
  obtain ⟨M, R, e1, hM, hR, hor⟩ := symLen_parts (A ++ (C ++ R2))
  rw [h] at hor
  rcases hor with ⟨hl, hx⟩ | ⟨g, D, S, rfl, hm, hg, hD, hd, hS, hl⟩
  · obtain ⟨rfl, rfl⟩ := List.append_inj e1 hl
    refine symLen_plain hM (fun e s he => ?_) fun ⟨q1, q2⟩ => hx ⟨q1, ?_⟩
    · rcases C with _ | ⟨d, C⟩
      · cases he; exact f1
      · cases he; exact hR e _ rfl
    · rcases C with _ | ⟨d, _ | ⟨e, C⟩⟩
      · rcases R3 with _ | ⟨a, R3⟩
        · simp [expo] at q2
        · simp [expo, f6, f7] at q2
      · simp [expo, f2] at q2
      · exact q2
  · obtain ⟨hA, hB⟩ : A = M ++ g :: D ∧ C ++ R2 = S := List.append_inj (s₁ := A) (s₂ := M ++ g :: D) (by rw [e1]; simp) (by simp; omega)
    subst hA hB
    have := symLen_expo (M := M) (D := D) (S := C ++ c :: R3) hM hm hg hD hd (fun e s he => by
      rcases C with _ | ⟨d, C⟩
      · cases he; exact f2
      · cases he; exact hS e _ rfl)
    rw [List.append_assoc, List.cons_append, this]
    simp; omega
theorem symTok_loc {A C R2 R3 x : List Int} {c : Int} (hn : Neutral c) (h : symTok (A ++ (C ++ R2)) = .ok x A.length) : symTok (A ++ (C ++ c :: R3)) = .ok x A.length := by
  have hs : symLen (A ++ (C ++ R2)) = A.length := by
    unfold symTok at h
    split at h
    · cases h
    · simp only [TR.ok.injEq] at h; exact h.2
  rw [← h]
  refine symTok_eq ?_ ?_
  · rw [hs]; exact symLen_loc hn hs
  · rw [hs, List.take_left, List.take_left]
theorem prefix_app : ∀ (p a : List Int) (b : List Int), p.isPrefixOf a = true → p.isPrefixOf (a ++ b) = true
  | [], _, _, _ => by simp
  | _ :: _, [], _, h => by cases h
  | x :: p, y :: a, b, h => by
    simp only [List.isPrefixOf, Bool.and_eq_true] at h
    simp only [List.cons_append, List.isPrefixOf, Bool.and_eq_true]
    exact ⟨h.1, prefix_app p a b h.2⟩
theorem prefix_cut : ∀ (p a : List Int) (b : List Int), p.isPrefixOf (a ++ b) = true → p.length ≤ a.length → p.isPrefixOf a = true
  | [], _, _, _, _ => by simp
  | _ :: _, [], _, _, h => by simp at h
  | x :: p, y :: a, b, h, hl => by
    simp only [List.cons_append, List.isPrefixOf, Bool.and_eq_true] at h
    simp only [List.isPrefixOf, Bool.and_eq_true]
    exact ⟨h.1, prefix_cut p a b h.2 (by simpa using hl)⟩
theorem prefix_at : ∀ (p a : List Int) (c : Int) (b : List Int), p.isPrefixOf (a ++ c :: b) = true → a.length < p.length → p.take (a.length + 1) = a ++ [c]
  | [], _, _, _, _, h => by simp at h
  | x :: p, [], c, b, h, _ => by
    simp only [List.nil_append, List.isPrefixOf, Bool.and_eq_true, beq_iff_eq] at h
    simp [h.1]
  | x :: p, y :: a, c, b, h, hl => by
    simp only [List.cons_append, List.isPrefixOf, Bool.and_eq_true, beq_iff_eq] at h
    simp only [List.length_cons, List.take_succ_cons, List.cons_append]
    rw [h.1, prefix_at p a c b h.2 (by simpa using hl)]
theorem prefix_self : ∀ (p : List Int), p.isPrefixOf p = true
  | [] => rfl
  | x :: p => by simp [List.isPrefixOf, prefix_self p]
theorem prefix_eq : ∀ (p a : List Int), p.isPrefixOf a = true → a = p ++ a.drop p.length
  | [], a, _ => by simp
  | _ :: _, [], h => by cases h
  | x :: p, y :: a, h => by
    simp only [List.isPrefixOf, Bool.and_eq_true, beq_iff_eq] at h
    obtain ⟨rfl, h2⟩ := h
    simp only [List.length_cons, List.drop_succ_cons, List.cons_append]
    exact congrArg _ (prefix_eq p a h2)
theorem find_keep {α : Type} (P Q : α → Bool) : ∀ (l : List α) (a : α), l.find? P = some a → (∀ x ∈ l, Q x = true → P x = true) → Q a = true → l.find? Q = some a
  | [], a, h, _, _ => by cases h
  | x :: l, a, h, hq, ha => by
    by_cases hp : P x = true
    · rw [List.find?_cons_of_pos hp] at h
      cases h
      rw [List.find?_cons_of_pos ha]
    · rw [List.find?_cons_of_neg hp] at h
      rw [List.find?_cons_of_neg (fun e => hp (hq x (by simp) e))]
      exact find_keep P Q l a h (fun x hx => hq x (by simp [hx])) ha
theorem signs_neutral : ∀ p ∈ signs, ∀ i : Fin 3, 1 ≤ i.val → i.val < p.length → (p.getD i.val 0 = 10 ∨ p.getD i.val 0 = 59 ∨ p.getD i.val 0 = 47 ∨ p.getD i.val 0 = 32 ∨ p.getD i.val 0 = 44) → p = [47, 47] := by decide
theorem signs_len : ∀ p ∈ signs, p.length ≤ 3 := by decide
theorem signs_ne : ∀ p ∈ signs, p ≠ [] := by decide
theorem signTok_loc {A C R2 R3 x : List Int} {c : Int} (hn : Neutral c) (hA : c = 47 → C = [] → A.getLast? ≠ some 47) (h : signTok (A ++ (C ++ R2)) = .ok x A.length) : signTok (A ++ (C ++ c :: R3)) = .ok x A.length := by
  unfold signTok at h ⊢
  cases hf : signs.find? (fun x => x.isPrefixOf (A ++ (C ++ R2))) with
  | none => rw [hf] at h; cases h
  | some l =>
    rw [hf] at h
    simp only [TR.ok.injEq] at h
    obtain ⟨rfl, hl⟩ := h
    have hm := List.mem_of_find?_eq_some hf
    have hp : l.isPrefixOf (A ++ (C ++ R2)) = true := by simpa using List.find?_some hf
    have hAl : A = l := by
      have := prefix_eq _ _ hp
      exact (List.append_inj this (by omega)).1
    subst hAl
    have hA0 : A ≠ [] := signs_ne A hm
    rw [find_keep _ (fun x => x.isPrefixOf (A ++ (C ++ c :: R3))) signs A hf (fun p hps hpx => ?_) (prefix_app _ _ _ (prefix_self _))]
    rw [← List.append_assoc] at hpx ⊢
    by_cases hlen : p.length ≤ (A ++ C).length
    · exact prefix_app _ _ _ (prefix_cut _ _ _ hpx hlen)
    · exfalso
      have ha := prefix_at p (A ++ C) c R3 hpx (by omega)
      have h3 := signs_len p hps
      have hA1 : 0 < A.length := List.length_pos_iff.2 hA0
      have hlt : (A ++ C).length < p.length := by omega
      have hAC : 1 ≤ (A ++ C).length := by simp; omega
      have hget : p.getD (A ++ C).length 0 = c := by
        have h5 : (p.take ((A ++ C).length + 1)).getD (A ++ C).length 0 = ((A ++ C) ++ [c]).getD (A ++ C).length 0 := by rw [ha]
        rw [List.getD_eq_getElem?_getD, List.getD_eq_getElem?_getD, List.getElem?_take_of_lt (by omega), List.getElem?_append_right (Nat.le_refl _)] at h5
        rw [List.getD_eq_getElem?_getD, h5]; simp
      have hpe := signs_neutral p hps ⟨(A ++ C).length, by omega⟩ hAC hlt (by simp only [hget]; exact hn)
      subst hpe
      simp only [List.length_cons, List.length_nil, List.length_append] at hlt hAC
      have hC0 : C = [] := List.length_eq_zero_iff.1 (by omega)
      subst hC0
      have hAe : A.length = 1 := by omega
      obtain ⟨a, rfl⟩ : ∃ a, A = [a] := List.length_eq_one_iff.1 hAe
      simp only [List.append_nil, List.length_cons, List.length_nil, List.take_succ_cons, List.take_nil, List.cons_append, List.nil_append, List.cons.injEq, and_true] at ha
      obtain ⟨rfl, rfl⟩ := ha
      exact hA rfl rfl rfl
theorem step_loc {A C R2 R3 x : List Int} {c : Int} {k : Nat} (hn : Neutral c) (ht : Two C R2) (hA0 : A ≠ []) (hA : c = 47 → C = [] → A.getLast? ≠ some 47) (h : step (A ++ (C ++ R2)) = .tok k x A.length) : step (A ++ (C ++ c :: R3)) = .tok k x A.length := by
  obtain ⟨f1, f2, f3, f4, f5, f6, f7, f8⟩ := hn.facts
  rcases A with _ | ⟨a, A⟩
  · exact absurd rfl hA0
  have hst : starts2 (a :: (A ++ (C ++ c :: R3))) = true → starts2 (a :: (A ++ (C ++ R2))) = true := fun hs => by
    rcases A with _ | ⟨a2, A⟩
    · rcases C with _ | ⟨d, C⟩
      · simp [starts2, f8] at hs
      · exact hs
    · exact hs
  simp only [List.cons_append, step] at h ⊢
  by_cases h1 : a = 10
  · rw [if_pos h1] at h; cases h
  rw [if_neg h1] at h ⊢
  by_cases h2 : a = 32
  · rw [if_pos h2] at h; cases h
  rw [if_neg h2] at h ⊢
  by_cases h3 : starts2 (a :: (A ++ (C ++ R2))) = true
  · rw [if_pos h3] at h; exact (cmtStep_ne h).elim
  rw [if_neg h3] at h
  rw [if_neg (fun e => h3 (hst e))]
  by_cases h4 : a = 39 ∨ a = 34
  · rw [if_pos h4] at h ⊢
    obtain ⟨rfl, hr⟩ := tokStep_tok h
    rw [show a :: (A ++ (C ++ c :: R3)) = (a :: A) ++ (C ++ c :: R3) from rfl, litTok_loc hn ht ⟨a, A, rfl, h4⟩ hr]
    rfl
  rw [if_neg h4] at h ⊢
  by_cases h5 : sym a = true
  · rw [if_pos h5] at h ⊢
    obtain ⟨rfl, hr⟩ := tokStep_tok h
    rw [show a :: (A ++ (C ++ c :: R3)) = (a :: A) ++ (C ++ c :: R3) from rfl, symTok_loc (A := a :: A) hn hr]
    rfl
  rw [if_neg h5] at h ⊢
  obtain ⟨rfl, hr⟩ := tokStep_tok h
  rw [show a :: (A ++ (C ++ c :: R3)) = (a :: A) ++ (C ++ c :: R3) from rfl, signTok_loc (A := a :: A) hn hA hr]
  rfl
end Go.Proofs.YtkkpjonfaflkmaaGreatDoor.S

namespace Go.Proofs.YtkkpjonfaflkmaaGreatDoor.S
set_option linter.unusedSimpArgs false
set_option linter.unusedVariables false
theorem signs_no10 : ∀ p ∈ signs, (10 : Int) ∉ p := by decide
end Go.Proofs.YtkkpjonfaflkmaaGreatDoor.S

namespace Go.Proofs.YtkkpjonfaflkmaaGreatDoor.S
set_option linter.unusedSimpArgs false
set_option linter.unusedVariables false
def blank (c : Int) : Bool := decide (c = 32) || decide (c = 10) || decide (c = 44) || decide (c = 59)
def idle : List Int → Nat → Bool
  | [], d => decide (d = 0)
  | [c], d => blank c && decide (d = 0)
  | c :: e :: t, d =>
    if c = 47 ∧ e = 42 then idle t (d + 1)
    else if 0 < d ∧ c = 42 ∧ e = 47 then idle t (d - 1)
    else if 0 < d ∨ blank c = true then idle (e :: t) d else false
theorem lit_no10 (q : Int) (hq : q ≠ 10) : ∀ (xs : List Int) (i : Nat) (acc v : List Int) (j : Nat), lit q xs i acc = some (v, j) → (10 : Int) ∉ xs.take (j - i)
  | [], _, _, _, _ => fun h => by cases h
  | [c], i, acc, v, j => fun h => by
    rw [lit] at h
    by_cases h1 : c = 10
    · rw [if_pos h1] at h; cases h
    · rw [if_neg h1] at h
      by_cases h2 : c = q
      · rw [if_pos h2] at h; cases h; simp
      · rw [if_neg h2] at h; cases h
  | c :: d :: t, i, acc, v, j => fun h => by
    rw [lit] at h
    by_cases h1 : c = 10
    · rw [if_pos h1] at h; cases h
    · rw [if_neg h1] at h
      by_cases h2 : c = q
      · rw [if_pos h2] at h
        by_cases h3 : d = q
        · rw [if_pos h3] at h
          have hb := (lit_bounds q (fun _ => True) trivial t (i + 2) _ v j h (fun _ _ => trivial) (fun _ _ => trivial)).1
          have := lit_no10 q hq t (i + 2) (acc ++ [q]) v j h
          rw [show j - i = (j - (i + 2)) + 1 + 1 by omega, List.take_succ_cons, List.take_succ_cons]
          intro hm
          rcases List.mem_cons.1 hm with e | e
          · exact h1 e.symm
          · rcases List.mem_cons.1 e with e | e
            · rw [h3] at e; exact hq e.symm
            · exact this e
        · rw [if_neg h3] at h; cases h; simp
      · rw [if_neg h2] at h
        have hb := (lit_bounds q (fun _ => True) trivial (d :: t) (i + 1) _ v j h (fun _ _ => trivial) (fun _ _ => trivial)).1
        have := lit_no10 q hq (d :: t) (i + 1) (acc ++ [c]) v j h
        rw [show j - i = (j - (i + 1)) + 1 by omega, List.take_succ_cons]
        intro hm
        rcases List.mem_cons.1 hm with e | e
        · exact h1 e.symm
        · exact this e
theorem sfx_no10 {a : Int} {t : List Int} (h : sfx (a :: t) ≠ 0) : a ≠ 10 := by
  intro e; subst e
  exact h (sfx_ns rfl)
theorem tok_no10 {xs t : List Int} {k n : Nat} (h : step xs = .tok k t n) : (10 : Int) ∉ xs.take n ∧ (k = 3 → xs.take n = t) := by
  rcases xs with _ | ⟨a, r⟩
  · cases h
  simp only [step] at h
  by_cases h1 : a = 10
  · rw [if_pos h1] at h; cases h
  rw [if_neg h1] at h
  by_cases h2 : a = 32
  · rw [if_pos h2] at h; cases h
  rw [if_neg h2] at h
  by_cases h3 : starts2 (a :: r) = true
  · rw [if_pos h3] at h; exact (cmtStep_ne h).elim
  rw [if_neg h3] at h
  by_cases h4 : a = 39 ∨ a = 34
  · rw [if_pos h4] at h
    obtain ⟨rfl, hr⟩ := tokStep_tok h
    refine ⟨?_, fun e => by cases e⟩
    have hq10 : a ≠ 10 := h1
    obtain ⟨v, U, R, e1, e2, e3, e4⟩ := litTok_parts hr
    have hU : (10 : Int) ∉ U := by
      have := lit_no10 a hq10 (U ++ a :: R) 1 [] v (U.length + 1) (e3 R e2)
      rw [Nat.add_sub_cancel, List.take_left] at this
      exact this
    subst e1
    rcases e4 with ⟨hs, rfl⟩ | ⟨hs, rfl⟩
    · have : (a :: (U ++ a :: R)).take (U.length + 2) = a :: (U ++ [a]) := by
        rw [List.take_succ_cons, show U ++ a :: R = (U ++ [a]) ++ R by simp, List.take_left' (by simp)]
      rw [this]
      intro hm
      simp only [List.mem_cons, List.mem_append, List.not_mem_nil, or_false] at hm
      rcases hm with e | e | e
      · exact hq10 e.symm
      · exact hU e
      · exact hq10 e.symm
    · rcases R with _ | ⟨b, R⟩
      · exact absurd rfl hs
      · have : (a :: (U ++ a :: b :: R)).take (U.length + 3) = a :: (U ++ [a, b]) := by
          rw [List.take_succ_cons, show U ++ a :: b :: R = (U ++ [a, b]) ++ R by simp, List.take_left' (by simp)]
        rw [this]
        have hb10 := sfx_no10 hs
        intro hm
        simp only [List.mem_cons, List.mem_append, List.not_mem_nil, or_false] at hm
        rcases hm with e | e | e | e
        · exact hq10 e.symm
        · exact hU e
        · exact hq10 e.symm
        · exact hb10 e.symm
  rw [if_neg h4] at h
  by_cases h5 : sym a = true
  · rw [if_pos h5] at h
    obtain ⟨rfl, hr⟩ := tokStep_tok h
    refine ⟨?_, fun e => by cases e⟩
    have hn : n = symLen (a :: r) := by
      unfold symTok at hr
      split at hr
      · cases hr
      · simp only [TR.ok.injEq] at hr; exact hr.2.symm
    obtain ⟨M, R, e1, hM, hR, hor⟩ := symLen_parts (a :: r)
    have hM10 : (10 : Int) ∉ M := fun e => by have := hM 10 e; cases this
    rw [hn]
    rcases hor with ⟨hl, _⟩ | ⟨g, D, S, hRS, hm, hg, hD, hd, hS, hl⟩
    · rw [hl, e1, List.take_left]; exact hM10
    · have : (a :: r).take (symLen (a :: r)) = M ++ g :: D := by
        rw [hl, e1, hRS, show M ++ g :: (D ++ S) = (M ++ g :: D) ++ S by simp, List.take_left' (by simp; omega)]
      rw [this]
      intro hm
      simp only [List.mem_cons, List.mem_append] at hm
      rcases hm with e | e | e
      · exact hM10 e
      · rcases hg with rfl | rfl <;> cases e
      · have := hd 10 e; cases this
  rw [if_neg h5] at h
  obtain ⟨rfl, hr⟩ := tokStep_tok h
  unfold signTok at hr
  cases hf : signs.find? (fun x => x.isPrefixOf (a :: r)) with
  | none => rw [hf] at hr; cases hr
  | some l =>
    rw [hf] at hr
    simp only [TR.ok.injEq] at hr
    obtain ⟨rfl, rfl⟩ := hr
    have hp : l.isPrefixOf (a :: r) = true := by simpa using List.find?_some hf
    have he := prefix_eq _ _ hp
    have : (a :: r).take l.length = l := by conv => { lhs; rw [he] }; exact List.take_left
    rw [this]
    exact ⟨signs_no10 l (List.mem_of_find?_eq_some hf), fun _ => rfl⟩
end Go.Proofs.YtkkpjonfaflkmaaGreatDoor.S

namespace Go.Proofs.YtkkpjonfaflkmaaGreatDoor.S
set_option linter.unusedSimpArgs false
set_option linter.unusedVariables false
def seg (L : List Int) (a b : Nat) : List Int := (L.drop a).take (b - a)
structure TokOK (L : List Int) (e ln : Nat) (t : Tk) : Prop where
  h1 : e ≤ t.at_
  h2 : t.at_ ≤ t.to
  h3 : t.to ≤ L.length
  h4 : ln ≤ t.line
  h5 : t.kind ≠ 4 → t.at_ < t.to
  h6 : idle (seg L e t.at_) 0 = true
  h7 : t.line = 1 + (L.take t.at_).count 10
  h8 : t.kind = 3 → seg L t.at_ t.to = t.text
theorem step_line {xs : List Int} (h : step xs = .line) : ∃ t, xs = 10 :: t := by
  rcases xs with _ | ⟨a, t⟩
  · cases h
  simp only [step] at h
  by_cases h1 : a = 10
  · exact ⟨t, by rw [h1]⟩
  exfalso
  rw [if_neg h1] at h
  by_cases h2 : a = 32
  · rw [if_pos h2] at h; cases h
  rw [if_neg h2] at h
  by_cases h3 : starts2 (a :: t) = true
  · rw [if_pos h3] at h
    cases hc : cmt (a :: t) 0 0 1 0 with
    | eof => rw [hc] at h; cases h
    | done i l b => rw [hc] at h; simp only [cmtStep] at h; split at h <;> cases h
  rw [if_neg h3] at h
  have key : ∀ k r, tokStep k r ≠ .line := fun k r e => by cases r <;> cases e
  by_cases h4 : a = 39 ∨ a = 34
  · rw [if_pos h4] at h; exact key _ _ h
  rw [if_neg h4] at h
  by_cases h5 : sym a = true
  · rw [if_pos h5] at h; exact key _ _ h
  · rw [if_neg h5] at h; exact key _ _ h
theorem step_blank {xs : List Int} (h : step xs = .blank) : ∃ t, xs = 32 :: t := by
  rcases xs with _ | ⟨a, t⟩
  · cases h
  simp only [step] at h
  by_cases h1 : a = 10
  · rw [if_pos h1] at h; cases h
  rw [if_neg h1] at h
  by_cases h2 : a = 32
  · exact ⟨t, by rw [h2]⟩
  exfalso
  rw [if_neg h2] at h
  by_cases h3 : starts2 (a :: t) = true
  · rw [if_pos h3] at h
    cases hc : cmt (a :: t) 0 0 1 0 with
    | eof => rw [hc] at h; cases h
    | done i l b => rw [hc] at h; simp only [cmtStep] at h; split at h <;> cases h
  rw [if_neg h3] at h
  have key : ∀ k r, tokStep k r ≠ .blank := fun k r e => by cases r <;> cases e
  by_cases h4 : a = 39 ∨ a = 34
  · rw [if_pos h4] at h; exact key _ _ h
  rw [if_neg h4] at h
  by_cases h5 : sym a = true
  · rw [if_pos h5] at h; exact key _ _ h
  · rw [if_neg h5] at h; exact key _ _ h
end Go.Proofs.YtkkpjonfaflkmaaGreatDoor.S

namespace Go.Proofs.YtkkpjonfaflkmaaGreatDoor.S
set_option linter.unusedSimpArgs false
set_option linter.unusedVariables false
def key (t : Tk) : Nat × List Int × Bool := (t.kind, t.text, t.gap)
theorem comma_key {a b : List Tk} (h : a.map key = b.map key) : comma a = comma b := by
  have hl : (a.map key).getLast? = (b.map key).getLast? := by rw [h]
  rw [List.getLast?_map, List.getLast?_map] at hl
  unfold comma
  cases ha : a.getLast? with
  | none =>
    rw [ha] at hl
    cases hb : b.getLast? with
    | none => rfl
    | some y => rw [hb] at hl; cases hl
  | some x =>
    rw [ha] at hl
    cases hb : b.getLast? with
    | none => rw [hb] at hl; cases hl
    | some y =>
      rw [hb] at hl
      simp only [Option.map_some, Option.some.injEq, key, Prod.mk.injEq] at hl
      simp only [hl.1, hl.2.1]
theorem label_key : ∀ {a b : List Tk}, a.map key = b.map key → label a = label b
  | [], [], _ => rfl
  | [], _ :: _, h => by cases h
  | _ :: _, [], h => by cases h
  | [_], [_], _ => rfl
  | [_], _ :: _ :: _, h => by simp at h
  | _ :: _ :: _, [_], h => by simp at h
  | [x, y], [u, v], h => by
    simp only [List.map_cons, List.map_nil, List.cons.injEq, key, Prod.mk.injEq, and_true] at h
    simp only [label, h.1.1, h.2.1, h.2.2.1]
  | [_, _], _ :: _ :: _ :: _, h => by simp at h
  | _ :: _ :: _ :: _, [_, _], h => by simp at h
  | _ :: _ :: _ :: _, _ :: _ :: _ :: _, h => rfl
theorem nil_key {a b : List Tk} (h : a.map key = b.map key) : (a = []) ↔ (b = []) := by
  have hl : (a.map key).length = (b.map key).length := by rw [h]
  rw [List.length_map, List.length_map] at hl
  rw [← List.length_eq_zero_iff, ← List.length_eq_zero_iff, hl]
end Go.Proofs.YtkkpjonfaflkmaaGreatDoor.S

namespace Go.Proofs.YtkkpjonfaflkmaaGreatDoor.T
set_option linter.unusedSimpArgs false
set_option linter.unusedVariables false
open Go.RowKit Go.Proofs.YtkkpjonfaflkmaaGreatDoorW.PrintWords Go.Proofs.YtkkpjonfaflkmaaGreatDoorW.PrintLast Go.Proofs.YtkkpjonfaflkmaaGreatDoorW.PrintMore
theorem tokens_g (a0 : ByteArray) (h : a0.size ≤ 20000) : scan_Tokens.f a0 = some ((S.tokens (bytesOf a0)).map toS, errC (S.scan (bytesOf a0)).err, errL (S.scan (bytesOf a0)).err, if (S.scan (bytesOf a0)).err = none then 0 else 7) := by
  unfold scan_Tokens.f
  rw [if_pos h]
  cases he : (S.scan (bytesOf a0)).err with
  | none => rfl
  | some p =>
    have := S.scan_err (c := p.1) (ln := p.2) he
    rw [if_neg (show ¬ errC (some p) = 0 from fun e => this (Int.ofNat_eq_zero.1 e)), if_neg (show ¬ some p = none from fun e => by cases e)]
theorem rd_some {l : List S.Tk} {i : Nat} {t : S.Tk} (h : l[i]? = some t) : rd_T53 (l.map toS) (i : Int) = toS t := by
  unfold rd_T53
  rw [Int.toNat_natCast, List.getD_eq_getElem?_getD, List.getElem?_map, h]; rfl
theorem sameTz_l0 (l m : List S.Tk) (hk : l.map S.key = m.map S.key) (hl : l.length ≤ 1000000) : ∀ (n k i : Nat), i + n = l.length → n < k → qanatref03_Same.l0 k (l.map toS) (m.map toS) (i : Int) = some true
  | n, 0, i, _, h => absurd h (Nat.not_lt_zero _)
  | 0, k + 1, i, h, _ => by rw [qanatref03_Same.l0, if_neg (by rw [List.length_map]; omega)]
  | n + 1, k + 1, i, h, hkk => by
    have ih := sameTz_l0 l m hk hl n k (i + 1) (by omega) (by omega)
    have hlen : l.length = m.length := by have := congrArg List.length hk; simpa using this
    have hi : i < l.length := by omega
    have hi2 : i < m.length := by omega
    have hkey : S.key (l[i]'hi) = S.key (m[i]'hi2) := by
      have e1 : (l.map S.key)[i]? = some (S.key (l[i]'hi)) := by rw [List.getElem?_map, List.getElem?_eq_getElem hi]; rfl
      have e2 : (m.map S.key)[i]? = some (S.key (m[i]'hi2)) := by rw [List.getElem?_map, List.getElem?_eq_getElem hi2]; rfl
      rw [hk, e2] at e1
      exact (Option.some.inj e1).symm
    have hr1 := rd_some (List.getElem?_eq_getElem hi)
    have hr2 := rd_some (List.getElem?_eq_getElem hi2)
    simp only [S.key, Prod.mk.injEq] at hkey
    rw [qanatref03_Same.l0, if_pos (by rw [List.length_map]; omega), if_pos (by omega), if_pos (by rw [List.length_map]; omega), hr1, hr2, w64n (by omega), ih]
    simp only [toS, hkey.1, hkey.2.1, hkey.2.2, if_true]
    simp
theorem sameTz_f (l m : List S.Tk) (hk : l.map S.key = m.map S.key) (hl : l.length ≤ 1000000) (k : Nat) (hkk : l.length < k) : qanatref03_Same.f k (l.map toS) (m.map toS) = some true := by
  have hlen : l.length = m.length := by have := congrArg List.length hk; simpa using this
  unfold qanatref03_Same.f
  rw [if_pos (by rw [List.length_map, List.length_map, hlen])]
  exact sameTz_l0 l m hk hl l.length k 0 (by omega) hkk
end Go.Proofs.YtkkpjonfaflkmaaGreatDoor.T

namespace Go.Proofs.YtkkpjonfaflkmaaGreatDoor.S
set_option linter.unusedSimpArgs false
set_option linter.unusedVariables false
end Go.Proofs.YtkkpjonfaflkmaaGreatDoor.S
