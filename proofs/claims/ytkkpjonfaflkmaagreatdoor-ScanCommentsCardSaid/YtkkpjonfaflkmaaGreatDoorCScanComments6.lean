/- Part 6 of the proof of ScanComments: the functions that it calls return what their plain descriptions say. -/
import Derived.Test.YtkkpjonfaflkmaaGreatDoorCScanComments2
import Derived.Test.YtkkpjonfaflkmaaGreatDoorCScanComments5
import Derived.Test.YtkkpjonfaflkmaaGreatDoorCScanComments4

-- Written by a program of this session (mp.py over the kit's print.py), out of the translation.
namespace Go.Proofs.YtkkpjonfaflkmaaGreatDoor.T
set_option linter.unusedSimpArgs false
open Go.RowKit Go.Proofs.YtkkpjonfaflkmaaGreatDoorW.PrintWords Go.Proofs.YtkkpjonfaflkmaaGreatDoorW.PrintLast Go.Proofs.YtkkpjonfaflkmaaGreatDoorW.PrintMore
attribute [local go_sem] max2_int min2_int max_two min_two max_three min_three max_four min_four   -- for this text's walks alone
set_option linter.unusedVariables false
set_option linter.unusedSimpArgs false

/-! ### qanatlaw03_ScanComments: function 10 -/
mutual
def qanatlaw03_ScanComments.j0 : Nat → ByteArray → Int → Bool → ByteArray → List (S53) → Bool → Option (Bool)
  | 0, _, _, _, _, _, _ => none
  | k + 1, x0, x1, x2, x3, x9, x43 => if x43 = true then ((qanatlaw03_sanity.f).bind fun t512 => (some t512)) else (qanatlaw03_ScanComments.l0 k x0 x1 x2 x3 x9 0)
def qanatlaw03_ScanComments.l0 : Nat → ByteArray → Int → Bool → ByteArray → List (S53) → Int → Option (Bool)
  | 0, _, _, _, _, _, _ => none
  | k + 1, x0, x1, x2, x3, x9, x13 => if x13 < (x3.size : Int) then (if 0 ≤ x13 then (if (bt x3 x13) < 97 then ((qanatlaw03_sanity.f).bind fun t513 => (some t513)) else (if (bt x3 x13) > 122 then ((qanatlaw03_sanity.f).bind fun t514 => (some t514)) else (qanatlaw03_ScanComments.l0 k x0 x1 x2 x3 x9 (wrap64 (x13 + 1))))) else (none)) else (if (x9.length : Int) = 0 then (none) else (if 0 ≤ (Int.tmod (wrap64 (x1)) (x9.length : Int)) then (if (Int.tmod (wrap64 (x1)) (x9.length : Int)) < (x9.length : Int) then (if x2 = true then (qanatlaw03_ScanComments.j2 k x0 x3 x9 ((rd_T53 x9 (Int.tmod (wrap64 (x1)) (x9.length : Int))).f5)) else (qanatlaw03_ScanComments.j2 k x0 x3 x9 ((rd_T53 x9 (Int.tmod (wrap64 (x1)) (x9.length : Int))).f4))) else (none)) else (none)))
def qanatlaw03_ScanComments.j2 : Nat → ByteArray → ByteArray → List (S53) → Int → Option (Bool)
  | 0, _, _, _, _ => none
  | k + 1, x0, x3, x9, x15 => if x15 < 0 then (qanatlaw03_ScanComments.j3 k x0 x3 x9 x15 true) else (if x15 > (x0.size : Int) then (qanatlaw03_ScanComments.j3 k x0 x3 x9 x15 true) else (if x15 > 0 then (if 0 ≤ (wrap64 (x15 - 1)) then (if (wrap64 (x15 - 1)) < (x0.size : Int) then (qanatlaw03_ScanComments.j3 k x0 x3 x9 x15 ((bt x0 (wrap64 (x15 - 1))) == 47)) else (none)) else (none)) else (qanatlaw03_ScanComments.j3 k x0 x3 x9 x15 false)))
def qanatlaw03_ScanComments.j3 : Nat → ByteArray → ByteArray → List (S53) → Int → Bool → Option (Bool)
  | 0, _, _, _, _, _ => none
  | k + 1, x0, x3, x9, x15, x93 => if x93 = true then ((qanatlaw03_sanity.f).bind fun t517 => (if t517 = true then (if x15 ≥ 0 then (some (decide (x15 ≤ (x0.size : Int)))) else (some false)) else (some false))) else (if 0 ≤ x15 then (if x15 ≤ (x0.size : Int) then (if (x0.extract 0 (x15 : Int).toNat).size + 2 ≤ 9223372036854775807 then (if ((x0.extract 0 (x15 : Int).toNat) ++ (⟨#[47, 42]⟩ : ByteArray)).size + x3.size ≤ 9223372036854775807 then (if (((x0.extract 0 (x15 : Int).toNat) ++ (⟨#[47, 42]⟩ : ByteArray)) ++ x3).size + 2 ≤ 9223372036854775807 then (if ((((x0.extract 0 (x15 : Int).toNat) ++ (⟨#[47, 42]⟩ : ByteArray)) ++ x3) ++ (⟨#[42, 47]⟩ : ByteArray)).size + (x0.extract (x15 : Int).toNat x0.size).size ≤ 9223372036854775807 then ((scan_Tokens.f (((((x0.extract 0 (x15 : Int).toNat) ++ (⟨#[47, 42]⟩ : ByteArray)) ++ x3) ++ (⟨#[42, 47]⟩ : ByteArray)) ++ (x0.extract (x15 : Int).toNat x0.size))).bind fun bt518 => ((qanatlaw03_sanity.f).bind fun t524 => (if t524 = true then (if bt518.2.2.2 = 0 then ((qanatref03_Same.f k x9 bt518.1).bind fun t525 => (some t525)) else (some false)) else (some false)))) else (none)) else (none)) else (none)) else (none)) else (none)) else (none))
end
def qanatlaw03_ScanComments.f (k : Nat) (a0 : ByteArray) (a1 : Int) (a2 : Bool) (a3 : ByteArray) : Option (Bool) := (scan_Tokens.f a0).bind fun bt505 => ((qanatlaw03_small.f a0).bind fun t511 => (if t511 = true then (if bt505.2.2.2 = 0 then (if (bt505.1.length : Int) = 0 then (qanatlaw03_ScanComments.j0 k a0 a1 a2 a3 bt505.1 true) else (qanatlaw03_ScanComments.j0 k a0 a1 a2 a3 bt505.1 (decide ((a3.size : Int) > 20)))) else (qanatlaw03_ScanComments.j0 k a0 a1 a2 a3 bt505.1 true)) else (qanatlaw03_ScanComments.j0 k a0 a1 a2 a3 bt505.1 true)))
theorem qanatlaw03_ScanComments.mono_l : ∀ k, (∀ y0 y1 y2 y3 y4 y5, LeO (qanatlaw03_ScanComments.j0 k y0 y1 y2 y3 y4 y5) (qanatlaw03_ScanComments.j0 (k + 1) y0 y1 y2 y3 y4 y5)) ∧ (∀ y0 y1 y2 y3 y4 y5, LeO (qanatlaw03_ScanComments.l0 k y0 y1 y2 y3 y4 y5) (qanatlaw03_ScanComments.l0 (k + 1) y0 y1 y2 y3 y4 y5)) ∧ (∀ y0 y1 y2 y3, LeO (qanatlaw03_ScanComments.j2 k y0 y1 y2 y3) (qanatlaw03_ScanComments.j2 (k + 1) y0 y1 y2 y3)) ∧ (∀ y0 y1 y2 y3 y4, LeO (qanatlaw03_ScanComments.j3 k y0 y1 y2 y3 y4) (qanatlaw03_ScanComments.j3 (k + 1) y0 y1 y2 y3 y4))
  | 0 => ⟨fun _ _ _ _ _ _ r h => by simp [qanatlaw03_ScanComments.j0] at h, fun _ _ _ _ _ _ r h => by simp [qanatlaw03_ScanComments.l0] at h, fun _ _ _ _ r h => by simp [qanatlaw03_ScanComments.j2] at h, fun _ _ _ _ _ r h => by simp [qanatlaw03_ScanComments.j3] at h⟩
  | k + 1 => by
    obtain ⟨ih0, ih1, ih2, ih3⟩ := qanatlaw03_ScanComments.mono_l k
    refine ⟨?_, ?_, ?_, ?_⟩
    · intro y0 y1 y2 y3 y4 y5
      unfold qanatlaw03_ScanComments.j0
      repeat' first
      | (with_reducible exact ih0 _ _ _ _ _ _)
      | (with_reducible exact ih1 _ _ _ _ _ _)
      | (with_reducible exact ih2 _ _ _ _)
      | (with_reducible exact ih3 _ _ _ _ _)
      | (with_reducible exact qanatref03_Same.mono _ _ _)
      | (with_reducible exact LeO.refl _)
      | (with_reducible exact LeO.none _)
      | (with_reducible refine LeO.ite ?_ ?_)
      | (with_reducible refine LeO.bind ?_ (fun _ => ?_))
      | exact ih0 _ _ _ _ _ _
      | exact ih1 _ _ _ _ _ _
      | exact ih2 _ _ _ _
      | exact ih3 _ _ _ _ _
      | exact qanatref03_Same.mono _ _ _
      | exact LeO.none _
      | refine LeO.ite ?_ ?_
      | refine LeO.bind ?_ (fun _ => ?_)
    · intro y0 y1 y2 y3 y4 y5
      unfold qanatlaw03_ScanComments.l0
      repeat' first
      | (with_reducible exact ih0 _ _ _ _ _ _)
      | (with_reducible exact ih1 _ _ _ _ _ _)
      | (with_reducible exact ih2 _ _ _ _)
      | (with_reducible exact ih3 _ _ _ _ _)
      | (with_reducible exact qanatref03_Same.mono _ _ _)
      | (with_reducible exact LeO.refl _)
      | (with_reducible exact LeO.none _)
      | (with_reducible refine LeO.ite ?_ ?_)
      | (with_reducible refine LeO.bind ?_ (fun _ => ?_))
      | exact ih0 _ _ _ _ _ _
      | exact ih1 _ _ _ _ _ _
      | exact ih2 _ _ _ _
      | exact ih3 _ _ _ _ _
      | exact qanatref03_Same.mono _ _ _
      | exact LeO.none _
      | refine LeO.ite ?_ ?_
      | refine LeO.bind ?_ (fun _ => ?_)
    · intro y0 y1 y2 y3
      unfold qanatlaw03_ScanComments.j2
      repeat' first
      | (with_reducible exact ih0 _ _ _ _ _ _)
      | (with_reducible exact ih1 _ _ _ _ _ _)
      | (with_reducible exact ih2 _ _ _ _)
      | (with_reducible exact ih3 _ _ _ _ _)
      | (with_reducible exact qanatref03_Same.mono _ _ _)
      | (with_reducible exact LeO.refl _)
      | (with_reducible exact LeO.none _)
      | (with_reducible refine LeO.ite ?_ ?_)
      | (with_reducible refine LeO.bind ?_ (fun _ => ?_))
      | exact ih0 _ _ _ _ _ _
      | exact ih1 _ _ _ _ _ _
      | exact ih2 _ _ _ _
      | exact ih3 _ _ _ _ _
      | exact qanatref03_Same.mono _ _ _
      | exact LeO.none _
      | refine LeO.ite ?_ ?_
      | refine LeO.bind ?_ (fun _ => ?_)
    · intro y0 y1 y2 y3 y4
      unfold qanatlaw03_ScanComments.j3
      repeat' first
      | (with_reducible exact ih0 _ _ _ _ _ _)
      | (with_reducible exact ih1 _ _ _ _ _ _)
      | (with_reducible exact ih2 _ _ _ _)
      | (with_reducible exact ih3 _ _ _ _ _)
      | (with_reducible exact qanatref03_Same.mono _ _ _)
      | (with_reducible exact LeO.refl _)
      | (with_reducible exact LeO.none _)
      | (with_reducible refine LeO.ite ?_ ?_)
      | (with_reducible refine LeO.bind ?_ (fun _ => ?_))
      | exact ih0 _ _ _ _ _ _
      | exact ih1 _ _ _ _ _ _
      | exact ih2 _ _ _ _
      | exact ih3 _ _ _ _ _
      | exact qanatref03_Same.mono _ _ _
      | exact LeO.none _
      | refine LeO.ite ?_ ?_
      | refine LeO.bind ?_ (fun _ => ?_)
theorem qanatlaw03_ScanComments.mono : ∀ a0 a1 a2 a3 k, LeO (qanatlaw03_ScanComments.f k a0 a1 a2 a3) (qanatlaw03_ScanComments.f (k + 1) a0 a1 a2 a3) := by
  intro a0 a1 a2 a3 k
  obtain ⟨ih0, ih1, ih2, ih3⟩ := qanatlaw03_ScanComments.mono_l k
  unfold qanatlaw03_ScanComments.f
  repeat' first
      | (with_reducible exact ih0 _ _ _ _ _ _)
      | (with_reducible exact ih1 _ _ _ _ _ _)
      | (with_reducible exact ih2 _ _ _ _)
      | (with_reducible exact ih3 _ _ _ _ _)
      | (with_reducible exact qanatref03_Same.mono _ _ _)
      | (with_reducible exact LeO.refl _)
      | (with_reducible exact LeO.none _)
      | (with_reducible refine LeO.ite ?_ ?_)
      | (with_reducible refine LeO.bind ?_ (fun _ => ?_))
      | exact ih0 _ _ _ _ _ _
      | exact ih1 _ _ _ _ _ _
      | exact ih2 _ _ _ _
      | exact ih3 _ _ _ _ _
      | exact qanatref03_Same.mono _ _ _
      | exact LeO.none _
      | refine LeO.ite ?_ ?_
      | refine LeO.bind ?_ (fun _ => ?_)
def qanatlaw03_ScanComments.T15 : Bool × List (List Nat × List Nat) := (true, [([], []), ([], []), ([0, 1], [0, 1]), ([2], [2]), ([], []), ([3, 4], [3, 4]), ([5], [5]), ([], []), ([], []), ([7, 8], [7, 8]), ([6, 9], [6, 9]), ([10], [10]), ([11], [11]), ([12], [12]), ([12], [12]), ([12], [12]), ([12], [12]), ([13, 11, 0, 1, 2, 3, 4, 5, 6, 7, 8, 9, 10, 11, 12, 13], [13]), ([14, 17, 0, 1, 2, 3, 4, 5, 6, 7, 8, 9, 10, 11, 12, 13, 14, 17], [14]), ([15, 18, 0, 1, 2, 3, 4, 5, 6, 7, 8, 9, 10, 11, 12, 13, 14, 15, 17, 18], [15]), ([16, 19, 0, 1, 2, 3, 4, 5, 6, 7, 8, 9, 10, 11, 12, 13, 14, 15, 16, 17, 18, 19], [16])])
def qanatlaw03_ScanComments.B15 : List Nat := [0, 0, 3, 7, 0, 31, 63, 0, 0, 384, 1023, 2047, 4095, 8191, 8191, 8191, 8191, 16383, 163839, 458751, 1048575]
theorem qanatlaw03_ScanComments.tab15 : rtab .any (opsOf Tryz.f10 15) = qanatlaw03_ScanComments.T15 := by kernel_rfl
theorem qanatlaw03_ScanComments.bits15 : waitsOk qanatlaw03_ScanComments.T15.2 qanatlaw03_ScanComments.B15 = true := by kernel_rfl
set_option maxHeartbeats 8000000 in
set_option maxRecDepth 100000 in
theorem qanatlaw03_ScanComments.calls (k : Nat) (a0 : ByteArray) (a1 : Int) (a2 : Bool) (a3 : ByteArray) (r : Bool) (w : World) (hT : TabOK w) (h : qanatlaw03_ScanComments.f k a0 a1 a2 a3 = some r) :
    Calls Tryz.prog 10 #[.string a0, .int .u16 a1, .bool a2, .string a3] w fun e w' => e = .returned (.bool r) ∧ Below w.heap.size w w' := by
  have hu53 := Tryz.underlying53
  have HB := Aside0.mk (Below.refl w.heap.size w)
  have H : ((scan_Tokens.f a0).bind fun bt505 => ((qanatlaw03_small.f a0).bind fun t511 => (if t511 = true then (if bt505.2.2.2 = 0 then (if (bt505.1.length : Int) = 0 then (qanatlaw03_ScanComments.j0 k a0 a1 a2 a3 bt505.1 true) else (qanatlaw03_ScanComments.j0 k a0 a1 a2 a3 bt505.1 (decide ((a3.size : Int) > 20)))) else (qanatlaw03_ScanComments.j0 k a0 a1 a2 a3 bt505.1 true)) else (qanatlaw03_ScanComments.j0 k a0 a1 a2 a3 bt505.1 true)))) = some r := h
  clear h
  replace H := Option.bind_eq_some_iff.mp H
  obtain ⟨⟨t505, t506, t507, t508⟩, A50, H⟩ := H
  replace H : ((qanatlaw03_small.f a0).bind fun t511 => (if t511 = true then (if t508 = 0 then (if (t505.length : Int) = 0 then (qanatlaw03_ScanComments.j0 k a0 a1 a2 a3 t505 true) else (qanatlaw03_ScanComments.j0 k a0 a1 a2 a3 t505 (decide ((a3.size : Int) > 20)))) else (qanatlaw03_ScanComments.j0 k a0 a1 a2 a3 t505 true)) else (qanatlaw03_ScanComments.j0 k a0 a1 a2 a3 t505 true))) = some r := H
  have A5 := Aside0.mk A50
  clear A50
  have HC6 := Aside0.mk H
  clear H
  go_enter Tryz.func10, Tryz.ntmps10
  go_upto_region 2 with (first | ((with_reducible refine gate_callee (f := 17) rfl ?_); refine goesL_ (some 22) rfl rfl Tryz.func17 (by kernel_rfl) rfl #[.string a0] rfl (by (try simp only [List.map_toArray, List.map_cons, List.map_nil]); first | done | rfl | (simp only [List.length_drop, List.length_take]; rfl)) ?_; (with_reducible refine (scan_Tokens.calls a0 t505 t506 t507 t508 _ (TabOK.of_below hT (by repeat (first | (with_reducible first | exact HB.out | apply below_alloc | apply pw_below_drewN | apply below_drew1) | exact HB.out))) A5.out).mono ?_); rintro e w7 ⟨v509, rfl, ho0, hb⟩; refine ⟨_, rfl, ?_⟩; have n0_ := Aside0.mk (Kd.R_lower ho0 (below_size (by repeat (first | (with_reducible first | exact HB.out | apply below_alloc | apply pw_below_drewN | apply below_drew1) | exact HB.out)))); have n1_ := Aside0.mk (below_step (by repeat (first | (with_reducible first | exact HB.out | apply below_alloc | apply pw_below_drewN | apply below_drew1) | exact HB.out)) hb); clear HB; have HO510 := n0_; have HB := n1_; clear n0_ n1_; (try clear hb); (try clear hb2); (try clear hk); (try clear hi); (try clear ho0)))
  (try simp only [Act.put, List.setIfInBounds_toArray, List.set_cons_zero, List.set_cons_succ])
  go_cut [43] (fun v43 wc => ∃ (kq : Nat) (x43_5 : Bool), v43 = .bool x43_5 ∧ Aside0 (qanatlaw03_ScanComments.j0 kq a0 a1 a2 a3 t505 x43_5 = some r) ∧ Aside0 (kq ≤ k) ∧ Aside0 (Kd.R k53 53 wc w.heap.size (fun _ => True) v509 t505) ∧ Aside0 (Below w.heap.size w wc))
  case first =>
    have H := HC6.out
    clear HC6
    replace H := Option.bind_eq_some_iff.mp H
    obtain ⟨t511, A80, H⟩ := H
    replace H : (if t511 = true then (if t508 = 0 then (if (t505.length : Int) = 0 then (qanatlaw03_ScanComments.j0 k a0 a1 a2 a3 t505 true) else (qanatlaw03_ScanComments.j0 k a0 a1 a2 a3 t505 (decide ((a3.size : Int) > 20)))) else (qanatlaw03_ScanComments.j0 k a0 a1 a2 a3 t505 true)) else (qanatlaw03_ScanComments.j0 k a0 a1 a2 a3 t505 true)) = some r := H
    have A8 := Aside0.mk A80
    clear A80
    by_cases c9 : t511 = true
    · subst c9
      have H1 : (if t508 = 0 then (if (t505.length : Int) = 0 then (qanatlaw03_ScanComments.j0 k a0 a1 a2 a3 t505 true) else (qanatlaw03_ScanComments.j0 k a0 a1 a2 a3 t505 (decide ((a3.size : Int) > 20)))) else (qanatlaw03_ScanComments.j0 k a0 a1 a2 a3 t505 true)) = some r := by rw [if_pos rfl] at H; exact H
      clear H
      have H := H1
      clear H1
      by_cases c10 : t508 = 0
      · rw [if_pos c10] at H
        have c10b0 : (t508 == 0) = true := beq_iff_eq.mpr c10
        have c10b1 : (t508 != 0) = false := bne_eq_false_iff_eq.mpr c10
        clear c10
        (first | rw [c10b0] | (simp only [i64_w, i32_w]; rw [c10b0]) | skip)
        by_cases c11 : (t505.length : Int) = 0
        · rw [if_pos c11] at H
          have c11b0 : ((t505.length : Int) == 0) = true := beq_iff_eq.mpr c11
          have c11b1 : ((t505.length : Int) != 0) = false := bne_eq_false_iff_eq.mpr c11
          clear c11
          have H' := Aside0.mk H
          clear H
          go_wp2_with (first | ((with_reducible refine gate_callee (f := 39) rfl ?_); refine goesL_ (some 28) rfl rfl Tryz.func39 (by kernel_rfl) rfl #[.string a0] rfl (by (try simp only [List.map_toArray, List.map_cons, List.map_nil]); first | done | rfl | (simp only [List.length_drop, List.length_take]; rfl)) ?_; (with_reducible refine (qanatlaw03_small.calls a0 true _ A8.out).mono ?_); rintro e w' ⟨rfl, ⟨nd, rfl⟩⟩; refine ⟨_, rfl, ?_⟩; obtain ⟨Ao12, co12, eo12⟩ := Kd.R_slice HO510.out; subst eo12))
          go_meet
          case rel => exact ⟨_, (true), (by first | rfl | (simp; done) | (simp [*]; done)), H', ⟨by first | omega | exact Nat.le_refl _⟩, ⟨by (with_reducible repeat (first | apply Kd.R_alloc | apply Kd.R_drewN | apply Kd.R_drew)); exact HO510.out⟩, ⟨by repeat (first | (with_reducible first | exact HB.out | apply below_alloc | apply pw_below_drewN | apply below_drew1) | exact HB.out)⟩⟩
        · rw [if_neg c11] at H
          have c11b0 : ((t505.length : Int) == 0) = false := beq_eq_false_iff_ne.mpr c11
          have c11b1 : ((t505.length : Int) != 0) = true := bne_iff_ne.mpr c11
          have c11b2 : ¬ (t505 = []) := fun h_ => c11 (by rw [h_]; rfl)
          have H' := Aside0.mk H
          clear H
          go_wp2_with (first | ((with_reducible refine gate_callee (f := 39) rfl ?_); refine goesL_ (some 28) rfl rfl Tryz.func39 (by kernel_rfl) rfl #[.string a0] rfl (by (try simp only [List.map_toArray, List.map_cons, List.map_nil]); first | done | rfl | (simp only [List.length_drop, List.length_take]; rfl)) ?_; (with_reducible refine (qanatlaw03_small.calls a0 true _ A8.out).mono ?_); rintro e w' ⟨rfl, ⟨nd, rfl⟩⟩; refine ⟨_, rfl, ?_⟩; obtain ⟨Ao13, co13, eo13⟩ := Kd.R_slice HO510.out; subst eo13))
          go_meet
          case rel => exact ⟨_, (decide ((a3.size : Int) > 20)), (by first | rfl | (simp; done) | (simp [*]; done)), H', ⟨by first | omega | exact Nat.le_refl _⟩, ⟨by (with_reducible repeat (first | apply Kd.R_alloc | apply Kd.R_drewN | apply Kd.R_drew)); exact HO510.out⟩, ⟨by repeat (first | (with_reducible first | exact HB.out | apply below_alloc | apply pw_below_drewN | apply below_drew1) | exact HB.out)⟩⟩
      · rw [if_neg c10] at H
        have c10b0 : (t508 == 0) = false := beq_eq_false_iff_ne.mpr c10
        have c10b1 : (t508 != 0) = true := bne_iff_ne.mpr c10
        (first | rw [c10b0] | (simp only [i64_w, i32_w]; rw [c10b0]) | skip)
        have H' := Aside0.mk H
        clear H
        go_wp2_with (first | ((with_reducible refine gate_callee (f := 39) rfl ?_); refine goesL_ (some 28) rfl rfl Tryz.func39 (by kernel_rfl) rfl #[.string a0] rfl (by (try simp only [List.map_toArray, List.map_cons, List.map_nil]); first | done | rfl | (simp only [List.length_drop, List.length_take]; rfl)) ?_; (with_reducible refine (qanatlaw03_small.calls a0 true _ A8.out).mono ?_); rintro e w' ⟨rfl, ⟨nd, rfl⟩⟩; refine ⟨_, rfl, ?_⟩))
        go_meet
        case rel => exact ⟨_, (true), (by first | rfl | (simp; done) | (simp [*]; done)), H', ⟨by first | omega | exact Nat.le_refl _⟩, ⟨by (with_reducible repeat (first | apply Kd.R_alloc | apply Kd.R_drewN | apply Kd.R_drew)); exact HO510.out⟩, ⟨by repeat (first | (with_reducible first | exact HB.out | apply below_alloc | apply pw_below_drewN | apply below_drew1) | exact HB.out)⟩⟩
    · replace c9 := Bool.eq_false_iff.mpr c9
      subst c9
      have H1 : (qanatlaw03_ScanComments.j0 k a0 a1 a2 a3 t505 true) = some r := by rw [if_neg (show ¬ (false = true) by decide)] at H; exact H
      clear H
      have H := H1
      clear H1
      have H' := Aside0.mk H
      clear H
      go_wp2_with (first | ((with_reducible refine gate_callee (f := 39) rfl ?_); refine goesL_ (some 28) rfl rfl Tryz.func39 (by kernel_rfl) rfl #[.string a0] rfl (by (try simp only [List.map_toArray, List.map_cons, List.map_nil]); first | done | rfl | (simp only [List.length_drop, List.length_take]; rfl)) ?_; (with_reducible refine (qanatlaw03_small.calls a0 false _ A8.out).mono ?_); rintro e w' ⟨rfl, ⟨nd, rfl⟩⟩; refine ⟨_, rfl, ?_⟩))
      go_meet
      case rel => exact ⟨_, (true), (by first | rfl | (simp; done) | (simp [*]; done)), H', ⟨by first | omega | exact Nat.le_refl _⟩, ⟨by (with_reducible repeat (first | apply Kd.R_alloc | apply Kd.R_drewN | apply Kd.R_drew)); exact HO510.out⟩, ⟨by repeat (first | (with_reducible first | exact HB.out | apply below_alloc | apply pw_below_drewN | apply below_drew1) | exact HB.out)⟩⟩
  case rest =>
    clear HC6
    try clear c1
    try clear p2
    try clear c3
    try clear c9
    try clear c10
    try clear c10b0
    try clear c10b1
    try clear c11
    try clear c11b0
    try clear c11b1
    try clear c11b2
    obtain ⟨kq, x43_5, rfl, HA, HJ5, HO_9, HB⟩ := hcut
    cases kq with
    | zero => exact absurd HA.out (by simp [qanatlaw03_ScanComments.j0])
    | succ kj5 =>
      have H := HA.out
      clear HA
      simp only [qanatlaw03_ScanComments.j0] at H
      by_cases c14 : x43_5 = true
      · subst c14
        have H1 : ((qanatlaw03_sanity.f).bind fun t512 => (some t512)) = some r := by rw [if_pos rfl] at H; exact H
        clear H
        have H := H1
        clear H1
        replace H := Option.bind_eq_some_iff.mp H
        obtain ⟨t512, A150, H⟩ := H
        replace H : (some t512) = some r := H
        have A15 := Aside0.mk A150
        clear A150
        obtain rfl := Option.some.inj H
        go_wp2_with (first | ((with_reducible refine gate_callee (f := 16) rfl ?_); refine goesL_ (some 44) rfl rfl Tryz.func16 (by kernel_rfl) rfl #[] rfl (by (try simp only [List.map_toArray, List.map_cons, List.map_nil]); first | done | rfl | (simp only [List.length_drop, List.length_take]; rfl)) ?_; (with_reducible refine (qanatlaw03_sanity.calls  t512 _ (TabOK.of_below hT (by repeat (first | (with_reducible first | exact HB.out | apply below_alloc | apply pw_below_drewN | apply below_drew1) | exact HB.out))) A15.out).mono ?_); rintro e w16 ⟨rfl, hb⟩; refine ⟨_, rfl, ?_⟩; have n0_ := Aside0.mk (Kd.R_below (by (with_reducible repeat (first | apply Kd.R_alloc | apply Kd.R_drewN | apply Kd.R_drew)); exact HO_9.out) hb); have n1_ := Aside0.mk (below_step (by repeat (first | (with_reducible first | exact HB.out | apply below_alloc | apply pw_below_drewN | apply below_drew1) | exact HB.out)) hb); clear HO_9; clear HB; have HO_9 := n0_; have HB := n1_; clear n0_ n1_; (try clear hb); (try clear hb2); (try clear hk); (try clear hi)))
        go_ret
        exact ⟨by first | rfl | (simp [errW_none, errW_some] <;> rfl) | (simp [*, errW_none, errW_some] <;> rfl), by repeat (first | (with_reducible first | exact HB.out | apply below_alloc | apply pw_below_drewN | apply below_drew1) | exact HB.out)⟩
      · replace c14 := Bool.eq_false_iff.mpr c14
        subst c14
        have H1 : (qanatlaw03_ScanComments.l0 kj5 a0 a1 a2 a3 t505 0) = some r := by rw [if_neg (show ¬ (false = true) by decide)] at H; exact H
        clear H
        have H := H1
        clear H1
        have H' := Aside0.mk H
        clear H
        go_wp2
        go_loopg [13] kj5 (fun kq v13 w' => ∃ (x13_2 : Int), v13 = .int .i64 x13_2 ∧ Aside0 (qanatlaw03_ScanComments.l0 kq a0 a1 a2 a3 t505 x13_2 = some r) ∧ Aside0 (kq ≤ kj5) ∧ Aside0 (Kd.R k53 53 w' w.heap.size (fun _ => True) v509 t505) ∧ Aside0 (Below w.heap.size w w'))
        case atStart => exact ⟨(0), (by first | rfl | (simp; done) | (simp [*]; done)), H', ⟨Nat.le_refl _⟩, ⟨by (with_reducible repeat (first | apply Kd.R_alloc | apply Kd.R_drewN | apply Kd.R_drew)); exact HO_9.out⟩, ⟨by repeat (first | (with_reducible first | exact HB.out | apply below_alloc | apply pw_below_drewN | apply below_drew1) | exact HB.out)⟩⟩
        case round =>
          clear H'
          try clear c1
          try clear p2
          try clear c3
          try clear c9
          try clear c10
          try clear c10b0
          try clear c10b1
          try clear c11
          try clear c11b0
          try clear c11b1
          try clear c11b2
          try clear c14
          try clear c16
          try clear p2
          obtain ⟨x13_2, rfl, HA, HK2, HO_9, HB⟩ := hrel
          cases gk with
          | zero => exact absurd HA.out (by simp [qanatlaw03_ScanComments.l0])
          | succ k2 =>
            have H := HA.out
            clear HA
            simp only [qanatlaw03_ScanComments.l0] at H
            by_cases c17 : x13_2 < (a3.size : Int)
            · rw [if_pos c17] at H
              have c17b0 : decide (x13_2 < (a3.size : Int)) = true := decide_eq_true c17
              clear c17
              by_cases c18 : 0 ≤ x13_2
              · rw [if_pos c18] at H
                have c18b0 : decide (0 ≤ x13_2) = true := decide_eq_true c18
                clear c18
                by_cases c20 : (bt a3 x13_2) < 97
                · rw [if_pos c20] at H
                  have c20b0 : decide ((bt a3 x13_2) < 97) = true := decide_eq_true c20
                  clear c20
                  replace H := Option.bind_eq_some_iff.mp H
                  obtain ⟨t513, A210, H⟩ := H
                  replace H : (some t513) = some r := H
                  have A21 := Aside0.mk A210
                  clear A210
                  obtain rfl := Option.some.inj H
                  have p19 : 0 ≤ (x13_2 : Int) := of_decide_eq_true (by first | (with_reducible assumption) | assumption)
                  have q19 : x13_2 < (a3.size : Int) := of_decide_eq_true (by first | (with_reducible assumption) | assumption)
                  have hx19 := bt_at a3 x13_2
                  replace p19 := eq_true p19
                  replace q19 := eq_true q19
                  go_wp2_with (first | ((with_reducible refine gate_callee (f := 16) rfl ?_); refine goesL_ (some 61) rfl rfl Tryz.func16 (by kernel_rfl) rfl #[] rfl (by (try simp only [List.map_toArray, List.map_cons, List.map_nil]); first | done | rfl | (simp only [List.length_drop, List.length_take]; rfl)) ?_; (with_reducible refine (qanatlaw03_sanity.calls  t513 _ (TabOK.of_below hT (by repeat (first | (with_reducible first | exact HB.out | apply below_alloc | apply pw_below_drewN | apply below_drew1) | exact HB.out))) A21.out).mono ?_); rintro e w22 ⟨rfl, hb⟩; refine ⟨_, rfl, ?_⟩; have n0_ := Aside0.mk (Kd.R_below (by (with_reducible repeat (first | apply Kd.R_alloc | apply Kd.R_drewN | apply Kd.R_drew)); exact HO_9.out) hb); have n1_ := Aside0.mk (below_step (by repeat (first | (with_reducible first | exact HB.out | apply below_alloc | apply pw_below_drewN | apply below_drew1) | exact HB.out)) hb); clear HO_9; clear HB; have HO_9 := n0_; have HB := n1_; clear n0_ n1_; (try clear hb); (try clear hb2); (try clear hk); (try clear hi)))
                  go_ret
                  exact ⟨by first | rfl | (simp [errW_none, errW_some] <;> rfl) | (simp [*, errW_none, errW_some] <;> rfl), by repeat (first | (with_reducible first | exact HB.out | apply below_alloc | apply pw_below_drewN | apply below_drew1) | exact HB.out)⟩
                · rw [if_neg c20] at H
                  have c20b0 : decide ((bt a3 x13_2) < 97) = false := decide_eq_false c20
                  clear c20
                  by_cases c24 : (bt a3 x13_2) > 122
                  · rw [if_pos c24] at H
                    have c24b0 : decide (122 < (bt a3 x13_2)) = true := decide_eq_true c24
                    clear c24
                    replace H := Option.bind_eq_some_iff.mp H
                    obtain ⟨t514, A250, H⟩ := H
                    replace H : (some t514) = some r := H
                    have A25 := Aside0.mk A250
                    clear A250
                    obtain rfl := Option.some.inj H
                    have p19 : 0 ≤ (x13_2 : Int) := of_decide_eq_true (by first | (with_reducible assumption) | assumption)
                    have q19 : x13_2 < (a3.size : Int) := of_decide_eq_true (by first | (with_reducible assumption) | assumption)
                    have hx19 := bt_at a3 x13_2
                    replace p19 := eq_true p19
                    replace q19 := eq_true q19
                    have p23 : 0 ≤ (x13_2 : Int) := of_decide_eq_true (by first | (with_reducible assumption) | assumption)
                    have q23 : x13_2 < (a3.size : Int) := of_decide_eq_true (by first | (with_reducible assumption) | assumption)
                    have hx23 := bt_at a3 x13_2
                    replace p23 := eq_true p23
                    replace q23 := eq_true q23
                    go_wp2_with (first | ((with_reducible refine gate_callee (f := 16) rfl ?_); refine goesL_ (some 61) rfl rfl Tryz.func16 (by kernel_rfl) rfl #[] rfl (by (try simp only [List.map_toArray, List.map_cons, List.map_nil]); first | done | rfl | (simp only [List.length_drop, List.length_take]; rfl)) ?_; (with_reducible refine (qanatlaw03_sanity.calls  t514 _ (TabOK.of_below hT (by repeat (first | (with_reducible first | exact HB.out | apply below_alloc | apply pw_below_drewN | apply below_drew1) | exact HB.out))) A25.out).mono ?_); rintro e w26 ⟨rfl, hb⟩; refine ⟨_, rfl, ?_⟩; have n0_ := Aside0.mk (Kd.R_below (by (with_reducible repeat (first | apply Kd.R_alloc | apply Kd.R_drewN | apply Kd.R_drew)); exact HO_9.out) hb); have n1_ := Aside0.mk (below_step (by repeat (first | (with_reducible first | exact HB.out | apply below_alloc | apply pw_below_drewN | apply below_drew1) | exact HB.out)) hb); clear HO_9; clear HB; have HO_9 := n0_; have HB := n1_; clear n0_ n1_; (try clear hb); (try clear hb2); (try clear hk); (try clear hi)))
                    go_ret
                    exact ⟨by first | rfl | (simp [errW_none, errW_some] <;> rfl) | (simp [*, errW_none, errW_some] <;> rfl), by repeat (first | (with_reducible first | exact HB.out | apply below_alloc | apply pw_below_drewN | apply below_drew1) | exact HB.out)⟩
                  · rw [if_neg c24] at H
                    have c24b0 : decide (122 < (bt a3 x13_2)) = false := decide_eq_false c24
                    clear c24
                    have H' := Aside0.mk H
                    clear H
                    have p19 : 0 ≤ (x13_2 : Int) := of_decide_eq_true (by first | (with_reducible assumption) | assumption)
                    have q19 : x13_2 < (a3.size : Int) := of_decide_eq_true (by first | (with_reducible assumption) | assumption)
                    have hx19 := bt_at a3 x13_2
                    replace p19 := eq_true p19
                    replace q19 := eq_true q19
                    have p23 : 0 ≤ (x13_2 : Int) := of_decide_eq_true (by first | (with_reducible assumption) | assumption)
                    have q23 : x13_2 < (a3.size : Int) := of_decide_eq_true (by first | (with_reducible assumption) | assumption)
                    have hx23 := bt_at a3 x13_2
                    replace p23 := eq_true p23
                    replace q23 := eq_true q23
                    go_wp2
                    go_roundg k2
                    case measure => have := HJ5.out; have := HK2.out; omega
                    case rel => exact ⟨(wrap64 (x13_2 + 1)), (by first | rfl | (simp; done) | (simp [*]; done)), H', ⟨by have := HJ5.out; have := HK2.out; omega⟩, ⟨by (with_reducible repeat (first | apply Kd.R_alloc | apply Kd.R_drewN | apply Kd.R_drew)); exact HO_9.out⟩, ⟨by repeat (first | (with_reducible first | exact HB.out | apply below_alloc | apply pw_below_drewN | apply below_drew1) | exact HB.out)⟩⟩
              · rw [if_neg c18] at H
                exact absurd H (by simp)
            · rw [if_neg c17] at H
              have c17b0 : decide (x13_2 < (a3.size : Int)) = false := decide_eq_false c17
              clear c17
              by_cases c27 : (t505.length : Int) = 0
              · rw [if_pos c27] at H
                exact absurd H (by simp)
              · rw [if_neg c27] at H
                have c27b0 : ((t505.length : Int) == 0) = false := beq_eq_false_iff_ne.mpr c27
                have c27b1 : ((t505.length : Int) != 0) = true := bne_iff_ne.mpr c27
                have c27b2 : ¬ (t505 = []) := fun h_ => c27 (by rw [h_]; rfl)
                obtain ⟨ji28, hji28⟩ : ∃ j_ : Int, (Int.tmod (wrap64 (a1)) (t505.length : Int)) = j_ := ⟨_, rfl⟩
                replace H : (if 0 ≤ (ji28) then (if (ji28) < (t505.length : Int) then (if a2 = true then (qanatlaw03_ScanComments.j2 k2 a0 a3 t505 ((rd_T53 t505 (ji28)).f5)) else (qanatlaw03_ScanComments.j2 k2 a0 a3 t505 ((rd_T53 t505 (ji28)).f4))) else (none)) else (none)) = some r := by first | (rw [hji28] at H; exact H) | (simp only [hji28] at H ⊢; exact H)
                by_cases c29 : 0 ≤ (ji28)
                · rw [if_pos c29] at H
                  have c29b0 : decide (0 ≤ (ji28)) = true := decide_eq_true c29
                  clear c29
                  by_cases c30 : (ji28) < (t505.length : Int)
                  · rw [if_pos c30] at H
                    have c30b0 : decide ((ji28) < (t505.length : Int)) = true := decide_eq_true c30
                    clear c30
                    have HC31 := Aside0.mk H
                    clear H
                    obtain ⟨Ao32, co32, eo32⟩ := Kd.R_slice HO_9.out
                    subst eo32
                    have p515 : 0 ≤ ((ji28) : Int) := of_decide_eq_true (by first | (with_reducible assumption) | assumption)
                    have q515 : (ji28) < (t505.length : Int) := of_decide_eq_true (by first | (with_reducible assumption) | assumption)
                    obtain ⟨ad515, e515, hx515_0, hx515_1, hx515_2, hx515_3, hx515_4, hx515_5⟩ := at_T53 (Kd.R_reads' HO_9.out).2.2 (ji28) p515 q515
                    cases e515
                    replace p515 := eq_true p515
                    replace q515 := eq_true q515
                    go_upto_if 72 with (first | ((with_reducible refine gate_dst (N := 14) rfl ?_); (try (refine gate_guard (by rfl) ?_; dsimp only)); refine box_event ?hg (N := 14) ?hd (cs := #[.int .i64 0, .string (⟨#[]⟩ : ByteArray), .bool false, .int .i64 0, .int .i64 0, .int .i64 0]) (t := 53) ?hr ?_; (case hd => rfl); (case hg => rfl); (case hr => first | (go_simp; done) | (go_simp; rfl)); intro gb516 hg w33 hbox hb; have n0_ := Aside0.mk (Kd.R_below (Kd.R_elderB (by (with_reducible repeat (first | apply Kd.R_alloc | apply Kd.R_drewN | apply Kd.R_drew)); exact HO_9.out) gb516 (Nat.le_of_eq hg.symm)) hb); have n1_ := Aside0.mk (below_step (by repeat (first | (with_reducible first | exact HB.out | apply below_alloc | apply pw_below_drewN | apply below_drew1) | exact HB.out)) hb); have n2_ := Aside0.mk (hbox); have n3_ := Aside0.mk ((by rw [hg]; exact (below_size (by repeat (first | (with_reducible first | exact HB.out | apply below_alloc | apply pw_below_drewN | apply below_drew1) | exact HB.out))) : w.heap.size ≤ gb516)); have n4_ := Aside0.mk ((by rw [hg]; exact (below_size (by repeat (first | (with_reducible first | exact HB.out | apply below_alloc | apply pw_below_drewN | apply below_drew1) | exact HB.out))) : w.heap.size ≤ gb516)); clear HO_9; clear HB; have HO_9 := n0_; have HB := n1_; have BK516 := n2_; have GW516 := n3_; have GE516 := n4_; clear n0_ n1_ n2_ n3_ n4_; clear hb hbox hg; have hcz34_0 : w33.cell? ⟨gb516, 0, none⟩ = some (.int .i64 0) := (blk_cell BK516.out 0).trans rfl; have hcz34_1 : w33.cell? ⟨gb516, 1, none⟩ = some (.string (⟨#[]⟩ : ByteArray)) := (blk_cell BK516.out 1).trans rfl; have hcz34_2 : w33.cell? ⟨gb516, 2, none⟩ = some (.bool false) := (blk_cell BK516.out 2).trans rfl; have hcz34_3 : w33.cell? ⟨gb516, 3, none⟩ = some (.int .i64 0) := (blk_cell BK516.out 3).trans rfl; have hcz34_4 : w33.cell? ⟨gb516, 4, none⟩ = some (.int .i64 0) := (blk_cell BK516.out 4).trans rfl; have hcz34_5 : w33.cell? ⟨gb516, 5, none⟩ = some (.int .i64 0) := (blk_cell BK516.out 5).trans rfl; have hfz34_0 := blk_frozen BK516.out 0; have hfz34_1 := blk_frozen BK516.out 1; have hfz34_2 := blk_frozen BK516.out 2; have hfz34_3 := blk_frozen BK516.out 3; have hfz34_4 := blk_frozen BK516.out 4; have hfz34_5 := blk_frozen BK516.out 5))
                    (try simp only [Act.put, List.setIfInBounds_toArray, List.set_cons_zero, List.set_cons_succ])
                    go_cut [15] (fun v15 wc => ∃ (kq : Nat) (x15_30 : Int), v15 = .int .i64 x15_30 ∧ Aside0 (qanatlaw03_ScanComments.j2 kq a0 a3 t505 x15_30 = some r) ∧ Aside0 (kq ≤ k2) ∧ Aside0 (Kd.R k53 53 wc w.heap.size (fun k_ => k_ ≠ gb516) (.slice (some ad515) t505.length co32) t505) ∧ Aside0 (wc.heap[gb516]? = some (.cells #[.int .i64 ((rd_T53 t505 (ji28)).f0), .string ((rd_T53 t505 (ji28)).f1), .bool ((rd_T53 t505 (ji28)).f2), .int .i64 ((rd_T53 t505 (ji28)).f3), .int .i64 ((rd_T53 t505 (ji28)).f4), .int .i64 ((rd_T53 t505 (ji28)).f5)] 53 (0, 0))) ∧ Aside0 (Below w.heap.size w wc))
                    case first =>
                      have H := HC31.out
                      clear HC31
                      by_cases c35 : a2 = true
                      · subst c35
                        have H1 : (qanatlaw03_ScanComments.j2 k2 a0 a3 t505 ((rd_T53 t505 (ji28)).f5)) = some r := by rw [if_pos rfl] at H; exact H
                        clear H
                        have H := H1
                        clear H1
                        have H' := Aside0.mk H
                        clear H
                        have hcz36_0 : w33.cell? ⟨gb516, 0, none⟩ = some (.int .i64 0) := (blk_cell BK516.out 0).trans rfl
                        have hcz36_1 : w33.cell? ⟨gb516, 1, none⟩ = some (.string (⟨#[]⟩ : ByteArray)) := (blk_cell BK516.out 1).trans rfl
                        have hcz36_2 : w33.cell? ⟨gb516, 2, none⟩ = some (.bool false) := (blk_cell BK516.out 2).trans rfl
                        have hcz36_3 : w33.cell? ⟨gb516, 3, none⟩ = some (.int .i64 0) := (blk_cell BK516.out 3).trans rfl
                        have hcz36_4 : w33.cell? ⟨gb516, 4, none⟩ = some (.int .i64 0) := (blk_cell BK516.out 4).trans rfl
                        have hcz36_5 : w33.cell? ⟨gb516, 5, none⟩ = some (.int .i64 0) := (blk_cell BK516.out 5).trans rfl
                        have hfz36_0 := blk_frozen BK516.out 0
                        have hfz36_1 := blk_frozen BK516.out 1
                        have hfz36_2 := blk_frozen BK516.out 2
                        have hfz36_3 := blk_frozen BK516.out 3
                        have hfz36_4 := blk_frozen BK516.out 4
                        have hfz36_5 := blk_frozen BK516.out 5
                        go_wp2
                        go_meet
                        case rel => exact ⟨_, ((rd_T53 t505 (ji28)).f5), (by first | rfl | (simp; done) | (simp only [← hji28] <;> (first | rfl | simp)) | (simp [*]; done)), H', ⟨by have := HJ5.out; have := HK2.out; first | omega | exact Nat.le_refl _⟩, ⟨by (with_reducible repeat (first | apply Kd.R_alloc | apply Kd.R_drewN | apply Kd.R_drew)); exact Kd.R_mono (Kd.R_far (p := ⟨gb516, 5, none⟩) (Kd.R_far (p := ⟨gb516, 4, none⟩) (Kd.R_far (p := ⟨gb516, 3, none⟩) (Kd.R_far (p := ⟨gb516, 2, none⟩) (Kd.R_far (p := ⟨gb516, 1, none⟩) (Kd.R_far (p := ⟨gb516, 0, none⟩) (Kd.R_mono HO_9.out (fun k_ hk => (⟨hk, hk.2⟩ : _ ∧ k_ ≠ gb516))) (fun _ hk => hk.2) (.int .i64 ((rd_T53 t505 (ji28)).f0))) (fun _ hk => hk.2) (.string ((rd_T53 t505 (ji28)).f1))) (fun _ hk => hk.2) (.bool ((rd_T53 t505 (ji28)).f2))) (fun _ hk => hk.2) (.int .i64 ((rd_T53 t505 (ji28)).f3))) (fun _ hk => hk.2) (.int .i64 ((rd_T53 t505 (ji28)).f4))) (fun _ hk => hk.2) (.int .i64 ((rd_T53 t505 (ji28)).f5))) (fun _ hk => hk.1.2)⟩, ⟨by (with_reducible repeat (first | refine blk_drewN ?_ _ | refine blk_drew ?_ | refine blk_alloc ?_ _)); refine blk_put (cs := #[.int .i64 ((rd_T53 t505 (ji28)).f0), .string ((rd_T53 t505 (ji28)).f1), .bool ((rd_T53 t505 (ji28)).f2), .int .i64 ((rd_T53 t505 (ji28)).f3), .int .i64 ((rd_T53 t505 (ji28)).f4), .int .i64 0]) ?_ 5 _ rfl; (with_reducible repeat (first | refine blk_drewN ?_ _ | refine blk_drew ?_ | refine blk_alloc ?_ _)); refine blk_put (cs := #[.int .i64 ((rd_T53 t505 (ji28)).f0), .string ((rd_T53 t505 (ji28)).f1), .bool ((rd_T53 t505 (ji28)).f2), .int .i64 ((rd_T53 t505 (ji28)).f3), .int .i64 0, .int .i64 0]) ?_ 4 _ rfl; (with_reducible repeat (first | refine blk_drewN ?_ _ | refine blk_drew ?_ | refine blk_alloc ?_ _)); refine blk_put (cs := #[.int .i64 ((rd_T53 t505 (ji28)).f0), .string ((rd_T53 t505 (ji28)).f1), .bool ((rd_T53 t505 (ji28)).f2), .int .i64 0, .int .i64 0, .int .i64 0]) ?_ 3 _ rfl; (with_reducible repeat (first | refine blk_drewN ?_ _ | refine blk_drew ?_ | refine blk_alloc ?_ _)); refine blk_put (cs := #[.int .i64 ((rd_T53 t505 (ji28)).f0), .string ((rd_T53 t505 (ji28)).f1), .bool false, .int .i64 0, .int .i64 0, .int .i64 0]) ?_ 2 _ rfl; (with_reducible repeat (first | refine blk_drewN ?_ _ | refine blk_drew ?_ | refine blk_alloc ?_ _)); refine blk_put (cs := #[.int .i64 ((rd_T53 t505 (ji28)).f0), .string (⟨#[]⟩ : ByteArray), .bool false, .int .i64 0, .int .i64 0, .int .i64 0]) ?_ 1 _ rfl; (with_reducible repeat (first | refine blk_drewN ?_ _ | refine blk_drew ?_ | refine blk_alloc ?_ _)); refine blk_put (cs := #[.int .i64 0, .string (⟨#[]⟩ : ByteArray), .bool false, .int .i64 0, .int .i64 0, .int .i64 0]) ?_ 0 _ rfl; (with_reducible repeat (first | refine blk_drewN ?_ _ | refine blk_drew ?_ | refine blk_alloc ?_ _)); exact BK516.out⟩, ⟨by repeat (first | (with_reducible first | exact HB.out | apply below_alloc | apply pw_below_drewN | apply below_drew1 | refine below_set ?_ GE516.out) | exact HB.out)⟩⟩
                      · replace c35 := Bool.eq_false_iff.mpr c35
                        subst c35
                        have H1 : (qanatlaw03_ScanComments.j2 k2 a0 a3 t505 ((rd_T53 t505 (ji28)).f4)) = some r := by rw [if_neg (show ¬ (false = true) by decide)] at H; exact H
                        clear H
                        have H := H1
                        clear H1
                        have H' := Aside0.mk H
                        clear H
                        go_wp2
                        go_meet
                        case rel => exact ⟨_, ((rd_T53 t505 (ji28)).f4), (by first | rfl | (simp; done) | (simp only [← hji28] <;> (first | rfl | simp)) | (simp [*]; done)), H', ⟨by have := HJ5.out; have := HK2.out; first | omega | exact Nat.le_refl _⟩, ⟨by (with_reducible repeat (first | apply Kd.R_alloc | apply Kd.R_drewN | apply Kd.R_drew)); exact Kd.R_mono (Kd.R_far (p := ⟨gb516, 5, none⟩) (Kd.R_far (p := ⟨gb516, 4, none⟩) (Kd.R_far (p := ⟨gb516, 3, none⟩) (Kd.R_far (p := ⟨gb516, 2, none⟩) (Kd.R_far (p := ⟨gb516, 1, none⟩) (Kd.R_far (p := ⟨gb516, 0, none⟩) (Kd.R_mono HO_9.out (fun k_ hk => (⟨hk, hk.2⟩ : _ ∧ k_ ≠ gb516))) (fun _ hk => hk.2) (.int .i64 ((rd_T53 t505 (ji28)).f0))) (fun _ hk => hk.2) (.string ((rd_T53 t505 (ji28)).f1))) (fun _ hk => hk.2) (.bool ((rd_T53 t505 (ji28)).f2))) (fun _ hk => hk.2) (.int .i64 ((rd_T53 t505 (ji28)).f3))) (fun _ hk => hk.2) (.int .i64 ((rd_T53 t505 (ji28)).f4))) (fun _ hk => hk.2) (.int .i64 ((rd_T53 t505 (ji28)).f5))) (fun _ hk => hk.1.2)⟩, ⟨by (with_reducible repeat (first | refine blk_drewN ?_ _ | refine blk_drew ?_ | refine blk_alloc ?_ _)); refine blk_put (cs := #[.int .i64 ((rd_T53 t505 (ji28)).f0), .string ((rd_T53 t505 (ji28)).f1), .bool ((rd_T53 t505 (ji28)).f2), .int .i64 ((rd_T53 t505 (ji28)).f3), .int .i64 ((rd_T53 t505 (ji28)).f4), .int .i64 0]) ?_ 5 _ rfl; (with_reducible repeat (first | refine blk_drewN ?_ _ | refine blk_drew ?_ | refine blk_alloc ?_ _)); refine blk_put (cs := #[.int .i64 ((rd_T53 t505 (ji28)).f0), .string ((rd_T53 t505 (ji28)).f1), .bool ((rd_T53 t505 (ji28)).f2), .int .i64 ((rd_T53 t505 (ji28)).f3), .int .i64 0, .int .i64 0]) ?_ 4 _ rfl; (with_reducible repeat (first | refine blk_drewN ?_ _ | refine blk_drew ?_ | refine blk_alloc ?_ _)); refine blk_put (cs := #[.int .i64 ((rd_T53 t505 (ji28)).f0), .string ((rd_T53 t505 (ji28)).f1), .bool ((rd_T53 t505 (ji28)).f2), .int .i64 0, .int .i64 0, .int .i64 0]) ?_ 3 _ rfl; (with_reducible repeat (first | refine blk_drewN ?_ _ | refine blk_drew ?_ | refine blk_alloc ?_ _)); refine blk_put (cs := #[.int .i64 ((rd_T53 t505 (ji28)).f0), .string ((rd_T53 t505 (ji28)).f1), .bool false, .int .i64 0, .int .i64 0, .int .i64 0]) ?_ 2 _ rfl; (with_reducible repeat (first | refine blk_drewN ?_ _ | refine blk_drew ?_ | refine blk_alloc ?_ _)); refine blk_put (cs := #[.int .i64 ((rd_T53 t505 (ji28)).f0), .string (⟨#[]⟩ : ByteArray), .bool false, .int .i64 0, .int .i64 0, .int .i64 0]) ?_ 1 _ rfl; (with_reducible repeat (first | refine blk_drewN ?_ _ | refine blk_drew ?_ | refine blk_alloc ?_ _)); refine blk_put (cs := #[.int .i64 0, .string (⟨#[]⟩ : ByteArray), .bool false, .int .i64 0, .int .i64 0, .int .i64 0]) ?_ 0 _ rfl; (with_reducible repeat (first | refine blk_drewN ?_ _ | refine blk_drew ?_ | refine blk_alloc ?_ _)); exact BK516.out⟩, ⟨by repeat (first | (with_reducible first | exact HB.out | apply below_alloc | apply pw_below_drewN | apply below_drew1 | refine below_set ?_ GE516.out) | exact HB.out)⟩⟩
                    case rest =>
                      clear HC31
                      try clear c1
                      try clear p1
                      try clear q1
                      try clear hx1
                      try clear c2
                      try clear p2
                      try clear q2
                      try clear hx2
                      try clear c3
                      try clear p5
                      try clear q5
                      try clear hx5
                      try clear p6
                      try clear c9
                      try clear c10
                      try clear c10b0
                      try clear c10b1
                      try clear c11
                      try clear c11b0
                      try clear c11b1
                      try clear c11b2
                      try clear c14
                      try clear c16
                      try clear c17
                      try clear c17b0
                      try clear c18
                      try clear c18b0
                      try clear p19
                      try clear q19
                      try clear hx19
                      try clear c20
                      try clear c20b0
                      try clear p23
                      try clear q23
                      try clear hx23
                      try clear c24
                      try clear c24b0
                      try clear c27
                      try clear c27b0
                      try clear c27b1
                      try clear c27b2
                      try clear c29
                      try clear c29b0
                      try clear c30
                      try clear c30b0
                      try clear c35
                      try clear hcz34_0
                      try clear hcz34_1
                      try clear hcz34_2
                      try clear hcz34_3
                      try clear hcz34_4
                      try clear hcz34_5
                      try clear hcz36_0
                      try clear hcz36_1
                      try clear hcz36_2
                      try clear hcz36_3
                      try clear hcz36_4
                      try clear hcz36_5
                      try clear hfz34_0
                      try clear hfz34_1
                      try clear hfz34_2
                      try clear hfz34_3
                      try clear hfz34_4
                      try clear hfz34_5
                      try clear hfz36_0
                      try clear hfz36_1
                      try clear hfz36_2
                      try clear hfz36_3
                      try clear hfz36_4
                      try clear hfz36_5
                      try clear hx515_0
                      try clear hx515_1
                      try clear hx515_2
                      try clear hx515_3
                      try clear hx515_4
                      try clear hx515_5
                      try clear p19
                      try clear p2
                      try clear p23
                      try clear p515
                      try clear q19
                      try clear q23
                      try clear q515
                      obtain ⟨kq, x15_30, rfl, HA, HJ30, HO_9, BK516, HB⟩ := hcut
                      cases kq with
                      | zero => exact absurd HA.out (by simp [qanatlaw03_ScanComments.j2])
                      | succ kj30 =>
                        have H := HA.out
                        clear HA
                        simp only [qanatlaw03_ScanComments.j2] at H
                        have HC37 := Aside0.mk H
                        clear H
                        go_upto_region 13 with (fail)
                        go_cut [93] (fun v93 wc => ∃ (kq : Nat) (x93_36 : Bool), v93 = .bool x93_36 ∧ Aside0 (qanatlaw03_ScanComments.j3 kq a0 a3 t505 x15_30 x93_36 = some r) ∧ Aside0 (kq ≤ kj30) ∧ Aside0 (Kd.R k53 53 wc w.heap.size (fun k_ => k_ ≠ gb516) (.slice (some ad515) t505.length co32) t505) ∧ Aside0 (wc.heap[gb516]? = some (.cells #[.int .i64 ((rd_T53 t505 (ji28)).f0), .string ((rd_T53 t505 (ji28)).f1), .bool ((rd_T53 t505 (ji28)).f2), .int .i64 ((rd_T53 t505 (ji28)).f3), .int .i64 ((rd_T53 t505 (ji28)).f4), .int .i64 ((rd_T53 t505 (ji28)).f5)] 53 (0, 0))) ∧ Aside0 (Below w.heap.size w wc))
                        case first =>
                          have H := HC37.out
                          clear HC37
                          by_cases c38 : x15_30 < 0
                          · rw [if_pos c38] at H
                            have c38b0 : decide (x15_30 < 0) = true := decide_eq_true c38
                            clear c38
                            (first | rw [c38b0] | (simp only [i64_w, i32_w]; rw [c38b0]) | skip)
                            have H' := Aside0.mk H
                            clear H
                            go_wp2
                            go_meet
                            case rel => exact ⟨_, (true), (by first | rfl | (simp; done) | (simp [*]; done)), H', ⟨by have := HJ5.out; have := HK2.out; have := HJ30.out; first | omega | exact Nat.le_refl _⟩, ⟨by (with_reducible repeat (first | apply Kd.R_alloc | apply Kd.R_drewN | apply Kd.R_drew)); exact HO_9.out⟩, ⟨by (with_reducible repeat (first | refine blk_drewN ?_ _ | refine blk_drew ?_ | refine blk_alloc ?_ _)); exact BK516.out⟩, ⟨by repeat (first | (with_reducible first | exact HB.out | apply below_alloc | apply pw_below_drewN | apply below_drew1 | refine below_set ?_ GE516.out) | exact HB.out)⟩⟩
                          · rw [if_neg c38] at H
                            have c38b0 : decide (x15_30 < 0) = false := decide_eq_false c38
                            clear c38
                            (first | rw [c38b0] | (simp only [i64_w, i32_w]; rw [c38b0]) | skip)
                            by_cases c39 : x15_30 > (a0.size : Int)
                            · rw [if_pos c39] at H
                              have c39b0 : decide ((a0.size : Int) < x15_30) = true := decide_eq_true c39
                              clear c39
                              have H' := Aside0.mk H
                              clear H
                              go_wp2
                              go_meet
                              case rel => exact ⟨_, (true), (by first | rfl | (simp; done) | (simp [*]; done)), H', ⟨by have := HJ5.out; have := HK2.out; have := HJ30.out; first | omega | exact Nat.le_refl _⟩, ⟨by (with_reducible repeat (first | apply Kd.R_alloc | apply Kd.R_drewN | apply Kd.R_drew)); exact HO_9.out⟩, ⟨by (with_reducible repeat (first | refine blk_drewN ?_ _ | refine blk_drew ?_ | refine blk_alloc ?_ _)); exact BK516.out⟩, ⟨by repeat (first | (with_reducible first | exact HB.out | apply below_alloc | apply pw_below_drewN | apply below_drew1 | refine below_set ?_ GE516.out) | exact HB.out)⟩⟩
                            · rw [if_neg c39] at H
                              have c39b0 : decide ((a0.size : Int) < x15_30) = false := decide_eq_false c39
                              clear c39
                              by_cases c40 : x15_30 > 0
                              · rw [if_pos c40] at H
                                have c40b0 : decide (0 < x15_30) = true := decide_eq_true c40
                                clear c40
                                obtain ⟨ji41, hji41⟩ : ∃ j_ : Int, (wrap64 (x15_30 - 1)) = j_ := ⟨_, rfl⟩
                                replace H : (if 0 ≤ (ji41) then (if (ji41) < (a0.size : Int) then (qanatlaw03_ScanComments.j3 kj30 a0 a3 t505 x15_30 ((bt a0 (ji41)) == 47)) else (none)) else (none)) = some r := by first | (rw [hji41] at H; exact H) | (simp only [hji41] at H ⊢; exact H)
                                have hji41w : (IntKind.i64.wrap (x15_30 - 1)) = ji41 := (i64_w _).trans hji41
                                by_cases c42 : 0 ≤ (ji41)
                                · rw [if_pos c42] at H
                                  have c42b0 : decide (0 ≤ (ji41)) = true := decide_eq_true c42
                                  clear c42
                                  by_cases c43 : (ji41) < (a0.size : Int)
                                  · rw [if_pos c43] at H
                                    have c43b0 : decide ((ji41) < (a0.size : Int)) = true := decide_eq_true c43
                                    clear c43
                                    have H' := Aside0.mk H
                                    clear H
                                    have p44 : 0 ≤ ((ji41) : Int) := of_decide_eq_true (by first | (with_reducible assumption) | assumption)
                                    have q44 : (ji41) < (a0.size : Int) := of_decide_eq_true (by first | (with_reducible assumption) | assumption)
                                    have hx44 := bt_at a0 (ji41)
                                    replace p44 := eq_true p44
                                    replace q44 := eq_true q44
                                    go_wp2
                                    go_meet
                                    case rel => exact ⟨_, (((bt a0 (ji41)) == 47)), (by first | rfl | (simp; done) | (simp only [← hji41] <;> (first | rfl | simp)) | (simp [*]; done)), H', ⟨by have := HJ5.out; have := HK2.out; have := HJ30.out; first | omega | exact Nat.le_refl _⟩, ⟨by (with_reducible repeat (first | apply Kd.R_alloc | apply Kd.R_drewN | apply Kd.R_drew)); exact HO_9.out⟩, ⟨by (with_reducible repeat (first | refine blk_drewN ?_ _ | refine blk_drew ?_ | refine blk_alloc ?_ _)); exact BK516.out⟩, ⟨by repeat (first | (with_reducible first | exact HB.out | apply below_alloc | apply pw_below_drewN | apply below_drew1 | refine below_set ?_ GE516.out) | exact HB.out)⟩⟩
                                  · rw [if_neg c43] at H
                                    exact absurd H (by simp)
                                · rw [if_neg c42] at H
                                  exact absurd H (by simp)
                              · rw [if_neg c40] at H
                                have c40b0 : decide (0 < x15_30) = false := decide_eq_false c40
                                clear c40
                                have H' := Aside0.mk H
                                clear H
                                go_wp2
                                go_meet
                                case rel => exact ⟨_, (false), (by first | rfl | (simp; done) | (simp [*]; done)), H', ⟨by have := HJ5.out; have := HK2.out; have := HJ30.out; first | omega | exact Nat.le_refl _⟩, ⟨by (with_reducible repeat (first | apply Kd.R_alloc | apply Kd.R_drewN | apply Kd.R_drew)); exact HO_9.out⟩, ⟨by (with_reducible repeat (first | refine blk_drewN ?_ _ | refine blk_drew ?_ | refine blk_alloc ?_ _)); exact BK516.out⟩, ⟨by repeat (first | (with_reducible first | exact HB.out | apply below_alloc | apply pw_below_drewN | apply below_drew1 | refine below_set ?_ GE516.out) | exact HB.out)⟩⟩
                        case rest =>
                          clear HC37
                          try clear c1
                          try clear p1
                          try clear q1
                          try clear hx1
                          try clear c2
                          try clear p2
                          try clear q2
                          try clear hx2
                          try clear c3
                          try clear c4
                          try clear p4
                          try clear q4
                          try clear hx4
                          try clear p5
                          try clear q5
                          try clear hx5
                          try clear p6
                          try clear c9
                          try clear c10
                          try clear c10b0
                          try clear c10b1
                          try clear c11
                          try clear c11b0
                          try clear c11b1
                          try clear c11b2
                          try clear c14
                          try clear c16
                          try clear c17
                          try clear c17b0
                          try clear c18
                          try clear c18b0
                          try clear p19
                          try clear q19
                          try clear hx19
                          try clear c20
                          try clear c20b0
                          try clear p23
                          try clear q23
                          try clear hx23
                          try clear c24
                          try clear c24b0
                          try clear c27
                          try clear c27b0
                          try clear c27b1
                          try clear c27b2
                          try clear c29
                          try clear c29b0
                          try clear c30
                          try clear c30b0
                          try clear c35
                          try clear c38
                          try clear c38b0
                          try clear c39
                          try clear c39b0
                          try clear c40
                          try clear c40b0
                          try clear c42
                          try clear c42b0
                          try clear c43
                          try clear c43b0
                          try clear p44
                          try clear q44
                          try clear hx44
                          try clear hcz34_0
                          try clear hcz34_1
                          try clear hcz34_2
                          try clear hcz34_3
                          try clear hcz34_4
                          try clear hcz34_5
                          try clear hcz36_0
                          try clear hcz36_1
                          try clear hcz36_2
                          try clear hcz36_3
                          try clear hcz36_4
                          try clear hcz36_5
                          try clear hfz34_0
                          try clear hfz34_1
                          try clear hfz34_2
                          try clear hfz34_3
                          try clear hfz34_4
                          try clear hfz34_5
                          try clear hfz36_0
                          try clear hfz36_1
                          try clear hfz36_2
                          try clear hfz36_3
                          try clear hfz36_4
                          try clear hfz36_5
                          try clear hx515_0
                          try clear hx515_1
                          try clear hx515_2
                          try clear hx515_3
                          try clear hx515_4
                          try clear hx515_5
                          try clear p1
                          try clear p19
                          try clear p2
                          try clear p23
                          try clear p44
                          try clear p5
                          try clear p515
                          try clear p6
                          try clear q1
                          try clear q19
                          try clear q2
                          try clear q23
                          try clear q44
                          try clear q5
                          try clear q515
                          obtain ⟨kq, x93_36, rfl, HA, HJ36, HO_9, BK516, HB⟩ := hcut
                          cases kq with
                          | zero => exact absurd HA.out (by simp [qanatlaw03_ScanComments.j3])
                          | succ kj36 =>
                            have H := HA.out
                            clear HA
                            simp only [qanatlaw03_ScanComments.j3] at H
                            by_cases c45 : x93_36 = true
                            · subst c45
                              have H1 : ((qanatlaw03_sanity.f).bind fun t517 => (if t517 = true then (if x15_30 ≥ 0 then (some (decide (x15_30 ≤ (a0.size : Int)))) else (some false)) else (some false))) = some r := by rw [if_pos rfl] at H; exact H
                              clear H
                              have H := H1
                              clear H1
                              replace H := Option.bind_eq_some_iff.mp H
                              obtain ⟨t517, A460, H⟩ := H
                              replace H : (if t517 = true then (if x15_30 ≥ 0 then (some (decide (x15_30 ≤ (a0.size : Int)))) else (some false)) else (some false)) = some r := H
                              have A46 := Aside0.mk A460
                              clear A460
                              by_cases c47 : t517 = true
                              · subst c47
                                have H1 : (if x15_30 ≥ 0 then (some (decide (x15_30 ≤ (a0.size : Int)))) else (some false)) = some r := by rw [if_pos rfl] at H; exact H
                                clear H
                                have H := H1
                                clear H1
                                by_cases c48 : x15_30 ≥ 0
                                · rw [if_pos c48] at H
                                  have c48b0 : decide (0 ≤ x15_30) = true := decide_eq_true c48
                                  clear c48
                                  obtain rfl := Option.some.inj H
                                  go_wp2_with (first | ((with_reducible refine gate_callee (f := 16) rfl ?_); refine goesL_ (some 94) rfl rfl Tryz.func16 (by kernel_rfl) rfl #[] rfl (by (try simp only [List.map_toArray, List.map_cons, List.map_nil]); first | done | rfl | (simp only [List.length_drop, List.length_take]; rfl)) ?_; (with_reducible refine (qanatlaw03_sanity.calls  true _ (TabOK.of_below hT (by repeat (first | (with_reducible first | exact HB.out | apply below_alloc | apply pw_below_drewN | apply below_drew1 | refine below_set ?_ GE516.out) | exact HB.out))) A46.out).mono ?_); rintro e w49 ⟨rfl, hb⟩; refine ⟨_, rfl, ?_⟩; have n0_ := Aside0.mk (Kd.R_below (by (with_reducible repeat (first | apply Kd.R_alloc | apply Kd.R_drewN | apply Kd.R_drew)); exact HO_9.out) hb); have n1_ := Aside0.mk (blk_below (g := gb516) (o := .cells #[.int .i64 ((rd_T53 t505 (ji28)).f0), .string ((rd_T53 t505 (ji28)).f1), .bool ((rd_T53 t505 (ji28)).f2), .int .i64 ((rd_T53 t505 (ji28)).f3), .int .i64 ((rd_T53 t505 (ji28)).f4), .int .i64 ((rd_T53 t505 (ji28)).f5)] 53 (0, 0)) (by (with_reducible repeat (first | refine blk_drewN ?_ _ | refine blk_drew ?_ | refine blk_alloc ?_ _)); exact BK516.out) hb); have n2_ := Aside0.mk (below_step (by repeat (first | (with_reducible first | exact HB.out | apply below_alloc | apply pw_below_drewN | apply below_drew1 | refine below_set ?_ GE516.out) | exact HB.out)) hb); clear HO_9; clear BK516; clear HB; have HO_9 := n0_; have BK516 := n1_; have HB := n2_; clear n0_ n1_ n2_; (try clear hb); (try clear hb2); (try clear hk); (try clear hi)))
                                  go_ret
                                  exact ⟨by first | rfl | (simp [errW_none, errW_some] <;> rfl) | (simp only [← hji28]; first | rfl | (simp [errW_none, errW_some] <;> rfl)) | (simp [*, errW_none, errW_some] <;> rfl), by repeat (first | (with_reducible first | exact HB.out | apply below_alloc | apply pw_below_drewN | apply below_drew1 | refine below_set ?_ GE516.out) | exact HB.out)⟩
                                · rw [if_neg c48] at H
                                  have c48b0 : decide (0 ≤ x15_30) = false := decide_eq_false c48
                                  clear c48
                                  obtain rfl := Option.some.inj H
                                  go_wp2_with (first | ((with_reducible refine gate_callee (f := 16) rfl ?_); refine goesL_ (some 94) rfl rfl Tryz.func16 (by kernel_rfl) rfl #[] rfl (by (try simp only [List.map_toArray, List.map_cons, List.map_nil]); first | done | rfl | (simp only [List.length_drop, List.length_take]; rfl)) ?_; (with_reducible refine (qanatlaw03_sanity.calls  true _ (TabOK.of_below hT (by repeat (first | (with_reducible first | exact HB.out | apply below_alloc | apply pw_below_drewN | apply below_drew1 | refine below_set ?_ GE516.out) | exact HB.out))) A46.out).mono ?_); rintro e w50 ⟨rfl, hb⟩; refine ⟨_, rfl, ?_⟩; have n0_ := Aside0.mk (Kd.R_below (by (with_reducible repeat (first | apply Kd.R_alloc | apply Kd.R_drewN | apply Kd.R_drew)); exact HO_9.out) hb); have n1_ := Aside0.mk (blk_below (g := gb516) (o := .cells #[.int .i64 ((rd_T53 t505 (ji28)).f0), .string ((rd_T53 t505 (ji28)).f1), .bool ((rd_T53 t505 (ji28)).f2), .int .i64 ((rd_T53 t505 (ji28)).f3), .int .i64 ((rd_T53 t505 (ji28)).f4), .int .i64 ((rd_T53 t505 (ji28)).f5)] 53 (0, 0)) (by (with_reducible repeat (first | refine blk_drewN ?_ _ | refine blk_drew ?_ | refine blk_alloc ?_ _)); exact BK516.out) hb); have n2_ := Aside0.mk (below_step (by repeat (first | (with_reducible first | exact HB.out | apply below_alloc | apply pw_below_drewN | apply below_drew1 | refine below_set ?_ GE516.out) | exact HB.out)) hb); clear HO_9; clear BK516; clear HB; have HO_9 := n0_; have BK516 := n1_; have HB := n2_; clear n0_ n1_ n2_; (try clear hb); (try clear hb2); (try clear hk); (try clear hi)))
                                  go_ret
                                  exact ⟨by first | rfl | (simp [errW_none, errW_some] <;> rfl) | (simp only [← hji28]; first | rfl | (simp [errW_none, errW_some] <;> rfl)) | (simp [*, errW_none, errW_some] <;> rfl), by repeat (first | (with_reducible first | exact HB.out | apply below_alloc | apply pw_below_drewN | apply below_drew1 | refine below_set ?_ GE516.out) | exact HB.out)⟩
                              · replace c47 := Bool.eq_false_iff.mpr c47
                                subst c47
                                have H1 : (some false) = some r := by rw [if_neg (show ¬ (false = true) by decide)] at H; exact H
                                clear H
                                have H := H1
                                clear H1
                                obtain rfl := Option.some.inj H
                                go_wp2_with (first | ((with_reducible refine gate_callee (f := 16) rfl ?_); refine goesL_ (some 94) rfl rfl Tryz.func16 (by kernel_rfl) rfl #[] rfl (by (try simp only [List.map_toArray, List.map_cons, List.map_nil]); first | done | rfl | (simp only [List.length_drop, List.length_take]; rfl)) ?_; (with_reducible refine (qanatlaw03_sanity.calls  false _ (TabOK.of_below hT (by repeat (first | (with_reducible first | exact HB.out | apply below_alloc | apply pw_below_drewN | apply below_drew1 | refine below_set ?_ GE516.out) | exact HB.out))) A46.out).mono ?_); rintro e w51 ⟨rfl, hb⟩; refine ⟨_, rfl, ?_⟩; have n0_ := Aside0.mk (Kd.R_below (by (with_reducible repeat (first | apply Kd.R_alloc | apply Kd.R_drewN | apply Kd.R_drew)); exact HO_9.out) hb); have n1_ := Aside0.mk (blk_below (g := gb516) (o := .cells #[.int .i64 ((rd_T53 t505 (ji28)).f0), .string ((rd_T53 t505 (ji28)).f1), .bool ((rd_T53 t505 (ji28)).f2), .int .i64 ((rd_T53 t505 (ji28)).f3), .int .i64 ((rd_T53 t505 (ji28)).f4), .int .i64 ((rd_T53 t505 (ji28)).f5)] 53 (0, 0)) (by (with_reducible repeat (first | refine blk_drewN ?_ _ | refine blk_drew ?_ | refine blk_alloc ?_ _)); exact BK516.out) hb); have n2_ := Aside0.mk (below_step (by repeat (first | (with_reducible first | exact HB.out | apply below_alloc | apply pw_below_drewN | apply below_drew1 | refine below_set ?_ GE516.out) | exact HB.out)) hb); clear HO_9; clear BK516; clear HB; have HO_9 := n0_; have BK516 := n1_; have HB := n2_; clear n0_ n1_ n2_; (try clear hb); (try clear hb2); (try clear hk); (try clear hi)))
                                go_ret
                                exact ⟨by first | rfl | (simp [errW_none, errW_some] <;> rfl) | (simp only [← hji28]; first | rfl | (simp [errW_none, errW_some] <;> rfl)) | (simp [*, errW_none, errW_some] <;> rfl), by repeat (first | (with_reducible first | exact HB.out | apply below_alloc | apply pw_below_drewN | apply below_drew1 | refine below_set ?_ GE516.out) | exact HB.out)⟩
                            · replace c45 := Bool.eq_false_iff.mpr c45
                              subst c45
                              have H1 : (if 0 ≤ x15_30 then (if x15_30 ≤ (a0.size : Int) then (if (a0.extract 0 (x15_30 : Int).toNat).size + 2 ≤ 9223372036854775807 then (if ((a0.extract 0 (x15_30 : Int).toNat) ++ (⟨#[47, 42]⟩ : ByteArray)).size + a3.size ≤ 9223372036854775807 then (if (((a0.extract 0 (x15_30 : Int).toNat) ++ (⟨#[47, 42]⟩ : ByteArray)) ++ a3).size + 2 ≤ 9223372036854775807 then (if ((((a0.extract 0 (x15_30 : Int).toNat) ++ (⟨#[47, 42]⟩ : ByteArray)) ++ a3) ++ (⟨#[42, 47]⟩ : ByteArray)).size + (a0.extract (x15_30 : Int).toNat a0.size).size ≤ 9223372036854775807 then ((scan_Tokens.f (((((a0.extract 0 (x15_30 : Int).toNat) ++ (⟨#[47, 42]⟩ : ByteArray)) ++ a3) ++ (⟨#[42, 47]⟩ : ByteArray)) ++ (a0.extract (x15_30 : Int).toNat a0.size))).bind fun bt518 => ((qanatlaw03_sanity.f).bind fun t524 => (if t524 = true then (if bt518.2.2.2 = 0 then ((qanatref03_Same.f kj36 t505 bt518.1).bind fun t525 => (some t525)) else (some false)) else (some false)))) else (none)) else (none)) else (none)) else (none)) else (none)) else (none)) = some r := by rw [if_neg (show ¬ (false = true) by decide)] at H; exact H
                              clear H
                              have H := H1
                              clear H1
                              by_cases c52 : 0 ≤ x15_30
                              · rw [if_pos c52] at H
                                have c52b0 := eq_true c52
                                have c52b1 : decide (0 ≤ x15_30) = true := decide_eq_true c52
                                clear c52
                                by_cases c53 : x15_30 ≤ (a0.size : Int)
                                · rw [if_pos c53] at H
                                  have c53b0 := eq_true c53
                                  have c53b1 : decide (x15_30 ≤ (a0.size : Int)) = true := decide_eq_true c53
                                  clear c53
                                  by_cases c54 : (a0.extract 0 (x15_30 : Int).toNat).size + 2 ≤ 9223372036854775807
                                  · rw [if_pos c54] at H
                                    have c54b0 := eq_true c54
                                    have c54b1 : decide ((a0.extract 0 (x15_30 : Int).toNat).size + 2 ≤ 9223372036854775807) = true := decide_eq_true c54
                                    try have c54b2 : (9223372036854775807 < (a0.extract 0 (x15_30 : Int).toNat).size + 2) = False := eq_false (Nat.not_lt.2 c54)
                                    try have c54b3 : (9223372036854775807 < x15_30.toNat + 2) = False := eq_false (by have q_ := c54; have p_ : x15_30 ≤ (a0.size : Int) := of_decide_eq_true (by assumption); simp only [ByteArray.size_extract] at q_; omega)
                                    by_cases c55 : ((a0.extract 0 (x15_30 : Int).toNat) ++ (⟨#[47, 42]⟩ : ByteArray)).size + a3.size ≤ 9223372036854775807
                                    · rw [if_pos c55] at H
                                      have c55b0 := eq_true c55
                                      have c55b1 : decide (((a0.extract 0 (x15_30 : Int).toNat) ++ (⟨#[47, 42]⟩ : ByteArray)).size + a3.size ≤ 9223372036854775807) = true := decide_eq_true c55
                                      try have c55b2 : (9223372036854775807 < ((a0.extract 0 (x15_30 : Int).toNat) ++ (⟨#[47, 42]⟩ : ByteArray)).size + a3.size) = False := eq_false (Nat.not_lt.2 c55)
                                      have c55b3 : (9223372036854775807 < x15_30.toNat + 2 + a3.size) = False := eq_false (by have q_ := c55; simp only [ByteArray.size_append, ByteArray.size_extract] at q_; have e1_ : (⟨#[47, 42]⟩ : ByteArray).size = 2 := rfl; have e2_ : (⟨#[42, 47]⟩ : ByteArray).size = 2 := rfl; have p_ : x15_30 ≤ (a0.size : Int) := of_decide_eq_true (by assumption); omega)
                                      by_cases c56 : (((a0.extract 0 (x15_30 : Int).toNat) ++ (⟨#[47, 42]⟩ : ByteArray)) ++ a3).size + 2 ≤ 9223372036854775807
                                      · rw [if_pos c56] at H
                                        have c56b0 := eq_true c56
                                        have c56b1 : decide ((((a0.extract 0 (x15_30 : Int).toNat) ++ (⟨#[47, 42]⟩ : ByteArray)) ++ a3).size + 2 ≤ 9223372036854775807) = true := decide_eq_true c56
                                        try have c56b2 : (9223372036854775807 < (((a0.extract 0 (x15_30 : Int).toNat) ++ (⟨#[47, 42]⟩ : ByteArray)) ++ a3).size + 2) = False := eq_false (Nat.not_lt.2 c56)
                                        have c56b3 : (9223372036854775807 < x15_30.toNat + 2 + a3.size + 2) = False := eq_false (by have q_ := c56; simp only [ByteArray.size_append, ByteArray.size_extract] at q_; have e1_ : (⟨#[47, 42]⟩ : ByteArray).size = 2 := rfl; have e2_ : (⟨#[42, 47]⟩ : ByteArray).size = 2 := rfl; have p_ : x15_30 ≤ (a0.size : Int) := of_decide_eq_true (by assumption); omega)
                                        have c57b0 := eq_true (of_decide_eq_true (by first | (with_reducible assumption) | assumption) : 0 ≤ x15_30)
                                        have c58b0 := eq_true (of_decide_eq_true (by first | (with_reducible assumption) | assumption) : x15_30 ≤ (a0.size : Int))
                                        by_cases c59 : ((((a0.extract 0 (x15_30 : Int).toNat) ++ (⟨#[47, 42]⟩ : ByteArray)) ++ a3) ++ (⟨#[42, 47]⟩ : ByteArray)).size + (a0.extract (x15_30 : Int).toNat a0.size).size ≤ 9223372036854775807
                                        · rw [if_pos c59] at H
                                          have c59b0 := eq_true c59
                                          have c59b1 : decide (((((a0.extract 0 (x15_30 : Int).toNat) ++ (⟨#[47, 42]⟩ : ByteArray)) ++ a3) ++ (⟨#[42, 47]⟩ : ByteArray)).size + (a0.extract (x15_30 : Int).toNat a0.size).size ≤ 9223372036854775807) = true := decide_eq_true c59
                                          try have c59b2 : (9223372036854775807 < ((((a0.extract 0 (x15_30 : Int).toNat) ++ (⟨#[47, 42]⟩ : ByteArray)) ++ a3) ++ (⟨#[42, 47]⟩ : ByteArray)).size + (a0.extract (x15_30 : Int).toNat a0.size).size) = False := eq_false (Nat.not_lt.2 c59)
                                          have c59b3 : (9223372036854775807 < x15_30.toNat + 2 + a3.size + 2 + (a0.size - x15_30.toNat)) = False := eq_false (by have q_ := c59; simp only [ByteArray.size_append, ByteArray.size_extract] at q_; have e1_ : (⟨#[47, 42]⟩ : ByteArray).size = 2 := rfl; have e2_ : (⟨#[42, 47]⟩ : ByteArray).size = 2 := rfl; have p_ : x15_30 ≤ (a0.size : Int) := of_decide_eq_true (by assumption); omega)
                                          replace H := Option.bind_eq_some_iff.mp H
                                          obtain ⟨⟨t518, t519, t520, t521⟩, A600, H⟩ := H
                                          replace H : ((qanatlaw03_sanity.f).bind fun t524 => (if t524 = true then (if t521 = 0 then ((qanatref03_Same.f kj36 t505 t518).bind fun t525 => (some t525)) else (some false)) else (some false))) = some r := H
                                          have A60 := Aside0.mk A600
                                          clear A600
                                          replace H := Option.bind_eq_some_iff.mp H
                                          obtain ⟨t524, A610, H⟩ := H
                                          replace H : (if t524 = true then (if t521 = 0 then ((qanatref03_Same.f kj36 t505 t518).bind fun t525 => (some t525)) else (some false)) else (some false)) = some r := H
                                          have A61 := Aside0.mk A610
                                          clear A610
                                          by_cases c62 : t524 = true
                                          · subst c62
                                            have H1 : (if t521 = 0 then ((qanatref03_Same.f kj36 t505 t518).bind fun t525 => (some t525)) else (some false)) = some r := by rw [if_pos rfl] at H; exact H
                                            clear H
                                            have H := H1
                                            clear H1
                                            by_cases c63 : t521 = 0
                                            · rw [if_pos c63] at H
                                              have c63b0 : (t521 == 0) = true := beq_iff_eq.mpr c63
                                              have c63b1 : (t521 != 0) = false := bne_eq_false_iff_eq.mpr c63
                                              clear c63
                                              replace H := Option.bind_eq_some_iff.mp H
                                              obtain ⟨t525, A640, H⟩ := H
                                              replace H : (some t525) = some r := H
                                              have A64 := Aside0.mk A640
                                              clear A640
                                              obtain rfl := Option.some.inj H
                                              try go_wp2
                                              have n0_ := Aside0.mk (Kd.R_drew HO_9.out)
                                              have n1_ := Aside0.mk (blk_drew BK516.out)
                                              have n2_ := Aside0.mk (below_drew1 HB.out)
                                              clear HO_9
                                              clear BK516
                                              clear HB
                                              have HO_9 := n0_
                                              have BK516 := n1_
                                              have HB := n2_
                                              clear n0_ n1_ n2_
                                              refine start_ (n := 21) (S := fun w' => True) (ds := []) #[false, false, false, false, false, false, false, false, false, false, false, false, false, false, false, false, false, false, false, false, false] (by kernel_rfl) rfl rfl trivial (fun hHeld => ?_); refine with_tabW qanatlaw03_ScanComments.tab15 qanatlaw03_ScanComments.bits15 (fun HT_ HW_ => ?_)
                                              generalize wc.drew = w65 at HO_9 BK516 HB hHeld ⊢
                                              refine pure_ (i := 0) (N := some 106) (v := ?_) (a' := ?_) #[true, false, false, false, false, false, false, false, false, false, false, false, false, false, false, false, false, false, false, false, false] rfl rfl (any_of HT_.out (by kernel_rfl)) (fun _ _ _ h => h) (Or.inl ⟨by rfl, ?_⟩) ?_ ?_
                                              rotate_left
                                              · intro w'
                                                go_simp
                                                with_reducible rfl
                                              rotate_left
                                              · simp only [Act.put, List.setIfInBounds_toArray, List.set_cons_zero, List.set_cons_succ, i64_w, i32_w]
                                                rfl
                                              refine pure_ (i := 1) (N := some 107) (v := ?_) (a' := ?_) #[true, true, false, false, false, false, false, false, false, false, false, false, false, false, false, false, false, false, false, false, false] rfl rfl (any_of HT_.out (by kernel_rfl)) (fun _ _ _ h => h) (Or.inl ⟨by rfl, ?_⟩) ?_ ?_
                                              rotate_left
                                              · intro w'
                                                go_simp
                                                with_reducible rfl
                                              rotate_left
                                              · simp only [Act.put, List.setIfInBounds_toArray, List.set_cons_zero, List.set_cons_succ, i64_w, i32_w]
                                                rfl
                                              refine pure_ (i := 2) (N := some 108) (v := ?_) (a' := ?_) #[true, true, true, false, false, false, false, false, false, false, false, false, false, false, false, false, false, false, false, false, false] rfl rfl (any_of HT_.out (by kernel_rfl)) (fun _ _ _ h => h) (Or.inl ⟨by rfl, ?_⟩) ?_ ?_
                                              rotate_left
                                              · intro w'
                                                go_simp
                                                with_reducible rfl
                                              rotate_left
                                              · simp only [Act.put, List.setIfInBounds_toArray, List.set_cons_zero, List.set_cons_succ, i64_w, i32_w]
                                                rfl
                                              refine pure_ (i := 3) (N := some 109) (v := ?_) (a' := ?_) #[true, true, true, true, false, false, false, false, false, false, false, false, false, false, false, false, false, false, false, false, false] rfl rfl (any_of HT_.out (by kernel_rfl)) (fun _ _ _ h => h) (Or.inl ⟨by rfl, ?_⟩) ?_ ?_
                                              rotate_left
                                              · intro w'
                                                go_simp
                                                with_reducible rfl
                                              rotate_left
                                              · simp only [Act.put, List.setIfInBounds_toArray, List.set_cons_zero, List.set_cons_succ, i64_w, i32_w]
                                                rfl
                                              refine pure_ (i := 4) (N := some 110) (v := ?_) (a' := ?_) #[true, true, true, true, true, false, false, false, false, false, false, false, false, false, false, false, false, false, false, false, false] rfl rfl (any_of HT_.out (by kernel_rfl)) (fun _ _ _ h => h) (Or.inl ⟨by rfl, ?_⟩) ?_ ?_
                                              rotate_left
                                              · intro w'
                                                go_simp
                                                with_reducible rfl
                                              rotate_left
                                              · simp only [Act.put, List.setIfInBounds_toArray, List.set_cons_zero, List.set_cons_succ, i64_w, i32_w]
                                                rfl
                                              refine pure_ (i := 5) (N := some 111) (v := ?_) (a' := ?_) #[true, true, true, true, true, true, false, false, false, false, false, false, false, false, false, false, false, false, false, false, false] rfl rfl (any_of HT_.out (by kernel_rfl)) (fun _ _ _ h => h) (Or.inl ⟨by rfl, ?_⟩) ?_ ?_
                                              rotate_left
                                              · intro w'
                                                go_simp
                                                with_reducible rfl
                                              rotate_left
                                              · simp only [Act.put, List.setIfInBounds_toArray, List.set_cons_zero, List.set_cons_succ, i64_w, i32_w]
                                                rfl
                                              refine pure_ (i := 6) (N := some 112) (v := ?_) (a' := ?_) #[true, true, true, true, true, true, true, false, false, false, false, false, false, false, false, false, false, false, false, false, false] rfl rfl (any_of HT_.out (by kernel_rfl)) (fun _ _ _ h => h) (Or.inl ⟨by rfl, ?_⟩) ?_ ?_
                                              rotate_left
                                              · intro w'
                                                go_simp
                                                with_reducible rfl
                                              rotate_left
                                              · simp only [Act.put, List.setIfInBounds_toArray, List.set_cons_zero, List.set_cons_succ, i64_w, i32_w]
                                                rfl
                                              refine pure_ (i := 7) (N := some 113) (v := ?_) (a' := ?_) #[true, true, true, true, true, true, true, true, false, false, false, false, false, false, false, false, false, false, false, false, false] rfl rfl (any_of HT_.out (by kernel_rfl)) (fun _ _ _ h => h) (Or.inl ⟨by rfl, ?_⟩) ?_ ?_
                                              rotate_left
                                              · intro w'
                                                go_simp
                                                with_reducible rfl
                                              rotate_left
                                              · simp only [Act.put, List.setIfInBounds_toArray, List.set_cons_zero, List.set_cons_succ, i64_w, i32_w]
                                                rfl
                                              refine pure_ (i := 8) (N := some 114) (v := ?_) (a' := ?_) #[true, true, true, true, true, true, true, true, true, false, false, false, false, false, false, false, false, false, false, false, false] rfl rfl (any_of HT_.out (by kernel_rfl)) (fun _ _ _ h => h) (Or.inl ⟨by rfl, ?_⟩) ?_ ?_
                                              rotate_left
                                              · intro w'
                                                go_simp
                                                with_reducible rfl
                                              rotate_left
                                              · simp only [Act.put, List.setIfInBounds_toArray, List.set_cons_zero, List.set_cons_succ, i64_w, i32_w]
                                                rfl
                                              refine pure_ (i := 9) (N := some 115) (v := ?_) (a' := ?_) #[true, true, true, true, true, true, true, true, true, true, false, false, false, false, false, false, false, false, false, false, false] rfl rfl (any_of HT_.out (by kernel_rfl)) (fun _ _ _ h => h) (Or.inl ⟨by rfl, ?_⟩) ?_ ?_
                                              rotate_left
                                              · intro w'
                                                go_simp
                                                with_reducible rfl
                                              rotate_left
                                              · simp only [Act.put, List.setIfInBounds_toArray, List.set_cons_zero, List.set_cons_succ, i64_w, i32_w]
                                                rfl
                                              refine pure_ (i := 10) (N := some 116) (v := ?_) (a' := ?_) #[true, true, true, true, true, true, true, true, true, true, true, false, false, false, false, false, false, false, false, false, false] rfl rfl (any_of HT_.out (by kernel_rfl)) (fun _ _ _ h => h) (Or.inl ⟨by rfl, ?_⟩) ?_ ?_
                                              rotate_left
                                              · intro w'
                                                go_simp
                                                with_reducible rfl
                                              rotate_left
                                              · simp only [Act.put, List.setIfInBounds_toArray, List.set_cons_zero, List.set_cons_succ, i64_w, i32_w]
                                                rfl
                                              refine one_ (i := 11) (N := some 117) #[true, true, true, true, true, true, true, true, true, true, true, true, false, false, false, false, false, false, false, false, false] rfl rfl (one_of HT_.out (by kernel_rfl)) (by decide) (fun K hK => ?_)
                                              refine goes_ Tryz.func17 (by kernel_rfl) rfl #[.string (((((a0.extract 0 (x15_30 : Int).toNat) ++ (⟨#[47, 42]⟩ : ByteArray)) ++ a3) ++ (⟨#[42, 47]⟩ : ByteArray)) ++ (a0.extract (x15_30 : Int).toNat a0.size))] (by rfl) rfl rfl (by (try simp only [List.map_toArray, List.map_cons, List.map_nil]); first | done | rfl | (simp only [List.length_drop, List.length_take]; rfl)) ?_
                                              with_reducible refine (scan_Tokens.calls (((((a0.extract 0 (x15_30 : Int).toNat) ++ (⟨#[47, 42]⟩ : ByteArray)) ++ a3) ++ (⟨#[42, 47]⟩ : ByteArray)) ++ (a0.extract (x15_30 : Int).toNat a0.size)) t518 t519 t520 t521 _ (TabOK.of_below hT (by repeat (first | (with_reducible first | exact HB.out | apply below_alloc | apply pw_below_drewN | apply below_drew1 | refine below_set ?_ GE516.out) | exact HB.out))) A60.out).mono ?_
                                              rintro e w66 ⟨v522, rfl, ho0, hb⟩
                                              refine ⟨_, rfl, ?_⟩
                                              have n0_ := Aside0.mk (Kd.R_elder' (by (with_reducible repeat (first | apply Kd.R_alloc | apply Kd.R_drewN | apply Kd.R_drew)); exact HO_9.out) (Kd.R_base ho0) hb)
                                              have n1_ := Aside0.mk (Kd.R_lower (Kd.R_newB (Kd.R_new' ho0 (Kd.R_lt (by (with_reducible repeat (first | apply Kd.R_alloc | apply Kd.R_drewN | apply Kd.R_drew)); exact HO_9.out))) (g := gb516) (o := .cells #[.int .i64 ((rd_T53 t505 (ji28)).f0), .string ((rd_T53 t505 (ji28)).f1), .bool ((rd_T53 t505 (ji28)).f2), .int .i64 ((rd_T53 t505 (ji28)).f3), .int .i64 ((rd_T53 t505 (ji28)).f4), .int .i64 ((rd_T53 t505 (ji28)).f5)] 53 (0, 0)) (by (with_reducible repeat (first | refine blk_drewN ?_ _ | refine blk_drew ?_ | refine blk_alloc ?_ _)); exact BK516.out)) (below_size (by repeat (first | (with_reducible first | exact HB.out | apply below_alloc | apply pw_below_drewN | apply below_drew1 | refine below_set ?_ GE516.out) | exact HB.out))))
                                              have n2_ := Aside0.mk (blk_below (g := gb516) (o := .cells #[.int .i64 ((rd_T53 t505 (ji28)).f0), .string ((rd_T53 t505 (ji28)).f1), .bool ((rd_T53 t505 (ji28)).f2), .int .i64 ((rd_T53 t505 (ji28)).f3), .int .i64 ((rd_T53 t505 (ji28)).f4), .int .i64 ((rd_T53 t505 (ji28)).f5)] 53 (0, 0)) (by (with_reducible repeat (first | refine blk_drewN ?_ _ | refine blk_drew ?_ | refine blk_alloc ?_ _)); exact BK516.out) hb)
                                              have n3_ := Aside0.mk (below_step (by repeat (first | (with_reducible first | exact HB.out | apply below_alloc | apply pw_below_drewN | apply below_drew1 | refine below_set ?_ GE516.out) | exact HB.out)) hb)
                                              clear HO_9
                                              clear BK516
                                              clear HB
                                              have HO_9 := n0_
                                              have HO523 := n1_
                                              have BK516 := n2_
                                              have HB := n3_
                                              clear n0_ n1_ n2_ n3_
                                              (try clear hb)
                                              (try clear hb2)
                                              (try clear hk)
                                              (try clear hi)
                                              (try clear ho0)
                                              refine hK.out _ _ trivial (fun hHeld => ?_)
                                              clear hK K
                                              refine norm_ (a' := ?_) ?_ ?_
                                              rotate_left
                                              · show Act.put _ (some 117) _ = _
                                                simp only [Act.put, List.setIfInBounds_toArray, List.set_cons_zero, List.set_cons_succ, i64_w, i32_w]
                                                rfl
                                              refine pure_ (i := 12) (N := some 105) (v := ?_) (a' := ?_) #[true, true, true, true, true, true, true, true, true, true, true, true, true, false, false, false, false, false, false, false, false] rfl rfl (any_of HT_.out (by kernel_rfl)) (fun _ _ _ h => h) (Or.inl ⟨by rfl, ?_⟩) ?_ ?_
                                              rotate_left
                                              · intro w'
                                                go_simp
                                                with_reducible rfl
                                              rotate_left
                                              · simp only [Act.put, List.setIfInBounds_toArray, List.set_cons_zero, List.set_cons_succ, i64_w, i32_w]
                                                rfl
                                              refine pure_ (i := 13) (N := some 118) (v := ?_) (a' := ?_) #[true, true, true, true, true, true, true, true, true, true, true, true, true, true, false, false, false, false, false, false, false] rfl rfl (any_of HT_.out (by kernel_rfl)) (fun _ _ _ h => h) (Or.inl ⟨by rfl, ?_⟩) ?_ ?_
                                              rotate_left
                                              · intro w'
                                                go_simp
                                                with_reducible rfl
                                              rotate_left
                                              · simp only [Act.put, List.setIfInBounds_toArray, List.set_cons_zero, List.set_cons_succ, i64_w, i32_w]
                                                rfl
                                              refine pure_ (i := 14) (N := some 119) (v := ?_) (a' := ?_) #[true, true, true, true, true, true, true, true, true, true, true, true, true, true, true, false, false, false, false, false, false] rfl rfl (any_of HT_.out (by kernel_rfl)) (fun _ _ _ h => h) (Or.inl ⟨by rfl, ?_⟩) ?_ ?_
                                              rotate_left
                                              · intro w'
                                                go_simp
                                                with_reducible rfl
                                              rotate_left
                                              · simp only [Act.put, List.setIfInBounds_toArray, List.set_cons_zero, List.set_cons_succ, i64_w, i32_w]
                                                rfl
                                              refine pure_ (i := 15) (N := some 120) (v := ?_) (a' := ?_) #[true, true, true, true, true, true, true, true, true, true, true, true, true, true, true, true, false, false, false, false, false] rfl rfl (any_of HT_.out (by kernel_rfl)) (fun _ _ _ h => h) (Or.inl ⟨by rfl, ?_⟩) ?_ ?_
                                              rotate_left
                                              · intro w'
                                                go_simp
                                                with_reducible rfl
                                              rotate_left
                                              · simp only [Act.put, List.setIfInBounds_toArray, List.set_cons_zero, List.set_cons_succ, i64_w, i32_w]
                                                rfl
                                              refine pure_ (i := 16) (N := some 121) (v := ?_) (a' := ?_) #[true, true, true, true, true, true, true, true, true, true, true, true, true, true, true, true, true, false, false, false, false] rfl rfl (any_of HT_.out (by kernel_rfl)) (fun _ _ _ h => h) (Or.inl ⟨by rfl, ?_⟩) ?_ ?_
                                              rotate_left
                                              · intro w'
                                                go_simp
                                                with_reducible rfl
                                              rotate_left
                                              · simp only [Act.put, List.setIfInBounds_toArray, List.set_cons_zero, List.set_cons_succ, i64_w, i32_w]
                                                rfl
                                              refine pure_ (i := 17) (N := some 16) (v := ?_) (a' := ?_) #[true, true, true, true, true, true, true, true, true, true, true, true, true, true, true, true, true, true, false, false, false] rfl rfl (any_of HT_.out (by kernel_rfl)) (fun _ _ _ h => h) (Or.inl ⟨by rfl, ?_⟩) ?_ ?_
                                              rotate_left
                                              · intro w'
                                                go_simp
                                                with_reducible rfl
                                              rotate_left
                                              · simp only [Act.put, List.setIfInBounds_toArray, List.set_cons_zero, List.set_cons_succ, i64_w, i32_w]
                                                rfl
                                              refine pure_ (i := 18) (N := some 17) (v := ?_) (a' := ?_) #[true, true, true, true, true, true, true, true, true, true, true, true, true, true, true, true, true, true, true, false, false] rfl rfl (any_of HT_.out (by kernel_rfl)) (fun _ _ _ h => h) (Or.inl ⟨by rfl, ?_⟩) ?_ ?_
                                              rotate_left
                                              · intro w'
                                                go_simp
                                                with_reducible rfl
                                              rotate_left
                                              · simp only [Act.put, List.setIfInBounds_toArray, List.set_cons_zero, List.set_cons_succ, i64_w, i32_w]
                                                rfl
                                              refine pure_ (i := 19) (N := some 18) (v := ?_) (a' := ?_) #[true, true, true, true, true, true, true, true, true, true, true, true, true, true, true, true, true, true, true, true, false] rfl rfl (any_of HT_.out (by kernel_rfl)) (fun _ _ _ h => h) (Or.inl ⟨by rfl, ?_⟩) ?_ ?_
                                              rotate_left
                                              · intro w'
                                                go_simp
                                                with_reducible rfl
                                              rotate_left
                                              · simp only [Act.put, List.setIfInBounds_toArray, List.set_cons_zero, List.set_cons_succ, i64_w, i32_w]
                                                rfl
                                              refine pure_ (i := 20) (N := some 19) (v := ?_) (a' := ?_) #[true, true, true, true, true, true, true, true, true, true, true, true, true, true, true, true, true, true, true, true, true] rfl rfl (any_of HT_.out (by kernel_rfl)) (fun _ _ _ h => h) (Or.inl ⟨by rfl, ?_⟩) ?_ ?_
                                              rotate_left
                                              · intro w'
                                                go_simp
                                                with_reducible rfl
                                              rotate_left
                                              · simp only [Act.put, List.setIfInBounds_toArray, List.set_cons_zero, List.set_cons_succ, i64_w, i32_w]
                                                rfl
                                              refine done_ (done_of HT_.out (by kernel_rfl)) ?_
                                              try go_wp2_with (first | ((with_reducible refine gate_callee (f := 16) rfl ?_); refine goesL_ (some 122) rfl rfl Tryz.func16 (by kernel_rfl) rfl #[] rfl (by (try simp only [List.map_toArray, List.map_cons, List.map_nil]); first | done | rfl | (simp only [List.length_drop, List.length_take]; rfl)) ?_; (with_reducible refine (qanatlaw03_sanity.calls  true _ (TabOK.of_below hT (by repeat (first | (with_reducible first | exact HB.out | apply below_alloc | apply pw_below_drewN | apply below_drew1 | refine below_set ?_ GE516.out) | exact HB.out))) A61.out).mono ?_); rintro e w67 ⟨rfl, hb⟩; refine ⟨_, rfl, ?_⟩; have n0_ := Aside0.mk (Kd.R_below (by (with_reducible repeat (first | apply Kd.R_alloc | apply Kd.R_drewN | apply Kd.R_drew)); exact HO_9.out) hb); have n1_ := Aside0.mk (Kd.R_below (by (with_reducible repeat (first | apply Kd.R_alloc | apply Kd.R_drewN | apply Kd.R_drew)); exact HO523.out) hb); have n2_ := Aside0.mk (blk_below (g := gb516) (o := .cells #[.int .i64 ((rd_T53 t505 (ji28)).f0), .string ((rd_T53 t505 (ji28)).f1), .bool ((rd_T53 t505 (ji28)).f2), .int .i64 ((rd_T53 t505 (ji28)).f3), .int .i64 ((rd_T53 t505 (ji28)).f4), .int .i64 ((rd_T53 t505 (ji28)).f5)] 53 (0, 0)) (by (with_reducible repeat (first | refine blk_drewN ?_ _ | refine blk_drew ?_ | refine blk_alloc ?_ _)); exact BK516.out) hb); have n3_ := Aside0.mk (below_step (by repeat (first | (with_reducible first | exact HB.out | apply below_alloc | apply pw_below_drewN | apply below_drew1 | refine below_set ?_ GE516.out) | exact HB.out)) hb); clear HO_9; clear HO523; clear BK516; clear HB; have HO_9 := n0_; have HO523 := n1_; have BK516 := n2_; have HB := n3_; clear n0_ n1_ n2_ n3_; (try clear hb); (try clear hb2); (try clear hk); (try clear hi); obtain ⟨Ao68, co68, eo68⟩ := Kd.R_slice HO523.out; subst eo68) | (go_at_call 38; (with_reducible refine (qanatref03_Same.calls kj36 _ _ t505 _ _ t518 t525 _ ?side1 ?side2 ?side3 ?side4 A64.out).mono ?_); (case side1 => repeat (first | exact (Kd.R_reads' HO_9.out).2.2 | (with_reducible refine Kd.C_alloc ?_ _) | (with_reducible refine Kd.C_drewN ?_ _) | (with_reducible refine Kd.C_drew ?_))); (case side2 => exact (Kd.R_reads' HO_9.out).2.1); (case side3 => repeat (first | exact (Kd.R_reads' HO523.out).2.2 | (with_reducible refine Kd.C_alloc ?_ _) | (with_reducible refine Kd.C_drewN ?_ _) | (with_reducible refine Kd.C_drew ?_))); (case side4 => exact (Kd.R_reads' HO523.out).2.1); rintro e w' ⟨rfl, ⟨nd, rfl⟩⟩))
                                              go_ret
                                              exact ⟨by first | rfl | (simp [errW_none, errW_some] <;> rfl) | (simp only [← hji28]; first | rfl | (simp [errW_none, errW_some] <;> rfl)) | (simp [*, errW_none, errW_some] <;> rfl), by repeat (first | (with_reducible first | exact HB.out | apply below_alloc | apply pw_below_drewN | apply below_drew1 | refine below_set ?_ GE516.out) | exact HB.out)⟩
                                            · rw [if_neg c63] at H
                                              have c63b0 : (t521 == 0) = false := beq_eq_false_iff_ne.mpr c63
                                              have c63b1 : (t521 != 0) = true := bne_iff_ne.mpr c63
                                              obtain rfl := Option.some.inj H
                                              try go_wp2
                                              have n0_ := Aside0.mk (Kd.R_drew HO_9.out)
                                              have n1_ := Aside0.mk (blk_drew BK516.out)
                                              have n2_ := Aside0.mk (below_drew1 HB.out)
                                              clear HO_9
                                              clear BK516
                                              clear HB
                                              have HO_9 := n0_
                                              have BK516 := n1_
                                              have HB := n2_
                                              clear n0_ n1_ n2_
                                              refine start_ (n := 21) (S := fun w' => True) (ds := []) #[false, false, false, false, false, false, false, false, false, false, false, false, false, false, false, false, false, false, false, false, false] (by kernel_rfl) rfl rfl trivial (fun hHeld => ?_); refine with_tabW qanatlaw03_ScanComments.tab15 qanatlaw03_ScanComments.bits15 (fun HT_ HW_ => ?_)
                                              generalize wc.drew = w69 at HO_9 BK516 HB hHeld ⊢
                                              refine pure_ (i := 0) (N := some 106) (v := ?_) (a' := ?_) #[true, false, false, false, false, false, false, false, false, false, false, false, false, false, false, false, false, false, false, false, false] rfl rfl (any_of HT_.out (by kernel_rfl)) (fun _ _ _ h => h) (Or.inl ⟨by rfl, ?_⟩) ?_ ?_
                                              rotate_left
                                              · intro w'
                                                go_simp
                                                with_reducible rfl
                                              rotate_left
                                              · simp only [Act.put, List.setIfInBounds_toArray, List.set_cons_zero, List.set_cons_succ, i64_w, i32_w]
                                                rfl
                                              refine pure_ (i := 1) (N := some 107) (v := ?_) (a' := ?_) #[true, true, false, false, false, false, false, false, false, false, false, false, false, false, false, false, false, false, false, false, false] rfl rfl (any_of HT_.out (by kernel_rfl)) (fun _ _ _ h => h) (Or.inl ⟨by rfl, ?_⟩) ?_ ?_
                                              rotate_left
                                              · intro w'
                                                go_simp
                                                with_reducible rfl
                                              rotate_left
                                              · simp only [Act.put, List.setIfInBounds_toArray, List.set_cons_zero, List.set_cons_succ, i64_w, i32_w]
                                                rfl
                                              refine pure_ (i := 2) (N := some 108) (v := ?_) (a' := ?_) #[true, true, true, false, false, false, false, false, false, false, false, false, false, false, false, false, false, false, false, false, false] rfl rfl (any_of HT_.out (by kernel_rfl)) (fun _ _ _ h => h) (Or.inl ⟨by rfl, ?_⟩) ?_ ?_
                                              rotate_left
                                              · intro w'
                                                go_simp
                                                with_reducible rfl
                                              rotate_left
                                              · simp only [Act.put, List.setIfInBounds_toArray, List.set_cons_zero, List.set_cons_succ, i64_w, i32_w]
                                                rfl
                                              refine pure_ (i := 3) (N := some 109) (v := ?_) (a' := ?_) #[true, true, true, true, false, false, false, false, false, false, false, false, false, false, false, false, false, false, false, false, false] rfl rfl (any_of HT_.out (by kernel_rfl)) (fun _ _ _ h => h) (Or.inl ⟨by rfl, ?_⟩) ?_ ?_
                                              rotate_left
                                              · intro w'
                                                go_simp
                                                with_reducible rfl
                                              rotate_left
                                              · simp only [Act.put, List.setIfInBounds_toArray, List.set_cons_zero, List.set_cons_succ, i64_w, i32_w]
                                                rfl
                                              refine pure_ (i := 4) (N := some 110) (v := ?_) (a' := ?_) #[true, true, true, true, true, false, false, false, false, false, false, false, false, false, false, false, false, false, false, false, false] rfl rfl (any_of HT_.out (by kernel_rfl)) (fun _ _ _ h => h) (Or.inl ⟨by rfl, ?_⟩) ?_ ?_
                                              rotate_left
                                              · intro w'
                                                go_simp
                                                with_reducible rfl
                                              rotate_left
                                              · simp only [Act.put, List.setIfInBounds_toArray, List.set_cons_zero, List.set_cons_succ, i64_w, i32_w]
                                                rfl
                                              refine pure_ (i := 5) (N := some 111) (v := ?_) (a' := ?_) #[true, true, true, true, true, true, false, false, false, false, false, false, false, false, false, false, false, false, false, false, false] rfl rfl (any_of HT_.out (by kernel_rfl)) (fun _ _ _ h => h) (Or.inl ⟨by rfl, ?_⟩) ?_ ?_
                                              rotate_left
                                              · intro w'
                                                go_simp
                                                with_reducible rfl
                                              rotate_left
                                              · simp only [Act.put, List.setIfInBounds_toArray, List.set_cons_zero, List.set_cons_succ, i64_w, i32_w]
                                                rfl
                                              refine pure_ (i := 6) (N := some 112) (v := ?_) (a' := ?_) #[true, true, true, true, true, true, true, false, false, false, false, false, false, false, false, false, false, false, false, false, false] rfl rfl (any_of HT_.out (by kernel_rfl)) (fun _ _ _ h => h) (Or.inl ⟨by rfl, ?_⟩) ?_ ?_
                                              rotate_left
                                              · intro w'
                                                go_simp
                                                with_reducible rfl
                                              rotate_left
                                              · simp only [Act.put, List.setIfInBounds_toArray, List.set_cons_zero, List.set_cons_succ, i64_w, i32_w]
                                                rfl
                                              refine pure_ (i := 7) (N := some 113) (v := ?_) (a' := ?_) #[true, true, true, true, true, true, true, true, false, false, false, false, false, false, false, false, false, false, false, false, false] rfl rfl (any_of HT_.out (by kernel_rfl)) (fun _ _ _ h => h) (Or.inl ⟨by rfl, ?_⟩) ?_ ?_
                                              rotate_left
                                              · intro w'
                                                go_simp
                                                with_reducible rfl
                                              rotate_left
                                              · simp only [Act.put, List.setIfInBounds_toArray, List.set_cons_zero, List.set_cons_succ, i64_w, i32_w]
                                                rfl
                                              refine pure_ (i := 8) (N := some 114) (v := ?_) (a' := ?_) #[true, true, true, true, true, true, true, true, true, false, false, false, false, false, false, false, false, false, false, false, false] rfl rfl (any_of HT_.out (by kernel_rfl)) (fun _ _ _ h => h) (Or.inl ⟨by rfl, ?_⟩) ?_ ?_
                                              rotate_left
                                              · intro w'
                                                go_simp
                                                with_reducible rfl
                                              rotate_left
                                              · simp only [Act.put, List.setIfInBounds_toArray, List.set_cons_zero, List.set_cons_succ, i64_w, i32_w]
                                                rfl
                                              refine pure_ (i := 9) (N := some 115) (v := ?_) (a' := ?_) #[true, true, true, true, true, true, true, true, true, true, false, false, false, false, false, false, false, false, false, false, false] rfl rfl (any_of HT_.out (by kernel_rfl)) (fun _ _ _ h => h) (Or.inl ⟨by rfl, ?_⟩) ?_ ?_
                                              rotate_left
                                              · intro w'
                                                go_simp
                                                with_reducible rfl
                                              rotate_left
                                              · simp only [Act.put, List.setIfInBounds_toArray, List.set_cons_zero, List.set_cons_succ, i64_w, i32_w]
                                                rfl
                                              refine pure_ (i := 10) (N := some 116) (v := ?_) (a' := ?_) #[true, true, true, true, true, true, true, true, true, true, true, false, false, false, false, false, false, false, false, false, false] rfl rfl (any_of HT_.out (by kernel_rfl)) (fun _ _ _ h => h) (Or.inl ⟨by rfl, ?_⟩) ?_ ?_
                                              rotate_left
                                              · intro w'
                                                go_simp
                                                with_reducible rfl
                                              rotate_left
                                              · simp only [Act.put, List.setIfInBounds_toArray, List.set_cons_zero, List.set_cons_succ, i64_w, i32_w]
                                                rfl
                                              refine one_ (i := 11) (N := some 117) #[true, true, true, true, true, true, true, true, true, true, true, true, false, false, false, false, false, false, false, false, false] rfl rfl (one_of HT_.out (by kernel_rfl)) (by decide) (fun K hK => ?_)
                                              refine goes_ Tryz.func17 (by kernel_rfl) rfl #[.string (((((a0.extract 0 (x15_30 : Int).toNat) ++ (⟨#[47, 42]⟩ : ByteArray)) ++ a3) ++ (⟨#[42, 47]⟩ : ByteArray)) ++ (a0.extract (x15_30 : Int).toNat a0.size))] (by rfl) rfl rfl (by (try simp only [List.map_toArray, List.map_cons, List.map_nil]); first | done | rfl | (simp only [List.length_drop, List.length_take]; rfl)) ?_
                                              with_reducible refine (scan_Tokens.calls (((((a0.extract 0 (x15_30 : Int).toNat) ++ (⟨#[47, 42]⟩ : ByteArray)) ++ a3) ++ (⟨#[42, 47]⟩ : ByteArray)) ++ (a0.extract (x15_30 : Int).toNat a0.size)) t518 t519 t520 t521 _ (TabOK.of_below hT (by repeat (first | (with_reducible first | exact HB.out | apply below_alloc | apply pw_below_drewN | apply below_drew1 | refine below_set ?_ GE516.out) | exact HB.out))) A60.out).mono ?_
                                              rintro e w70 ⟨v522, rfl, ho0, hb⟩
                                              refine ⟨_, rfl, ?_⟩
                                              have n0_ := Aside0.mk (Kd.R_elder' (by (with_reducible repeat (first | apply Kd.R_alloc | apply Kd.R_drewN | apply Kd.R_drew)); exact HO_9.out) (Kd.R_base ho0) hb)
                                              have n1_ := Aside0.mk (Kd.R_lower (Kd.R_newB (Kd.R_new' ho0 (Kd.R_lt (by (with_reducible repeat (first | apply Kd.R_alloc | apply Kd.R_drewN | apply Kd.R_drew)); exact HO_9.out))) (g := gb516) (o := .cells #[.int .i64 ((rd_T53 t505 (ji28)).f0), .string ((rd_T53 t505 (ji28)).f1), .bool ((rd_T53 t505 (ji28)).f2), .int .i64 ((rd_T53 t505 (ji28)).f3), .int .i64 ((rd_T53 t505 (ji28)).f4), .int .i64 ((rd_T53 t505 (ji28)).f5)] 53 (0, 0)) (by (with_reducible repeat (first | refine blk_drewN ?_ _ | refine blk_drew ?_ | refine blk_alloc ?_ _)); exact BK516.out)) (below_size (by repeat (first | (with_reducible first | exact HB.out | apply below_alloc | apply pw_below_drewN | apply below_drew1 | refine below_set ?_ GE516.out) | exact HB.out))))
                                              have n2_ := Aside0.mk (blk_below (g := gb516) (o := .cells #[.int .i64 ((rd_T53 t505 (ji28)).f0), .string ((rd_T53 t505 (ji28)).f1), .bool ((rd_T53 t505 (ji28)).f2), .int .i64 ((rd_T53 t505 (ji28)).f3), .int .i64 ((rd_T53 t505 (ji28)).f4), .int .i64 ((rd_T53 t505 (ji28)).f5)] 53 (0, 0)) (by (with_reducible repeat (first | refine blk_drewN ?_ _ | refine blk_drew ?_ | refine blk_alloc ?_ _)); exact BK516.out) hb)
                                              have n3_ := Aside0.mk (below_step (by repeat (first | (with_reducible first | exact HB.out | apply below_alloc | apply pw_below_drewN | apply below_drew1 | refine below_set ?_ GE516.out) | exact HB.out)) hb)
                                              clear HO_9
                                              clear BK516
                                              clear HB
                                              have HO_9 := n0_
                                              have HO523 := n1_
                                              have BK516 := n2_
                                              have HB := n3_
                                              clear n0_ n1_ n2_ n3_
                                              (try clear hb)
                                              (try clear hb2)
                                              (try clear hk)
                                              (try clear hi)
                                              (try clear ho0)
                                              refine hK.out _ _ trivial (fun hHeld => ?_)
                                              clear hK K
                                              refine norm_ (a' := ?_) ?_ ?_
                                              rotate_left
                                              · show Act.put _ (some 117) _ = _
                                                simp only [Act.put, List.setIfInBounds_toArray, List.set_cons_zero, List.set_cons_succ, i64_w, i32_w]
                                                rfl
                                              refine pure_ (i := 12) (N := some 105) (v := ?_) (a' := ?_) #[true, true, true, true, true, true, true, true, true, true, true, true, true, false, false, false, false, false, false, false, false] rfl rfl (any_of HT_.out (by kernel_rfl)) (fun _ _ _ h => h) (Or.inl ⟨by rfl, ?_⟩) ?_ ?_
                                              rotate_left
                                              · intro w'
                                                go_simp
                                                with_reducible rfl
                                              rotate_left
                                              · simp only [Act.put, List.setIfInBounds_toArray, List.set_cons_zero, List.set_cons_succ, i64_w, i32_w]
                                                rfl
                                              refine pure_ (i := 13) (N := some 118) (v := ?_) (a' := ?_) #[true, true, true, true, true, true, true, true, true, true, true, true, true, true, false, false, false, false, false, false, false] rfl rfl (any_of HT_.out (by kernel_rfl)) (fun _ _ _ h => h) (Or.inl ⟨by rfl, ?_⟩) ?_ ?_
                                              rotate_left
                                              · intro w'
                                                go_simp
                                                with_reducible rfl
                                              rotate_left
                                              · simp only [Act.put, List.setIfInBounds_toArray, List.set_cons_zero, List.set_cons_succ, i64_w, i32_w]
                                                rfl
                                              refine pure_ (i := 14) (N := some 119) (v := ?_) (a' := ?_) #[true, true, true, true, true, true, true, true, true, true, true, true, true, true, true, false, false, false, false, false, false] rfl rfl (any_of HT_.out (by kernel_rfl)) (fun _ _ _ h => h) (Or.inl ⟨by rfl, ?_⟩) ?_ ?_
                                              rotate_left
                                              · intro w'
                                                go_simp
                                                with_reducible rfl
                                              rotate_left
                                              · simp only [Act.put, List.setIfInBounds_toArray, List.set_cons_zero, List.set_cons_succ, i64_w, i32_w]
                                                rfl
                                              refine pure_ (i := 15) (N := some 120) (v := ?_) (a' := ?_) #[true, true, true, true, true, true, true, true, true, true, true, true, true, true, true, true, false, false, false, false, false] rfl rfl (any_of HT_.out (by kernel_rfl)) (fun _ _ _ h => h) (Or.inl ⟨by rfl, ?_⟩) ?_ ?_
                                              rotate_left
                                              · intro w'
                                                go_simp
                                                with_reducible rfl
                                              rotate_left
                                              · simp only [Act.put, List.setIfInBounds_toArray, List.set_cons_zero, List.set_cons_succ, i64_w, i32_w]
                                                rfl
                                              refine pure_ (i := 16) (N := some 121) (v := ?_) (a' := ?_) #[true, true, true, true, true, true, true, true, true, true, true, true, true, true, true, true, true, false, false, false, false] rfl rfl (any_of HT_.out (by kernel_rfl)) (fun _ _ _ h => h) (Or.inl ⟨by rfl, ?_⟩) ?_ ?_
                                              rotate_left
                                              · intro w'
                                                go_simp
                                                with_reducible rfl
                                              rotate_left
                                              · simp only [Act.put, List.setIfInBounds_toArray, List.set_cons_zero, List.set_cons_succ, i64_w, i32_w]
                                                rfl
                                              refine pure_ (i := 17) (N := some 16) (v := ?_) (a' := ?_) #[true, true, true, true, true, true, true, true, true, true, true, true, true, true, true, true, true, true, false, false, false] rfl rfl (any_of HT_.out (by kernel_rfl)) (fun _ _ _ h => h) (Or.inl ⟨by rfl, ?_⟩) ?_ ?_
                                              rotate_left
                                              · intro w'
                                                go_simp
                                                with_reducible rfl
                                              rotate_left
                                              · simp only [Act.put, List.setIfInBounds_toArray, List.set_cons_zero, List.set_cons_succ, i64_w, i32_w]
                                                rfl
                                              refine pure_ (i := 18) (N := some 17) (v := ?_) (a' := ?_) #[true, true, true, true, true, true, true, true, true, true, true, true, true, true, true, true, true, true, true, false, false] rfl rfl (any_of HT_.out (by kernel_rfl)) (fun _ _ _ h => h) (Or.inl ⟨by rfl, ?_⟩) ?_ ?_
                                              rotate_left
                                              · intro w'
                                                go_simp
                                                with_reducible rfl
                                              rotate_left
                                              · simp only [Act.put, List.setIfInBounds_toArray, List.set_cons_zero, List.set_cons_succ, i64_w, i32_w]
                                                rfl
                                              refine pure_ (i := 19) (N := some 18) (v := ?_) (a' := ?_) #[true, true, true, true, true, true, true, true, true, true, true, true, true, true, true, true, true, true, true, true, false] rfl rfl (any_of HT_.out (by kernel_rfl)) (fun _ _ _ h => h) (Or.inl ⟨by rfl, ?_⟩) ?_ ?_
                                              rotate_left
                                              · intro w'
                                                go_simp
                                                with_reducible rfl
                                              rotate_left
                                              · simp only [Act.put, List.setIfInBounds_toArray, List.set_cons_zero, List.set_cons_succ, i64_w, i32_w]
                                                rfl
                                              refine pure_ (i := 20) (N := some 19) (v := ?_) (a' := ?_) #[true, true, true, true, true, true, true, true, true, true, true, true, true, true, true, true, true, true, true, true, true] rfl rfl (any_of HT_.out (by kernel_rfl)) (fun _ _ _ h => h) (Or.inl ⟨by rfl, ?_⟩) ?_ ?_
                                              rotate_left
                                              · intro w'
                                                go_simp
                                                with_reducible rfl
                                              rotate_left
                                              · simp only [Act.put, List.setIfInBounds_toArray, List.set_cons_zero, List.set_cons_succ, i64_w, i32_w]
                                                rfl
                                              refine done_ (done_of HT_.out (by kernel_rfl)) ?_
                                              try go_wp2_with (first | ((with_reducible refine gate_callee (f := 16) rfl ?_); refine goesL_ (some 122) rfl rfl Tryz.func16 (by kernel_rfl) rfl #[] rfl (by (try simp only [List.map_toArray, List.map_cons, List.map_nil]); first | done | rfl | (simp only [List.length_drop, List.length_take]; rfl)) ?_; (with_reducible refine (qanatlaw03_sanity.calls  true _ (TabOK.of_below hT (by repeat (first | (with_reducible first | exact HB.out | apply below_alloc | apply pw_below_drewN | apply below_drew1 | refine below_set ?_ GE516.out) | exact HB.out))) A61.out).mono ?_); rintro e w71 ⟨rfl, hb⟩; refine ⟨_, rfl, ?_⟩; have n0_ := Aside0.mk (Kd.R_below (by (with_reducible repeat (first | apply Kd.R_alloc | apply Kd.R_drewN | apply Kd.R_drew)); exact HO_9.out) hb); have n1_ := Aside0.mk (Kd.R_below (by (with_reducible repeat (first | apply Kd.R_alloc | apply Kd.R_drewN | apply Kd.R_drew)); exact HO523.out) hb); have n2_ := Aside0.mk (blk_below (g := gb516) (o := .cells #[.int .i64 ((rd_T53 t505 (ji28)).f0), .string ((rd_T53 t505 (ji28)).f1), .bool ((rd_T53 t505 (ji28)).f2), .int .i64 ((rd_T53 t505 (ji28)).f3), .int .i64 ((rd_T53 t505 (ji28)).f4), .int .i64 ((rd_T53 t505 (ji28)).f5)] 53 (0, 0)) (by (with_reducible repeat (first | refine blk_drewN ?_ _ | refine blk_drew ?_ | refine blk_alloc ?_ _)); exact BK516.out) hb); have n3_ := Aside0.mk (below_step (by repeat (first | (with_reducible first | exact HB.out | apply below_alloc | apply pw_below_drewN | apply below_drew1 | refine below_set ?_ GE516.out) | exact HB.out)) hb); clear HO_9; clear HO523; clear BK516; clear HB; have HO_9 := n0_; have HO523 := n1_; have BK516 := n2_; have HB := n3_; clear n0_ n1_ n2_ n3_; (try clear hb); (try clear hb2); (try clear hk); (try clear hi)))
                                              go_ret
                                              exact ⟨by first | rfl | (simp [errW_none, errW_some] <;> rfl) | (simp only [← hji28]; first | rfl | (simp [errW_none, errW_some] <;> rfl)) | (simp [*, errW_none, errW_some] <;> rfl), by repeat (first | (with_reducible first | exact HB.out | apply below_alloc | apply pw_below_drewN | apply below_drew1 | refine below_set ?_ GE516.out) | exact HB.out)⟩
                                          · replace c62 := Bool.eq_false_iff.mpr c62
                                            subst c62
                                            have H1 : (some false) = some r := by rw [if_neg (show ¬ (false = true) by decide)] at H; exact H
                                            clear H
                                            have H := H1
                                            clear H1
                                            obtain rfl := Option.some.inj H
                                            try go_wp2
                                            have n0_ := Aside0.mk (Kd.R_drew HO_9.out)
                                            have n1_ := Aside0.mk (blk_drew BK516.out)
                                            have n2_ := Aside0.mk (below_drew1 HB.out)
                                            clear HO_9
                                            clear BK516
                                            clear HB
                                            have HO_9 := n0_
                                            have BK516 := n1_
                                            have HB := n2_
                                            clear n0_ n1_ n2_
                                            refine start_ (n := 21) (S := fun w' => True) (ds := []) #[false, false, false, false, false, false, false, false, false, false, false, false, false, false, false, false, false, false, false, false, false] (by kernel_rfl) rfl rfl trivial (fun hHeld => ?_); refine with_tabW qanatlaw03_ScanComments.tab15 qanatlaw03_ScanComments.bits15 (fun HT_ HW_ => ?_)
                                            generalize wc.drew = w72 at HO_9 BK516 HB hHeld ⊢
                                            refine pure_ (i := 0) (N := some 106) (v := ?_) (a' := ?_) #[true, false, false, false, false, false, false, false, false, false, false, false, false, false, false, false, false, false, false, false, false] rfl rfl (any_of HT_.out (by kernel_rfl)) (fun _ _ _ h => h) (Or.inl ⟨by rfl, ?_⟩) ?_ ?_
                                            rotate_left
                                            · intro w'
                                              go_simp
                                              with_reducible rfl
                                            rotate_left
                                            · simp only [Act.put, List.setIfInBounds_toArray, List.set_cons_zero, List.set_cons_succ, i64_w, i32_w]
                                              rfl
                                            refine pure_ (i := 1) (N := some 107) (v := ?_) (a' := ?_) #[true, true, false, false, false, false, false, false, false, false, false, false, false, false, false, false, false, false, false, false, false] rfl rfl (any_of HT_.out (by kernel_rfl)) (fun _ _ _ h => h) (Or.inl ⟨by rfl, ?_⟩) ?_ ?_
                                            rotate_left
                                            · intro w'
                                              go_simp
                                              with_reducible rfl
                                            rotate_left
                                            · simp only [Act.put, List.setIfInBounds_toArray, List.set_cons_zero, List.set_cons_succ, i64_w, i32_w]
                                              rfl
                                            refine pure_ (i := 2) (N := some 108) (v := ?_) (a' := ?_) #[true, true, true, false, false, false, false, false, false, false, false, false, false, false, false, false, false, false, false, false, false] rfl rfl (any_of HT_.out (by kernel_rfl)) (fun _ _ _ h => h) (Or.inl ⟨by rfl, ?_⟩) ?_ ?_
                                            rotate_left
                                            · intro w'
                                              go_simp
                                              with_reducible rfl
                                            rotate_left
                                            · simp only [Act.put, List.setIfInBounds_toArray, List.set_cons_zero, List.set_cons_succ, i64_w, i32_w]
                                              rfl
                                            refine pure_ (i := 3) (N := some 109) (v := ?_) (a' := ?_) #[true, true, true, true, false, false, false, false, false, false, false, false, false, false, false, false, false, false, false, false, false] rfl rfl (any_of HT_.out (by kernel_rfl)) (fun _ _ _ h => h) (Or.inl ⟨by rfl, ?_⟩) ?_ ?_
                                            rotate_left
                                            · intro w'
                                              go_simp
                                              with_reducible rfl
                                            rotate_left
                                            · simp only [Act.put, List.setIfInBounds_toArray, List.set_cons_zero, List.set_cons_succ, i64_w, i32_w]
                                              rfl
                                            refine pure_ (i := 4) (N := some 110) (v := ?_) (a' := ?_) #[true, true, true, true, true, false, false, false, false, false, false, false, false, false, false, false, false, false, false, false, false] rfl rfl (any_of HT_.out (by kernel_rfl)) (fun _ _ _ h => h) (Or.inl ⟨by rfl, ?_⟩) ?_ ?_
                                            rotate_left
                                            · intro w'
                                              go_simp
                                              with_reducible rfl
                                            rotate_left
                                            · simp only [Act.put, List.setIfInBounds_toArray, List.set_cons_zero, List.set_cons_succ, i64_w, i32_w]
                                              rfl
                                            refine pure_ (i := 5) (N := some 111) (v := ?_) (a' := ?_) #[true, true, true, true, true, true, false, false, false, false, false, false, false, false, false, false, false, false, false, false, false] rfl rfl (any_of HT_.out (by kernel_rfl)) (fun _ _ _ h => h) (Or.inl ⟨by rfl, ?_⟩) ?_ ?_
                                            rotate_left
                                            · intro w'
                                              go_simp
                                              with_reducible rfl
                                            rotate_left
                                            · simp only [Act.put, List.setIfInBounds_toArray, List.set_cons_zero, List.set_cons_succ, i64_w, i32_w]
                                              rfl
                                            refine pure_ (i := 6) (N := some 112) (v := ?_) (a' := ?_) #[true, true, true, true, true, true, true, false, false, false, false, false, false, false, false, false, false, false, false, false, false] rfl rfl (any_of HT_.out (by kernel_rfl)) (fun _ _ _ h => h) (Or.inl ⟨by rfl, ?_⟩) ?_ ?_
                                            rotate_left
                                            · intro w'
                                              go_simp
                                              with_reducible rfl
                                            rotate_left
                                            · simp only [Act.put, List.setIfInBounds_toArray, List.set_cons_zero, List.set_cons_succ, i64_w, i32_w]
                                              rfl
                                            refine pure_ (i := 7) (N := some 113) (v := ?_) (a' := ?_) #[true, true, true, true, true, true, true, true, false, false, false, false, false, false, false, false, false, false, false, false, false] rfl rfl (any_of HT_.out (by kernel_rfl)) (fun _ _ _ h => h) (Or.inl ⟨by rfl, ?_⟩) ?_ ?_
                                            rotate_left
                                            · intro w'
                                              go_simp
                                              with_reducible rfl
                                            rotate_left
                                            · simp only [Act.put, List.setIfInBounds_toArray, List.set_cons_zero, List.set_cons_succ, i64_w, i32_w]
                                              rfl
                                            refine pure_ (i := 8) (N := some 114) (v := ?_) (a' := ?_) #[true, true, true, true, true, true, true, true, true, false, false, false, false, false, false, false, false, false, false, false, false] rfl rfl (any_of HT_.out (by kernel_rfl)) (fun _ _ _ h => h) (Or.inl ⟨by rfl, ?_⟩) ?_ ?_
                                            rotate_left
                                            · intro w'
                                              go_simp
                                              with_reducible rfl
                                            rotate_left
                                            · simp only [Act.put, List.setIfInBounds_toArray, List.set_cons_zero, List.set_cons_succ, i64_w, i32_w]
                                              rfl
                                            refine pure_ (i := 9) (N := some 115) (v := ?_) (a' := ?_) #[true, true, true, true, true, true, true, true, true, true, false, false, false, false, false, false, false, false, false, false, false] rfl rfl (any_of HT_.out (by kernel_rfl)) (fun _ _ _ h => h) (Or.inl ⟨by rfl, ?_⟩) ?_ ?_
                                            rotate_left
                                            · intro w'
                                              go_simp
                                              with_reducible rfl
                                            rotate_left
                                            · simp only [Act.put, List.setIfInBounds_toArray, List.set_cons_zero, List.set_cons_succ, i64_w, i32_w]
                                              rfl
                                            refine pure_ (i := 10) (N := some 116) (v := ?_) (a' := ?_) #[true, true, true, true, true, true, true, true, true, true, true, false, false, false, false, false, false, false, false, false, false] rfl rfl (any_of HT_.out (by kernel_rfl)) (fun _ _ _ h => h) (Or.inl ⟨by rfl, ?_⟩) ?_ ?_
                                            rotate_left
                                            · intro w'
                                              go_simp
                                              with_reducible rfl
                                            rotate_left
                                            · simp only [Act.put, List.setIfInBounds_toArray, List.set_cons_zero, List.set_cons_succ, i64_w, i32_w]
                                              rfl
                                            refine one_ (i := 11) (N := some 117) #[true, true, true, true, true, true, true, true, true, true, true, true, false, false, false, false, false, false, false, false, false] rfl rfl (one_of HT_.out (by kernel_rfl)) (by decide) (fun K hK => ?_)
                                            refine goes_ Tryz.func17 (by kernel_rfl) rfl #[.string (((((a0.extract 0 (x15_30 : Int).toNat) ++ (⟨#[47, 42]⟩ : ByteArray)) ++ a3) ++ (⟨#[42, 47]⟩ : ByteArray)) ++ (a0.extract (x15_30 : Int).toNat a0.size))] (by rfl) rfl rfl (by (try simp only [List.map_toArray, List.map_cons, List.map_nil]); first | done | rfl | (simp only [List.length_drop, List.length_take]; rfl)) ?_
                                            with_reducible refine (scan_Tokens.calls (((((a0.extract 0 (x15_30 : Int).toNat) ++ (⟨#[47, 42]⟩ : ByteArray)) ++ a3) ++ (⟨#[42, 47]⟩ : ByteArray)) ++ (a0.extract (x15_30 : Int).toNat a0.size)) t518 t519 t520 t521 _ (TabOK.of_below hT (by repeat (first | (with_reducible first | exact HB.out | apply below_alloc | apply pw_below_drewN | apply below_drew1 | refine below_set ?_ GE516.out) | exact HB.out))) A60.out).mono ?_
                                            rintro e w73 ⟨v522, rfl, ho0, hb⟩
                                            refine ⟨_, rfl, ?_⟩
                                            have n0_ := Aside0.mk (Kd.R_elder' (by (with_reducible repeat (first | apply Kd.R_alloc | apply Kd.R_drewN | apply Kd.R_drew)); exact HO_9.out) (Kd.R_base ho0) hb)
                                            have n1_ := Aside0.mk (Kd.R_lower (Kd.R_newB (Kd.R_new' ho0 (Kd.R_lt (by (with_reducible repeat (first | apply Kd.R_alloc | apply Kd.R_drewN | apply Kd.R_drew)); exact HO_9.out))) (g := gb516) (o := .cells #[.int .i64 ((rd_T53 t505 (ji28)).f0), .string ((rd_T53 t505 (ji28)).f1), .bool ((rd_T53 t505 (ji28)).f2), .int .i64 ((rd_T53 t505 (ji28)).f3), .int .i64 ((rd_T53 t505 (ji28)).f4), .int .i64 ((rd_T53 t505 (ji28)).f5)] 53 (0, 0)) (by (with_reducible repeat (first | refine blk_drewN ?_ _ | refine blk_drew ?_ | refine blk_alloc ?_ _)); exact BK516.out)) (below_size (by repeat (first | (with_reducible first | exact HB.out | apply below_alloc | apply pw_below_drewN | apply below_drew1 | refine below_set ?_ GE516.out) | exact HB.out))))
                                            have n2_ := Aside0.mk (blk_below (g := gb516) (o := .cells #[.int .i64 ((rd_T53 t505 (ji28)).f0), .string ((rd_T53 t505 (ji28)).f1), .bool ((rd_T53 t505 (ji28)).f2), .int .i64 ((rd_T53 t505 (ji28)).f3), .int .i64 ((rd_T53 t505 (ji28)).f4), .int .i64 ((rd_T53 t505 (ji28)).f5)] 53 (0, 0)) (by (with_reducible repeat (first | refine blk_drewN ?_ _ | refine blk_drew ?_ | refine blk_alloc ?_ _)); exact BK516.out) hb)
                                            have n3_ := Aside0.mk (below_step (by repeat (first | (with_reducible first | exact HB.out | apply below_alloc | apply pw_below_drewN | apply below_drew1 | refine below_set ?_ GE516.out) | exact HB.out)) hb)
                                            clear HO_9
                                            clear BK516
                                            clear HB
                                            have HO_9 := n0_
                                            have HO523 := n1_
                                            have BK516 := n2_
                                            have HB := n3_
                                            clear n0_ n1_ n2_ n3_
                                            (try clear hb)
                                            (try clear hb2)
                                            (try clear hk)
                                            (try clear hi)
                                            (try clear ho0)
                                            refine hK.out _ _ trivial (fun hHeld => ?_)
                                            clear hK K
                                            refine norm_ (a' := ?_) ?_ ?_
                                            rotate_left
                                            · show Act.put _ (some 117) _ = _
                                              simp only [Act.put, List.setIfInBounds_toArray, List.set_cons_zero, List.set_cons_succ, i64_w, i32_w]
                                              rfl
                                            refine pure_ (i := 12) (N := some 105) (v := ?_) (a' := ?_) #[true, true, true, true, true, true, true, true, true, true, true, true, true, false, false, false, false, false, false, false, false] rfl rfl (any_of HT_.out (by kernel_rfl)) (fun _ _ _ h => h) (Or.inl ⟨by rfl, ?_⟩) ?_ ?_
                                            rotate_left
                                            · intro w'
                                              go_simp
                                              with_reducible rfl
                                            rotate_left
                                            · simp only [Act.put, List.setIfInBounds_toArray, List.set_cons_zero, List.set_cons_succ, i64_w, i32_w]
                                              rfl
                                            refine pure_ (i := 13) (N := some 118) (v := ?_) (a' := ?_) #[true, true, true, true, true, true, true, true, true, true, true, true, true, true, false, false, false, false, false, false, false] rfl rfl (any_of HT_.out (by kernel_rfl)) (fun _ _ _ h => h) (Or.inl ⟨by rfl, ?_⟩) ?_ ?_
                                            rotate_left
                                            · intro w'
                                              go_simp
                                              with_reducible rfl
                                            rotate_left
                                            · simp only [Act.put, List.setIfInBounds_toArray, List.set_cons_zero, List.set_cons_succ, i64_w, i32_w]
                                              rfl
                                            refine pure_ (i := 14) (N := some 119) (v := ?_) (a' := ?_) #[true, true, true, true, true, true, true, true, true, true, true, true, true, true, true, false, false, false, false, false, false] rfl rfl (any_of HT_.out (by kernel_rfl)) (fun _ _ _ h => h) (Or.inl ⟨by rfl, ?_⟩) ?_ ?_
                                            rotate_left
                                            · intro w'
                                              go_simp
                                              with_reducible rfl
                                            rotate_left
                                            · simp only [Act.put, List.setIfInBounds_toArray, List.set_cons_zero, List.set_cons_succ, i64_w, i32_w]
                                              rfl
                                            refine pure_ (i := 15) (N := some 120) (v := ?_) (a' := ?_) #[true, true, true, true, true, true, true, true, true, true, true, true, true, true, true, true, false, false, false, false, false] rfl rfl (any_of HT_.out (by kernel_rfl)) (fun _ _ _ h => h) (Or.inl ⟨by rfl, ?_⟩) ?_ ?_
                                            rotate_left
                                            · intro w'
                                              go_simp
                                              with_reducible rfl
                                            rotate_left
                                            · simp only [Act.put, List.setIfInBounds_toArray, List.set_cons_zero, List.set_cons_succ, i64_w, i32_w]
                                              rfl
                                            refine pure_ (i := 16) (N := some 121) (v := ?_) (a' := ?_) #[true, true, true, true, true, true, true, true, true, true, true, true, true, true, true, true, true, false, false, false, false] rfl rfl (any_of HT_.out (by kernel_rfl)) (fun _ _ _ h => h) (Or.inl ⟨by rfl, ?_⟩) ?_ ?_
                                            rotate_left
                                            · intro w'
                                              go_simp
                                              with_reducible rfl
                                            rotate_left
                                            · simp only [Act.put, List.setIfInBounds_toArray, List.set_cons_zero, List.set_cons_succ, i64_w, i32_w]
                                              rfl
                                            refine pure_ (i := 17) (N := some 16) (v := ?_) (a' := ?_) #[true, true, true, true, true, true, true, true, true, true, true, true, true, true, true, true, true, true, false, false, false] rfl rfl (any_of HT_.out (by kernel_rfl)) (fun _ _ _ h => h) (Or.inl ⟨by rfl, ?_⟩) ?_ ?_
                                            rotate_left
                                            · intro w'
                                              go_simp
                                              with_reducible rfl
                                            rotate_left
                                            · simp only [Act.put, List.setIfInBounds_toArray, List.set_cons_zero, List.set_cons_succ, i64_w, i32_w]
                                              rfl
                                            refine pure_ (i := 18) (N := some 17) (v := ?_) (a' := ?_) #[true, true, true, true, true, true, true, true, true, true, true, true, true, true, true, true, true, true, true, false, false] rfl rfl (any_of HT_.out (by kernel_rfl)) (fun _ _ _ h => h) (Or.inl ⟨by rfl, ?_⟩) ?_ ?_
                                            rotate_left
                                            · intro w'
                                              go_simp
                                              with_reducible rfl
                                            rotate_left
                                            · simp only [Act.put, List.setIfInBounds_toArray, List.set_cons_zero, List.set_cons_succ, i64_w, i32_w]
                                              rfl
                                            refine pure_ (i := 19) (N := some 18) (v := ?_) (a' := ?_) #[true, true, true, true, true, true, true, true, true, true, true, true, true, true, true, true, true, true, true, true, false] rfl rfl (any_of HT_.out (by kernel_rfl)) (fun _ _ _ h => h) (Or.inl ⟨by rfl, ?_⟩) ?_ ?_
                                            rotate_left
                                            · intro w'
                                              go_simp
                                              with_reducible rfl
                                            rotate_left
                                            · simp only [Act.put, List.setIfInBounds_toArray, List.set_cons_zero, List.set_cons_succ, i64_w, i32_w]
                                              rfl
                                            refine pure_ (i := 20) (N := some 19) (v := ?_) (a' := ?_) #[true, true, true, true, true, true, true, true, true, true, true, true, true, true, true, true, true, true, true, true, true] rfl rfl (any_of HT_.out (by kernel_rfl)) (fun _ _ _ h => h) (Or.inl ⟨by rfl, ?_⟩) ?_ ?_
                                            rotate_left
                                            · intro w'
                                              go_simp
                                              with_reducible rfl
                                            rotate_left
                                            · simp only [Act.put, List.setIfInBounds_toArray, List.set_cons_zero, List.set_cons_succ, i64_w, i32_w]
                                              rfl
                                            refine done_ (done_of HT_.out (by kernel_rfl)) ?_
                                            try go_wp2_with (first | ((with_reducible refine gate_callee (f := 16) rfl ?_); refine goesL_ (some 122) rfl rfl Tryz.func16 (by kernel_rfl) rfl #[] rfl (by (try simp only [List.map_toArray, List.map_cons, List.map_nil]); first | done | rfl | (simp only [List.length_drop, List.length_take]; rfl)) ?_; (with_reducible refine (qanatlaw03_sanity.calls  false _ (TabOK.of_below hT (by repeat (first | (with_reducible first | exact HB.out | apply below_alloc | apply pw_below_drewN | apply below_drew1 | refine below_set ?_ GE516.out) | exact HB.out))) A61.out).mono ?_); rintro e w74 ⟨rfl, hb⟩; refine ⟨_, rfl, ?_⟩; have n0_ := Aside0.mk (Kd.R_below (by (with_reducible repeat (first | apply Kd.R_alloc | apply Kd.R_drewN | apply Kd.R_drew)); exact HO_9.out) hb); have n1_ := Aside0.mk (Kd.R_below (by (with_reducible repeat (first | apply Kd.R_alloc | apply Kd.R_drewN | apply Kd.R_drew)); exact HO523.out) hb); have n2_ := Aside0.mk (blk_below (g := gb516) (o := .cells #[.int .i64 ((rd_T53 t505 (ji28)).f0), .string ((rd_T53 t505 (ji28)).f1), .bool ((rd_T53 t505 (ji28)).f2), .int .i64 ((rd_T53 t505 (ji28)).f3), .int .i64 ((rd_T53 t505 (ji28)).f4), .int .i64 ((rd_T53 t505 (ji28)).f5)] 53 (0, 0)) (by (with_reducible repeat (first | refine blk_drewN ?_ _ | refine blk_drew ?_ | refine blk_alloc ?_ _)); exact BK516.out) hb); have n3_ := Aside0.mk (below_step (by repeat (first | (with_reducible first | exact HB.out | apply below_alloc | apply pw_below_drewN | apply below_drew1 | refine below_set ?_ GE516.out) | exact HB.out)) hb); clear HO_9; clear HO523; clear BK516; clear HB; have HO_9 := n0_; have HO523 := n1_; have BK516 := n2_; have HB := n3_; clear n0_ n1_ n2_ n3_; (try clear hb); (try clear hb2); (try clear hk); (try clear hi)))
                                            go_ret
                                            exact ⟨by first | rfl | (simp [errW_none, errW_some] <;> rfl) | (simp only [← hji28]; first | rfl | (simp [errW_none, errW_some] <;> rfl)) | (simp [*, errW_none, errW_some] <;> rfl), by repeat (first | (with_reducible first | exact HB.out | apply below_alloc | apply pw_below_drewN | apply below_drew1 | refine below_set ?_ GE516.out) | exact HB.out)⟩
                                        · rw [if_neg c59] at H
                                          exact absurd H (by simp)
                                      · rw [if_neg c56] at H
                                        exact absurd H (by simp)
                                    · rw [if_neg c55] at H
                                      exact absurd H (by simp)
                                  · rw [if_neg c54] at H
                                    exact absurd H (by simp)
                                · rw [if_neg c53] at H
                                  exact absurd H (by simp)
                              · rw [if_neg c52] at H
                                exact absurd H (by simp)
                  · rw [if_neg c30] at H
                    exact absurd H (by simp)
                · rw [if_neg c29] at H
                  exact absurd H (by simp)

/-- THE ONE PURE STATEMENT of qanatlaw03_ScanComments: yours. -/
def qanatlaw03_ScanComments.Pure : Prop := ∀ (a0 : ByteArray) (a1 : Int) (a2 : Bool) (a3 : ByteArray), a0.size ≤ 140737488351232 → (Lit.int .u16 a1).wf = true → a3.size ≤ 140737488351232 → ∃ k, qanatlaw03_ScanComments.f k a0 a1 a2 a3 = some true
theorem qanatlaw03_ScanComments.walk (P : qanatlaw03_ScanComments.Pure) (a0 : ByteArray) (a1 : Int) (a2 : Bool) (a3 : ByteArray) (w : World) (hT : TabOK w) (w0 : a0.size ≤ 140737488351232) (w1 : (Lit.int .u16 a1).wf = true) (w3 : a3.size ≤ 140737488351232) :
    Calls Tryz.prog 10 #[.string a0, .int .u16 a1, .bool a2, .string a3] w fun e w' => e = .returned (.bool true) ∧ Below w.heap.size w w' := by
  obtain ⟨k, h⟩ := P a0 a1 a2 a3 w0 w1 w3
  refine (qanatlaw03_ScanComments.calls k a0 a1 a2 a3 true w hT h).mono ?_
  rintro e w' ⟨rfl, hd⟩
  exact ⟨rfl, hd⟩

end Go.Proofs.YtkkpjonfaflkmaaGreatDoor.T

/- How far a rule looks: a token stays the same if what stands behind it changes from a neutral byte on. -/
namespace Go.Proofs.YtkkpjonfaflkmaaGreatDoor.S
set_option linter.unusedSimpArgs false
set_option linter.unusedVariables false

theorem lit_loc (q : Int) : ∀ (xs : List Int) (i : Nat) (acc v : List Int) (j : Nat), lit q xs i acc = some (v, j) →
    ∃ U R, xs = U ++ q :: R ∧ U.length + i = j ∧ R.head? ≠ some q ∧ ∀ R', R'.head? ≠ some q → lit q (U ++ q :: R') i acc = some (v, j)
  | [], _, _, _, _ => fun h => by cases h
  | [c], i, acc, v, j => fun h => by
    rw [lit] at h
    by_cases h1 : c = 10
    · rw [if_pos h1] at h; cases h
    · rw [if_neg h1] at h
      by_cases h2 : c = q
      · rw [if_pos h2] at h; cases h
        subst h2
        refine ⟨[], [], rfl, by simp, by simp, fun R' hR => ?_⟩
        rcases R' with _ | ⟨d, t⟩
        · simp [lit, h1]
        · simp only [List.head?_cons, ne_eq, Option.some.injEq] at hR
          simp [lit, h1, hR]
      · rw [if_neg h2] at h; cases h
  | c :: d :: t, i, acc, v, j => fun h => by
    rw [lit] at h
    by_cases h1 : c = 10
    · rw [if_pos h1] at h; cases h
    · rw [if_neg h1] at h
      by_cases h2 : c = q
      · rw [if_pos h2] at h
        by_cases h3 : d = q
        · rw [if_pos h3] at h
          obtain ⟨U, R, e1, e2, e3, e4⟩ := lit_loc q t (i + 2) (acc ++ [q]) v j h
          subst h2 h3
          refine ⟨d :: d :: U, R, by rw [e1]; rfl, by simp only [List.length_cons]; omega, e3, fun R' hR => ?_⟩
          have := e4 R' hR
          show lit d (d :: d :: (U ++ d :: R')) i acc = _
          rw [lit, if_neg h1, if_pos rfl, if_pos rfl]; exact this
        · rw [if_neg h3] at h; cases h
          subst h2
          refine ⟨[], d :: t, rfl, by simp, by simpa using h3, fun R' hR => ?_⟩
          rcases R' with _ | ⟨d, t⟩
          · simp [lit, h1]
          · simp only [List.head?_cons, ne_eq, Option.some.injEq] at hR
            simp [lit, h1, hR]
      · rw [if_neg h2] at h
        obtain ⟨U, R, e1, e2, e3, e4⟩ := lit_loc q (d :: t) (i + 1) (acc ++ [c]) v j h
        refine ⟨c :: U, R, by rw [e1]; rfl, by simp only [List.length_cons]; omega, e3, fun R' hR => ?_⟩
        have := e4 R' hR
        show lit q (c :: (U ++ q :: R')) i acc = _
        rcases hu : U ++ q :: R' with _ | ⟨e, s⟩
        · simp at hu
        · rw [hu] at this
          rw [lit, if_neg h1, if_neg h2]; exact this

/-- A byte that goes on with nothing. -/
def Neutral (c : Int) : Prop := c = 10 ∨ c = 59 ∨ c = 47
theorem Neutral.facts {c : Int} (h : Neutral c) : sym c = false ∧ dig c = false ∧ sfxOf c = 0 ∧ c ≠ 39 ∧ c ≠ 34 ∧ c ≠ 43 ∧ c ≠ 45 ∧ c ≠ 42 := by
  rcases h with rfl | rfl | rfl <;> decide
/-- What stands behind the token: C then R2; a single byte C is no symbol that goes on in R2. -/
def Two (C R2 : List Int) : Prop := ∀ d, C = [d] → sym d = true → ∀ e s, R2 = e :: s → sym e = false
theorem sfx_sym {d e : Int} {s : List Int} (h : sym e = false) : sfx (d :: e :: s) = sfxOf d := by simp [sfx, h]
theorem sfxOf_sym {d : Int} (h : sym d = false) : sfxOf d = 0 := by
  unfold sfxOf
  by_cases h1 : d = 88 ∨ d = 120
  · rcases h1 with rfl | rfl <;> cases h
  · rw [if_neg h1]
    by_cases h2 : d = 66 ∨ d = 98
    · rcases h2 with rfl | rfl <;> cases h
    · rw [if_neg h2]
theorem sfx_ns {d : Int} {t : List Int} (h : sym d = false) : sfx (d :: t) = 0 := by
  rcases t with _ | ⟨e, s⟩
  · exact sfxOf_sym h
  · simp only [sfx]
    split
    · rfl
    · exact sfxOf_sym h
theorem sfx_loc {C R2 R3 : List Int} {c : Int} (hn : Neutral c) (ht : Two C R2) (h : C = [] → sfx R2 = 0) : sfx (C ++ c :: R3) = sfx (C ++ R2) := by
  obtain ⟨f1, f2, f3, -⟩ := hn.facts
  rcases C with _ | ⟨d, _ | ⟨e, C⟩⟩
  · rw [List.nil_append, List.nil_append, h rfl]
    exact sfx_ns f1
  · show sfx (d :: c :: R3) = sfx (d :: R2)
    rw [sfx_sym f1]
    rcases R2 with _ | ⟨e, s⟩
    · rfl
    · by_cases hd : sym d = true
      · rw [sfx_sym (ht d rfl hd e s rfl)]
      · rw [sfx_ns (by simpa using hd), sfxOf_sym (by simpa using hd)]
  · rfl

theorem litTok_eq (q : Int) (U R R' : List Int) (v : List Int) (h : lit q (U ++ q :: R) 1 [] = some (v, U.length + 1)) (h' : lit q (U ++ q :: R') 1 [] = some (v, U.length + 1)) (hs : sfx R' = sfx R) :
    litTok (q :: (U ++ q :: R')) = litTok (q :: (U ++ q :: R)) := by
  have d : ∀ R : List Int, (q :: (U ++ q :: R)).drop (U.length + 1 + 1) = R := fun R => by
    rw [List.drop_succ_cons, List.drop_append, List.drop_eq_nil_of_le (by omega)]
    simp
  simp only [litTok, h, h', d, hs]
/-- What a literal's text and length hang on. -/
theorem litTok_parts {q : Int} {t : List Int} {x : List Int} {n : Nat} (h : litTok (q :: t) = .ok x n) :
    ∃ v U R, t = U ++ q :: R ∧ R.head? ≠ some q ∧ (∀ R', R'.head? ≠ some q → lit q (U ++ q :: R') 1 [] = some (v, U.length + 1)) ∧ ((sfx R = 0 ∧ n = U.length + 2) ∨ (sfx R ≠ 0 ∧ n = U.length + 3)) := by
  simp only [litTok] at h
  cases hl : lit q t 1 [] with
  | none => rw [hl] at h; cases h
  | some p =>
    obtain ⟨v, i⟩ := p
    rw [hl] at h
    simp only at h
    obtain ⟨U, R, e1, e2, e3, e4⟩ := lit_loc q t 1 [] v i hl
    subst e1
    obtain rfl : i = U.length + 1 := by omega
    have d : (q :: (U ++ q :: R)).drop (U.length + 1 + 1) = R := by
      rw [List.drop_succ_cons, List.drop_append, List.drop_eq_nil_of_le (by omega)]
      simp
    rw [d] at h
    refine ⟨v, U, R, rfl, e3, e4, ?_⟩
    by_cases hp : v.all prn = true
    · rw [if_pos hp] at h
      by_cases hs : sfx R = 0
      · rw [if_pos hs] at h
        exact .inl ⟨hs, (litEnd_ok h).2⟩
      · rw [if_neg hs] at h
        cases hd : litDec v (sfx R) with
        | none => rw [hd] at h; cases h
        | some u => rw [hd] at h; exact .inr ⟨hs, (litEnd_ok h).2⟩
    · rw [if_neg hp] at h; cases h
theorem litTok_loc {A C R2 R3 x : List Int} {c : Int} (hn : Neutral c) (ht : Two C R2) (hq : ∃ q t, A = q :: t ∧ (q = 39 ∨ q = 34)) (h : litTok (A ++ (C ++ R2)) = .ok x A.length) : litTok (A ++ (C ++ c :: R3)) = .ok x A.length := by
  obtain ⟨q, t, rfl, hq⟩ := hq
  rw [List.cons_append] at h ⊢
  obtain ⟨f1, f2, f3, f4, f5, -⟩ := hn.facts
  obtain ⟨v, U, R, e1, e2, e3, e4⟩ := litTok_parts h
  have hc : some c ≠ some q := by rcases hq with rfl | rfl <;> simpa
  rcases e4 with ⟨hs, hl⟩ | ⟨hs, hl⟩
  · obtain ⟨hA, hR⟩ : t = U ++ [q] ∧ C ++ R2 = R := List.append_inj (s₁ := t) (s₂ := U ++ [q]) (by rw [e1]; simp) (by simp only [List.length_cons] at hl; simp; omega)
    subst hA hR
    have hh : (C ++ c :: R3).head? ≠ some q := by
      rcases C with _ | ⟨d, C⟩
      · exact hc
      · simpa using e2
    have := litTok_eq q U (C ++ R2) (C ++ c :: R3) v (e3 _ e2) (e3 _ hh) (sfx_loc hn ht fun e => by subst e; exact hs)
    rw [List.append_assoc] at h ⊢
    exact this.trans h
  · rcases R with _ | ⟨a, R⟩
    · exact absurd rfl hs
    obtain ⟨hA, hR⟩ : t = U ++ [q, a] ∧ C ++ R2 = R := List.append_inj (s₁ := t) (s₂ := U ++ [q, a]) (by rw [e1]; simp) (by simp only [List.length_cons] at hl; simp; omega)
    subst hA hR
    have hsx : sfx (a :: (C ++ c :: R3)) = sfx (a :: (C ++ R2)) := by
      rcases C with _ | ⟨d, C⟩
      · show sfx (a :: c :: R3) = sfx (a :: R2)
        rw [sfx_sym f1]
        rcases R2 with _ | ⟨e, s⟩
        · rfl
        · simp only [List.nil_append, sfx] at hs ⊢
          by_cases he : sym e = true
          · rw [if_pos he] at hs; exact absurd rfl hs
          · rw [if_neg he]
      · rfl
    have := litTok_eq q U (a :: (C ++ R2)) (a :: (C ++ c :: R3)) v (e3 _ e2) (e3 _ (by simpa using e2)) hsx
    rw [List.append_assoc] at h ⊢
    exact this.trans h

theorem run_app (p : Int → Bool) : ∀ (A B : List Int), (∀ x ∈ A, p x = true) → (∀ e s, B = e :: s → p e = false) → run p (A ++ B) = A.length
  | [], B, _, hB => by
    rcases B with _ | ⟨e, s⟩
    · rfl
    · simp [run, hB e s rfl]
  | a :: A, B, hA, hB => by
    rw [List.cons_append, run, if_pos (hA a (by simp)), run_app p A B (fun x hx => hA x (by simp [hx])) hB]
    rfl
theorem run_parts (p : Int → Bool) : ∀ (xs : List Int), (∀ x ∈ xs.take (run p xs), p x = true) ∧ (∀ e s, xs.drop (run p xs) = e :: s → p e = false)
  | [] => ⟨by simp [run], by simp [run]⟩
  | a :: xs => by
    unfold run
    by_cases h : p a = true
    · rw [if_pos h]
      obtain ⟨h1, h2⟩ := run_parts p xs
      refine ⟨fun x hx => ?_, fun e s he => h2 e s (by simpa using he)⟩
      simp only [List.take_succ_cons, List.mem_cons] at hx
      rcases hx with rfl | hx
      · exact h
      · exact h1 x hx
    · rw [if_neg h]
      exact ⟨by simp, fun e s he => by simp only [List.drop_zero, List.cons.injEq] at he; obtain ⟨rfl, -⟩ := he; simpa using h⟩
/-- A symbol in parts: its characters, then (perhaps) a sign and digits. -/
theorem symLen_parts (xs : List Int) : ∃ M R, xs = M ++ R ∧ (∀ x ∈ M, sym x = true) ∧ (∀ e s, R = e :: s → sym e = false) ∧
    ((symLen xs = M.length ∧ ¬ (mant M = true ∧ expo R = true)) ∨ (∃ g D S, R = g :: (D ++ S) ∧ mant M = true ∧ (g = 43 ∨ g = 45) ∧ D ≠ [] ∧ (∀ x ∈ D, dig x = true) ∧ (∀ e s, S = e :: s → dig e = false) ∧ symLen xs = M.length + 1 + D.length)) := by
  obtain ⟨h1, h2⟩ := run_parts sym xs
  have hl := run_le' sym xs
  refine ⟨xs.take (run sym xs), xs.drop (run sym xs), (List.take_append_drop _ _).symm, h1, h2, ?_⟩
  have hml : (xs.take (run sym xs)).length = run sym xs := by rw [List.length_take]; omega
  rw [hml]
  unfold symLen
  by_cases hm : mant (xs.take (run sym xs)) = true ∧ expo (xs.drop (run sym xs)) = true
  · rw [if_pos hm]
    refine .inr ?_
    rcases hd : xs.drop (run sym xs) with _ | ⟨g, _ | ⟨d, t⟩⟩
    · rw [hd] at hm; simp [expo] at hm
    · rw [hd] at hm; simp [expo] at hm
    · have hd2 : xs.drop (run sym xs + 1) = d :: t := by
        have : xs.drop (run sym xs + 1) = (xs.drop (run sym xs)).drop 1 := by rw [List.drop_drop]
        rw [this, hd]; rfl
      rw [hd2]
      have hx := hm.2
      rw [hd] at hx
      simp only [expo, Bool.and_eq_true, Bool.or_eq_true, decide_eq_true_eq] at hx
      obtain ⟨g1, g2⟩ := run_parts dig (d :: t)
      have hl2 := run_le' dig (d :: t)
      refine ⟨g, (d :: t).take (run dig (d :: t)), (d :: t).drop (run dig (d :: t)), by rw [List.take_append_drop], hm.1, hx.1, ?_, g1, g2, ?_⟩
      · rw [run, if_pos hx.2]; simp
      · rw [List.length_take, Nat.min_eq_left hl2]
  · rw [if_neg hm]
    exact .inl ⟨rfl, hm⟩
theorem symLen_plain {M R : List Int} (hM : ∀ x ∈ M, sym x = true) (hR : ∀ e s, R = e :: s → sym e = false) (h : ¬ (mant M = true ∧ expo R = true)) : symLen (M ++ R) = M.length := by
  have hr := run_app sym M R hM hR
  unfold symLen
  rw [hr, List.take_left, List.drop_left, if_neg h]
theorem symLen_expo {M D S : List Int} {g : Int} (hM : ∀ x ∈ M, sym x = true) (hm : mant M = true) (hg : g = 43 ∨ g = 45) (hD : D ≠ []) (hd : ∀ x ∈ D, dig x = true) (hS : ∀ e s, S = e :: s → dig e = false) :
    symLen (M ++ g :: (D ++ S)) = M.length + 1 + D.length := by
  have hgs : sym g = false := by rcases hg with rfl | rfl <;> rfl
  have hr := run_app sym M (g :: (D ++ S)) hM (fun e s h => by cases h; exact hgs)
  unfold symLen
  have hx : expo (g :: (D ++ S)) = true := by
    rcases D with _ | ⟨d, D⟩
    · exact absurd rfl hD
    · simp only [List.cons_append, expo, Bool.and_eq_true, Bool.or_eq_true, decide_eq_true_eq]
      exact ⟨hg, hd d (by simp)⟩
  rw [hr, List.take_left, List.drop_left, if_pos ⟨hm, hx⟩]
  have : (M ++ g :: (D ++ S)).drop (M.length + 1) = D ++ S := by
    rw [List.drop_append, List.drop_eq_nil_of_le (by omega)]
    simp
  rw [this, run_app dig D S hd hS]
theorem symTok_eq {xs ys : List Int} (h : symLen ys = symLen xs) (ht : ys.take (symLen xs) = xs.take (symLen xs)) : symTok ys = symTok xs := by
  unfold symTok
  rw [h, ht]
theorem symLen_loc {A C R2 R3 : List Int} {c : Int} (hn : Neutral c) (h : symLen (A ++ (C ++ R2)) = A.length) : symLen (A ++ (C ++ c :: R3)) = A.length := by
  obtain ⟨f1, f2, f3, f4, f5, f6, f7, -⟩ := hn.facts
  obtain ⟨M, R, e1, hM, hR, hor⟩ := symLen_parts (A ++ (C ++ R2))
  rw [h] at hor
  rcases hor with ⟨hl, hx⟩ | ⟨g, D, S, rfl, hm, hg, hD, hd, hS, hl⟩
  · obtain ⟨rfl, rfl⟩ := List.append_inj e1 hl
    refine symLen_plain hM (fun e s he => ?_) fun ⟨q1, q2⟩ => hx ⟨q1, ?_⟩
    · rcases C with _ | ⟨d, C⟩
      · cases he; exact f1
      · cases he; exact hR e _ rfl
    · rcases C with _ | ⟨d, _ | ⟨e, C⟩⟩
      · rcases R3 with _ | ⟨a, R3⟩
        · simp [expo] at q2
        · simp [expo, f6, f7] at q2
      · simp [expo, f2] at q2
      · exact q2
  · obtain ⟨hA, hB⟩ : A = M ++ g :: D ∧ C ++ R2 = S := List.append_inj (s₁ := A) (s₂ := M ++ g :: D) (by rw [e1]; simp) (by simp; omega)
    subst hA hB
    have := symLen_expo (M := M) (D := D) (S := C ++ c :: R3) hM hm hg hD hd (fun e s he => by
      rcases C with _ | ⟨d, C⟩
      · cases he; exact f2
      · cases he; exact hS e _ rfl)
    rw [List.append_assoc, List.cons_append, this]
    simp; omega
theorem symTok_loc {A C R2 R3 x : List Int} {c : Int} (hn : Neutral c) (h : symTok (A ++ (C ++ R2)) = .ok x A.length) : symTok (A ++ (C ++ c :: R3)) = .ok x A.length := by
  have hs : symLen (A ++ (C ++ R2)) = A.length := by
    unfold symTok at h
    split at h
    · cases h
    · simp only [TR.ok.injEq] at h; exact h.2
  rw [← h]
  refine symTok_eq ?_ ?_
  · rw [hs]; exact symLen_loc hn hs
  · rw [hs, List.take_left, List.take_left]

theorem prefix_app : ∀ (p a : List Int) (b : List Int), p.isPrefixOf a = true → p.isPrefixOf (a ++ b) = true
  | [], _, _, _ => by simp
  | _ :: _, [], _, h => by cases h
  | x :: p, y :: a, b, h => by
    simp only [List.isPrefixOf, Bool.and_eq_true] at h
    simp only [List.cons_append, List.isPrefixOf, Bool.and_eq_true]
    exact ⟨h.1, prefix_app p a b h.2⟩
theorem prefix_cut : ∀ (p a : List Int) (b : List Int), p.isPrefixOf (a ++ b) = true → p.length ≤ a.length → p.isPrefixOf a = true
  | [], _, _, _, _ => by simp
  | _ :: _, [], _, _, h => by simp at h
  | x :: p, y :: a, b, h, hl => by
    simp only [List.cons_append, List.isPrefixOf, Bool.and_eq_true] at h
    simp only [List.isPrefixOf, Bool.and_eq_true]
    exact ⟨h.1, prefix_cut p a b h.2 (by simpa using hl)⟩
theorem prefix_at : ∀ (p a : List Int) (c : Int) (b : List Int), p.isPrefixOf (a ++ c :: b) = true → a.length < p.length → p.take (a.length + 1) = a ++ [c]
  | [], _, _, _, _, h => by simp at h
  | x :: p, [], c, b, h, _ => by
    simp only [List.nil_append, List.isPrefixOf, Bool.and_eq_true, beq_iff_eq] at h
    simp [h.1]
  | x :: p, y :: a, c, b, h, hl => by
    simp only [List.cons_append, List.isPrefixOf, Bool.and_eq_true, beq_iff_eq] at h
    simp only [List.length_cons, List.take_succ_cons, List.cons_append]
    rw [h.1, prefix_at p a c b h.2 (by simpa using hl)]
theorem prefix_self : ∀ (p : List Int), p.isPrefixOf p = true
  | [] => rfl
  | x :: p => by simp [List.isPrefixOf, prefix_self p]
theorem prefix_eq : ∀ (p a : List Int), p.isPrefixOf a = true → a = p ++ a.drop p.length
  | [], a, _ => by simp
  | _ :: _, [], h => by cases h
  | x :: p, y :: a, h => by
    simp only [List.isPrefixOf, Bool.and_eq_true, beq_iff_eq] at h
    obtain ⟨rfl, h2⟩ := h
    simp only [List.length_cons, List.drop_succ_cons, List.cons_append]
    exact congrArg _ (prefix_eq p a h2)
theorem find_keep {α : Type} (P Q : α → Bool) : ∀ (l : List α) (a : α), l.find? P = some a → (∀ x ∈ l, Q x = true → P x = true) → Q a = true → l.find? Q = some a
  | [], a, h, _, _ => by cases h
  | x :: l, a, h, hq, ha => by
    by_cases hp : P x = true
    · rw [List.find?_cons_of_pos hp] at h
      cases h
      rw [List.find?_cons_of_pos ha]
    · rw [List.find?_cons_of_neg hp] at h
      rw [List.find?_cons_of_neg (fun e => hp (hq x (by simp) e))]
      exact find_keep P Q l a h (fun x hx => hq x (by simp [hx])) ha
theorem signs_neutral : ∀ p ∈ signs, ∀ i : Fin 3, 1 ≤ i.val → i.val < p.length → (p.getD i.val 0 = 10 ∨ p.getD i.val 0 = 59 ∨ p.getD i.val 0 = 47) → p = [47, 47] := by decide
theorem signs_len : ∀ p ∈ signs, p.length ≤ 3 := by decide
theorem signs_ne : ∀ p ∈ signs, p ≠ [] := by decide
theorem signTok_loc {A C R2 R3 x : List Int} {c : Int} (hn : Neutral c) (hA : c = 47 → C = [] → A.getLast? ≠ some 47) (h : signTok (A ++ (C ++ R2)) = .ok x A.length) : signTok (A ++ (C ++ c :: R3)) = .ok x A.length := by
  unfold signTok at h ⊢
  cases hf : signs.find? (fun x => x.isPrefixOf (A ++ (C ++ R2))) with
  | none => rw [hf] at h; cases h
  | some l =>
    rw [hf] at h
    simp only [TR.ok.injEq] at h
    obtain ⟨rfl, hl⟩ := h
    have hm := List.mem_of_find?_eq_some hf
    have hp : l.isPrefixOf (A ++ (C ++ R2)) = true := by simpa using List.find?_some hf
    have hAl : A = l := by
      have := prefix_eq _ _ hp
      exact (List.append_inj this (by omega)).1
    subst hAl
    have hA0 : A ≠ [] := signs_ne A hm
    rw [find_keep _ (fun x => x.isPrefixOf (A ++ (C ++ c :: R3))) signs A hf (fun p hps hpx => ?_) (prefix_app _ _ _ (prefix_self _))]
    rw [← List.append_assoc] at hpx ⊢
    by_cases hlen : p.length ≤ (A ++ C).length
    · exact prefix_app _ _ _ (prefix_cut _ _ _ hpx hlen)
    · exfalso
      have ha := prefix_at p (A ++ C) c R3 hpx (by omega)
      have h3 := signs_len p hps
      have hA1 : 0 < A.length := List.length_pos_iff.2 hA0
      have hlt : (A ++ C).length < p.length := by omega
      have hAC : 1 ≤ (A ++ C).length := by simp; omega
      have hget : p.getD (A ++ C).length 0 = c := by
        have h5 : (p.take ((A ++ C).length + 1)).getD (A ++ C).length 0 = ((A ++ C) ++ [c]).getD (A ++ C).length 0 := by rw [ha]
        rw [List.getD_eq_getElem?_getD, List.getD_eq_getElem?_getD, List.getElem?_take_of_lt (by omega), List.getElem?_append_right (Nat.le_refl _)] at h5
        rw [List.getD_eq_getElem?_getD, h5]; simp
      have hpe := signs_neutral p hps ⟨(A ++ C).length, by omega⟩ hAC hlt (by simp only [hget]; exact hn)
      subst hpe
      simp only [List.length_cons, List.length_nil, List.length_append] at hlt hAC
      have hC0 : C = [] := List.length_eq_zero_iff.1 (by omega)
      subst hC0
      have hAe : A.length = 1 := by omega
      obtain ⟨a, rfl⟩ : ∃ a, A = [a] := List.length_eq_one_iff.1 hAe
      simp only [List.append_nil, List.length_cons, List.length_nil, List.take_succ_cons, List.take_nil, List.cons_append, List.nil_append, List.cons.injEq, and_true] at ha
      obtain ⟨rfl, rfl⟩ := ha
      exact hA rfl rfl rfl

/-- A token stays the same if what stands behind it changes from a neutral byte on. -/
theorem step_loc {A C R2 R3 x : List Int} {c : Int} {k : Nat} (hn : Neutral c) (ht : Two C R2) (hA0 : A ≠ []) (hA : c = 47 → C = [] → A.getLast? ≠ some 47) (h : step (A ++ (C ++ R2)) = .tok k x A.length) : step (A ++ (C ++ c :: R3)) = .tok k x A.length := by
  obtain ⟨f1, f2, f3, f4, f5, f6, f7, f8⟩ := hn.facts
  rcases A with _ | ⟨a, A⟩
  · exact absurd rfl hA0
  have hst : starts2 (a :: (A ++ (C ++ c :: R3))) = true → starts2 (a :: (A ++ (C ++ R2))) = true := fun hs => by
    rcases A with _ | ⟨a2, A⟩
    · rcases C with _ | ⟨d, C⟩
      · simp [starts2, f8] at hs
      · exact hs
    · exact hs
  simp only [List.cons_append, step] at h ⊢
  by_cases h1 : a = 10
  · rw [if_pos h1] at h; cases h
  rw [if_neg h1] at h ⊢
  by_cases h2 : a = 32
  · rw [if_pos h2] at h; cases h
  rw [if_neg h2] at h ⊢
  by_cases h3 : starts2 (a :: (A ++ (C ++ R2))) = true
  · rw [if_pos h3] at h; exact (cmtStep_ne h).elim
  rw [if_neg h3] at h
  rw [if_neg (fun e => h3 (hst e))]
  by_cases h4 : a = 39 ∨ a = 34
  · rw [if_pos h4] at h ⊢
    obtain ⟨rfl, hr⟩ := tokStep_tok h
    rw [show a :: (A ++ (C ++ c :: R3)) = (a :: A) ++ (C ++ c :: R3) from rfl, litTok_loc hn ht ⟨a, A, rfl, h4⟩ hr]
    rfl
  rw [if_neg h4] at h ⊢
  by_cases h5 : sym a = true
  · rw [if_pos h5] at h ⊢
    obtain ⟨rfl, hr⟩ := tokStep_tok h
    rw [show a :: (A ++ (C ++ c :: R3)) = (a :: A) ++ (C ++ c :: R3) from rfl, symTok_loc (A := a :: A) hn hr]
    rfl
  rw [if_neg h5] at h ⊢
  obtain ⟨rfl, hr⟩ := tokStep_tok h
  rw [show a :: (A ++ (C ++ c :: R3)) = (a :: A) ++ (C ++ c :: R3) from rfl, signTok_loc (A := a :: A) hn hA hr]
  rfl
end Go.Proofs.YtkkpjonfaflkmaaGreatDoor.S

/- A source that ends a line with an error has that error in every extension. -/
namespace Go.Proofs.YtkkpjonfaflkmaaGreatDoor.S
set_option linter.unusedSimpArgs false
set_option linter.unusedVariables false

theorem cmt_app : ∀ (xs ys : List Int) (i d l b i' l' b' : Nat), cmt xs i d l b = .done i' l' b' → cmt (xs ++ ys) i d l b = .done i' l' b'
  | [], _, _, _, _, _, _, _, _, h => by cases h
  | [_], _, _, _, _, _, _, _, _, h => by cases h
  | c :: e :: t, ys, i, d, l, b, i', l', b', h => by
    rw [cmt] at h
    show cmt (c :: e :: (t ++ ys)) i d l b = _
    rw [cmt]
    by_cases h1 : c = 47 ∧ e = 42
    · rw [if_pos h1] at h ⊢; exact cmt_app t ys _ _ _ _ _ _ _ h
    · rw [if_neg h1] at h ⊢
      by_cases h2 : c = 42 ∧ e = 47
      · rw [if_pos h2] at h ⊢
        by_cases h3 : d = 1
        · rw [if_pos h3] at h ⊢; exact h
        · rw [if_neg h3] at h ⊢; exact cmt_app t ys _ _ _ _ _ _ _ h
      · rw [if_neg h2] at h ⊢; exact cmt_app (e :: t) ys _ _ _ _ _ _ _ h
theorem end_cut {U R C : List Int} {q : Int} (hq : q ≠ 10) (h : U ++ q :: R = C ++ [10]) : ∃ C', R = C' ++ [10] := by
  rcases List.eq_nil_or_concat R with rfl | ⟨C', e, rfl⟩
  · exfalso
    have : (U ++ [q]).getLast? = (C ++ [10]).getLast? := by rw [h]
    rw [List.getLast?_concat, List.getLast?_concat] at this
    exact hq (Option.some.inj this)
  · rw [List.concat_eq_append] at h ⊢
    have : (U ++ q :: (C' ++ [e])).getLast? = (C ++ [10]).getLast? := by rw [h]
    rw [← List.cons_append, ← List.append_assoc, List.getLast?_concat, List.getLast?_concat] at this
    exact ⟨C', by rw [Option.some.inj this]⟩
theorem litTok_ext {q : Int} {t C b : List Int} (hq : q = 39 ∨ q = 34) (h : t = C ++ [10]) (h6 : litTok (q :: t) ≠ .err 6) : litTok (q :: (t ++ b)) = litTok (q :: t) := by
  cases hl : lit q t 1 [] with
  | none => exact absurd (by simp only [litTok, hl]) h6
  | some p =>
    obtain ⟨v, i⟩ := p
    obtain ⟨U, R, e1, e2, e3, e4⟩ := lit_loc q t 1 [] v i hl
    have hq10 : q ≠ 10 := by rcases hq with rfl | rfl <;> decide
    obtain ⟨C', hC⟩ := end_cut hq10 (e1.symm.trans h)
    have hh : (R ++ b).head? ≠ some q := by
      rw [hC] at e3 ⊢
      rcases C' with _ | ⟨d, C'⟩
      · intro e; exact hq10 (Option.some.inj e).symm
      · simpa using e3
    have hs : sfx (R ++ b) = sfx R := by
      rw [hC, List.append_assoc]
      exact sfx_loc (.inl rfl) (fun d _ _ e s he => by cases he; rfl) (fun _ => rfl)
    obtain rfl : i = U.length + 1 := by omega
    rw [e1, List.append_assoc, List.cons_append]
    exact litTok_eq q U R (R ++ b) v (e4 _ e3) (e4 _ hh) hs
theorem symTok_ext {xs C b : List Int} (h : xs = C ++ [10]) : symTok (xs ++ b) = symTok xs := by
  have hl : symLen (xs ++ b) = symLen xs ∧ symLen xs ≤ xs.length := by
    obtain ⟨M, R, e1, hM, hR, hor⟩ := symLen_parts xs
    have hRne : ∃ C', R = C' ++ [10] := by
      rcases List.eq_nil_or_concat R with rfl | ⟨C', e, rfl⟩
      · exfalso
        rw [List.append_nil] at e1
        have : (10 : Int) ∈ M := by rw [← e1, h]; simp
        have := hM 10 this
        cases this
      · rw [List.concat_eq_append] at e1 ⊢
        have h3 : (M ++ (C' ++ [e])).getLast? = (C ++ [10]).getLast? := by rw [← e1, h]
        rw [← List.append_assoc, List.getLast?_concat, List.getLast?_concat] at h3
        exact ⟨C', by rw [Option.some.inj h3]⟩
    obtain ⟨C', hC⟩ := hRne
    have hhd : ∀ (p : Int → Bool) (R b : List Int), R ≠ [] → (∀ e s, R = e :: s → p e = false) → ∀ e s, R ++ b = e :: s → p e = false := fun p R b hne hp e s he => by
      rcases R with _ | ⟨d, R⟩
      · exact absurd rfl hne
      · cases he; exact hp e R rfl
    have hRn : R ≠ [] := by rw [hC]; simp
    rcases hor with ⟨hl, hx⟩ | ⟨g, D, S, hRS, hm, hg, hD, hd, hS, hl⟩
    · refine ⟨?_, by rw [hl, e1]; simp⟩
      rw [hl, e1, List.append_assoc]
      refine symLen_plain hM (hhd sym R b hRn hR) fun ⟨q1, q2⟩ => hx ⟨q1, ?_⟩
      rw [hC] at q2 ⊢
      rcases C' with _ | ⟨d, _ | ⟨e, C'⟩⟩
      · rcases b with _ | ⟨a, b⟩
        · exact q2
        · simp [expo] at q2
      · rcases b with _ | ⟨a, b⟩
        · exact q2
        · exact q2
      · exact q2
    · subst hRS
      have hSn : S ≠ [] := by
        intro e
        subst e
        rw [List.append_nil] at hC
        have h10 : (10 : Int) ∈ g :: D := by rw [hC]; simp
        rcases List.mem_cons.1 h10 with e | e
        · rcases hg with rfl | rfl <;> cases e
        · have := hd 10 e; cases this
      refine ⟨?_, by rw [hl, e1]; simp; omega⟩
      rw [hl, e1, List.append_assoc, List.cons_append, List.append_assoc]
      exact symLen_expo hM hm hg hD hd (hhd dig S b hSn hS)
  refine symTok_eq hl.1 ?_
  rw [List.take_append_of_le_length hl.2]
theorem signs_no10 : ∀ p ∈ signs, (10 : Int) ∉ p := by decide
theorem find_congr {α : Type} (P Q : α → Bool) : ∀ l : List α, (∀ x ∈ l, P x = Q x) → l.find? P = l.find? Q
  | [], _ => rfl
  | x :: l, h => by
    rw [List.find?_cons, List.find?_cons, h x (by simp), find_congr P Q l (fun y hy => h y (by simp [hy]))]
theorem signTok_ext {xs C b : List Int} (h : xs = C ++ [10]) : signTok (xs ++ b) = signTok xs := by
  unfold signTok
  rw [find_congr (fun x => x.isPrefixOf (xs ++ b)) (fun x => x.isPrefixOf xs) signs fun p hp => ?_]
  have h1 : p.isPrefixOf xs = true → p.isPrefixOf (xs ++ b) = true := prefix_app p xs b
  have h2 : p.isPrefixOf (xs ++ b) = true → p.isPrefixOf xs = true := fun hx => by
    rw [h, List.append_assoc] at hx
    by_cases hlen : p.length ≤ C.length
    · rw [h]; exact prefix_app p C [10] (prefix_cut p C _ hx hlen)
    · exfalso
      have := prefix_at p C 10 b hx (by omega)
      exact signs_no10 p hp (List.mem_of_mem_take (by rw [this]; simp))
  cases hq : p.isPrefixOf xs with
  | true => exact h1 hq
  | false =>
    cases hr : p.isPrefixOf (xs ++ b) with
    | true => rw [h2 hr] at hq; cases hq
    | false => rfl
theorem step_ext {xs C b : List Int} (h : xs = C ++ [10]) (h6 : step xs ≠ .err 6 0) : step (xs ++ b) = step xs := by
  rcases xs with _ | ⟨a, t⟩
  · simp at h
  rw [List.cons_append]
  by_cases h1 : a = 10
  · simp only [step, if_pos h1]
  have ht : ∃ C', t = C' ++ [10] := by
    rcases C with _ | ⟨c, C⟩
    · simp only [List.nil_append, List.cons.injEq] at h
      exact absurd h.1 h1
    · simp only [List.cons_append, List.cons.injEq] at h
      exact ⟨C, h.2⟩
  obtain ⟨C', ht⟩ := ht
  simp only [step] at h6 ⊢
  rw [if_neg h1] at h6
  rw [if_neg h1, if_neg h1]
  by_cases h2 : a = 32
  · rw [if_pos h2, if_pos h2]
  rw [if_neg h2] at h6
  rw [if_neg h2, if_neg h2]
  have hst : starts2 (a :: (t ++ b)) = starts2 (a :: t) := by
    rcases t with _ | ⟨e, t⟩
    · simp at ht
    · rfl
  rw [hst]
  by_cases h3 : starts2 (a :: t) = true
  · rw [if_pos h3] at h6
    rw [if_pos h3, if_pos h3]
    cases hc : cmt (a :: t) 0 0 1 0 with
    | eof => rw [hc] at h6; exact absurd rfl h6
    | done i l b' =>
      rw [show a :: (t ++ b) = (a :: t) ++ b from rfl, cmt_app _ b _ _ _ _ _ _ _ hc]
  rw [if_neg h3] at h6
  rw [if_neg h3, if_neg h3]
  by_cases h4 : a = 39 ∨ a = 34
  · rw [if_pos h4] at h6
    rw [if_pos h4, if_pos h4, litTok_ext h4 ht]
    intro e
    rw [e] at h6
    exact h6 rfl
  rw [if_neg h4, if_neg h4]
  by_cases h5 : sym a = true
  · rw [if_pos h5, if_pos h5, show a :: (t ++ b) = (a :: t) ++ b from rfl, symTok_ext h]
  · rw [if_neg h5, if_neg h5, show a :: (t ++ b) = (a :: t) ++ b from rfl, signTok_ext h]
def EndsLine (xs : List Int) : Prop := xs = [] ∨ ∃ C, xs = C ++ [10]
theorem EndsLine.drop {xs : List Int} (h : EndsLine xs) (n : Nat) : EndsLine (xs.drop n) := by
  rcases h with rfl | ⟨C, rfl⟩
  · exact .inl (by simp)
  · by_cases hn : n ≤ C.length
    · exact .inr ⟨C.drop n, by rw [List.drop_append_of_le_length hn]⟩
    · exact .inl (List.drop_eq_nil_of_le (by simp; omega))
theorem pre_err (l : List (List Tk)) (o : Out) : (o.pre l).err = o.err := rfl
theorem go_ext : ∀ (f : Nat) (xs b : List Int) (i line : Nat) (cur : List Tk) (gap : Bool) (c ln f' : Nat), EndsLine xs → (∀ x ∈ xs, 0 ≤ x ∧ x < 256) → xs.length < f → (xs ++ b).length < f' → (go f xs i line cur gap).err = some (c, ln) → c ≠ 6 → go f' (xs ++ b) i line cur gap = go f xs i line cur gap
  | 0, xs, b, i, line, cur, gap, c, ln, f', _, _, hf, _, _, _ => absurd hf (Nat.not_lt_zero _)
  | f + 1, xs, b, i, line, cur, gap, c, ln, 0, _, _, _, hf, _, _ => absurd hf (Nat.not_lt_zero _)
  | f + 1, xs, b, i, line, cur, gap, c, ln, f' + 1, hE, hb, hf, hf', he, h6 => by
    have hbd : ∀ n, ∀ x ∈ xs.drop n, 0 ≤ x ∧ x < 256 := fun n x hx => hb x (List.mem_of_mem_drop hx)
    rcases hE with rfl | ⟨C, hC⟩
    · cases he
    have hE : EndsLine xs := .inr ⟨C, hC⟩
    have hx1 : 1 ≤ xs.length := by rw [hC]; simp
    have hlen : (xs ++ b).length = xs.length + b.length := List.length_append
    have hst : step (xs ++ b) = step xs := step_ext hC (fun e => by
      rw [go, e] at he
      simp only [Option.some.injEq, Prod.mk.injEq] at he
      exact h6 he.1.symm)
    have hdr : ∀ n, n ≤ xs.length → (xs ++ b).drop n = xs.drop n ++ b := fun n hn => List.drop_append_of_le_length hn
    have ih := fun n i line cur gap => go_ext f (xs.drop n) b i line cur gap c ln f' (hE.drop n) (hbd n)
    rw [go] at he ⊢
    conv => { rhs; rw [go] }
    rw [hst]
    cases hs : step xs with
    | fin => rfl
    | line =>
      rw [hs] at he
      simp only at he ⊢
      rw [hdr 1 hx1]
      by_cases hcm : comma cur = true
      · rw [if_pos hcm] at he
        rw [if_pos hcm, if_pos hcm]
        exact ih 1 _ _ _ _ (by rw [List.length_drop]; omega) (by rw [List.length_append, List.length_drop]; omega) he h6
      · rw [if_neg hcm] at he
        rw [if_neg hcm, if_neg hcm]
        rw [ih 1 _ _ _ _ (by rw [List.length_drop]; omega) (by rw [List.length_append, List.length_drop]; omega) he h6]
    | blank =>
      rw [hs] at he
      simp only at he ⊢
      rw [hdr 1 hx1]
      exact ih 1 _ _ _ _ (by rw [List.length_drop]; omega) (by rw [List.length_append, List.length_drop]; omega) he h6
    | cmt n dl =>
      rw [hs] at he
      obtain ⟨h1, h2, -⟩ := step_cmt hs
      simp only at he ⊢
      rw [hdr n h2]
      exact ih n _ _ _ _ (by rw [List.length_drop]; omega) (by rw [List.length_append, List.length_drop]; omega) he h6
    | tok k t n =>
      rw [hs] at he
      obtain ⟨h1, h2, -⟩ := step_tok hb hs
      simp only at he ⊢
      rw [hdr n h2]
      have hl1 : (xs.drop n).length < f := by rw [List.length_drop]; omega
      have hl2 : (xs.drop n ++ b).length < f' := by rw [List.length_append, List.length_drop]; omega
      by_cases hsc : k = 3 ∧ t = [59]
      · rw [if_pos hsc] at he
        rw [if_pos hsc, if_pos hsc, ih n _ _ _ _ hl1 hl2 he h6]
      · rw [if_neg hsc] at he
        rw [if_neg hsc, if_neg hsc]
        by_cases hlb : label (cur ++ [⟨k, t, gap && !decide (cur = []), line, i, i + n⟩]) = true
        · rw [if_pos hlb] at he
          rw [if_pos hlb, if_pos hlb, ih n _ _ _ _ hl1 hl2 he h6]
        · rw [if_neg hlb] at he
          rw [if_neg hlb, if_neg hlb]
          exact ih n _ _ _ _ hl1 hl2 he h6
    | err cc dl => rfl
theorem scan_ext {xs b : List Int} {c ln : Nat} (hE : EndsLine xs) (hb : ∀ x ∈ xs, 0 ≤ x ∧ x < 256) (h : (scan xs).err = some (c, ln)) (h6 : c ≠ 6) : scan (xs ++ b) = scan xs :=
  go_ext (xs.length + 1) xs b 0 1 [] false c ln ((xs ++ b).length + 1) hE hb (Nat.lt_succ_self _) (Nat.lt_succ_self _) h h6
end Go.Proofs.YtkkpjonfaflkmaaGreatDoor.S

/- What stands between tokens. -/
namespace Go.Proofs.YtkkpjonfaflkmaaGreatDoor.S
set_option linter.unusedSimpArgs false
set_option linter.unusedVariables false

def blank (c : Int) : Bool := decide (c = 32) || decide (c = 10) || decide (c = 44) || decide (c = 59)
/-- Blanks, line feeds, commas, semicolons and comments; so deep in comments. -/
def idle : List Int → Nat → Bool
  | [], d => decide (d = 0)
  | [c], d => blank c && decide (d = 0)
  | c :: e :: t, d =>
    if c = 47 ∧ e = 42 then idle t (d + 1)
    else if 0 < d ∧ c = 42 ∧ e = 47 then idle t (d - 1)
    else if 0 < d ∨ blank c = true then idle (e :: t) d else false
theorem blank_ne {c : Int} (h : blank c = true) : c ≠ 47 ∧ c ≠ 42 := by
  simp only [blank, Bool.or_eq_true, decide_eq_true_eq] at h
  omega
theorem idle_blank {c : Int} (h : blank c = true) (t : List Int) : idle (c :: t) 0 = idle t 0 := by
  rcases t with _ | ⟨e, t⟩
  · simp [idle, h]
  · rw [idle, if_neg (fun e => (blank_ne h).1 e.1), if_neg (fun e => by omega), if_pos (.inr h)]
theorem idle_app : ∀ (xs ys : List Int) (d : Nat), idle xs d = true → idle (xs ++ ys) d = idle ys 0
  | [], ys, d, h => by
    simp only [idle, decide_eq_true_eq] at h
    subst h; rfl
  | [c], ys, d, h => by
    simp only [idle, Bool.and_eq_true, decide_eq_true_eq] at h
    obtain ⟨h1, rfl⟩ := h
    exact idle_blank h1 ys
  | c :: e :: t, ys, d, h => by
    rw [idle] at h
    show idle (c :: e :: (t ++ ys)) d = _
    rw [idle]
    by_cases h1 : c = 47 ∧ e = 42
    · rw [if_pos h1] at h ⊢; exact idle_app t ys _ h
    · rw [if_neg h1] at h ⊢
      by_cases h2 : 0 < d ∧ c = 42 ∧ e = 47
      · rw [if_pos h2] at h ⊢; exact idle_app t ys _ h
      · rw [if_neg h2] at h ⊢
        by_cases h3 : 0 < d ∨ blank c = true
        · rw [if_pos h3] at h ⊢; exact idle_app (e :: t) ys _ h
        · rw [if_neg h3] at h; cases h
theorem cmt_idle : ∀ (xs : List Int) (i d l b i' l' b' : Nat), cmt xs i d l b = .done i' l' b' → (1 ≤ d ∨ starts2 xs = true) → idle (xs.take (i' - i)) d = true ∧ l' = l + (xs.take (i' - i)).count 10
  | [], _, _, _, _, _, _, _, h, _ => by cases h
  | [_], _, _, _, _, _, _, _, h, _ => by cases h
  | c :: e :: t, i, d, l, b, i', l', b', h, hd => by
    have hbd := cmt_bounds _ _ _ _ _ _ _ _ h
    rw [cmt] at h
    by_cases h1 : c = 47 ∧ e = 42
    · rw [if_pos h1] at h
      have hb2 := cmt_bounds _ _ _ _ _ _ _ _ h
      obtain ⟨g1, g2⟩ := cmt_idle t (i + 2) (d + 1) l b i' l' b' h (.inl (by omega))
      rw [show i' - i = (i' - (i + 2)) + 1 + 1 by omega, List.take_succ_cons, List.take_succ_cons, idle, if_pos h1]
      refine ⟨g1, ?_⟩
      obtain ⟨rfl, rfl⟩ := h1
      rw [List.count_cons, List.count_cons, if_neg (by decide), if_neg (by decide)]
      omega
    · rw [if_neg h1] at h
      have hd1 : 1 ≤ d := by
        rcases hd with hd | hd
        · exact hd
        · simp only [starts2, Bool.and_eq_true, decide_eq_true_eq] at hd
          exact absurd hd h1
      by_cases h2 : c = 42 ∧ e = 47
      · rw [if_pos h2] at h
        obtain ⟨rfl, rfl⟩ := h2
        by_cases h3 : d = 1
        · rw [if_pos h3] at h
          cases h
          subst h3
          rw [show i + 2 - i = 0 + 1 + 1 by omega, List.take_succ_cons, List.take_succ_cons, List.take_zero]
          exact ⟨rfl, rfl⟩
        · rw [if_neg h3] at h
          have hb2 := cmt_bounds _ _ _ _ _ _ _ _ h
          obtain ⟨g1, g2⟩ := cmt_idle t (i + 2) (d - 1) l b i' l' b' h (.inl (by omega))
          rw [show i' - i = (i' - (i + 2)) + 1 + 1 by omega, List.take_succ_cons, List.take_succ_cons, idle, if_neg h1, if_pos ⟨by omega, rfl, rfl⟩]
          refine ⟨g1, ?_⟩
          rw [List.count_cons, List.count_cons, if_neg (by decide), if_neg (by decide)]
          omega
      · rw [if_neg h2] at h
        have hb2 := cmt_bounds _ _ _ _ _ _ _ _ h
        obtain ⟨g1, g2⟩ := cmt_idle (e :: t) (i + 1) d _ _ i' l' b' h (.inl hd1)
        obtain ⟨m, hm⟩ : ∃ m, i' - (i + 1) = m + 1 := ⟨i' - (i + 1) - 1, by omega⟩
        rw [hm] at g1 g2
        rw [List.take_succ_cons] at g1 g2
        rw [show i' - i = m + 1 + 1 by omega, List.take_succ_cons, List.take_succ_cons, idle, if_neg h1, if_neg (fun q => h2 q.2), if_pos (.inl (by omega))]
        refine ⟨g1, ?_⟩
        rw [List.count_cons]
        rw [g2]
        by_cases h10 : c = 10
        · rw [if_pos h10, if_pos (by simpa using h10)]; omega
        · rw [if_neg h10, if_neg (by simpa using h10)]; omega

/-- A token's own text holds no line feed. -/
theorem lit_no10 (q : Int) (hq : q ≠ 10) : ∀ (xs : List Int) (i : Nat) (acc v : List Int) (j : Nat), lit q xs i acc = some (v, j) → (10 : Int) ∉ xs.take (j - i)
  | [], _, _, _, _ => fun h => by cases h
  | [c], i, acc, v, j => fun h => by
    rw [lit] at h
    by_cases h1 : c = 10
    · rw [if_pos h1] at h; cases h
    · rw [if_neg h1] at h
      by_cases h2 : c = q
      · rw [if_pos h2] at h; cases h; simp
      · rw [if_neg h2] at h; cases h
  | c :: d :: t, i, acc, v, j => fun h => by
    rw [lit] at h
    by_cases h1 : c = 10
    · rw [if_pos h1] at h; cases h
    · rw [if_neg h1] at h
      by_cases h2 : c = q
      · rw [if_pos h2] at h
        by_cases h3 : d = q
        · rw [if_pos h3] at h
          have hb := (lit_bounds q (fun _ => True) trivial t (i + 2) _ v j h (fun _ _ => trivial) (fun _ _ => trivial)).1
          have := lit_no10 q hq t (i + 2) (acc ++ [q]) v j h
          rw [show j - i = (j - (i + 2)) + 1 + 1 by omega, List.take_succ_cons, List.take_succ_cons]
          intro hm
          rcases List.mem_cons.1 hm with e | e
          · exact h1 e.symm
          · rcases List.mem_cons.1 e with e | e
            · rw [h3] at e; exact hq e.symm
            · exact this e
        · rw [if_neg h3] at h; cases h; simp
      · rw [if_neg h2] at h
        have hb := (lit_bounds q (fun _ => True) trivial (d :: t) (i + 1) _ v j h (fun _ _ => trivial) (fun _ _ => trivial)).1
        have := lit_no10 q hq (d :: t) (i + 1) (acc ++ [c]) v j h
        rw [show j - i = (j - (i + 1)) + 1 by omega, List.take_succ_cons]
        intro hm
        rcases List.mem_cons.1 hm with e | e
        · exact h1 e.symm
        · exact this e
theorem sfx_no10 {a : Int} {t : List Int} (h : sfx (a :: t) ≠ 0) : a ≠ 10 := by
  intro e; subst e
  exact h (sfx_ns rfl)
theorem tok_no10 {xs t : List Int} {k n : Nat} (h : step xs = .tok k t n) : (10 : Int) ∉ xs.take n ∧ (k = 3 → xs.take n = t) := by
  rcases xs with _ | ⟨a, r⟩
  · cases h
  simp only [step] at h
  by_cases h1 : a = 10
  · rw [if_pos h1] at h; cases h
  rw [if_neg h1] at h
  by_cases h2 : a = 32
  · rw [if_pos h2] at h; cases h
  rw [if_neg h2] at h
  by_cases h3 : starts2 (a :: r) = true
  · rw [if_pos h3] at h; exact (cmtStep_ne h).elim
  rw [if_neg h3] at h
  by_cases h4 : a = 39 ∨ a = 34
  · rw [if_pos h4] at h
    obtain ⟨rfl, hr⟩ := tokStep_tok h
    refine ⟨?_, fun e => by cases e⟩
    have hq10 : a ≠ 10 := h1
    obtain ⟨v, U, R, e1, e2, e3, e4⟩ := litTok_parts hr
    have hU : (10 : Int) ∉ U := by
      have := lit_no10 a hq10 (U ++ a :: R) 1 [] v (U.length + 1) (e3 R e2)
      rw [Nat.add_sub_cancel, List.take_left] at this
      exact this
    subst e1
    rcases e4 with ⟨hs, rfl⟩ | ⟨hs, rfl⟩
    · have : (a :: (U ++ a :: R)).take (U.length + 2) = a :: (U ++ [a]) := by
        rw [List.take_succ_cons, show U ++ a :: R = (U ++ [a]) ++ R by simp, List.take_left' (by simp)]
      rw [this]
      intro hm
      simp only [List.mem_cons, List.mem_append, List.not_mem_nil, or_false] at hm
      rcases hm with e | e | e
      · exact hq10 e.symm
      · exact hU e
      · exact hq10 e.symm
    · rcases R with _ | ⟨b, R⟩
      · exact absurd rfl hs
      · have : (a :: (U ++ a :: b :: R)).take (U.length + 3) = a :: (U ++ [a, b]) := by
          rw [List.take_succ_cons, show U ++ a :: b :: R = (U ++ [a, b]) ++ R by simp, List.take_left' (by simp)]
        rw [this]
        have hb10 := sfx_no10 hs
        intro hm
        simp only [List.mem_cons, List.mem_append, List.not_mem_nil, or_false] at hm
        rcases hm with e | e | e | e
        · exact hq10 e.symm
        · exact hU e
        · exact hq10 e.symm
        · exact hb10 e.symm
  rw [if_neg h4] at h
  by_cases h5 : sym a = true
  · rw [if_pos h5] at h
    obtain ⟨rfl, hr⟩ := tokStep_tok h
    refine ⟨?_, fun e => by cases e⟩
    have hn : n = symLen (a :: r) := by
      unfold symTok at hr
      split at hr
      · cases hr
      · simp only [TR.ok.injEq] at hr; exact hr.2.symm
    obtain ⟨M, R, e1, hM, hR, hor⟩ := symLen_parts (a :: r)
    have hM10 : (10 : Int) ∉ M := fun e => by have := hM 10 e; cases this
    rw [hn]
    rcases hor with ⟨hl, _⟩ | ⟨g, D, S, hRS, hm, hg, hD, hd, hS, hl⟩
    · rw [hl, e1, List.take_left]; exact hM10
    · have : (a :: r).take (symLen (a :: r)) = M ++ g :: D := by
        rw [hl, e1, hRS, show M ++ g :: (D ++ S) = (M ++ g :: D) ++ S by simp, List.take_left' (by simp; omega)]
      rw [this]
      intro hm
      simp only [List.mem_cons, List.mem_append] at hm
      rcases hm with e | e | e
      · exact hM10 e
      · rcases hg with rfl | rfl <;> cases e
      · have := hd 10 e; cases this
  rw [if_neg h5] at h
  obtain ⟨rfl, hr⟩ := tokStep_tok h
  unfold signTok at hr
  cases hf : signs.find? (fun x => x.isPrefixOf (a :: r)) with
  | none => rw [hf] at hr; cases hr
  | some l =>
    rw [hf] at hr
    simp only [TR.ok.injEq] at hr
    obtain ⟨rfl, rfl⟩ := hr
    have hp : l.isPrefixOf (a :: r) = true := by simpa using List.find?_some hf
    have he := prefix_eq _ _ hp
    have : (a :: r).take l.length = l := by conv => { lhs; rw [he] }; exact List.take_left
    rw [this]
    exact ⟨signs_no10 l (List.mem_of_find?_eq_some hf), fun _ => rfl⟩
end Go.Proofs.YtkkpjonfaflkmaaGreatDoor.S

/- The tokens of a source cover it, but for blanks, line feeds, commas, semicolons and comments. -/
namespace Go.Proofs.YtkkpjonfaflkmaaGreatDoor.S
set_option linter.unusedSimpArgs false
set_option linter.unusedVariables false

def seg (L : List Int) (a b : Nat) : List Int := (L.drop a).take (b - a)
theorem seg_app {L : List Int} {a b c : Nat} (h1 : a ≤ b) (h2 : b ≤ c) : seg L a c = seg L a b ++ seg L b c := by
  unfold seg
  rw [show c - a = (b - a) + (c - b) by omega, List.take_add, List.drop_drop, show a + (b - a) = b by omega]
theorem seg_self (L : List Int) (a : Nat) : seg L a a = [] := by unfold seg; rw [Nat.sub_self, List.take_zero]
theorem seg_end (L : List Int) (a : Nat) : seg L a L.length = L.drop a := by
  unfold seg
  rw [List.take_of_length_le (by rw [List.length_drop]; omega)]
theorem idle_seg {L : List Int} {a b c : Nat} (h1 : a ≤ b) (h2 : b ≤ c) (ha : idle (seg L a b) 0 = true) (hb : idle (seg L b c) 0 = true) : idle (seg L a c) 0 = true := by
  rw [seg_app h1 h2, idle_app _ _ _ ha]; exact hb
structure TokOK (L : List Int) (e ln : Nat) (t : Tk) : Prop where
  h1 : e ≤ t.at_
  h2 : t.at_ ≤ t.to
  h3 : t.to ≤ L.length
  h4 : ln ≤ t.line
  h5 : t.kind ≠ 4 → t.at_ < t.to
  h6 : idle (seg L e t.at_) 0 = true
  h7 : t.line = 1 + (L.take t.at_).count 10
  h8 : t.kind = 3 → seg L t.at_ t.to = t.text
def Pre (L : List Int) : Nat → Nat → List Tk → Nat → Nat → Prop
  | e, ln, [], e', ln' => e' = e ∧ ln' = ln
  | e, ln, t :: ts, e', ln' => TokOK L e ln t ∧ Pre L t.to t.line ts e' ln'
theorem Pre.append {L : List Int} : ∀ {a : List Tk} {e ln m k : Nat} {b : List Tk} {p q : Nat}, Pre L e ln a m k → Pre L m k b p q → Pre L e ln (a ++ b) p q
  | [], e, ln, m, k, b, p, q, h1, h2 => by obtain ⟨rfl, rfl⟩ := h1; exact h2
  | t :: a, e, ln, m, k, b, p, q, h1, h2 => ⟨h1.1, Pre.append h1.2 h2⟩
theorem Pre.one {L : List Int} {e ln : Nat} {t : Tk} (h : TokOK L e ln t) : Pre L e ln [t] t.to t.line := ⟨h, rfl, rfl⟩
theorem Pre.snoc_inv {L : List Int} : ∀ {a : List Tk} {e ln m k : Nat} {t : Tk}, Pre L e ln (a ++ [t]) m k → ∃ m' k', Pre L e ln a m' k' ∧ TokOK L m' k' t ∧ m = t.to ∧ k = t.line
  | [], e, ln, m, k, t, h => ⟨e, ln, ⟨rfl, rfl⟩, h.1, h.2.1, h.2.2⟩
  | s :: a, e, ln, m, k, t, h => by
    obtain ⟨m', k', g1, g2, g3⟩ := Pre.snoc_inv h.2
    exact ⟨m', k', ⟨h.1, g1⟩, g2, g3⟩
theorem count_take (L : List Int) (i n : Nat) : (L.take (i + n)).count 10 = (L.take i).count 10 + ((L.drop i).take n).count 10 := by
  rw [List.take_add, List.count_append]
theorem comma_last {cur : List Tk} (h : comma cur = true) : ∃ a t, cur = a ++ [t] ∧ t.kind = 3 ∧ t.text = [44] := by
  rcases List.eq_nil_or_concat cur with rfl | ⟨a, t, rfl⟩
  · cases h
  · rw [List.concat_eq_append] at h ⊢
    simp only [comma, List.getLast?_concat, Bool.and_eq_true, decide_eq_true_eq] at h
    exact ⟨a, t, rfl, h.1, h.2⟩
theorem step_line {xs : List Int} (h : step xs = .line) : ∃ t, xs = 10 :: t := by
  rcases xs with _ | ⟨a, t⟩
  · cases h
  simp only [step] at h
  by_cases h1 : a = 10
  · exact ⟨t, by rw [h1]⟩
  exfalso
  rw [if_neg h1] at h
  by_cases h2 : a = 32
  · rw [if_pos h2] at h; cases h
  rw [if_neg h2] at h
  by_cases h3 : starts2 (a :: t) = true
  · rw [if_pos h3] at h
    cases hc : cmt (a :: t) 0 0 1 0 with
    | eof => rw [hc] at h; cases h
    | done i l b => rw [hc] at h; simp only [cmtStep] at h; split at h <;> cases h
  rw [if_neg h3] at h
  have key : ∀ k r, tokStep k r ≠ .line := fun k r e => by cases r <;> cases e
  by_cases h4 : a = 39 ∨ a = 34
  · rw [if_pos h4] at h; exact key _ _ h
  rw [if_neg h4] at h
  by_cases h5 : sym a = true
  · rw [if_pos h5] at h; exact key _ _ h
  · rw [if_neg h5] at h; exact key _ _ h
theorem step_blank {xs : List Int} (h : step xs = .blank) : ∃ t, xs = 32 :: t := by
  rcases xs with _ | ⟨a, t⟩
  · cases h
  simp only [step] at h
  by_cases h1 : a = 10
  · rw [if_pos h1] at h; cases h
  rw [if_neg h1] at h
  by_cases h2 : a = 32
  · exact ⟨t, by rw [h2]⟩
  exfalso
  rw [if_neg h2] at h
  by_cases h3 : starts2 (a :: t) = true
  · rw [if_pos h3] at h
    cases hc : cmt (a :: t) 0 0 1 0 with
    | eof => rw [hc] at h; cases h
    | done i l b => rw [hc] at h; simp only [cmtStep] at h; split at h <;> cases h
  rw [if_neg h3] at h
  have key : ∀ k r, tokStep k r ≠ .blank := fun k r e => by cases r <;> cases e
  by_cases h4 : a = 39 ∨ a = 34
  · rw [if_pos h4] at h; exact key _ _ h
  rw [if_neg h4] at h
  by_cases h5 : sym a = true
  · rw [if_pos h5] at h; exact key _ _ h
  · rw [if_neg h5] at h; exact key _ _ h
theorem step_cmt_idle {xs : List Int} {n dl : Nat} (h : step xs = .cmt n dl) : idle (xs.take n) 0 = true ∧ dl = (xs.take n).count 10 := by
  rcases xs with _ | ⟨a, t⟩
  · cases h
  simp only [step] at h
  by_cases h1 : a = 10
  · rw [if_pos h1] at h; cases h
  rw [if_neg h1] at h
  by_cases h2 : a = 32
  · rw [if_pos h2] at h; cases h
  rw [if_neg h2] at h
  by_cases h3 : starts2 (a :: t) = true
  · rw [if_pos h3] at h
    cases hc : cmt (a :: t) 0 0 1 0 with
    | eof => rw [hc] at h; cases h
    | done i l b =>
      rw [hc] at h
      simp only [cmtStep] at h
      split at h
      · cases h
        obtain ⟨g1, g2⟩ := cmt_idle _ _ _ _ _ _ _ _ hc (.inr h3)
        rw [Nat.sub_zero] at g1 g2
        exact ⟨g1, by omega⟩
      · cases h
  rw [if_neg h3] at h
  have key : ∀ k r, tokStep k r ≠ .cmt n dl := fun k r e => by cases r <;> cases e
  by_cases h4 : a = 39 ∨ a = 34
  · rw [if_pos h4] at h; exact (key _ _ h).elim
  rw [if_neg h4] at h
  by_cases h5 : sym a = true
  · rw [if_pos h5] at h; exact (key _ _ h).elim
  · rw [if_neg h5] at h; exact (key _ _ h).elim
theorem go_cov (L : List Int) (hb : ∀ x ∈ L, 0 ≤ x ∧ x < 256) : ∀ (f : Nat) (xs : List Int) (i line : Nat) (cur : List Tk) (gap : Bool) (e ln m k : Nat), xs = L.drop i → i ≤ L.length → line = 1 + (L.take i).count 10 → Pre L e ln cur m k → m ≤ i → k ≤ line →
    idle (seg L m i) 0 = true → xs.length < f → (go f xs i line cur gap).err = none → ∃ e' ln', Pre L e ln (go f xs i line cur gap).cl.flatten e' ln' ∧ e' ≤ L.length ∧ idle (L.drop e') 0 = true
  | 0, xs, i, line, cur, gap, e, ln, m, k, _, _, _, _, _, _, _, hf, _ => absurd hf (Nat.not_lt_zero _)
  | f + 1, xs, i, line, cur, gap, e, ln, m, k, hxs, hi, hline, hpre, hmi, hkl, hid, hf, he => by
    have hbx : ∀ x ∈ xs, 0 ≤ x ∧ x < 256 := fun x hx => hb x (by rw [hxs] at hx; exact List.mem_of_mem_drop hx)
    have hlen : xs.length = L.length - i := by rw [hxs, List.length_drop]
    have ih := fun n line cur gap e ln m k => go_cov L hb f (xs.drop n) (i + n) line cur gap e ln m k (by rw [hxs, List.drop_drop])
    have hcnt : ∀ n, (L.take (i + n)).count 10 = (L.take i).count 10 + (xs.take n).count 10 := fun n => by rw [count_take, hxs]
    have hseg : ∀ n, seg L i (i + n) = xs.take n := fun n => by unfold seg; rw [hxs, Nat.add_sub_cancel_left]
    -- a clause that ends here, with its end
    have emitted : ∀ (cur : List Tk) (p k' i' tu line' : Nat), Pre L e ln cur p k' → TokOK L p k' (endTk i' tu line') → cur ≠ [] → Pre L e ln (emit cur i' tu line').flatten tu line' := fun cur p k' i' tu line' h1 h2 hne => by
      unfold emit
      rw [if_neg hne, List.flatten_cons, List.flatten_nil, List.append_nil]
      exact h1.append (Pre.one h2)
    rw [go] at he ⊢
    cases hs : step xs with
    | err c dl => rw [hs] at he; cases he
    | fin =>
      have hx0 : xs = [] := by
        rcases xs with _ | ⟨a, t⟩
        · rfl
        · exfalso
          simp only [step] at hs
          by_cases h1 : a = 10
          · rw [if_pos h1] at hs; cases hs
          rw [if_neg h1] at hs
          by_cases h2 : a = 32
          · rw [if_pos h2] at hs; cases hs
          rw [if_neg h2] at hs
          by_cases h3 : starts2 (a :: t) = true
          · rw [if_pos h3] at hs
            cases hc : cmt (a :: t) 0 0 1 0 with
            | eof => rw [hc] at hs; cases hs
            | done i l b => rw [hc] at hs; simp only [cmtStep] at hs; split at hs <;> cases hs
          rw [if_neg h3] at hs
          have key : ∀ k r, tokStep k r ≠ .fin := fun k r e => by cases r <;> cases e
          by_cases h4 : a = 39 ∨ a = 34
          · rw [if_pos h4] at hs; exact key _ _ hs
          rw [if_neg h4] at hs
          by_cases h5 : sym a = true
          · rw [if_pos h5] at hs; exact key _ _ hs
          · rw [if_neg h5] at hs; exact key _ _ hs
      have hiL : i = L.length := by
        rw [hx0] at hlen
        simp only [List.length_nil] at hlen
        omega
      simp only
      -- the last clause, its comma cut
      have fin : ∀ (cur : List Tk) (p k' : Nat), Pre L e ln cur p k' → p ≤ i → k' ≤ line → idle (seg L p i) 0 = true → ∃ e' ln', Pre L e ln (emit cur i i line).flatten e' ln' ∧ e' ≤ L.length ∧ idle (L.drop e') 0 = true := fun cur p k' h1 h2 h3 h4 => by
        by_cases hne : cur = []
        · subst hne
          obtain ⟨rfl, rfl⟩ := h1
          refine ⟨_, _, ⟨rfl, rfl⟩, by omega, ?_⟩
          rw [hiL, seg_end] at h4
          exact h4
        · refine ⟨i, line, emitted cur p k' i i line h1 ⟨h2, Nat.le_refl _, hi, h3, fun e => absurd rfl e, h4, hline, fun e => by cases e⟩ hne, hi, ?_⟩
          rw [List.drop_eq_nil_of_le (by omega)]; rfl
      unfold cut
      by_cases hcm : comma cur = true
      · rw [if_pos hcm]
        obtain ⟨a, t, rfl, ht1, ht2⟩ := comma_last hcm
        rw [List.dropLast_concat]
        obtain ⟨m', k', g1, g2, rfl, rfl⟩ := hpre.snoc_inv
        refine fin a m' k' g1 (by have := g2.h1; have := g2.h2; omega) (by have := g2.h4; omega) ?_
        refine idle_seg g2.h1 (Nat.le_trans g2.h2 hmi) g2.h6 (idle_seg g2.h2 hmi ?_ hid)
        rw [g2.h8 ht1, ht2]; rfl
      · rw [if_neg hcm]
        exact fin cur m k hpre hmi hkl hid
    | line =>
      rw [hs] at he
      simp only at he ⊢
      obtain ⟨t, rfl⟩ : ∃ t, xs = 10 :: t := step_line hs
      have hnl : line + 1 = 1 + (L.take (i + 1)).count 10 := by rw [hcnt 1, hline]; simp; omega
      have hi1 : i + 1 ≤ L.length := by simp only [List.length_cons] at hlen; omega
      have hid1 : idle (seg L i (i + 1)) 0 = true := by rw [hseg 1]; rfl
      have hf1 : ((10 :: t).drop 1).length < f := by simp only [List.length_cons] at hf; simp; omega
      by_cases hcm : comma cur = true
      · rw [if_pos hcm] at he ⊢
        obtain ⟨a, tk, rfl, ht1, ht2⟩ := comma_last hcm
        rw [List.dropLast_concat] at he ⊢
        obtain ⟨m', k', g1, g2, rfl, rfl⟩ := hpre.snoc_inv
        refine ih 1 (line + 1) a true e ln m' k' hi1 hnl g1 (by have := g2.h1; have := g2.h2; omega) (by have := g2.h4; omega) ?_ hf1 he
        refine idle_seg g2.h1 (by have := g2.h2; omega) g2.h6 (idle_seg g2.h2 (by omega) ?_ (idle_seg hmi (by omega) hid hid1))
        rw [g2.h8 ht1, ht2]; rfl
      · rw [if_neg hcm] at he ⊢
        rw [pre_err] at he
        unfold Out.pre
        simp only [List.flatten_append]
        by_cases hne : cur = []
        · subst hne
          obtain ⟨rfl, rfl⟩ := hpre
          have := ih 1 (line + 1) [] false m k m k hi1 hnl ⟨rfl, rfl⟩ (by omega) (by omega) (idle_seg hmi (by omega) hid hid1) hf1 he
          simpa [emit] using this
        · obtain ⟨e', ln', g1, g2, g3⟩ := ih 1 (line + 1) [] false (i + 1) line (i + 1) line hi1 hnl ⟨rfl, rfl⟩ (Nat.le_refl _) (by omega) (by rw [seg_self]; rfl) hf1 he
          exact ⟨e', ln', (emitted cur m k i (i + 1) line hpre ⟨hmi, by show i ≤ i + 1; omega, hi1, hkl, fun e => absurd rfl e, hid, hline, fun e => by cases e⟩ hne).append g1, g2, g3⟩
    | blank =>
      rw [hs] at he
      simp only at he ⊢
      obtain ⟨t, rfl⟩ : ∃ t, xs = 32 :: t := step_blank hs
      have hnl : line = 1 + (L.take (i + 1)).count 10 := by rw [hcnt 1, hline]; simp
      refine ih 1 line cur true e ln m k (by simp only [List.length_cons] at hlen; omega) hnl hpre (by omega) hkl (idle_seg hmi (by omega) hid (by rw [hseg 1]; rfl)) (by simp only [List.length_cons] at hf; simp; omega) he
    | cmt n dl =>
      rw [hs] at he
      simp only at he ⊢
      obtain ⟨h1, h2, h3⟩ := step_cmt hs
      obtain ⟨c1, c2⟩ := step_cmt_idle hs
      refine ih n (line + dl) cur gap e ln m k (by omega) (by rw [hcnt n, hline]; omega) hpre (by omega) (by omega) (idle_seg hmi (by omega) hid (by rw [hseg n]; exact c1)) (by rw [List.length_drop]; omega) he
    | tok kd t n =>
      rw [hs] at he
      simp only at he ⊢
      obtain ⟨h1, h2, -, hk1, hk2⟩ := step_tok hbx hs
      obtain ⟨d1, d2⟩ := tok_no10 hs
      have hl0 : (xs.take n).count 10 = 0 := List.count_eq_zero.2 d1
      have hnl : line = 1 + (L.take (i + n)).count 10 := by rw [hcnt n, hline, hl0]; omega
      have hin : i + n ≤ L.length := by omega
      have hfn : (xs.drop n).length < f := by rw [List.length_drop]; omega
      by_cases hsc : kd = 3 ∧ t = [59]
      · rw [if_pos hsc] at he ⊢
        rw [pre_err] at he
        unfold Out.pre
        simp only [List.flatten_append]
        have hsemi : idle (seg L i (i + n)) 0 = true := by rw [hseg n, d2 hsc.1, hsc.2]; rfl
        by_cases hne : cur = []
        · subst hne
          obtain ⟨rfl, rfl⟩ := hpre
          have := ih n line [] false m k m k hin hnl ⟨rfl, rfl⟩ (by omega) (by omega) (idle_seg hmi (by omega) hid hsemi) hfn he
          simpa [emit] using this
        · obtain ⟨e', ln', g1, g2, g3⟩ := ih n line [] false (i + n) line (i + n) line hin hnl ⟨rfl, rfl⟩ (Nat.le_refl _) (Nat.le_refl _) (by rw [seg_self]; rfl) hfn he
          exact ⟨e', ln', (emitted cur m k i (i + n) line hpre ⟨hmi, by show i ≤ i + n; omega, hin, hkl, fun e => absurd rfl e, hid, hline, fun e => by cases e⟩ hne).append g1, g2, g3⟩
      · rw [if_neg hsc] at he ⊢
        obtain ⟨tk, htk⟩ : ∃ tk, (⟨kd, t, gap && !decide (cur = []), line, i, i + n⟩ : Tk) = tk := ⟨_, rfl⟩
        have hok : TokOK L m k tk := by
          rw [← htk]
          exact ⟨hmi, by show i ≤ i + n; omega, hin, hkl, fun _ => by show i < i + n; omega, hid, hline, fun e => by show seg L i (i + n) = t; rw [hseg n]; exact d2 e⟩
        have hto : tk.to = i + n := by rw [← htk]
        have htl : tk.line = line := by rw [← htk]
        rw [htk] at he ⊢
        have hpre2 := hpre.append (Pre.one hok)
        rw [hto, htl] at hpre2
        by_cases hlb : label (cur ++ [tk]) = true
        · rw [if_pos hlb] at he ⊢
          rw [pre_err] at he
          unfold Out.pre
          simp only [List.flatten_append]
          obtain ⟨e', ln', g1, g2, g3⟩ := ih n line [] false (i + n) line (i + n) line hin hnl ⟨rfl, rfl⟩ (Nat.le_refl _) (Nat.le_refl _) (by rw [seg_self]; rfl) hfn he
          exact ⟨e', ln', (emitted (cur ++ [tk]) (i + n) line (i + n) (i + n) line hpre2 ⟨Nat.le_refl _, Nat.le_refl _, hin, Nat.le_refl _, fun e => absurd rfl e, by rw [show (endTk (i + n) (i + n) line).at_ = i + n from rfl, seg_self]; rfl, hnl, fun e => by cases e⟩ (by simp)).append g1, g2, g3⟩
        · rw [if_neg hlb] at he ⊢
          exact ih n line (cur ++ [tk]) false e ln (i + n) line hin hnl hpre2 (Nat.le_refl _) (Nat.le_refl _) (by rw [seg_self]; rfl) hfn he
theorem scan_cov {L : List Int} (hb : ∀ x ∈ L, 0 ≤ x ∧ x < 256) (he : (scan L).err = none) : ∃ e' ln', Pre L 0 1 (tokens L) e' ln' ∧ e' ≤ L.length ∧ idle (L.drop e') 0 = true :=
  go_cov L hb (L.length + 1) L 0 1 [] false 0 1 0 1 (by simp) (Nat.zero_le _) (by simp) ⟨rfl, rfl⟩ (Nat.le_refl _) (Nat.le_refl _) (by rw [seg_self]; rfl) (Nat.lt_succ_self _) he
end Go.Proofs.YtkkpjonfaflkmaaGreatDoor.S

/- A comment between tokens changes no token, but for places. -/
namespace Go.Proofs.YtkkpjonfaflkmaaGreatDoor.S
set_option linter.unusedSimpArgs false
set_option linter.unusedVariables false

/-- A token without its place. -/
def key (t : Tk) : Nat × List Int × Bool := (t.kind, t.text, t.gap)
theorem comma_key {a b : List Tk} (h : a.map key = b.map key) : comma a = comma b := by
  have hl : (a.map key).getLast? = (b.map key).getLast? := by rw [h]
  rw [List.getLast?_map, List.getLast?_map] at hl
  unfold comma
  cases ha : a.getLast? with
  | none =>
    rw [ha] at hl
    cases hb : b.getLast? with
    | none => rfl
    | some y => rw [hb] at hl; cases hl
  | some x =>
    rw [ha] at hl
    cases hb : b.getLast? with
    | none => rw [hb] at hl; cases hl
    | some y =>
      rw [hb] at hl
      simp only [Option.map_some, Option.some.injEq, key, Prod.mk.injEq] at hl
      simp only [hl.1, hl.2.1]
theorem label_key : ∀ {a b : List Tk}, a.map key = b.map key → label a = label b
  | [], [], _ => rfl
  | [], _ :: _, h => by cases h
  | _ :: _, [], h => by cases h
  | [_], [_], _ => rfl
  | [_], _ :: _ :: _, h => by simp at h
  | _ :: _ :: _, [_], h => by simp at h
  | [x, y], [u, v], h => by
    simp only [List.map_cons, List.map_nil, List.cons.injEq, key, Prod.mk.injEq, and_true] at h
    simp only [label, h.1.1, h.2.1, h.2.2.1]
  | [_, _], _ :: _ :: _ :: _, h => by simp at h
  | _ :: _ :: _ :: _, [_, _], h => by simp at h
  | _ :: _ :: _ :: _, _ :: _ :: _ :: _, h => rfl
theorem nil_key {a b : List Tk} (h : a.map key = b.map key) : (a = []) ↔ (b = []) := by
  have hl : (a.map key).length = (b.map key).length := by rw [h]
  rw [List.length_map, List.length_map] at hl
  rw [← List.length_eq_zero_iff, ← List.length_eq_zero_iff, hl]
theorem emit_key {a b : List Tk} (h : a.map key = b.map key) (i j l i' j' l' : Nat) : (emit a i j l).flatten.map key = (emit b i' j' l').flatten.map key := by
  unfold emit
  by_cases ha : a = []
  · rw [if_pos ha, if_pos ((nil_key h).1 ha)]
  · rw [if_neg ha, if_neg (fun e => ha ((nil_key h).2 e))]
    simp only [List.flatten_cons, List.flatten_nil, List.append_nil, List.map_append, h]
    rfl
theorem cut_key {a b : List Tk} (h : a.map key = b.map key) : (cut a).map key = (cut b).map key := by
  unfold cut
  rw [comma_key h]
  split
  · rw [List.map_dropLast, List.map_dropLast, h]
  · exact h
/-- The same text, read at another place: the same tokens, but for places. -/
theorem go_key : ∀ (f : Nat) (xs : List Int) (i line i' line' : Nat) (cur cur' : List Tk) (gap : Bool) (f' : Nat), cur'.map key = cur.map key → (∀ x ∈ xs, 0 ≤ x ∧ x < 256) → xs.length < f → xs.length < f' → (go f xs i line cur gap).err = none →
    (go f' xs i' line' cur' gap).err = none ∧ (go f' xs i' line' cur' gap).cl.flatten.map key = (go f xs i line cur gap).cl.flatten.map key
  | 0, xs, i, line, i', line', cur, cur', gap, f', _, _, h, _, _ => absurd h (Nat.not_lt_zero _)
  | f + 1, xs, i, line, i', line', cur, cur', gap, 0, _, _, _, h, _ => absurd h (Nat.not_lt_zero _)
  | f + 1, xs, i, line, i', line', cur, cur', gap, f' + 1, hk, hb, hf, hf', he => by
    have hbd : ∀ n, ∀ x ∈ xs.drop n, 0 ≤ x ∧ x < 256 := fun n x hx => hb x (List.mem_of_mem_drop hx)
    have ih := fun n i line i' line' cur cur' gap hk => go_key f (xs.drop n) i line i' line' cur cur' gap f' hk (hbd n)
    have hpre : ∀ (l l' : List (List Tk)) (o o' : Out), l.flatten.map key = l'.flatten.map key → o.err = none ∧ o.cl.flatten.map key = o'.cl.flatten.map key → (o.pre l).err = none ∧ (o.pre l).cl.flatten.map key = (o'.pre l').cl.flatten.map key := fun l l' o o' h1 h2 => by
      refine ⟨h2.1, ?_⟩
      unfold Out.pre
      simp only [List.flatten_append, List.map_append, h1, h2.2]
    rw [go] at he ⊢
    conv => { rhs; rhs; rw [go] }
    cases hs : step xs with
    | err c dl => rw [hs] at he; cases he
    | fin => exact ⟨rfl, emit_key (cut_key hk) _ _ _ _ _ _⟩
    | line =>
      have hx : 1 ≤ xs.length := step_some (by rw [hs]; intro e; cases e)
      rw [hs] at he
      simp only at he ⊢
      have h1 : (xs.drop 1).length < f := by rw [List.length_drop]; omega
      have h2 : (xs.drop 1).length < f' := by rw [List.length_drop]; omega
      rw [comma_key hk]
      by_cases hc : comma cur = true
      · rw [if_pos hc] at he ⊢
        rw [if_pos hc]
        exact ih 1 _ _ _ _ _ _ _ (by rw [List.map_dropLast, List.map_dropLast, hk]) h1 h2 he
      · rw [if_neg hc] at he ⊢
        rw [if_neg hc]
        exact hpre _ _ _ _ (emit_key hk _ _ _ _ _ _) (ih 1 _ _ _ _ [] [] _ rfl h1 h2 he)
    | blank =>
      have hx : 1 ≤ xs.length := step_some (by rw [hs]; intro e; cases e)
      rw [hs] at he
      simp only at he ⊢
      exact ih 1 _ _ _ _ _ _ _ hk (by rw [List.length_drop]; omega) (by rw [List.length_drop]; omega) he
    | cmt n dl =>
      obtain ⟨g1, g2, -⟩ := step_cmt hs
      rw [hs] at he
      simp only at he ⊢
      exact ih n _ _ _ _ _ _ _ hk (by rw [List.length_drop]; omega) (by rw [List.length_drop]; omega) he
    | tok k t n =>
      obtain ⟨g1, g2, -⟩ := step_tok hb hs
      rw [hs] at he
      simp only at he ⊢
      have h1 : (xs.drop n).length < f := by rw [List.length_drop]; omega
      have h2 : (xs.drop n).length < f' := by rw [List.length_drop]; omega
      by_cases hsc : k = 3 ∧ t = [59]
      · rw [if_pos hsc] at he ⊢
        rw [if_pos hsc]
        exact hpre _ _ _ _ (emit_key hk _ _ _ _ _ _) (ih n _ _ _ _ [] [] _ rfl h1 h2 he)
      · rw [if_neg hsc] at he ⊢
        rw [if_neg hsc]
        have hkk : (cur' ++ [(⟨k, t, gap && !decide (cur' = []), line', i', i' + n⟩ : Tk)]).map key = (cur ++ [(⟨k, t, gap && !decide (cur = []), line, i, i + n⟩ : Tk)]).map key := by
          simp only [List.map_append, hk, List.map_cons, List.map_nil, key]
          rw [show decide (cur' = []) = decide (cur = []) from decide_eq_decide.2 (nil_key hk)]
        rw [label_key hkk]
        by_cases hl : label (cur ++ [⟨k, t, gap && !decide (cur = []), line, i, i + n⟩]) = true
        · rw [if_pos hl] at he ⊢
          rw [if_pos hl]
          exact hpre _ _ _ _ (emit_key hkk _ _ _ _ _ _) (ih n _ _ _ _ [] [] _ rfl h1 h2 he)
        · rw [if_neg hl] at he ⊢
          rw [if_neg hl]
          exact ih n _ _ _ _ _ _ _ hkk h1 h2 he

/-- The places at which a rule is applied. -/
def vis : Nat → List Int → Nat → Nat → Prop
  | 0, _, _, _ => False
  | f + 1, xs, i, p => p = i ∨ match step xs with
    | .fin => False
    | .err _ _ => False
    | .line => vis f (xs.drop 1) (i + 1) p
    | .blank => vis f (xs.drop 1) (i + 1) p
    | .cmt n _ => vis f (xs.drop n) (i + n) p
    | .tok _ _ n => vis f (xs.drop n) (i + n) p
theorem vis_self (f : Nat) (xs : List Int) (i : Nat) (hf : 0 < f) : vis f xs i i := by
  cases f with
  | zero => omega
  | succ f => exact .inl rfl
theorem vis_ge : ∀ (f : Nat) (xs : List Int) (i p : Nat), vis f xs i p → i ≤ p
  | 0, _, _, _, h => h.elim
  | f + 1, xs, i, p, h => by
    rcases h with h | h
    · omega
    · cases hs : step xs with
      | fin => rw [hs] at h; exact h.elim
      | err c d => rw [hs] at h; exact h.elim
      | line => rw [hs] at h; have := vis_ge _ _ _ _ h; omega
      | blank => rw [hs] at h; have := vis_ge _ _ _ _ h; omega
      | cmt n d => rw [hs] at h; have := vis_ge _ _ _ _ h; omega
      | tok k t n => rw [hs] at h; have := vis_ge _ _ _ _ h; omega
theorem tok_vis : ∀ (f : Nat) (xs : List Int) (i line : Nat) (cur : List Tk) (gap : Bool), (∀ x ∈ xs, 0 ≤ x ∧ x < 256) → xs.length < f → (go f xs i line cur gap).err = none → ∀ t ∈ (go f xs i line cur gap).cl.flatten, t ∈ cur ∨ (vis f xs i t.at_ ∧ vis f xs i t.to)
  | 0, xs, i, line, cur, gap, _, h, _ => absurd h (Nat.not_lt_zero _)
  | f + 1, xs, i, line, cur, gap, hb, hf, he => by
    have hbd : ∀ n, ∀ x ∈ xs.drop n, 0 ≤ x ∧ x < 256 := fun n x hx => hb x (List.mem_of_mem_drop hx)
    have ih := fun n i line cur gap => tok_vis f (xs.drop n) i line cur gap (hbd n)
    have hem : ∀ (cur : List Tk) (a b l : Nat) (t : Tk), t ∈ (emit cur a b l).flatten → t ∈ cur ∨ (t.at_ = a ∧ t.to = b) := fun cur a b l t ht => by
      unfold emit at ht
      split at ht
      · cases ht
      · simp only [List.flatten_cons, List.flatten_nil, List.append_nil, List.mem_append, List.mem_singleton] at ht
        rcases ht with e | rfl
        · exact .inl e
        · exact .inr ⟨rfl, rfl⟩
    have hcut : ∀ (cur : List Tk) (t : Tk), t ∈ cut cur → t ∈ cur := fun cur t ht => by
      unfold cut at ht
      split at ht
      · exact List.dropLast_subset _ ht
      · exact ht
    intro t ht
    rw [go] at he ht
    unfold vis
    cases hs : step xs with
    | err c dl => rw [hs] at he; cases he
    | fin =>
      rw [hs] at ht
      rcases hem _ _ _ _ _ ht with e | ⟨e1, e2⟩
      · exact .inl (hcut _ _ e)
      · exact .inr ⟨.inl e1, .inl e2⟩
    | line =>
      have hx : 1 ≤ xs.length := step_some (by rw [hs]; intro e; cases e)
      rw [hs] at he ht
      simp only at he ht ⊢
      have h1 : (xs.drop 1).length < f := by rw [List.length_drop]; omega
      have hv := vis_self f (xs.drop 1) (i + 1) (by omega)
      by_cases hc : comma cur = true
      · rw [if_pos hc] at he ht
        rcases ih 1 _ _ _ _ h1 he t ht with e | ⟨e1, e2⟩
        · exact .inl (List.dropLast_subset _ e)
        · exact .inr ⟨.inr e1, .inr e2⟩
      · rw [if_neg hc] at he ht
        rw [pre_err] at he
        unfold Out.pre at ht
        simp only [List.flatten_append, List.mem_append] at ht
        rcases ht with ht | ht
        · rcases hem _ _ _ _ _ ht with e | ⟨e1, e2⟩
          · exact .inl e
          · exact .inr ⟨.inl e1, .inr (by rw [e2]; exact hv)⟩
        · rcases ih 1 _ _ _ _ h1 he t ht with e | ⟨e1, e2⟩
          · cases e
          · exact .inr ⟨.inr e1, .inr e2⟩
    | blank =>
      have hx : 1 ≤ xs.length := step_some (by rw [hs]; intro e; cases e)
      rw [hs] at he ht
      simp only at he ht ⊢
      rcases ih 1 _ _ _ _ (by rw [List.length_drop]; omega) he t ht with e | ⟨e1, e2⟩
      · exact .inl e
      · exact .inr ⟨.inr e1, .inr e2⟩
    | cmt n dl =>
      obtain ⟨g1, g2, -⟩ := step_cmt hs
      rw [hs] at he ht
      simp only at he ht ⊢
      rcases ih n _ _ _ _ (by rw [List.length_drop]; omega) he t ht with e | ⟨e1, e2⟩
      · exact .inl e
      · exact .inr ⟨.inr e1, .inr e2⟩
    | tok k tx n =>
      obtain ⟨g1, g2, -⟩ := step_tok hb hs
      rw [hs] at he ht
      simp only at he ht ⊢
      have h1 : (xs.drop n).length < f := by rw [List.length_drop]; omega
      have hv := vis_self f (xs.drop n) (i + n) (by omega)
      by_cases hsc : k = 3 ∧ tx = [59]
      · rw [if_pos hsc] at he ht
        rw [pre_err] at he
        unfold Out.pre at ht
        simp only [List.flatten_append, List.mem_append] at ht
        rcases ht with ht | ht
        · rcases hem _ _ _ _ _ ht with e | ⟨e1, e2⟩
          · exact .inl e
          · exact .inr ⟨.inl e1, .inr (by rw [e2]; exact hv)⟩
        · rcases ih n _ _ _ _ h1 he t ht with e | ⟨e1, e2⟩
          · cases e
          · exact .inr ⟨.inr e1, .inr e2⟩
      · rw [if_neg hsc] at he ht
        have hnew : ∀ u : Tk, u ∈ cur ++ [(⟨k, tx, gap && !decide (cur = []), line, i, i + n⟩ : Tk)] → u ∈ cur ∨ (u.at_ = i ∧ u.to = i + n) := fun u hu => by
          simp only [List.mem_append, List.mem_singleton] at hu
          rcases hu with e | rfl
          · exact .inl e
          · exact .inr ⟨rfl, rfl⟩
        by_cases hl : label (cur ++ [⟨k, tx, gap && !decide (cur = []), line, i, i + n⟩]) = true
        · rw [if_pos hl] at he ht
          rw [pre_err] at he
          unfold Out.pre at ht
          simp only [List.flatten_append, List.mem_append] at ht
          rcases ht with ht | ht
          · rcases hem _ _ _ _ _ ht with e | ⟨e1, e2⟩
            · rcases hnew t e with e | ⟨e1, e2⟩
              · exact .inl e
              · exact .inr ⟨.inl e1, .inr (by rw [e2]; exact hv)⟩
            · exact .inr ⟨.inr (by rw [e1]; exact hv), .inr (by rw [e2]; exact hv)⟩
          · rcases ih n _ _ _ _ h1 he t ht with e | ⟨e1, e2⟩
            · cases e
            · exact .inr ⟨.inr e1, .inr e2⟩
        · rw [if_neg hl] at he ht
          rcases ih n _ _ _ _ h1 he t ht with e | ⟨e1, e2⟩
          · rcases hnew t e with e | ⟨e1, e2⟩
            · exact .inl e
            · exact .inr ⟨.inl e1, .inr (by rw [e2]; exact hv)⟩
          · exact .inr ⟨.inr e1, .inr e2⟩
end Go.Proofs.YtkkpjonfaflkmaaGreatDoor.S
