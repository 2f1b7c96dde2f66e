/- Part 19 of the proof of ScanLocal: the functions that it calls return what their plain descriptions say. -/
import Derived.Test.YtkkpjonfaflkmaaGreatDoorCScanLocal4
import Derived.Test.YtkkpjonfaflkmaaGreatDoorCScanLocal18
import Derived.Test.YtkkpjonfaflkmaaGreatDoorCScanLocal13

namespace Go.Proofs.YtkkpjonfaflkmaaGreatDoor.T
set_option linter.unusedSimpArgs false
open Go.RowKit Go.Proofs.YtkkpjonfaflkmaaGreatDoorW.PrintWords Go.Proofs.YtkkpjonfaflkmaaGreatDoorW.PrintLast Go.Proofs.YtkkpjonfaflkmaaGreatDoorW.PrintMore
attribute [local go_sem] max2_int min2_int max_two min_two max_three min_three max_four min_four   -- for this text's walks alone
set_option linter.unusedVariables false
set_option linter.unusedSimpArgs false
attribute [local go_sem high] eqA53
mutual
def qanatlaw03_ScanLocal.j0 : Nat → ByteArray → ByteArray → List (S53) → List (S53) → Bool → Option (Bool)
  | 0, _, _, _, _, _ => none
  | k + 1, x0, x1, x5, x9, x54 => if x54 = true then ((qanatlaw03_sanity.f).bind fun t498 => (some t498)) else (if x0.size + 1 ≤ 9223372036854775807 then ((scan_Tokens.f (x0 ++ (⟨#[59]⟩ : ByteArray))).bind fun bt499 => (if bt499.2.2.2 = 0 then (if (bt499.1.length : Int) > 1 then (if 0 ≤ (wrap64 ((bt499.1.length : Int) - 2)) then (if (wrap64 ((bt499.1.length : Int) - 2)) < (bt499.1.length : Int) then (if ((rd_T53 bt499.1 (wrap64 ((bt499.1.length : Int) - 2))).f0) = 3 then (qanatlaw03_ScanLocal.j1 k x0 x1 x5 x9 bt499.2.2.2 (((rd_T53 bt499.1 (wrap64 ((bt499.1.length : Int) - 2))).f1).toList == ([44] : List UInt8))) else (qanatlaw03_ScanLocal.j1 k x0 x1 x5 x9 bt499.2.2.2 false)) else (none)) else (none)) else (qanatlaw03_ScanLocal.j1 k x0 x1 x5 x9 bt499.2.2.2 false)) else (qanatlaw03_ScanLocal.j1 k x0 x1 x5 x9 bt499.2.2.2 true))) else (none))
def qanatlaw03_ScanLocal.j1 : Nat → ByteArray → ByteArray → List (S53) → List (S53) → Int → Bool → Option (Bool)
  | 0, _, _, _, _, _, _ => none
  | k + 1, x0, x1, x5, x9, x16, x89 => if x89 = true then ((qanatlaw03_sanity.f).bind fun t507 => (if t507 = true then (some (x16 == 0)) else (some false))) else (if x0.size + 1 ≤ 9223372036854775807 then (if (x0 ++ (⟨#[10]⟩ : ByteArray)).size + x1.size ≤ 9223372036854775807 then ((scan_Tokens.f ((x0 ++ (⟨#[10]⟩ : ByteArray)) ++ x1)).bind fun bt508 => (if bt508.2.2.2 = 0 then (if (bt508.1.length : Int) = (wrap64 ((x5.length : Int) + (x9.length : Int))) then (if 0 ≤ (x5.length : Int) then (if (x5.length : Int) ≤ (bt508.1.length : Int) then ((qanatref03_Same.f k (bt508.1.take ((x5.length : Int) : Int).toNat) x5).bind fun t518 => (qanatlaw03_ScanLocal.j2 k x0 x5 x9 bt508.1 (!t518))) else (none)) else (none)) else (qanatlaw03_ScanLocal.j2 k x0 x5 x9 bt508.1 true)) else (qanatlaw03_ScanLocal.j2 k x0 x5 x9 bt508.1 true))) else (none)) else (none))
def qanatlaw03_ScanLocal.j2 : Nat → ByteArray → List (S53) → List (S53) → List (S53) → Bool → Option (Bool)
  | 0, _, _, _, _, _ => none
  | k + 1, x0, x5, x9, x18, x125 => if x125 = true then (some false) else (qanatlaw03_ScanLocal.l0 k x0 x5 x9 x18 0)
def qanatlaw03_ScanLocal.l0 : Nat → ByteArray → List (S53) → List (S53) → List (S53) → Int → Option (Bool)
  | 0, _, _, _, _, _ => none
  | k + 1, x0, x5, x9, x18, x22 => if x22 < (x9.length : Int) then (if 0 ≤ x22 then ((qanatlaw03_feeds.f k x0).bind fun t521 => (if 0 ≤ (wrap64 ((x5.length : Int) + x22)) then (if (wrap64 ((x5.length : Int) + x22)) < (x18.length : Int) then (if (!(((rd_T53 x18 (wrap64 ((x5.length : Int) + x22))).f0) == ((rd_T53 x9 x22).f0)) || (!((((rd_T53 x18 (wrap64 ((x5.length : Int) + x22))).f1).toList) == (((rd_T53 x9 x22).f1).toList)) || (!(((rd_T53 x18 (wrap64 ((x5.length : Int) + x22))).f2) == ((rd_T53 x9 x22).f2)) || (!(((rd_T53 x18 (wrap64 ((x5.length : Int) + x22))).f3) == (wrap64 ((wrap64 (((rd_T53 x9 x22).f3) + t521)) + 1))) || (!(((rd_T53 x18 (wrap64 ((x5.length : Int) + x22))).f4) == (wrap64 ((wrap64 (((rd_T53 x9 x22).f4) + (x0.size : Int))) + 1))) || (!(((rd_T53 x18 (wrap64 ((x5.length : Int) + x22))).f5) == (wrap64 ((wrap64 (((rd_T53 x9 x22).f5) + (x0.size : Int))) + 1))))))))) = true then (some false) else (qanatlaw03_ScanLocal.l0 k x0 x5 x9 x18 (wrap64 (x22 + 1)))) else (none)) else (none))) else (none)) else (qanatlaw03_ScanLocal.l1 k x5 x18 0)
def qanatlaw03_ScanLocal.l1 : Nat → List (S53) → List (S53) → Int → Option (Bool)
  | 0, _, _, _ => none
  | k + 1, x5, x18, x24 => if x24 < (x5.length : Int) then (if 0 ≤ x24 then (if x24 < (x18.length : Int) then (if ((rd_T53 x5 x24).f4) = ((rd_T53 x18 x24).f4) then (if ((rd_T53 x5 x24).f3) = ((rd_T53 x18 x24).f3) then (if ((rd_T53 x5 x24).f0) = 4 then (qanatlaw03_ScanLocal.l1 k x5 x18 (wrap64 (x24 + 1))) else (if ((rd_T53 x5 x24).f5) = ((rd_T53 x18 x24).f5) then (qanatlaw03_ScanLocal.l1 k x5 x18 (wrap64 (x24 + 1))) else (some false))) else (some false)) else (some false)) else (none)) else (none)) else ((qanatlaw03_sanity.f).bind fun t530 => (some t530))
end
def qanatlaw03_ScanLocal.f (k : Nat) (a0 : ByteArray) (a1 : ByteArray) : Option (Bool) := (scan_Tokens.f a0).bind fun bt484 => ((scan_Tokens.f a1).bind fun bt490 => ((qanatlaw03_small.f a0).bind fun t496 => (if t496 = true then ((qanatlaw03_small.f a1).bind fun t497 => (if t497 = true then (if bt484.2.2.2 = 0 then (qanatlaw03_ScanLocal.j0 k a0 a1 bt484.1 bt490.1 (bt490.2.2.2 != 0)) else (qanatlaw03_ScanLocal.j0 k a0 a1 bt484.1 bt490.1 true)) else (qanatlaw03_ScanLocal.j0 k a0 a1 bt484.1 bt490.1 true))) else (qanatlaw03_ScanLocal.j0 k a0 a1 bt484.1 bt490.1 true))))
theorem qanatlaw03_ScanLocal.mono_l : ∀ k, (∀ y0 y1 y2 y3 y4, LeO (qanatlaw03_ScanLocal.j0 k y0 y1 y2 y3 y4) (qanatlaw03_ScanLocal.j0 (k + 1) y0 y1 y2 y3 y4)) ∧ (∀ y0 y1 y2 y3 y4 y5, LeO (qanatlaw03_ScanLocal.j1 k y0 y1 y2 y3 y4 y5) (qanatlaw03_ScanLocal.j1 (k + 1) y0 y1 y2 y3 y4 y5)) ∧ (∀ y0 y1 y2 y3 y4, LeO (qanatlaw03_ScanLocal.j2 k y0 y1 y2 y3 y4) (qanatlaw03_ScanLocal.j2 (k + 1) y0 y1 y2 y3 y4)) ∧ (∀ y0 y1 y2 y3 y4, LeO (qanatlaw03_ScanLocal.l0 k y0 y1 y2 y3 y4) (qanatlaw03_ScanLocal.l0 (k + 1) y0 y1 y2 y3 y4)) ∧ (∀ y0 y1 y2, LeO (qanatlaw03_ScanLocal.l1 k y0 y1 y2) (qanatlaw03_ScanLocal.l1 (k + 1) y0 y1 y2))
  | 0 => ⟨fun _ _ _ _ _ r h => by simp [qanatlaw03_ScanLocal.j0] at h, fun _ _ _ _ _ _ r h => by simp [qanatlaw03_ScanLocal.j1] at h, fun _ _ _ _ _ r h => by simp [qanatlaw03_ScanLocal.j2] at h, fun _ _ _ _ _ r h => by simp [qanatlaw03_ScanLocal.l0] at h, fun _ _ _ r h => by simp [qanatlaw03_ScanLocal.l1] at h⟩
  | k + 1 => by
    obtain ⟨ih0, ih1, ih2, ih3, ih4⟩ := qanatlaw03_ScanLocal.mono_l k
    refine ⟨?_, ?_, ?_, ?_, ?_⟩
    · intro y0 y1 y2 y3 y4
      unfold qanatlaw03_ScanLocal.j0
      repeat' first
      | (with_reducible exact ih0 _ _ _ _ _)
      | (with_reducible exact ih1 _ _ _ _ _ _)
      | (with_reducible exact ih2 _ _ _ _ _)
      | (with_reducible exact ih3 _ _ _ _ _)
      | (with_reducible exact ih4 _ _ _)
      | (with_reducible exact qanatlaw03_feeds.mono _ _)
      | (with_reducible exact qanatref03_Same.mono _ _ _)
      | (with_reducible exact LeO.refl _)
      | (with_reducible exact LeO.none _)
      | (with_reducible refine LeO.ite ?_ ?_)
      | (with_reducible refine LeO.bind ?_ (fun _ => ?_))
      | exact ih0 _ _ _ _ _
      | exact ih1 _ _ _ _ _ _
      | exact ih2 _ _ _ _ _
      | exact ih3 _ _ _ _ _
      | exact ih4 _ _ _
      | exact qanatlaw03_feeds.mono _ _
      | exact qanatref03_Same.mono _ _ _
      | exact LeO.none _
      | refine LeO.ite ?_ ?_
      | refine LeO.bind ?_ (fun _ => ?_)
    · intro y0 y1 y2 y3 y4 y5
      unfold qanatlaw03_ScanLocal.j1
      repeat' first
      | (with_reducible exact ih0 _ _ _ _ _)
      | (with_reducible exact ih1 _ _ _ _ _ _)
      | (with_reducible exact ih2 _ _ _ _ _)
      | (with_reducible exact ih3 _ _ _ _ _)
      | (with_reducible exact ih4 _ _ _)
      | (with_reducible exact qanatlaw03_feeds.mono _ _)
      | (with_reducible exact qanatref03_Same.mono _ _ _)
      | (with_reducible exact LeO.refl _)
      | (with_reducible exact LeO.none _)
      | (with_reducible refine LeO.ite ?_ ?_)
      | (with_reducible refine LeO.bind ?_ (fun _ => ?_))
      | exact ih0 _ _ _ _ _
      | exact ih1 _ _ _ _ _ _
      | exact ih2 _ _ _ _ _
      | exact ih3 _ _ _ _ _
      | exact ih4 _ _ _
      | exact qanatlaw03_feeds.mono _ _
      | exact qanatref03_Same.mono _ _ _
      | exact LeO.none _
      | refine LeO.ite ?_ ?_
      | refine LeO.bind ?_ (fun _ => ?_)
    · intro y0 y1 y2 y3 y4
      unfold qanatlaw03_ScanLocal.j2
      repeat' first
      | (with_reducible exact ih0 _ _ _ _ _)
      | (with_reducible exact ih1 _ _ _ _ _ _)
      | (with_reducible exact ih2 _ _ _ _ _)
      | (with_reducible exact ih3 _ _ _ _ _)
      | (with_reducible exact ih4 _ _ _)
      | (with_reducible exact qanatlaw03_feeds.mono _ _)
      | (with_reducible exact qanatref03_Same.mono _ _ _)
      | (with_reducible exact LeO.refl _)
      | (with_reducible exact LeO.none _)
      | (with_reducible refine LeO.ite ?_ ?_)
      | (with_reducible refine LeO.bind ?_ (fun _ => ?_))
      | exact ih0 _ _ _ _ _
      | exact ih1 _ _ _ _ _ _
      | exact ih2 _ _ _ _ _
      | exact ih3 _ _ _ _ _
      | exact ih4 _ _ _
      | exact qanatlaw03_feeds.mono _ _
      | exact qanatref03_Same.mono _ _ _
      | exact LeO.none _
      | refine LeO.ite ?_ ?_
      | refine LeO.bind ?_ (fun _ => ?_)
    · intro y0 y1 y2 y3 y4
      unfold qanatlaw03_ScanLocal.l0
      repeat' first
      | (with_reducible exact ih0 _ _ _ _ _)
      | (with_reducible exact ih1 _ _ _ _ _ _)
      | (with_reducible exact ih2 _ _ _ _ _)
      | (with_reducible exact ih3 _ _ _ _ _)
      | (with_reducible exact ih4 _ _ _)
      | (with_reducible exact qanatlaw03_feeds.mono _ _)
      | (with_reducible exact qanatref03_Same.mono _ _ _)
      | (with_reducible exact LeO.refl _)
      | (with_reducible exact LeO.none _)
      | (with_reducible refine LeO.ite ?_ ?_)
      | (with_reducible refine LeO.bind ?_ (fun _ => ?_))
      | exact ih0 _ _ _ _ _
      | exact ih1 _ _ _ _ _ _
      | exact ih2 _ _ _ _ _
      | exact ih3 _ _ _ _ _
      | exact ih4 _ _ _
      | exact qanatlaw03_feeds.mono _ _
      | exact qanatref03_Same.mono _ _ _
      | exact LeO.none _
      | refine LeO.ite ?_ ?_
      | refine LeO.bind ?_ (fun _ => ?_)
    · intro y0 y1 y2
      unfold qanatlaw03_ScanLocal.l1
      repeat' first
      | (with_reducible exact ih0 _ _ _ _ _)
      | (with_reducible exact ih1 _ _ _ _ _ _)
      | (with_reducible exact ih2 _ _ _ _ _)
      | (with_reducible exact ih3 _ _ _ _ _)
      | (with_reducible exact ih4 _ _ _)
      | (with_reducible exact qanatlaw03_feeds.mono _ _)
      | (with_reducible exact qanatref03_Same.mono _ _ _)
      | (with_reducible exact LeO.refl _)
      | (with_reducible exact LeO.none _)
      | (with_reducible refine LeO.ite ?_ ?_)
      | (with_reducible refine LeO.bind ?_ (fun _ => ?_))
      | exact ih0 _ _ _ _ _
      | exact ih1 _ _ _ _ _ _
      | exact ih2 _ _ _ _ _
      | exact ih3 _ _ _ _ _
      | exact ih4 _ _ _
      | exact qanatlaw03_feeds.mono _ _
      | exact qanatref03_Same.mono _ _ _
      | exact LeO.none _
      | refine LeO.ite ?_ ?_
      | refine LeO.bind ?_ (fun _ => ?_)
theorem qanatlaw03_ScanLocal.mono : ∀ a0 a1 k, LeO (qanatlaw03_ScanLocal.f k a0 a1) (qanatlaw03_ScanLocal.f (k + 1) a0 a1) := by
  intro a0 a1 k
  obtain ⟨ih0, ih1, ih2, ih3, ih4⟩ := qanatlaw03_ScanLocal.mono_l k
  unfold qanatlaw03_ScanLocal.f
  repeat' first
      | (with_reducible exact ih0 _ _ _ _ _)
      | (with_reducible exact ih1 _ _ _ _ _ _)
      | (with_reducible exact ih2 _ _ _ _ _)
      | (with_reducible exact ih3 _ _ _ _ _)
      | (with_reducible exact ih4 _ _ _)
      | (with_reducible exact qanatlaw03_feeds.mono _ _)
      | (with_reducible exact qanatref03_Same.mono _ _ _)
      | (with_reducible exact LeO.refl _)
      | (with_reducible exact LeO.none _)
      | (with_reducible refine LeO.ite ?_ ?_)
      | (with_reducible refine LeO.bind ?_ (fun _ => ?_))
      | exact ih0 _ _ _ _ _
      | exact ih1 _ _ _ _ _ _
      | exact ih2 _ _ _ _ _
      | exact ih3 _ _ _ _ _
      | exact ih4 _ _ _
      | exact qanatlaw03_feeds.mono _ _
      | exact qanatref03_Same.mono _ _ _
      | exact LeO.none _
      | refine LeO.ite ?_ ?_
      | refine LeO.bind ?_ (fun _ => ?_)
def qanatlaw03_ScanLocal.T18 : Bool × List (List Nat × List Nat) := (true, [([], []), ([0], [0]), ([], []), ([2], [2]), ([1, 3], [1, 3]), ([4], [4]), ([0, 1, 2, 3, 4, 5], []), ([6, 5, 3, 0, 1, 2, 3, 4, 5], [5, 6])])
def qanatlaw03_ScanLocal.B18 : List Nat := [0, 1, 0, 4, 15, 31, 63, 127]
theorem qanatlaw03_ScanLocal.tab18 : rtab .any (opsOf Tryz.f8 18) = qanatlaw03_ScanLocal.T18 := by kernel_rfl
theorem qanatlaw03_ScanLocal.bits18 : waitsOk qanatlaw03_ScanLocal.T18.2 qanatlaw03_ScanLocal.B18 = true := by kernel_rfl
set_option maxHeartbeats 32000000 in
set_option maxRecDepth 100000 in
theorem qanatlaw03_ScanLocal.calls (k : Nat) (a0 : ByteArray) (a1 : ByteArray) (r : Bool) (hr : r = true) (w : World) (hT : TabOK w) (h : qanatlaw03_ScanLocal.f k a0 a1 = some r) :
    Calls Tryz.prog 8 #[.string a0, .string a1] w fun e w' => e = .returned (.bool r) ∧ Below w.heap.size w w' := by
  have hu53 := Tryz.underlying53
  have HB := Aside0.mk (Below.refl w.heap.size w)
  have H : ((scan_Tokens.f a0).bind fun bt484 => ((scan_Tokens.f a1).bind fun bt490 => ((qanatlaw03_small.f a0).bind fun t496 => (if t496 = true then ((qanatlaw03_small.f a1).bind fun t497 => (if t497 = true then (if bt484.2.2.2 = 0 then (qanatlaw03_ScanLocal.j0 k a0 a1 bt484.1 bt490.1 (bt490.2.2.2 != 0)) else (qanatlaw03_ScanLocal.j0 k a0 a1 bt484.1 bt490.1 true)) else (qanatlaw03_ScanLocal.j0 k a0 a1 bt484.1 bt490.1 true))) else (qanatlaw03_ScanLocal.j0 k a0 a1 bt484.1 bt490.1 true))))) = some r := h
  clear h
  replace H := Option.bind_eq_some_iff.mp H
  obtain ⟨⟨t484, t485, t486, t487⟩, A30, H⟩ := H
  replace H : ((scan_Tokens.f a1).bind fun bt490 => ((qanatlaw03_small.f a0).bind fun t496 => (if t496 = true then ((qanatlaw03_small.f a1).bind fun t497 => (if t497 = true then (if t487 = 0 then (qanatlaw03_ScanLocal.j0 k a0 a1 t484 bt490.1 (bt490.2.2.2 != 0)) else (qanatlaw03_ScanLocal.j0 k a0 a1 t484 bt490.1 true)) else (qanatlaw03_ScanLocal.j0 k a0 a1 t484 bt490.1 true))) else (qanatlaw03_ScanLocal.j0 k a0 a1 t484 bt490.1 true)))) = some r := H
  have A3 := Aside0.mk A30
  clear A30
  replace H := Option.bind_eq_some_iff.mp H
  obtain ⟨⟨t490, t491, t492, t493⟩, A40, H⟩ := H
  replace H : ((qanatlaw03_small.f a0).bind fun t496 => (if t496 = true then ((qanatlaw03_small.f a1).bind fun t497 => (if t497 = true then (if t487 = 0 then (qanatlaw03_ScanLocal.j0 k a0 a1 t484 t490 (t493 != 0)) else (qanatlaw03_ScanLocal.j0 k a0 a1 t484 t490 true)) else (qanatlaw03_ScanLocal.j0 k a0 a1 t484 t490 true))) else (qanatlaw03_ScanLocal.j0 k a0 a1 t484 t490 true))) = some r := H
  have A4 := Aside0.mk A40
  clear A40
  have HC5 := Aside0.mk H
  clear H
  go_enter Tryz.func8, Tryz.ntmps8
  go_upto_region 3 with (first | ((with_reducible refine gate_callee (f := 17) rfl ?_); refine goesL_ (some 27) rfl rfl Tryz.func17 (by kernel_rfl) rfl #[.string a0] rfl (by (try simp only [List.map_toArray, List.map_cons, List.map_nil]); first | done | rfl | (simp only [List.length_drop, List.length_take]; rfl)) ?_; (with_reducible refine (scan_Tokens.calls a0 t484 t485 t486 t487 _ (TabOK.of_below hT (by repeat (first | (with_reducible first | exact HB.out | apply below_alloc | apply pw_below_drewN | apply below_drew1) | exact HB.out))) A3.out).mono ?_); rintro e w6 ⟨v488, rfl, ho0, hb⟩; refine ⟨_, rfl, ?_⟩; have n0_ := Aside0.mk (Kd.R_lower ho0 (below_size (by repeat (first | (with_reducible first | exact HB.out | apply below_alloc | apply pw_below_drewN | apply below_drew1) | exact HB.out)))); have n1_ := Aside0.mk (below_step (by repeat (first | (with_reducible first | exact HB.out | apply below_alloc | apply pw_below_drewN | apply below_drew1) | exact HB.out)) hb); clear HB; have HO489 := n0_; have HB := n1_; clear n0_ n1_; (try clear hb); (try clear hb2); (try clear hk); (try clear hi); (try clear ho0)) | ((with_reducible refine gate_callee (f := 17) rfl ?_); refine goesL_ (some 34) rfl rfl Tryz.func17 (by kernel_rfl) rfl #[.string a1] rfl (by (try simp only [List.map_toArray, List.map_cons, List.map_nil]); first | done | rfl | (simp only [List.length_drop, List.length_take]; rfl)) ?_; (with_reducible refine (scan_Tokens.calls a1 t490 t491 t492 t493 _ (TabOK.of_below hT (by repeat (first | (with_reducible first | exact HB.out | apply below_alloc | apply pw_below_drewN | apply below_drew1) | exact HB.out))) A4.out).mono ?_); rintro e w7 ⟨v494, rfl, ho0, hb⟩; refine ⟨_, rfl, ?_⟩; have n0_ := Aside0.mk (Kd.R_elder' (by (with_reducible repeat (first | apply Kd.R_alloc | apply Kd.R_drewN | apply Kd.R_drew)); exact HO489.out) (Kd.R_base ho0) hb); have n1_ := Aside0.mk (Kd.R_lower (Kd.R_new' ho0 (Kd.R_lt (by (with_reducible repeat (first | apply Kd.R_alloc | apply Kd.R_drewN | apply Kd.R_drew)); exact HO489.out))) (below_size (by repeat (first | (with_reducible first | exact HB.out | apply below_alloc | apply pw_below_drewN | apply below_drew1) | exact HB.out)))); have n2_ := Aside0.mk (below_step (by repeat (first | (with_reducible first | exact HB.out | apply below_alloc | apply pw_below_drewN | apply below_drew1) | exact HB.out)) hb); clear HO489; clear HB; have HO489 := n0_; have HO495 := n1_; have HB := n2_; clear n0_ n1_ n2_; (try clear hb); (try clear hb2); (try clear hk); (try clear hi); (try clear ho0)))
  (try simp only [Act.put, List.setIfInBounds_toArray, List.set_cons_zero, List.set_cons_succ])
  go_cut [54] (fun v54 wc => ∃ (kq : Nat) (x54_4 : Bool), v54 = .bool x54_4 ∧ Aside0 (qanatlaw03_ScanLocal.j0 kq a0 a1 t484 t490 x54_4 = some r) ∧ Aside0 (kq ≤ k) ∧ Aside0 (Kd.R k53 53 wc w.heap.size (fun k_ => some k_ ≠ (v494 : Value).ownBlock) v488 t484) ∧ Aside0 (Kd.R k53 53 wc w.heap.size (fun k_ => some k_ ≠ (v488 : Value).ownBlock) v494 t490) ∧ Aside0 (Below w.heap.size w wc))
  case first =>
    as_aux_lemma =>
    have H := HC5.out
    clear HC5
    replace H := Option.bind_eq_some_iff.mp H
    obtain ⟨t496, A80, H⟩ := H
    replace H : (if t496 = true then ((qanatlaw03_small.f a1).bind fun t497 => (if t497 = true then (if t487 = 0 then (qanatlaw03_ScanLocal.j0 k a0 a1 t484 t490 (t493 != 0)) else (qanatlaw03_ScanLocal.j0 k a0 a1 t484 t490 true)) else (qanatlaw03_ScanLocal.j0 k a0 a1 t484 t490 true))) else (qanatlaw03_ScanLocal.j0 k a0 a1 t484 t490 true)) = some r := H
    have A8 := Aside0.mk A80
    clear A80
    by_cases c9 : t496 = true
    · subst c9
      have H1 : ((qanatlaw03_small.f a1).bind fun t497 => (if t497 = true then (if t487 = 0 then (qanatlaw03_ScanLocal.j0 k a0 a1 t484 t490 (t493 != 0)) else (qanatlaw03_ScanLocal.j0 k a0 a1 t484 t490 true)) else (qanatlaw03_ScanLocal.j0 k a0 a1 t484 t490 true))) = some r := by rw [if_pos rfl] at H; exact H
      clear H
      have H := H1
      clear H1
      replace H := Option.bind_eq_some_iff.mp H
      obtain ⟨t497, A100, H⟩ := H
      replace H : (if t497 = true then (if t487 = 0 then (qanatlaw03_ScanLocal.j0 k a0 a1 t484 t490 (t493 != 0)) else (qanatlaw03_ScanLocal.j0 k a0 a1 t484 t490 true)) else (qanatlaw03_ScanLocal.j0 k a0 a1 t484 t490 true)) = some r := H
      have A10 := Aside0.mk A100
      clear A100
      by_cases c11 : t497 = true
      · subst c11
        have H1 : (if t487 = 0 then (qanatlaw03_ScanLocal.j0 k a0 a1 t484 t490 (t493 != 0)) else (qanatlaw03_ScanLocal.j0 k a0 a1 t484 t490 true)) = some r := by rw [if_pos rfl] at H; exact H
        clear H
        have H := H1
        clear H1
        by_cases c12 : t487 = 0
        · rw [if_pos c12] at H
          have c12b0 : (t487 == 0) = true := beq_iff_eq.mpr c12
          have c12b1 : (t487 != 0) = false := bne_eq_false_iff_eq.mpr c12
          clear c12
          (first | rw [c12b0] | (simp only [i64_w, i32_w]; rw [c12b0]) | skip)
          have H' := Aside0.mk H
          clear H
          go_wp2_with (first | ((with_reducible refine gate_callee (f := 39) rfl ?_); refine goesL_ (some 40) rfl rfl Tryz.func39 (by kernel_rfl) rfl #[.string a0] rfl (by (try simp only [List.map_toArray, List.map_cons, List.map_nil]); first | done | rfl | (simp only [List.length_drop, List.length_take]; rfl)) ?_; (with_reducible refine (qanatlaw03_small.calls a0 true _ A8.out).mono ?_); rintro e w' ⟨rfl, ⟨nd, rfl⟩⟩; refine ⟨_, rfl, ?_⟩) | (go_at_call 39; (with_reducible refine (qanatlaw03_small.calls a1 true _ A10.out).mono ?_); rintro e w' ⟨rfl, ⟨nd, rfl⟩⟩))
          go_meet
          case rel => exact ⟨_, ((t493 != 0)), (by first | rfl | (simp; done) | (simp [*]; done)), H', ⟨by first | omega | exact Nat.le_refl _⟩, ⟨by (with_reducible repeat (first | apply Kd.R_alloc | apply Kd.R_drewN | apply Kd.R_drew)); exact Kd.R_mono HO489.out (fun _ hk => hk.2)⟩, ⟨by (with_reducible repeat (first | apply Kd.R_alloc | apply Kd.R_drewN | apply Kd.R_drew)); exact Kd.R_mono HO495.out (fun _ hk => hk.2)⟩, ⟨by repeat (first | (with_reducible first | exact HB.out | apply below_alloc | apply pw_below_drewN | apply below_drew1) | exact HB.out)⟩⟩
        · rw [if_neg c12] at H
          have c12b0 : (t487 == 0) = false := beq_eq_false_iff_ne.mpr c12
          have c12b1 : (t487 != 0) = true := bne_iff_ne.mpr c12
          (first | rw [c12b0] | (simp only [i64_w, i32_w]; rw [c12b0]) | skip)
          have H' := Aside0.mk H
          clear H
          go_wp2_with (first | ((with_reducible refine gate_callee (f := 39) rfl ?_); refine goesL_ (some 40) rfl rfl Tryz.func39 (by kernel_rfl) rfl #[.string a0] rfl (by (try simp only [List.map_toArray, List.map_cons, List.map_nil]); first | done | rfl | (simp only [List.length_drop, List.length_take]; rfl)) ?_; (with_reducible refine (qanatlaw03_small.calls a0 true _ A8.out).mono ?_); rintro e w' ⟨rfl, ⟨nd, rfl⟩⟩; refine ⟨_, rfl, ?_⟩) | (go_at_call 39; (with_reducible refine (qanatlaw03_small.calls a1 true _ A10.out).mono ?_); rintro e w' ⟨rfl, ⟨nd, rfl⟩⟩))
          go_meet
          case rel => exact ⟨_, (true), (by first | rfl | (simp; done) | (simp [*]; done)), H', ⟨by first | omega | exact Nat.le_refl _⟩, ⟨by (with_reducible repeat (first | apply Kd.R_alloc | apply Kd.R_drewN | apply Kd.R_drew)); exact Kd.R_mono HO489.out (fun _ hk => hk.2)⟩, ⟨by (with_reducible repeat (first | apply Kd.R_alloc | apply Kd.R_drewN | apply Kd.R_drew)); exact Kd.R_mono HO495.out (fun _ hk => hk.2)⟩, ⟨by repeat (first | (with_reducible first | exact HB.out | apply below_alloc | apply pw_below_drewN | apply below_drew1) | exact HB.out)⟩⟩
      · replace c11 := Bool.eq_false_iff.mpr c11
        subst c11
        have H1 : (qanatlaw03_ScanLocal.j0 k a0 a1 t484 t490 true) = some r := by rw [if_neg (show ¬ (false = true) by decide)] at H; exact H
        clear H
        have H := H1
        clear H1
        have H' := Aside0.mk H
        clear H
        go_wp2_with (first | ((with_reducible refine gate_callee (f := 39) rfl ?_); refine goesL_ (some 40) rfl rfl Tryz.func39 (by kernel_rfl) rfl #[.string a0] rfl (by (try simp only [List.map_toArray, List.map_cons, List.map_nil]); first | done | rfl | (simp only [List.length_drop, List.length_take]; rfl)) ?_; (with_reducible refine (qanatlaw03_small.calls a0 true _ A8.out).mono ?_); rintro e w' ⟨rfl, ⟨nd, rfl⟩⟩; refine ⟨_, rfl, ?_⟩) | (go_at_call 39; (with_reducible refine (qanatlaw03_small.calls a1 false _ A10.out).mono ?_); rintro e w' ⟨rfl, ⟨nd, rfl⟩⟩))
        go_meet
        case rel => exact ⟨_, (true), (by first | rfl | (simp; done) | (simp [*]; done)), H', ⟨by first | omega | exact Nat.le_refl _⟩, ⟨by (with_reducible repeat (first | apply Kd.R_alloc | apply Kd.R_drewN | apply Kd.R_drew)); exact Kd.R_mono HO489.out (fun _ hk => hk.2)⟩, ⟨by (with_reducible repeat (first | apply Kd.R_alloc | apply Kd.R_drewN | apply Kd.R_drew)); exact Kd.R_mono HO495.out (fun _ hk => hk.2)⟩, ⟨by repeat (first | (with_reducible first | exact HB.out | apply below_alloc | apply pw_below_drewN | apply below_drew1) | exact HB.out)⟩⟩
    · replace c9 := Bool.eq_false_iff.mpr c9
      subst c9
      have H1 : (qanatlaw03_ScanLocal.j0 k a0 a1 t484 t490 true) = some r := by rw [if_neg (show ¬ (false = true) by decide)] at H; exact H
      clear H
      have H := H1
      clear H1
      have H' := Aside0.mk H
      clear H
      go_wp2_with (first | ((with_reducible refine gate_callee (f := 39) rfl ?_); refine goesL_ (some 40) rfl rfl Tryz.func39 (by kernel_rfl) rfl #[.string a0] rfl (by (try simp only [List.map_toArray, List.map_cons, List.map_nil]); first | done | rfl | (simp only [List.length_drop, List.length_take]; rfl)) ?_; (with_reducible refine (qanatlaw03_small.calls a0 false _ A8.out).mono ?_); rintro e w' ⟨rfl, ⟨nd, rfl⟩⟩; refine ⟨_, rfl, ?_⟩))
      go_meet
      case rel => exact ⟨_, (true), (by first | rfl | (simp; done) | (simp [*]; done)), H', ⟨by first | omega | exact Nat.le_refl _⟩, ⟨by (with_reducible repeat (first | apply Kd.R_alloc | apply Kd.R_drewN | apply Kd.R_drew)); exact Kd.R_mono HO489.out (fun _ hk => hk.2)⟩, ⟨by (with_reducible repeat (first | apply Kd.R_alloc | apply Kd.R_drewN | apply Kd.R_drew)); exact Kd.R_mono HO495.out (fun _ hk => hk.2)⟩, ⟨by repeat (first | (with_reducible first | exact HB.out | apply below_alloc | apply pw_below_drewN | apply below_drew1) | exact HB.out)⟩⟩
  case rest =>
    clear HC5
    try clear c1
    try clear p2
    try clear c3
    try clear c8
    try clear c9
    try clear c11
    try clear c12
    try clear c12b0
    try clear c12b1
    obtain ⟨kq, x54_4, rfl, HA, HJ4, HO_5, HO_9, HB⟩ := hcut
    cases kq with
    | zero => exact absurd HA.out (by simp [qanatlaw03_ScanLocal.j0])
    | succ kj4 =>
      have H := HA.out
      clear HA
      simp only [qanatlaw03_ScanLocal.j0] at H
      by_cases c13 : x54_4 = true
      · subst c13
        have H1 : ((qanatlaw03_sanity.f).bind fun t498 => (some t498)) = some r := by rw [if_pos rfl] at H; exact H
        clear H
        have H := H1
        clear H1
        replace H := Option.bind_eq_some_iff.mp H
        obtain ⟨t498, A140, H⟩ := H
        replace H : (some t498) = some r := H
        have A14 := Aside0.mk A140
        clear A140
        obtain rfl := Option.some.inj H
        go_wp2_with (first | ((with_reducible refine gate_callee (f := 16) rfl ?_); refine goesL_ (some 55) rfl rfl Tryz.func16 (by kernel_rfl) rfl #[] rfl (by (try simp only [List.map_toArray, List.map_cons, List.map_nil]); first | done | rfl | (simp only [List.length_drop, List.length_take]; rfl)) ?_; (with_reducible refine (qanatlaw03_sanity.calls  t498 _ (TabOK.of_below hT (by repeat (first | (with_reducible first | exact HB.out | apply below_alloc | apply pw_below_drewN | apply below_drew1) | exact HB.out))) A14.out).mono ?_); rintro e w15 ⟨rfl, hb⟩; refine ⟨_, rfl, ?_⟩; have n0_ := Aside0.mk (Kd.R_below (by (with_reducible repeat (first | apply Kd.R_alloc | apply Kd.R_drewN | apply Kd.R_drew)); exact HO_5.out) hb); have n1_ := Aside0.mk (Kd.R_below (by (with_reducible repeat (first | apply Kd.R_alloc | apply Kd.R_drewN | apply Kd.R_drew)); exact HO_9.out) hb); have n2_ := Aside0.mk (below_step (by repeat (first | (with_reducible first | exact HB.out | apply below_alloc | apply pw_below_drewN | apply below_drew1) | exact HB.out)) hb); clear HO_5; clear HO_9; clear HB; have HO_5 := n0_; have HO_9 := n1_; have HB := n2_; clear n0_ n1_ n2_; (try clear hb); (try clear hb2); (try clear hk); (try clear hi)))
        go_ret
        exact ⟨by first | rfl | (simp [errW_none, errW_some] <;> rfl) | (simp [*, errW_none, errW_some] <;> rfl), by repeat (first | (with_reducible first | exact HB.out | apply below_alloc | apply pw_below_drewN | apply below_drew1) | exact HB.out)⟩
      · replace c13 := Bool.eq_false_iff.mpr c13
        subst c13
        have H1 : (if a0.size + 1 ≤ 9223372036854775807 then ((scan_Tokens.f (a0 ++ (⟨#[59]⟩ : ByteArray))).bind fun bt499 => (if bt499.2.2.2 = 0 then (if (bt499.1.length : Int) > 1 then (if 0 ≤ (wrap64 ((bt499.1.length : Int) - 2)) then (if (wrap64 ((bt499.1.length : Int) - 2)) < (bt499.1.length : Int) then (if ((rd_T53 bt499.1 (wrap64 ((bt499.1.length : Int) - 2))).f0) = 3 then (qanatlaw03_ScanLocal.j1 kj4 a0 a1 t484 t490 bt499.2.2.2 (((rd_T53 bt499.1 (wrap64 ((bt499.1.length : Int) - 2))).f1).toList == ([44] : List UInt8))) else (qanatlaw03_ScanLocal.j1 kj4 a0 a1 t484 t490 bt499.2.2.2 false)) else (none)) else (none)) else (qanatlaw03_ScanLocal.j1 kj4 a0 a1 t484 t490 bt499.2.2.2 false)) else (qanatlaw03_ScanLocal.j1 kj4 a0 a1 t484 t490 bt499.2.2.2 true))) else (none)) = some r := by rw [if_neg (show ¬ (false = true) by decide)] at H; exact H
        clear H
        have H := H1
        clear H1
        by_cases c16 : a0.size + 1 ≤ 9223372036854775807
        · rw [if_pos c16] at H
          have c16b0 := eq_true c16
          have c16b1 : decide (a0.size + 1 ≤ 9223372036854775807) = true := decide_eq_true c16
          try have c16b2 : (9223372036854775807 < a0.size + 1) = False := eq_false (Nat.not_lt.2 c16)
          replace H := Option.bind_eq_some_iff.mp H
          obtain ⟨⟨t499, t500, t501, t502⟩, A170, H⟩ := H
          replace H : (if t502 = 0 then (if (t499.length : Int) > 1 then (if 0 ≤ (wrap64 ((t499.length : Int) - 2)) then (if (wrap64 ((t499.length : Int) - 2)) < (t499.length : Int) then (if ((rd_T53 t499 (wrap64 ((t499.length : Int) - 2))).f0) = 3 then (qanatlaw03_ScanLocal.j1 kj4 a0 a1 t484 t490 t502 (((rd_T53 t499 (wrap64 ((t499.length : Int) - 2))).f1).toList == ([44] : List UInt8))) else (qanatlaw03_ScanLocal.j1 kj4 a0 a1 t484 t490 t502 false)) else (none)) else (none)) else (qanatlaw03_ScanLocal.j1 kj4 a0 a1 t484 t490 t502 false)) else (qanatlaw03_ScanLocal.j1 kj4 a0 a1 t484 t490 t502 true)) = some r := H
          have A17 := Aside0.mk A170
          clear A170
          have HC18 := Aside0.mk H
          clear H
          go_upto_region 7 with (first | ((with_reducible refine gate_callee (f := 17) rfl ?_); refine goesL_ (some 59) rfl rfl Tryz.func17 (by kernel_rfl) rfl #[.string (a0 ++ (⟨#[59]⟩ : ByteArray))] rfl (by (try simp only [List.map_toArray, List.map_cons, List.map_nil]); first | done | rfl | (simp only [List.length_drop, List.length_take]; rfl)) ?_; (with_reducible refine (scan_Tokens.calls (a0 ++ (⟨#[59]⟩ : ByteArray)) t499 t500 t501 t502 _ (TabOK.of_below hT (by repeat (first | (with_reducible first | exact HB.out | apply below_alloc | apply pw_below_drewN | apply below_drew1) | exact HB.out))) A17.out).mono ?_); rintro e w19 ⟨v503, rfl, ho0, hb⟩; refine ⟨_, rfl, ?_⟩; have n0_ := Aside0.mk (Kd.R_elder' (by (with_reducible repeat (first | apply Kd.R_alloc | apply Kd.R_drewN | apply Kd.R_drew)); exact HO_5.out) (Kd.R_base ho0) hb); have n1_ := Aside0.mk (Kd.R_elder' (by (with_reducible repeat (first | apply Kd.R_alloc | apply Kd.R_drewN | apply Kd.R_drew)); exact HO_9.out) (Kd.R_base ho0) hb); have n2_ := Aside0.mk (Kd.R_lower (Kd.R_new' (Kd.R_new' ho0 (Kd.R_lt (by (with_reducible repeat (first | apply Kd.R_alloc | apply Kd.R_drewN | apply Kd.R_drew)); exact HO_5.out))) (Kd.R_lt (by (with_reducible repeat (first | apply Kd.R_alloc | apply Kd.R_drewN | apply Kd.R_drew)); exact HO_9.out))) (below_size (by repeat (first | (with_reducible first | exact HB.out | apply below_alloc | apply pw_below_drewN | apply below_drew1) | exact HB.out)))); have n3_ := Aside0.mk (below_step (by repeat (first | (with_reducible first | exact HB.out | apply below_alloc | apply pw_below_drewN | apply below_drew1) | exact HB.out)) hb); clear HO_5; clear HO_9; clear HB; have HO_5 := n0_; have HO_9 := n1_; have HO504 := n2_; have HB := n3_; clear n0_ n1_ n2_ n3_; (try clear hb); (try clear hb2); (try clear hk); (try clear hi); (try clear ho0); obtain ⟨Ao20, co20, eo20⟩ := Kd.R_slice HO504.out; subst eo20))
          (try simp only [Act.put, List.setIfInBounds_toArray, List.set_cons_zero, List.set_cons_succ])
          go_cut [89] (fun v89 wc => ∃ (kq : Nat) (x89_17 : Bool), v89 = .bool x89_17 ∧ Aside0 (qanatlaw03_ScanLocal.j1 kq a0 a1 t484 t490 t502 x89_17 = some r) ∧ Aside0 (kq ≤ kj4) ∧ Aside0 (Kd.R k53 53 wc w.heap.size (fun k_ => some k_ ≠ (v494 : Value).ownBlock) v488 t484) ∧ Aside0 (Kd.R k53 53 wc w.heap.size (fun k_ => some k_ ≠ (v488 : Value).ownBlock) v494 t490) ∧ Aside0 (Below w.heap.size w wc))
          case first =>
            as_aux_lemma =>
            have H := HC18.out
            clear HC18
            by_cases c21 : t502 = 0
            · rw [if_pos c21] at H
              have c21b0 : (t502 == 0) = true := beq_iff_eq.mpr c21
              have c21b1 : (t502 != 0) = false := bne_eq_false_iff_eq.mpr c21
              clear c21
              (first | rw [c21b0] | (simp only [i64_w, i32_w]; rw [c21b0]) | skip)
              by_cases c22 : (t499.length : Int) > 1
              · rw [if_pos c22] at H
                have c22b0 : decide (1 < (t499.length : Int)) = true := decide_eq_true c22
                have c22b1 : decide (1 < t499.length) = true := decide_eq_true (by omega)
                clear c22
                obtain ⟨ji23, hji23⟩ : ∃ j_ : Int, (wrap64 ((t499.length : Int) - 2)) = j_ := ⟨_, rfl⟩
                replace H : (if 0 ≤ (ji23) then (if (ji23) < (t499.length : Int) then (if ((rd_T53 t499 (ji23)).f0) = 3 then (qanatlaw03_ScanLocal.j1 kj4 a0 a1 t484 t490 t502 (((rd_T53 t499 (ji23)).f1).toList == ([44] : List UInt8))) else (qanatlaw03_ScanLocal.j1 kj4 a0 a1 t484 t490 t502 false)) else (none)) else (none)) = some r := by first | (rw [hji23] at H; exact H) | (simp only [hji23] at H ⊢; exact H)
                have hji23w : (IntKind.i64.wrap ((t499.length : Int) - 2)) = ji23 := (i64_w _).trans hji23
                by_cases c24 : 0 ≤ (ji23)
                · rw [if_pos c24] at H
                  have c24b0 : decide (0 ≤ (ji23)) = true := decide_eq_true c24
                  clear c24
                  by_cases c25 : (ji23) < (t499.length : Int)
                  · rw [if_pos c25] at H
                    have c25b0 : decide ((ji23) < (t499.length : Int)) = true := decide_eq_true c25
                    clear c25
                    by_cases c26 : ((rd_T53 t499 (ji23)).f0) = 3
                    · rw [if_pos c26] at H
                      have c26b0 : (((rd_T53 t499 (ji23)).f0) == 3) = true := beq_iff_eq.mpr c26
                      have c26b1 : (((rd_T53 t499 (ji23)).f0) != 3) = false := bne_eq_false_iff_eq.mpr c26
                      clear c26
                      have H' := Aside0.mk H
                      clear H
                      have p505 : 0 ≤ ((ji23) : Int) := of_decide_eq_true (by first | (with_reducible assumption) | assumption)
                      have q505 : (ji23) < (t499.length : Int) := of_decide_eq_true (by first | (with_reducible assumption) | assumption)
                      obtain ⟨ad505, e505, hx505_0, hx505_1, hx505_2, hx505_3, hx505_4, hx505_5⟩ := at_T53 (Kd.R_reads' HO504.out).2.2 (ji23) p505 q505
                      cases e505
                      replace p505 := eq_true p505
                      replace q505 := eq_true q505
                      have p506 : 0 ≤ ((ji23) : Int) := of_decide_eq_true (by first | (with_reducible assumption) | assumption)
                      have q506 : (ji23) < (t499.length : Int) := of_decide_eq_true (by first | (with_reducible assumption) | assumption)
                      obtain ⟨ad506, e506, hx506_0, hx506_1, hx506_2, hx506_3, hx506_4, hx506_5⟩ := at_T53 (Kd.R_reads' HO504.out).2.2 (ji23) p506 q506
                      obtain rfl : ad505 = ad506 := (by injection e506)
                      replace p506 := eq_true p506
                      replace q506 := eq_true q506
                      go_wp2
                      go_meet
                      case rel => exact ⟨_, ((((rd_T53 t499 (ji23)).f1).toList == ([44] : List UInt8))), (by first | rfl | (simp; done) | (simp only [← hji23] <;> (first | rfl | simp)) | (simp [*]; done)), H', ⟨by have := HJ4.out; first | omega | exact Nat.le_refl _⟩, ⟨by (with_reducible repeat (first | apply Kd.R_alloc | apply Kd.R_drewN | apply Kd.R_drew)); exact Kd.R_mono HO_5.out (fun _ hk => hk.1)⟩, ⟨by (with_reducible repeat (first | apply Kd.R_alloc | apply Kd.R_drewN | apply Kd.R_drew)); exact Kd.R_mono HO_9.out (fun _ hk => hk.1)⟩, ⟨by repeat (first | (with_reducible first | exact HB.out | apply below_alloc | apply pw_below_drewN | apply below_drew1) | exact HB.out)⟩⟩
                    · rw [if_neg c26] at H
                      have c26b0 : (((rd_T53 t499 (ji23)).f0) == 3) = false := beq_eq_false_iff_ne.mpr c26
                      have c26b1 : (((rd_T53 t499 (ji23)).f0) != 3) = true := bne_iff_ne.mpr c26
                      have H' := Aside0.mk H
                      clear H
                      have p505 : 0 ≤ ((ji23) : Int) := of_decide_eq_true (by first | (with_reducible assumption) | assumption)
                      have q505 : (ji23) < (t499.length : Int) := of_decide_eq_true (by first | (with_reducible assumption) | assumption)
                      obtain ⟨ad505, e505, hx505_0, hx505_1, hx505_2, hx505_3, hx505_4, hx505_5⟩ := at_T53 (Kd.R_reads' HO504.out).2.2 (ji23) p505 q505
                      cases e505
                      replace p505 := eq_true p505
                      replace q505 := eq_true q505
                      go_wp2
                      go_meet
                      case rel => exact ⟨_, (false), (by first | rfl | (simp; done) | (simp [*]; done)), H', ⟨by have := HJ4.out; first | omega | exact Nat.le_refl _⟩, ⟨by (with_reducible repeat (first | apply Kd.R_alloc | apply Kd.R_drewN | apply Kd.R_drew)); exact Kd.R_mono HO_5.out (fun _ hk => hk.1)⟩, ⟨by (with_reducible repeat (first | apply Kd.R_alloc | apply Kd.R_drewN | apply Kd.R_drew)); exact Kd.R_mono HO_9.out (fun _ hk => hk.1)⟩, ⟨by repeat (first | (with_reducible first | exact HB.out | apply below_alloc | apply pw_below_drewN | apply below_drew1) | exact HB.out)⟩⟩
                  · rw [if_neg c25] at H
                    exact absurd H (by simp)
                · rw [if_neg c24] at H
                  exact absurd H (by simp)
              · rw [if_neg c22] at H
                have c22b0 : decide (1 < (t499.length : Int)) = false := decide_eq_false c22
                have c22b1 : decide (1 < t499.length) = false := decide_eq_false (by omega)
                clear c22
                have H' := Aside0.mk H
                clear H
                go_wp2
                go_meet
                case rel => exact ⟨_, (false), (by first | rfl | (simp; done) | (simp [*]; done)), H', ⟨by have := HJ4.out; first | omega | exact Nat.le_refl _⟩, ⟨by (with_reducible repeat (first | apply Kd.R_alloc | apply Kd.R_drewN | apply Kd.R_drew)); exact Kd.R_mono HO_5.out (fun _ hk => hk.1)⟩, ⟨by (with_reducible repeat (first | apply Kd.R_alloc | apply Kd.R_drewN | apply Kd.R_drew)); exact Kd.R_mono HO_9.out (fun _ hk => hk.1)⟩, ⟨by repeat (first | (with_reducible first | exact HB.out | apply below_alloc | apply pw_below_drewN | apply below_drew1) | exact HB.out)⟩⟩
            · rw [if_neg c21] at H
              have c21b0 : (t502 == 0) = false := beq_eq_false_iff_ne.mpr c21
              have c21b1 : (t502 != 0) = true := bne_iff_ne.mpr c21
              (first | rw [c21b0] | (simp only [i64_w, i32_w]; rw [c21b0]) | skip)
              have H' := Aside0.mk H
              clear H
              go_wp2
              go_meet
              case rel => exact ⟨_, (true), (by first | rfl | (simp; done) | (simp [*]; done)), H', ⟨by have := HJ4.out; first | omega | exact Nat.le_refl _⟩, ⟨by (with_reducible repeat (first | apply Kd.R_alloc | apply Kd.R_drewN | apply Kd.R_drew)); exact Kd.R_mono HO_5.out (fun _ hk => hk.1)⟩, ⟨by (with_reducible repeat (first | apply Kd.R_alloc | apply Kd.R_drewN | apply Kd.R_drew)); exact Kd.R_mono HO_9.out (fun _ hk => hk.1)⟩, ⟨by repeat (first | (with_reducible first | exact HB.out | apply below_alloc | apply pw_below_drewN | apply below_drew1) | exact HB.out)⟩⟩
          case rest =>
            clear HC18
            try clear c1
            try clear c2
            try clear p2
            try clear c3
            try clear p5
            try clear q5
            try clear hx5
            try clear p6
            try clear c8
            try clear c9
            try clear c11
            try clear c12
            try clear c12b0
            try clear c12b1
            try clear c13
            try clear c16
            try clear c16b0
            try clear c16b1
            try clear c16b2
            try clear c17
            try clear c21
            try clear c21b0
            try clear c21b1
            try clear c22
            try clear c22b0
            try clear c22b1
            try clear c24
            try clear c24b0
            try clear c25
            try clear c25b0
            try clear c26
            try clear c26b0
            try clear c26b1
            try clear hx505_0
            try clear hx505_1
            try clear hx505_2
            try clear hx505_3
            try clear hx505_4
            try clear hx505_5
            try clear hx506_0
            try clear hx506_1
            try clear hx506_2
            try clear hx506_3
            try clear hx506_4
            try clear hx506_5
            try clear p2
            try clear p505
            try clear p506
            try clear q505
            try clear q506
            obtain ⟨kq, x89_17, rfl, HA, HJ17, HO_5, HO_9, HB⟩ := hcut
            cases kq with
            | zero => exact absurd HA.out (by simp [qanatlaw03_ScanLocal.j1])
            | succ kj17 =>
              have H := HA.out
              clear HA
              simp only [qanatlaw03_ScanLocal.j1] at H
              by_cases c27 : x89_17 = true
              · subst c27
                have H1 : ((qanatlaw03_sanity.f).bind fun t507 => (if t507 = true then (some (t502 == 0)) else (some false))) = some r := by rw [if_pos rfl] at H; exact H
                clear H
                have H := H1
                clear H1
                replace H := Option.bind_eq_some_iff.mp H
                obtain ⟨t507, A280, H⟩ := H
                replace H : (if t507 = true then (some (t502 == 0)) else (some false)) = some r := H
                have A28 := Aside0.mk A280
                clear A280
                by_cases c29 : t507 = true
                · subst c29
                  have H1 : (some (t502 == 0)) = some r := by rw [if_pos rfl] at H; exact H
                  clear H
                  have H := H1
                  clear H1
                  obtain rfl := Option.some.inj H
                  go_wp2_with (first | ((with_reducible refine gate_callee (f := 16) rfl ?_); refine goesL_ (some 90) rfl rfl Tryz.func16 (by kernel_rfl) rfl #[] rfl (by (try simp only [List.map_toArray, List.map_cons, List.map_nil]); first | done | rfl | (simp only [List.length_drop, List.length_take]; rfl)) ?_; (with_reducible refine (qanatlaw03_sanity.calls  true _ (TabOK.of_below hT (by repeat (first | (with_reducible first | exact HB.out | apply below_alloc | apply pw_below_drewN | apply below_drew1) | exact HB.out))) A28.out).mono ?_); rintro e w30 ⟨rfl, hb⟩; refine ⟨_, rfl, ?_⟩; have n0_ := Aside0.mk (Kd.R_below (by (with_reducible repeat (first | apply Kd.R_alloc | apply Kd.R_drewN | apply Kd.R_drew)); exact HO_5.out) hb); have n1_ := Aside0.mk (Kd.R_below (by (with_reducible repeat (first | apply Kd.R_alloc | apply Kd.R_drewN | apply Kd.R_drew)); exact HO_9.out) hb); have n2_ := Aside0.mk (below_step (by repeat (first | (with_reducible first | exact HB.out | apply below_alloc | apply pw_below_drewN | apply below_drew1) | exact HB.out)) hb); clear HO_5; clear HO_9; clear HB; have HO_5 := n0_; have HO_9 := n1_; have HB := n2_; clear n0_ n1_ n2_; (try clear hb); (try clear hb2); (try clear hk); (try clear hi)))
                  go_ret
                  exact ⟨by first | rfl | (simp [errW_none, errW_some] <;> rfl) | (simp [*, errW_none, errW_some] <;> rfl), by repeat (first | (with_reducible first | exact HB.out | apply below_alloc | apply pw_below_drewN | apply below_drew1) | exact HB.out)⟩
                · replace c29 := Bool.eq_false_iff.mpr c29
                  subst c29
                  have H1 : (some false) = some r := by rw [if_neg (show ¬ (false = true) by decide)] at H; exact H
                  clear H
                  have H := H1
                  clear H1
                  exact absurd ((Option.some.inj H).trans hr) (by decide)
              · replace c27 := Bool.eq_false_iff.mpr c27
                subst c27
                have H1 : (if a0.size + 1 ≤ 9223372036854775807 then (if (a0 ++ (⟨#[10]⟩ : ByteArray)).size + a1.size ≤ 9223372036854775807 then ((scan_Tokens.f ((a0 ++ (⟨#[10]⟩ : ByteArray)) ++ a1)).bind fun bt508 => (if bt508.2.2.2 = 0 then (if (bt508.1.length : Int) = (wrap64 ((t484.length : Int) + (t490.length : Int))) then (if 0 ≤ (t484.length : Int) then (if (t484.length : Int) ≤ (bt508.1.length : Int) then ((qanatref03_Same.f kj17 (bt508.1.take ((t484.length : Int) : Int).toNat) t484).bind fun t518 => (qanatlaw03_ScanLocal.j2 kj17 a0 t484 t490 bt508.1 (!t518))) else (none)) else (none)) else (qanatlaw03_ScanLocal.j2 kj17 a0 t484 t490 bt508.1 true)) else (qanatlaw03_ScanLocal.j2 kj17 a0 t484 t490 bt508.1 true))) else (none)) else (none)) = some r := by rw [if_neg (show ¬ (false = true) by decide)] at H; exact H
                clear H
                have H := H1
                clear H1
                by_cases c32 : a0.size + 1 ≤ 9223372036854775807
                · rw [if_pos c32] at H
                  have c32b0 := eq_true c32
                  have c32b1 : decide (a0.size + 1 ≤ 9223372036854775807) = true := decide_eq_true c32
                  try have c32b2 : (9223372036854775807 < a0.size + 1) = False := eq_false (Nat.not_lt.2 c32)
                  by_cases c33 : (a0 ++ (⟨#[10]⟩ : ByteArray)).size + a1.size ≤ 9223372036854775807
                  · rw [if_pos c33] at H
                    have c33b0 := eq_true c33
                    have c33b1 : decide ((a0 ++ (⟨#[10]⟩ : ByteArray)).size + a1.size ≤ 9223372036854775807) = true := decide_eq_true c33
                    try have c33b2 : (9223372036854775807 < (a0 ++ (⟨#[10]⟩ : ByteArray)).size + a1.size) = False := eq_false (Nat.not_lt.2 c33)
                    replace H := Option.bind_eq_some_iff.mp H
                    obtain ⟨⟨t508, t509, t510, t511⟩, A340, H⟩ := H
                    replace H : (if t511 = 0 then (if (t508.length : Int) = (wrap64 ((t484.length : Int) + (t490.length : Int))) then (if 0 ≤ (t484.length : Int) then (if (t484.length : Int) ≤ (t508.length : Int) then ((qanatref03_Same.f kj17 (t508.take ((t484.length : Int) : Int).toNat) t484).bind fun t518 => (qanatlaw03_ScanLocal.j2 kj17 a0 t484 t490 t508 (!t518))) else (none)) else (none)) else (qanatlaw03_ScanLocal.j2 kj17 a0 t484 t490 t508 true)) else (qanatlaw03_ScanLocal.j2 kj17 a0 t484 t490 t508 true)) = some r := H
                    have A34 := Aside0.mk A340
                    clear A340
                    have HC35 := Aside0.mk H
                    clear H
                    go_upto_region 10 with (first | ((with_reducible refine gate_callee (f := 17) rfl ?_); refine goesL_ (some 100) rfl rfl Tryz.func17 (by kernel_rfl) rfl #[.string ((a0 ++ (⟨#[10]⟩ : ByteArray)) ++ a1)] rfl (by (try simp only [List.map_toArray, List.map_cons, List.map_nil]); first | done | rfl | (simp only [List.length_drop, List.length_take]; rfl)) ?_; (with_reducible refine (scan_Tokens.calls ((a0 ++ (⟨#[10]⟩ : ByteArray)) ++ a1) t508 t509 t510 t511 _ (TabOK.of_below hT (by repeat (first | (with_reducible first | exact HB.out | apply below_alloc | apply pw_below_drewN | apply below_drew1) | exact HB.out))) A34.out).mono ?_); rintro e w36 ⟨v512, rfl, ho0, hb⟩; refine ⟨_, rfl, ?_⟩; have n0_ := Aside0.mk (Kd.R_elder' (by (with_reducible repeat (first | apply Kd.R_alloc | apply Kd.R_drewN | apply Kd.R_drew)); exact HO_5.out) (Kd.R_base ho0) hb); have n1_ := Aside0.mk (Kd.R_elder' (by (with_reducible repeat (first | apply Kd.R_alloc | apply Kd.R_drewN | apply Kd.R_drew)); exact HO_9.out) (Kd.R_base ho0) hb); have n2_ := Aside0.mk (Kd.R_lower (Kd.R_new' (Kd.R_new' ho0 (Kd.R_lt (by (with_reducible repeat (first | apply Kd.R_alloc | apply Kd.R_drewN | apply Kd.R_drew)); exact HO_5.out))) (Kd.R_lt (by (with_reducible repeat (first | apply Kd.R_alloc | apply Kd.R_drewN | apply Kd.R_drew)); exact HO_9.out))) (below_size (by repeat (first | (with_reducible first | exact HB.out | apply below_alloc | apply pw_below_drewN | apply below_drew1) | exact HB.out)))); have n3_ := Aside0.mk (below_step (by repeat (first | (with_reducible first | exact HB.out | apply below_alloc | apply pw_below_drewN | apply below_drew1) | exact HB.out)) hb); clear HO_5; clear HO_9; clear HB; have HO_5 := n0_; have HO_9 := n1_; have HO513 := n2_; have HB := n3_; clear n0_ n1_ n2_ n3_; (try clear hb); (try clear hb2); (try clear hk); (try clear hi); (try clear ho0)))
                    (try simp only [Act.put, List.setIfInBounds_toArray, List.set_cons_zero, List.set_cons_succ])
                    go_cut [125] (fun v125 wc => ∃ (kq : Nat) (x125_34 : Bool), v125 = .bool x125_34 ∧ Aside0 (qanatlaw03_ScanLocal.j2 kq a0 t484 t490 t508 x125_34 = some r) ∧ Aside0 (kq ≤ kj17) ∧ Aside0 (Kd.R k53 53 wc w.heap.size (fun k_ => some k_ ≠ (v494 : Value).ownBlock ∧ some k_ ≠ (v512 : Value).ownBlock) v488 t484) ∧ Aside0 (Kd.R k53 53 wc w.heap.size (fun k_ => some k_ ≠ (v488 : Value).ownBlock ∧ some k_ ≠ (v512 : Value).ownBlock) v494 t490) ∧ Aside0 (Kd.R k53 53 wc w.heap.size (fun k_ => some k_ ≠ (v488 : Value).ownBlock ∧ some k_ ≠ (v494 : Value).ownBlock) v512 t508) ∧ Aside0 (Below w.heap.size w wc))
                    case first =>
                      as_aux_lemma =>
                      have H := HC35.out
                      clear HC35
                      by_cases c37 : t511 = 0
                      · rw [if_pos c37] at H
                        have c37b0 : (t511 == 0) = true := beq_iff_eq.mpr c37
                        have c37b1 : (t511 != 0) = false := bne_eq_false_iff_eq.mpr c37
                        clear c37
                        (first | rw [c37b0] | (simp only [i64_w, i32_w]; rw [c37b0]) | skip)
                        by_cases c38 : (t508.length : Int) = (wrap64 ((t484.length : Int) + (t490.length : Int)))
                        · rw [if_pos c38] at H
                          have c38b0 : ((t508.length : Int) == (wrap64 ((t484.length : Int) + (t490.length : Int)))) = true := beq_iff_eq.mpr c38
                          have c38b1 : ((t508.length : Int) != (wrap64 ((t484.length : Int) + (t490.length : Int)))) = false := bne_eq_false_iff_eq.mpr c38
                          clear c38
                          by_cases c39 : 0 ≤ (t484.length : Int)
                          · rw [if_pos c39] at H
                            have c39b0 := eq_true c39
                            have c39b1 : decide (0 ≤ (t484.length : Int)) = true := decide_eq_true c39
                            clear c39
                            by_cases c40 : (t484.length : Int) ≤ (t508.length : Int)
                            · rw [if_pos c40] at H
                              have c40b0 := eq_true c40
                              have c40b1 : decide ((t484.length : Int) ≤ (t508.length : Int)) = true := decide_eq_true c40
                              clear c40
                              obtain ⟨y514, hy514⟩ : ∃ y_ : List (S53), y_ = (t508.take ((t484.length : Int) : Int).toNat) := ⟨_, rfl⟩
                              replace H : ((qanatref03_Same.f kj17 y514 t484).bind fun t518 => (qanatlaw03_ScanLocal.j2 kj17 a0 t484 t490 t508 (!t518))) = some r := by first | (rw [hy514]; with_reducible exact H) | (have H2_ := (Option.bind_some _ _).symm.trans H; rw [hy514]; with_reducible exact H2_) | (have H2_ := (Option.bind_some _ _).symm.trans H; with_reducible exact H2_) | with_reducible exact H | (rw [hy514]; exact H) | exact H
                              have Ny514 := Aside0.mk hy514
                              clear hy514
                              replace H := Option.bind_eq_some_iff.mp H
                              obtain ⟨t518, A410, H⟩ := H
                              replace H : (qanatlaw03_ScanLocal.j2 kj17 a0 t484 t490 t508 (!t518)) = some r := H
                              have A41 := Aside0.mk A410
                              clear A410
                              have H' := Aside0.mk H
                              clear H
                              obtain ⟨Ao42, co42, eo42⟩ := Kd.R_slice HO513.out
                              subst eo42
                              obtain ⟨Ao43, co43, eo43⟩ := Kd.R_slice HO_5.out
                              subst eo43
                              obtain ⟨Ao44, co44, eo44⟩ := Kd.R_slice HO_9.out
                              subst eo44
                              have q45 : ((t484.length : Int) : Int) ≤ ((t508.length : Int) : Int) := of_decide_eq_true (by first | (with_reducible assumption) | assumption)
                              obtain ⟨i045, hi045, _, hsz45, _⟩ := info_parts info53
                              have hroom45 : t508.length ≤ co42 := (Kd.R_reads' HO513.out).2.1
                              have hC45 : Kd.C k53 _ Ao42 t508.length t508 := (Kd.R_reads' HO513.out).2.2
                              have hcut45 := cut_to (P := Tryz.prog) 24 53 .i64 Tryz.underlying24 hi045 Ao42 t508.length co42 (t484.length : Int) (of_decide_eq_true (by first | (with_reducible assumption) | assumption)) q45 hroom45
                              have hr45 := Kd.C_take (m := ((t484.length : Int) : Int).toNat) hC45 (by omega)
                              have hy45 : y514.length = ((t484.length : Int) : Int).toNat := (by rw [Ny514.out, List.length_take]; omega)
                              rw [← Ny514.out] at hr45
                              rw [← hy45] at hcut45
                              have HR517 := Aside0.mk hr45
                              have HC517 := Aside0.mk (show y514.length ≤ co42 from by omega)
                              clear hr45 hC45 hroom45 hi045 hsz45
                              have KY45 := Aside0.mk hy45
                              clear hy45
                              have KL45 := Aside0.mk (show ((t484.length : Int) : Int).toNat ≤ t508.length from by omega)
                              replace q45 := eq_true q45
                              go_wp2_with (first | (go_at_call 38; (with_reducible refine (qanatref03_Same.calls kj17 _ _ y514 _ _ t484 t518 _ ?side1 ?side2 ?side3 ?side4 A41.out).mono ?_); (case side1 => repeat (first | exact (by repeat (first | (with_reducible exact HR517.out) | (with_reducible refine Kd.C_alloc ?_ _) | (with_reducible refine Kd.C_drewN ?_ _) | (with_reducible refine Kd.C_drew ?_) | exact HR517.out)) | (with_reducible refine Kd.C_alloc ?_ _) | (with_reducible refine Kd.C_drewN ?_ _) | (with_reducible refine Kd.C_drew ?_))); (case side2 => exact HC517.out); (case side3 => repeat (first | exact (Kd.R_reads' HO_5.out).2.2 | (with_reducible refine Kd.C_alloc ?_ _) | (with_reducible refine Kd.C_drewN ?_ _) | (with_reducible refine Kd.C_drew ?_))); (case side4 => exact (Kd.R_reads' HO_5.out).2.1); rintro e w' ⟨rfl, ⟨nd, rfl⟩⟩))
                              go_meet
                              case rel => exact ⟨_, (!t518), (by first | rfl | (simp; done) | (simp [*]; done)), H', ⟨by have := HJ4.out; have := HJ17.out; first | omega | exact Nat.le_refl _⟩, ⟨by (with_reducible repeat (first | apply Kd.R_alloc | apply Kd.R_drewN | apply Kd.R_drew)); exact HO_5.out⟩, ⟨by (with_reducible repeat (first | apply Kd.R_alloc | apply Kd.R_drewN | apply Kd.R_drew)); exact HO_9.out⟩, ⟨by (with_reducible repeat (first | apply Kd.R_alloc | apply Kd.R_drewN | apply Kd.R_drew)); exact Kd.R_mono HO513.out (fun _ hk => ⟨hk.1.2, hk.2⟩)⟩, ⟨by repeat (first | (with_reducible first | exact HB.out | apply below_alloc | apply pw_below_drewN | apply below_drew1) | exact HB.out)⟩⟩
                            · rw [if_neg c40] at H
                              exact absurd H (by simp)
                          · rw [if_neg c39] at H
                            exact absurd H (by simp)
                        · rw [if_neg c38] at H
                          have c38b0 : ((t508.length : Int) == (wrap64 ((t484.length : Int) + (t490.length : Int)))) = false := beq_eq_false_iff_ne.mpr c38
                          have c38b1 : ((t508.length : Int) != (wrap64 ((t484.length : Int) + (t490.length : Int)))) = true := bne_iff_ne.mpr c38
                          have H' := Aside0.mk H
                          clear H
                          obtain ⟨Ao46, co46, eo46⟩ := Kd.R_slice HO513.out
                          subst eo46
                          obtain ⟨Ao47, co47, eo47⟩ := Kd.R_slice HO_5.out
                          subst eo47
                          obtain ⟨Ao48, co48, eo48⟩ := Kd.R_slice HO_9.out
                          subst eo48
                          go_wp2
                          go_meet
                          case rel => exact ⟨_, (true), (by first | rfl | (simp; done) | (simp [*]; done)), H', ⟨by have := HJ4.out; have := HJ17.out; first | omega | exact Nat.le_refl _⟩, ⟨by (with_reducible repeat (first | apply Kd.R_alloc | apply Kd.R_drewN | apply Kd.R_drew)); exact HO_5.out⟩, ⟨by (with_reducible repeat (first | apply Kd.R_alloc | apply Kd.R_drewN | apply Kd.R_drew)); exact HO_9.out⟩, ⟨by (with_reducible repeat (first | apply Kd.R_alloc | apply Kd.R_drewN | apply Kd.R_drew)); exact Kd.R_mono HO513.out (fun _ hk => ⟨hk.1.2, hk.2⟩)⟩, ⟨by repeat (first | (with_reducible first | exact HB.out | apply below_alloc | apply pw_below_drewN | apply below_drew1) | exact HB.out)⟩⟩
                      · rw [if_neg c37] at H
                        have c37b0 : (t511 == 0) = false := beq_eq_false_iff_ne.mpr c37
                        have c37b1 : (t511 != 0) = true := bne_iff_ne.mpr c37
                        (first | rw [c37b0] | (simp only [i64_w, i32_w]; rw [c37b0]) | skip)
                        have H' := Aside0.mk H
                        clear H
                        go_wp2
                        go_meet
                        case rel => exact ⟨_, (true), (by first | rfl | (simp; done) | (simp [*]; done)), H', ⟨by have := HJ4.out; have := HJ17.out; first | omega | exact Nat.le_refl _⟩, ⟨by (with_reducible repeat (first | apply Kd.R_alloc | apply Kd.R_drewN | apply Kd.R_drew)); exact HO_5.out⟩, ⟨by (with_reducible repeat (first | apply Kd.R_alloc | apply Kd.R_drewN | apply Kd.R_drew)); exact HO_9.out⟩, ⟨by (with_reducible repeat (first | apply Kd.R_alloc | apply Kd.R_drewN | apply Kd.R_drew)); exact Kd.R_mono HO513.out (fun _ hk => ⟨hk.1.2, hk.2⟩)⟩, ⟨by repeat (first | (with_reducible first | exact HB.out | apply below_alloc | apply pw_below_drewN | apply below_drew1) | exact HB.out)⟩⟩
                    case rest =>
                      clear HC35
                      try clear c1
                      try clear c2
                      try clear p2
                      try clear c3
                      try clear c4
                      try clear q4
                      try clear p5
                      try clear q5
                      try clear hx5
                      try clear p6
                      try clear c8
                      try clear c9
                      try clear c11
                      try clear c12
                      try clear c12b0
                      try clear c12b1
                      try clear c13
                      try clear c16
                      try clear c16b0
                      try clear c16b1
                      try clear c16b2
                      try clear c17
                      try clear c21
                      try clear c21b0
                      try clear c21b1
                      try clear c22
                      try clear c22b0
                      try clear c22b1
                      try clear c24
                      try clear c24b0
                      try clear c25
                      try clear c25b0
                      try clear c26
                      try clear c26b0
                      try clear c26b1
                      try clear c27
                      try clear c29
                      try clear c32
                      try clear c32b0
                      try clear c32b1
                      try clear c32b2
                      try clear c33
                      try clear c33b0
                      try clear c33b1
                      try clear c33b2
                      try clear c37
                      try clear c37b0
                      try clear c37b1
                      try clear c38
                      try clear c38b0
                      try clear c38b1
                      try clear c39
                      try clear c39b0
                      try clear c39b1
                      try clear c40
                      try clear c40b0
                      try clear c40b1
                      try clear q45
                      try clear hx505_0
                      try clear hx505_1
                      try clear hx505_2
                      try clear hx505_3
                      try clear hx505_4
                      try clear hx505_5
                      try clear hx506_0
                      try clear hx506_1
                      try clear hx506_2
                      try clear hx506_3
                      try clear hx506_4
                      try clear hx506_5
                      try clear p2
                      try clear p5
                      try clear p505
                      try clear p506
                      try clear p6
                      try clear q45
                      try clear q5
                      try clear q505
                      try clear q506
                      obtain ⟨kq, x125_34, rfl, HA, HJ34, HO_5, HO_9, HO_18, HB⟩ := hcut
                      cases kq with
                      | zero => exact absurd HA.out (by simp [qanatlaw03_ScanLocal.j2])
                      | succ kj34 =>
                        have H := HA.out
                        clear HA
                        simp only [qanatlaw03_ScanLocal.j2] at H
                        by_cases c49 : x125_34 = true
                        · subst c49
                          have H1 : (some false) = some r := by rw [if_pos rfl] at H; exact H
                          clear H
                          have H := H1
                          clear H1
                          exact absurd ((Option.some.inj H).trans hr) (by decide)
                        · replace c49 := Bool.eq_false_iff.mpr c49
                          subst c49
                          have H1 : (qanatlaw03_ScanLocal.l0 kj34 a0 t484 t490 t508 0) = some r := by rw [if_neg (show ¬ (false = true) by decide)] at H; exact H
                          clear H
                          have H := H1
                          clear H1
                          have H' := Aside0.mk H
                          clear H
                          go_wp2
                          go_loopg [22] kj34 (fun kq v22 w' => ∃ (x22_4 : Int), v22 = .int .i64 x22_4 ∧ Aside0 (qanatlaw03_ScanLocal.l0 kq a0 t484 t490 t508 x22_4 = some r) ∧ Aside0 (kq ≤ kj34) ∧ Aside0 (Kd.R k53 53 w' w.heap.size (fun k_ => some k_ ≠ (v494 : Value).ownBlock ∧ some k_ ≠ (v512 : Value).ownBlock) v488 t484) ∧ Aside0 (Kd.R k53 53 w' w.heap.size (fun k_ => some k_ ≠ (v488 : Value).ownBlock ∧ some k_ ≠ (v512 : Value).ownBlock) v494 t490) ∧ Aside0 (Kd.R k53 53 w' w.heap.size (fun k_ => some k_ ≠ (v488 : Value).ownBlock ∧ some k_ ≠ (v494 : Value).ownBlock) v512 t508) ∧ Aside0 (Below w.heap.size w w'))
                          case atStart => exact ⟨(0), (by first | rfl | (simp; done) | (simp [*]; done)), H', ⟨Nat.le_refl _⟩, ⟨by (with_reducible repeat (first | apply Kd.R_alloc | apply Kd.R_drewN | apply Kd.R_drew)); exact HO_5.out⟩, ⟨by (with_reducible repeat (first | apply Kd.R_alloc | apply Kd.R_drewN | apply Kd.R_drew)); exact HO_9.out⟩, ⟨by (with_reducible repeat (first | apply Kd.R_alloc | apply Kd.R_drewN | apply Kd.R_drew)); exact HO_18.out⟩, ⟨by repeat (first | (with_reducible first | exact HB.out | apply below_alloc | apply pw_below_drewN | apply below_drew1) | exact HB.out)⟩⟩
                          case round =>
                            clear H'
                            try clear c1
                            try clear c2
                            try clear p2
                            try clear c3
                            try clear c4
                            try clear q4
                            try clear p5
                            try clear q5
                            try clear hx5
                            try clear p6
                            try clear c8
                            try clear c9
                            try clear c11
                            try clear c12
                            try clear c12b0
                            try clear c12b1
                            try clear c13
                            try clear c16
                            try clear c16b0
                            try clear c16b1
                            try clear c16b2
                            try clear c17
                            try clear c21
                            try clear c21b0
                            try clear c21b1
                            try clear c22
                            try clear c22b0
                            try clear c22b1
                            try clear c24
                            try clear c24b0
                            try clear c25
                            try clear c25b0
                            try clear c26
                            try clear c26b0
                            try clear c26b1
                            try clear c27
                            try clear c29
                            try clear c32
                            try clear c32b0
                            try clear c32b1
                            try clear c32b2
                            try clear c33
                            try clear c33b0
                            try clear c33b1
                            try clear c33b2
                            try clear c37
                            try clear c37b0
                            try clear c37b1
                            try clear c38
                            try clear c38b0
                            try clear c38b1
                            try clear c39
                            try clear c39b0
                            try clear c39b1
                            try clear c40
                            try clear c40b0
                            try clear c40b1
                            try clear q45
                            try clear c49
                            try clear hx505_0
                            try clear hx505_1
                            try clear hx505_2
                            try clear hx505_3
                            try clear hx505_4
                            try clear hx505_5
                            try clear hx506_0
                            try clear hx506_1
                            try clear hx506_2
                            try clear hx506_3
                            try clear hx506_4
                            try clear hx506_5
                            try clear p2
                            try clear p5
                            try clear p505
                            try clear p506
                            try clear p6
                            try clear q4
                            try clear q45
                            try clear q5
                            try clear q505
                            try clear q506
                            obtain ⟨x22_4, rfl, HA, HK4, HO_5, HO_9, HO_18, HB⟩ := hrel
                            cases gk with
                            | zero => exact absurd HA.out (by simp [qanatlaw03_ScanLocal.l0])
                            | succ k4 =>
                              have H := HA.out
                              clear HA
                              simp only [qanatlaw03_ScanLocal.l0] at H
                              by_cases c50 : x22_4 < (t490.length : Int)
                              · rw [if_pos c50] at H
                                have c50b0 : decide (x22_4 < (t490.length : Int)) = true := decide_eq_true c50
                                clear c50
                                by_cases c51 : 0 ≤ x22_4
                                · rw [if_pos c51] at H
                                  have c51b0 : decide (0 ≤ x22_4) = true := decide_eq_true c51
                                  clear c51
                                  replace H := Option.bind_eq_some_iff.mp H
                                  obtain ⟨t521, A520, H⟩ := H
                                  replace H : (if 0 ≤ (wrap64 ((t484.length : Int) + x22_4)) then (if (wrap64 ((t484.length : Int) + x22_4)) < (t508.length : Int) then (if (!(((rd_T53 t508 (wrap64 ((t484.length : Int) + x22_4))).f0) == ((rd_T53 t490 x22_4).f0)) || (!((((rd_T53 t508 (wrap64 ((t484.length : Int) + x22_4))).f1).toList) == (((rd_T53 t490 x22_4).f1).toList)) || (!(((rd_T53 t508 (wrap64 ((t484.length : Int) + x22_4))).f2) == ((rd_T53 t490 x22_4).f2)) || (!(((rd_T53 t508 (wrap64 ((t484.length : Int) + x22_4))).f3) == (wrap64 ((wrap64 (((rd_T53 t490 x22_4).f3) + t521)) + 1))) || (!(((rd_T53 t508 (wrap64 ((t484.length : Int) + x22_4))).f4) == (wrap64 ((wrap64 (((rd_T53 t490 x22_4).f4) + (a0.size : Int))) + 1))) || (!(((rd_T53 t508 (wrap64 ((t484.length : Int) + x22_4))).f5) == (wrap64 ((wrap64 (((rd_T53 t490 x22_4).f5) + (a0.size : Int))) + 1))))))))) = true then (some false) else (qanatlaw03_ScanLocal.l0 k4 a0 t484 t490 t508 (wrap64 (x22_4 + 1)))) else (none)) else (none)) = some r := H
                                  have A52 := Aside0.mk A520
                                  clear A520
                                  obtain ⟨ji53, hji53⟩ : ∃ j_ : Int, (wrap64 ((t484.length : Int) + x22_4)) = j_ := ⟨_, rfl⟩
                                  replace H : (if 0 ≤ (ji53) then (if (ji53) < (t508.length : Int) then (if (!(((rd_T53 t508 (ji53)).f0) == ((rd_T53 t490 x22_4).f0)) || (!((((rd_T53 t508 (ji53)).f1).toList) == (((rd_T53 t490 x22_4).f1).toList)) || (!(((rd_T53 t508 (ji53)).f2) == ((rd_T53 t490 x22_4).f2)) || (!(((rd_T53 t508 (ji53)).f3) == (wrap64 ((wrap64 (((rd_T53 t490 x22_4).f3) + t521)) + 1))) || (!(((rd_T53 t508 (ji53)).f4) == (wrap64 ((wrap64 (((rd_T53 t490 x22_4).f4) + (a0.size : Int))) + 1))) || (!(((rd_T53 t508 (ji53)).f5) == (wrap64 ((wrap64 (((rd_T53 t490 x22_4).f5) + (a0.size : Int))) + 1))))))))) = true then (some false) else (qanatlaw03_ScanLocal.l0 k4 a0 t484 t490 t508 (wrap64 (x22_4 + 1)))) else (none)) else (none)) = some r := by first | (rw [hji53] at H; exact H) | (simp only [hji53] at H ⊢; exact H)
                                  (try rw [hji53] at A52)
                                  have hji53w : (IntKind.i64.wrap ((t484.length : Int) + x22_4)) = ji53 := (i64_w _).trans hji53
                                  by_cases c54 : 0 ≤ (ji53)
                                  · rw [if_pos c54] at H
                                    have c54b0 : decide (0 ≤ (ji53)) = true := decide_eq_true c54
                                    clear c54
                                    by_cases c55 : (ji53) < (t508.length : Int)
                                    · rw [if_pos c55] at H
                                      have c55b0 : decide ((ji53) < (t508.length : Int)) = true := decide_eq_true c55
                                      clear c55
                                      by_cases c56 : (!(((rd_T53 t508 (ji53)).f0) == ((rd_T53 t490 x22_4).f0)) || (!((((rd_T53 t508 (ji53)).f1).toList) == (((rd_T53 t490 x22_4).f1).toList)) || (!(((rd_T53 t508 (ji53)).f2) == ((rd_T53 t490 x22_4).f2)) || (!(((rd_T53 t508 (ji53)).f3) == (wrap64 ((wrap64 (((rd_T53 t490 x22_4).f3) + t521)) + 1))) || (!(((rd_T53 t508 (ji53)).f4) == (wrap64 ((wrap64 (((rd_T53 t490 x22_4).f4) + (a0.size : Int))) + 1))) || (!(((rd_T53 t508 (ji53)).f5) == (wrap64 ((wrap64 (((rd_T53 t490 x22_4).f5) + (a0.size : Int))) + 1))))))))) = true
                                      · rw [if_pos c56] at H
                                        exact absurd ((Option.some.inj H).trans hr) (by decide)
                                      · rw [if_neg c56] at H
                                        have c56b0 : (!(((rd_T53 t508 (ji53)).f0) == ((rd_T53 t490 x22_4).f0)) || (!((((rd_T53 t508 (ji53)).f1).toList) == (((rd_T53 t490 x22_4).f1).toList)) || (!(((rd_T53 t508 (ji53)).f2) == ((rd_T53 t490 x22_4).f2)) || (!(((rd_T53 t508 (ji53)).f3) == (wrap64 ((wrap64 (((rd_T53 t490 x22_4).f3) + t521)) + 1))) || (!(((rd_T53 t508 (ji53)).f4) == (wrap64 ((wrap64 (((rd_T53 t490 x22_4).f4) + (a0.size : Int))) + 1))) || (!(((rd_T53 t508 (ji53)).f5) == (wrap64 ((wrap64 (((rd_T53 t490 x22_4).f5) + (a0.size : Int))) + 1))))))))) = false := by simpa using c56
                                        clear c56
                                        have H' := Aside0.mk H
                                        clear H
                                        obtain ⟨Ao67, co67, eo67⟩ := Kd.R_slice HO_9.out
                                        subst eo67
                                        have p519 : 0 ≤ (x22_4 : Int) := of_decide_eq_true (by first | (with_reducible assumption) | assumption)
                                        have q519 : x22_4 < (t490.length : Int) := of_decide_eq_true (by first | (with_reducible assumption) | assumption)
                                        obtain ⟨ad519, e519, hx519_0, hx519_1, hx519_2, hx519_3, hx519_4, hx519_5⟩ := at_T53 (Kd.R_reads' HO_9.out).2.2 x22_4 p519 q519
                                        cases e519
                                        replace p519 := eq_true p519
                                        replace q519 := eq_true q519
                                        try go_wp2_with (first | ((with_reducible refine gate_dst (N := 23) rfl ?_); (try (refine gate_guard (by rfl) ?_; dsimp only)); refine box_event ?hg (N := 23) ?hd (cs := #[.int .i64 0, .string (⟨#[]⟩ : ByteArray), .bool false, .int .i64 0, .int .i64 0, .int .i64 0]) (t := 53) ?hr ?_; (case hd => rfl); (case hg => rfl); (case hr => first | (go_simp; done) | (go_simp; rfl)); intro gb520 hg w68 hbox hb; have n0_ := Aside0.mk (Kd.R_below (Kd.R_elderB (by (with_reducible repeat (first | apply Kd.R_alloc | apply Kd.R_drewN | apply Kd.R_drew)); exact HO_5.out) gb520 (Nat.le_of_eq hg.symm)) hb); have n1_ := Aside0.mk (Kd.R_below (Kd.R_elderB (by (with_reducible repeat (first | apply Kd.R_alloc | apply Kd.R_drewN | apply Kd.R_drew)); exact HO_9.out) gb520 (Nat.le_of_eq hg.symm)) hb); have n2_ := Aside0.mk (Kd.R_below (Kd.R_elderB (by (with_reducible repeat (first | apply Kd.R_alloc | apply Kd.R_drewN | apply Kd.R_drew)); exact HO_18.out) gb520 (Nat.le_of_eq hg.symm)) hb); have n3_ := Aside0.mk (below_step (by repeat (first | (with_reducible first | exact HB.out | apply below_alloc | apply pw_below_drewN | apply below_drew1) | exact HB.out)) hb); have n4_ := Aside0.mk (hbox); have n5_ := Aside0.mk ((by rw [hg]; exact (below_size (by repeat (first | (with_reducible first | exact HB.out | apply below_alloc | apply pw_below_drewN | apply below_drew1) | exact HB.out))) : w.heap.size ≤ gb520)); have n6_ := Aside0.mk ((by rw [hg]; exact (below_size (by repeat (first | (with_reducible first | exact HB.out | apply below_alloc | apply pw_below_drewN | apply below_drew1) | exact HB.out))) : w.heap.size ≤ gb520)); clear HO_5; clear HO_9; clear HO_18; clear HB; have HO_5 := n0_; have HO_9 := n1_; have HO_18 := n2_; have HB := n3_; have BK520 := n4_; have GW520 := n5_; have GE520 := n6_; clear n0_ n1_ n2_ n3_ n4_ n5_ n6_; clear hb hbox hg; have hcz69_0 : w68.cell? ⟨gb520, 0, none⟩ = some (.int .i64 0) := (blk_cell BK520.out 0).trans rfl; have hcz69_1 : w68.cell? ⟨gb520, 1, none⟩ = some (.string (⟨#[]⟩ : ByteArray)) := (blk_cell BK520.out 1).trans rfl; have hcz69_2 : w68.cell? ⟨gb520, 2, none⟩ = some (.bool false) := (blk_cell BK520.out 2).trans rfl; have hcz69_3 : w68.cell? ⟨gb520, 3, none⟩ = some (.int .i64 0) := (blk_cell BK520.out 3).trans rfl; have hcz69_4 : w68.cell? ⟨gb520, 4, none⟩ = some (.int .i64 0) := (blk_cell BK520.out 4).trans rfl; have hcz69_5 : w68.cell? ⟨gb520, 5, none⟩ = some (.int .i64 0) := (blk_cell BK520.out 5).trans rfl; have hfz69_0 := blk_frozen BK520.out 0; have hfz69_1 := blk_frozen BK520.out 1; have hfz69_2 := blk_frozen BK520.out 2; have hfz69_3 := blk_frozen BK520.out 3; have hfz69_4 := blk_frozen BK520.out 4; have hfz69_5 := blk_frozen BK520.out 5))
                                        have n0_ : Aside0 (Kd.R k53 53 ((((((((w68.setCell ⟨gb520, 0, none⟩ (.int .i64 ((rd_T53 t490 x22_4).f0))).setCell ⟨gb520, 1, none⟩ (.string ((rd_T53 t490 x22_4).f1))).setCell ⟨gb520, 2, none⟩ (.bool ((rd_T53 t490 x22_4).f2))).setCell ⟨gb520, 3, none⟩ (.int .i64 ((rd_T53 t490 x22_4).f3))).setCell ⟨gb520, 4, none⟩ (.int .i64 ((rd_T53 t490 x22_4).f4))).setCell ⟨gb520, 5, none⟩ (.int .i64 ((rd_T53 t490 x22_4).f5))).setCell ⟨gb520, 4, none⟩ (.int .i64 (wrap64 ((wrap64 (((rd_T53 t490 x22_4).f4) + (a0.size : Int))) + 1)))).setCell ⟨gb520, 5, none⟩ (.int .i64 (wrap64 ((wrap64 (((rd_T53 t490 x22_4).f5) + (a0.size : Int))) + 1)))) w.heap.size (fun k_ => some k_ ≠ (.slice (some ad519) t490.length co67 : Value).ownBlock ∧ some k_ ≠ (v512 : Value).ownBlock ∧ k_ ≠ gb520) v488 t484) := ⟨by (with_reducible repeat (first | apply Kd.R_alloc | apply Kd.R_drewN | apply Kd.R_drew)); exact Kd.R_mono (Kd.R_far (p := ⟨gb520, 5, none⟩) (Kd.R_far (p := ⟨gb520, 4, none⟩) (Kd.R_far (p := ⟨gb520, 5, none⟩) (Kd.R_far (p := ⟨gb520, 4, none⟩) (Kd.R_far (p := ⟨gb520, 3, none⟩) (Kd.R_far (p := ⟨gb520, 2, none⟩) (Kd.R_far (p := ⟨gb520, 1, none⟩) (Kd.R_far (p := ⟨gb520, 0, none⟩) (Kd.R_mono HO_5.out (fun k_ hk => (⟨hk, hk.2⟩ : _ ∧ k_ ≠ gb520))) (fun _ hk => hk.2) (.int .i64 ((rd_T53 t490 x22_4).f0))) (fun _ hk => hk.2) (.string ((rd_T53 t490 x22_4).f1))) (fun _ hk => hk.2) (.bool ((rd_T53 t490 x22_4).f2))) (fun _ hk => hk.2) (.int .i64 ((rd_T53 t490 x22_4).f3))) (fun _ hk => hk.2) (.int .i64 ((rd_T53 t490 x22_4).f4))) (fun _ hk => hk.2) (.int .i64 ((rd_T53 t490 x22_4).f5))) (fun _ hk => hk.2) (.int .i64 (wrap64 ((wrap64 (((rd_T53 t490 x22_4).f4) + (a0.size : Int))) + 1)))) (fun _ hk => hk.2) (.int .i64 (wrap64 ((wrap64 (((rd_T53 t490 x22_4).f5) + (a0.size : Int))) + 1)))) (fun _ hk => ⟨hk.1.1.1, ⟨hk.1.1.2, hk.1.2⟩⟩)⟩
                                        have n1_ : Aside0 (Kd.R k53 53 ((((((((w68.setCell ⟨gb520, 0, none⟩ (.int .i64 ((rd_T53 t490 x22_4).f0))).setCell ⟨gb520, 1, none⟩ (.string ((rd_T53 t490 x22_4).f1))).setCell ⟨gb520, 2, none⟩ (.bool ((rd_T53 t490 x22_4).f2))).setCell ⟨gb520, 3, none⟩ (.int .i64 ((rd_T53 t490 x22_4).f3))).setCell ⟨gb520, 4, none⟩ (.int .i64 ((rd_T53 t490 x22_4).f4))).setCell ⟨gb520, 5, none⟩ (.int .i64 ((rd_T53 t490 x22_4).f5))).setCell ⟨gb520, 4, none⟩ (.int .i64 (wrap64 ((wrap64 (((rd_T53 t490 x22_4).f4) + (a0.size : Int))) + 1)))).setCell ⟨gb520, 5, none⟩ (.int .i64 (wrap64 ((wrap64 (((rd_T53 t490 x22_4).f5) + (a0.size : Int))) + 1)))) w.heap.size (fun k_ => some k_ ≠ (v488 : Value).ownBlock ∧ some k_ ≠ (v512 : Value).ownBlock ∧ k_ ≠ gb520) (.slice (some ad519) t490.length co67) t490) := ⟨by (with_reducible repeat (first | apply Kd.R_alloc | apply Kd.R_drewN | apply Kd.R_drew)); exact Kd.R_mono (Kd.R_far (p := ⟨gb520, 5, none⟩) (Kd.R_far (p := ⟨gb520, 4, none⟩) (Kd.R_far (p := ⟨gb520, 5, none⟩) (Kd.R_far (p := ⟨gb520, 4, none⟩) (Kd.R_far (p := ⟨gb520, 3, none⟩) (Kd.R_far (p := ⟨gb520, 2, none⟩) (Kd.R_far (p := ⟨gb520, 1, none⟩) (Kd.R_far (p := ⟨gb520, 0, none⟩) (Kd.R_mono HO_9.out (fun k_ hk => (⟨hk, hk.2⟩ : _ ∧ k_ ≠ gb520))) (fun _ hk => hk.2) (.int .i64 ((rd_T53 t490 x22_4).f0))) (fun _ hk => hk.2) (.string ((rd_T53 t490 x22_4).f1))) (fun _ hk => hk.2) (.bool ((rd_T53 t490 x22_4).f2))) (fun _ hk => hk.2) (.int .i64 ((rd_T53 t490 x22_4).f3))) (fun _ hk => hk.2) (.int .i64 ((rd_T53 t490 x22_4).f4))) (fun _ hk => hk.2) (.int .i64 ((rd_T53 t490 x22_4).f5))) (fun _ hk => hk.2) (.int .i64 (wrap64 ((wrap64 (((rd_T53 t490 x22_4).f4) + (a0.size : Int))) + 1)))) (fun _ hk => hk.2) (.int .i64 (wrap64 ((wrap64 (((rd_T53 t490 x22_4).f5) + (a0.size : Int))) + 1)))) (fun _ hk => ⟨hk.1.1.1, ⟨hk.1.1.2, hk.1.2⟩⟩)⟩
                                        have n2_ : Aside0 (Kd.R k53 53 ((((((((w68.setCell ⟨gb520, 0, none⟩ (.int .i64 ((rd_T53 t490 x22_4).f0))).setCell ⟨gb520, 1, none⟩ (.string ((rd_T53 t490 x22_4).f1))).setCell ⟨gb520, 2, none⟩ (.bool ((rd_T53 t490 x22_4).f2))).setCell ⟨gb520, 3, none⟩ (.int .i64 ((rd_T53 t490 x22_4).f3))).setCell ⟨gb520, 4, none⟩ (.int .i64 ((rd_T53 t490 x22_4).f4))).setCell ⟨gb520, 5, none⟩ (.int .i64 ((rd_T53 t490 x22_4).f5))).setCell ⟨gb520, 4, none⟩ (.int .i64 (wrap64 ((wrap64 (((rd_T53 t490 x22_4).f4) + (a0.size : Int))) + 1)))).setCell ⟨gb520, 5, none⟩ (.int .i64 (wrap64 ((wrap64 (((rd_T53 t490 x22_4).f5) + (a0.size : Int))) + 1)))) w.heap.size (fun k_ => some k_ ≠ (v488 : Value).ownBlock ∧ some k_ ≠ (.slice (some ad519) t490.length co67 : Value).ownBlock ∧ k_ ≠ gb520) v512 t508) := ⟨by (with_reducible repeat (first | apply Kd.R_alloc | apply Kd.R_drewN | apply Kd.R_drew)); exact Kd.R_mono (Kd.R_far (p := ⟨gb520, 5, none⟩) (Kd.R_far (p := ⟨gb520, 4, none⟩) (Kd.R_far (p := ⟨gb520, 5, none⟩) (Kd.R_far (p := ⟨gb520, 4, none⟩) (Kd.R_far (p := ⟨gb520, 3, none⟩) (Kd.R_far (p := ⟨gb520, 2, none⟩) (Kd.R_far (p := ⟨gb520, 1, none⟩) (Kd.R_far (p := ⟨gb520, 0, none⟩) (Kd.R_mono HO_18.out (fun k_ hk => (⟨hk, hk.2⟩ : _ ∧ k_ ≠ gb520))) (fun _ hk => hk.2) (.int .i64 ((rd_T53 t490 x22_4).f0))) (fun _ hk => hk.2) (.string ((rd_T53 t490 x22_4).f1))) (fun _ hk => hk.2) (.bool ((rd_T53 t490 x22_4).f2))) (fun _ hk => hk.2) (.int .i64 ((rd_T53 t490 x22_4).f3))) (fun _ hk => hk.2) (.int .i64 ((rd_T53 t490 x22_4).f4))) (fun _ hk => hk.2) (.int .i64 ((rd_T53 t490 x22_4).f5))) (fun _ hk => hk.2) (.int .i64 (wrap64 ((wrap64 (((rd_T53 t490 x22_4).f4) + (a0.size : Int))) + 1)))) (fun _ hk => hk.2) (.int .i64 (wrap64 ((wrap64 (((rd_T53 t490 x22_4).f5) + (a0.size : Int))) + 1)))) (fun _ hk => ⟨hk.1.1.1, ⟨hk.1.1.2, hk.1.2⟩⟩)⟩
                                        have n3_ : Aside0 (((((((((w68.setCell ⟨gb520, 0, none⟩ (.int .i64 ((rd_T53 t490 x22_4).f0))).setCell ⟨gb520, 1, none⟩ (.string ((rd_T53 t490 x22_4).f1))).setCell ⟨gb520, 2, none⟩ (.bool ((rd_T53 t490 x22_4).f2))).setCell ⟨gb520, 3, none⟩ (.int .i64 ((rd_T53 t490 x22_4).f3))).setCell ⟨gb520, 4, none⟩ (.int .i64 ((rd_T53 t490 x22_4).f4))).setCell ⟨gb520, 5, none⟩ (.int .i64 ((rd_T53 t490 x22_4).f5))).setCell ⟨gb520, 4, none⟩ (.int .i64 (wrap64 ((wrap64 (((rd_T53 t490 x22_4).f4) + (a0.size : Int))) + 1)))).setCell ⟨gb520, 5, none⟩ (.int .i64 (wrap64 ((wrap64 (((rd_T53 t490 x22_4).f5) + (a0.size : Int))) + 1)))).heap[gb520]? = some (.cells #[.int .i64 ((rd_T53 t490 x22_4).f0), .string ((rd_T53 t490 x22_4).f1), .bool ((rd_T53 t490 x22_4).f2), .int .i64 ((rd_T53 t490 x22_4).f3), .int .i64 (wrap64 ((wrap64 (((rd_T53 t490 x22_4).f4) + (a0.size : Int))) + 1)), .int .i64 (wrap64 ((wrap64 (((rd_T53 t490 x22_4).f5) + (a0.size : Int))) + 1))] 53 (0, 0))) := ⟨by (with_reducible repeat (first | refine blk_drewN ?_ _ | refine blk_drew ?_ | refine blk_alloc ?_ _)); refine blk_put (cs := #[.int .i64 ((rd_T53 t490 x22_4).f0), .string ((rd_T53 t490 x22_4).f1), .bool ((rd_T53 t490 x22_4).f2), .int .i64 ((rd_T53 t490 x22_4).f3), .int .i64 (wrap64 ((wrap64 (((rd_T53 t490 x22_4).f4) + (a0.size : Int))) + 1)), .int .i64 ((rd_T53 t490 x22_4).f5)]) ?_ 5 _ rfl; (with_reducible repeat (first | refine blk_drewN ?_ _ | refine blk_drew ?_ | refine blk_alloc ?_ _)); refine blk_put (cs := #[.int .i64 ((rd_T53 t490 x22_4).f0), .string ((rd_T53 t490 x22_4).f1), .bool ((rd_T53 t490 x22_4).f2), .int .i64 ((rd_T53 t490 x22_4).f3), .int .i64 ((rd_T53 t490 x22_4).f4), .int .i64 ((rd_T53 t490 x22_4).f5)]) ?_ 4 _ rfl; (with_reducible repeat (first | refine blk_drewN ?_ _ | refine blk_drew ?_ | refine blk_alloc ?_ _)); refine blk_put (cs := #[.int .i64 ((rd_T53 t490 x22_4).f0), .string ((rd_T53 t490 x22_4).f1), .bool ((rd_T53 t490 x22_4).f2), .int .i64 ((rd_T53 t490 x22_4).f3), .int .i64 ((rd_T53 t490 x22_4).f4), .int .i64 0]) ?_ 5 _ rfl; (with_reducible repeat (first | refine blk_drewN ?_ _ | refine blk_drew ?_ | refine blk_alloc ?_ _)); refine blk_put (cs := #[.int .i64 ((rd_T53 t490 x22_4).f0), .string ((rd_T53 t490 x22_4).f1), .bool ((rd_T53 t490 x22_4).f2), .int .i64 ((rd_T53 t490 x22_4).f3), .int .i64 0, .int .i64 0]) ?_ 4 _ rfl; (with_reducible repeat (first | refine blk_drewN ?_ _ | refine blk_drew ?_ | refine blk_alloc ?_ _)); refine blk_put (cs := #[.int .i64 ((rd_T53 t490 x22_4).f0), .string ((rd_T53 t490 x22_4).f1), .bool ((rd_T53 t490 x22_4).f2), .int .i64 0, .int .i64 0, .int .i64 0]) ?_ 3 _ rfl; (with_reducible repeat (first | refine blk_drewN ?_ _ | refine blk_drew ?_ | refine blk_alloc ?_ _)); refine blk_put (cs := #[.int .i64 ((rd_T53 t490 x22_4).f0), .string ((rd_T53 t490 x22_4).f1), .bool false, .int .i64 0, .int .i64 0, .int .i64 0]) ?_ 2 _ rfl; (with_reducible repeat (first | refine blk_drewN ?_ _ | refine blk_drew ?_ | refine blk_alloc ?_ _)); refine blk_put (cs := #[.int .i64 ((rd_T53 t490 x22_4).f0), .string (⟨#[]⟩ : ByteArray), .bool false, .int .i64 0, .int .i64 0, .int .i64 0]) ?_ 1 _ rfl; (with_reducible repeat (first | refine blk_drewN ?_ _ | refine blk_drew ?_ | refine blk_alloc ?_ _)); refine blk_put (cs := #[.int .i64 0, .string (⟨#[]⟩ : ByteArray), .bool false, .int .i64 0, .int .i64 0, .int .i64 0]) ?_ 0 _ rfl; (with_reducible repeat (first | refine blk_drewN ?_ _ | refine blk_drew ?_ | refine blk_alloc ?_ _)); exact BK520.out⟩
                                        have n4_ : Aside0 (Below w.heap.size w ((((((((w68.setCell ⟨gb520, 0, none⟩ (.int .i64 ((rd_T53 t490 x22_4).f0))).setCell ⟨gb520, 1, none⟩ (.string ((rd_T53 t490 x22_4).f1))).setCell ⟨gb520, 2, none⟩ (.bool ((rd_T53 t490 x22_4).f2))).setCell ⟨gb520, 3, none⟩ (.int .i64 ((rd_T53 t490 x22_4).f3))).setCell ⟨gb520, 4, none⟩ (.int .i64 ((rd_T53 t490 x22_4).f4))).setCell ⟨gb520, 5, none⟩ (.int .i64 ((rd_T53 t490 x22_4).f5))).setCell ⟨gb520, 4, none⟩ (.int .i64 (wrap64 ((wrap64 (((rd_T53 t490 x22_4).f4) + (a0.size : Int))) + 1)))).setCell ⟨gb520, 5, none⟩ (.int .i64 (wrap64 ((wrap64 (((rd_T53 t490 x22_4).f5) + (a0.size : Int))) + 1))))) := ⟨by repeat (first | (with_reducible first | exact HB.out | apply below_alloc | apply pw_below_drewN | apply below_drew1 | refine below_set ?_ GE520.out) | exact HB.out)⟩
                                        (try clear HO_5)
                                        (try clear HO_9)
                                        (try clear HO_18)
                                        (try clear BK520)
                                        (try clear HB)
                                        generalize ((((((((w68.setCell ⟨gb520, 0, none⟩ (.int .i64 ((rd_T53 t490 x22_4).f0))).setCell ⟨gb520, 1, none⟩ (.string ((rd_T53 t490 x22_4).f1))).setCell ⟨gb520, 2, none⟩ (.bool ((rd_T53 t490 x22_4).f2))).setCell ⟨gb520, 3, none⟩ (.int .i64 ((rd_T53 t490 x22_4).f3))).setCell ⟨gb520, 4, none⟩ (.int .i64 ((rd_T53 t490 x22_4).f4))).setCell ⟨gb520, 5, none⟩ (.int .i64 ((rd_T53 t490 x22_4).f5))).setCell ⟨gb520, 4, none⟩ (.int .i64 (wrap64 ((wrap64 (((rd_T53 t490 x22_4).f4) + (a0.size : Int))) + 1)))).setCell ⟨gb520, 5, none⟩ (.int .i64 (wrap64 ((wrap64 (((rd_T53 t490 x22_4).f5) + (a0.size : Int))) + 1)))) = w70 at n0_ n1_ n2_ n3_ n4_ ⊢
                                        have HO_5 := n0_
                                        have HO_9 := n1_
                                        have HO_18 := n2_
                                        have BK520 := n3_
                                        have HB := n4_
                                        clear n0_ n1_ n2_ n3_ n4_
                                        have n0_ := Aside0.mk (Kd.R_drew HO_5.out)
                                        have n1_ := Aside0.mk (Kd.R_drew HO_9.out)
                                        have n2_ := Aside0.mk (Kd.R_drew HO_18.out)
                                        have n3_ := Aside0.mk (blk_drew BK520.out)
                                        have n4_ := Aside0.mk (below_drew1 HB.out)
                                        clear HO_5
                                        clear HO_9
                                        clear HO_18
                                        clear BK520
                                        clear HB
                                        have HO_5 := n0_
                                        have HO_9 := n1_
                                        have HO_18 := n2_
                                        have BK520 := n3_
                                        have HB := n4_
                                        clear n0_ n1_ n2_ n3_ n4_
                                        refine start_ (n := 8) (S := fun w' => w'.cell? ⟨gb520, 0, none⟩ = some (.int .i64 ((rd_T53 t490 x22_4).f0)) ∧ w'.cell? ⟨gb520, 1, none⟩ = some (.string ((rd_T53 t490 x22_4).f1)) ∧ w'.cell? ⟨gb520, 2, none⟩ = some (.bool ((rd_T53 t490 x22_4).f2)) ∧ w'.cell? ⟨gb520, 3, none⟩ = some (.int .i64 ((rd_T53 t490 x22_4).f3)) ∧ w'.cell? ⟨gb520, 4, none⟩ = some (.int .i64 (wrap64 ((wrap64 (((rd_T53 t490 x22_4).f4) + (a0.size : Int))) + 1))) ∧ w'.cell? ⟨gb520, 5, none⟩ = some (.int .i64 (wrap64 ((wrap64 (((rd_T53 t490 x22_4).f5) + (a0.size : Int))) + 1)))) (ds := [7]) #[false, false, false, false, false, false, false, false] (by kernel_rfl) rfl rfl ⟨(blk_cell BK520.out 0).trans rfl, (blk_cell BK520.out 1).trans rfl, (blk_cell BK520.out 2).trans rfl, (blk_cell BK520.out 3).trans rfl, (blk_cell BK520.out 4).trans rfl, (blk_cell BK520.out 5).trans rfl⟩ (fun hHeld => ?_); refine with_tabW qanatlaw03_ScanLocal.tab18 qanatlaw03_ScanLocal.bits18 (fun HT_ HW_ => ?_)
                                        generalize w70.drew = w71 at HO_5 HO_9 HO_18 BK520 HB hHeld ⊢
                                        refine pure_ (i := 0) (N := some 150) (v := ?_) (a' := ?_) #[true, false, false, false, false, false, false, false] rfl rfl (any_of HT_.out (by kernel_rfl)) (fun _ _ _ h => h) (Or.inl ⟨by rfl, ?_⟩) ?_ ?_
                                        rotate_left
                                        · intro w'
                                          go_simp
                                          with_reducible rfl
                                        rotate_left
                                        · simp only [Act.put, List.setIfInBounds_toArray, List.set_cons_zero, List.set_cons_succ, i64_w, i32_w]
                                          rfl
                                        refine pure_ (i := 2) (N := some 152) (v := ?_) (a' := ?_) #[true, false, true, false, false, false, false, false] rfl rfl (any_of HT_.out (by kernel_rfl)) (fun _ _ _ h => h) (Or.inl ⟨by rfl, ?_⟩) ?_ ?_
                                        rotate_left
                                        · intro w'
                                          go_simp
                                          with_reducible rfl
                                        rotate_left
                                        · simp only [Act.put, List.setIfInBounds_toArray, List.set_cons_zero, List.set_cons_succ, i64_w, i32_w]
                                          rfl
                                        refine take_ (i := 1) (N := some 151) (v := ?_) (a' := ?_) #[true, true, true, false, false, false, false, false] rfl rfl (take_ofW HT_.out HW_.out (by kernel_rfl)) (fun _ _ _ h => h) (Or.inl ⟨by rfl, ?_⟩) hHeld ?_ ?_
                                        rotate_left
                                        · rintro w' ⟨s0, s1, s2, s3, s4, s5⟩
                                          go_simp
                                          with_reducible rfl
                                        rotate_left
                                        · simp only [Act.put, List.setIfInBounds_toArray, List.set_cons_zero, List.set_cons_succ, i64_w, i32_w]
                                          rfl
                                        refine one_ (i := 3) (N := some 153) #[true, true, true, true, false, false, false, false] rfl rfl (one_of HT_.out (by kernel_rfl)) (by decide) (fun K hK => ?_)
                                        refine goes_ Tryz.func40 (by kernel_rfl) rfl #[.string a0] (by rfl) rfl rfl (by (try simp only [List.map_toArray, List.map_cons, List.map_nil]); first | done | rfl | (simp only [List.length_drop, List.length_take]; rfl)) ?_
                                        with_reducible refine (qanatlaw03_feeds.calls k4 a0 t521 _ A52.out).mono ?_
                                        rintro e w' ⟨rfl, ⟨nd, rfl⟩⟩
                                        refine ⟨_, rfl, ?_⟩
                                        refine hK.out _ _ ⟨(blk_cell BK520.out 0).trans rfl, (blk_cell BK520.out 1).trans rfl, (blk_cell BK520.out 2).trans rfl, (blk_cell BK520.out 3).trans rfl, (blk_cell BK520.out 4).trans rfl, (blk_cell BK520.out 5).trans rfl⟩ (fun hHeld => ?_)
                                        clear hK K
                                        refine norm_ (a' := ?_) ?_ ?_
                                        rotate_left
                                        · show Act.put _ (some 153) _ = _
                                          simp only [Act.put, List.setIfInBounds_toArray, List.set_cons_zero, List.set_cons_succ, i64_w, i32_w]
                                          rfl
                                        refine pure_ (i := 4) (N := some 154) (v := ?_) (a' := ?_) #[true, true, true, true, true, false, false, false] rfl rfl (any_of HT_.out (by kernel_rfl)) (fun _ _ _ h => h) (Or.inl ⟨by rfl, ?_⟩) ?_ ?_
                                        rotate_left
                                        · intro w'
                                          go_simp
                                          with_reducible rfl
                                        rotate_left
                                        · simp only [Act.put, List.setIfInBounds_toArray, List.set_cons_zero, List.set_cons_succ, i64_w, i32_w]
                                          rfl
                                        refine pure_ (i := 5) (N := some 155) (v := ?_) (a' := ?_) #[true, true, true, true, true, true, false, false] rfl rfl (any_of HT_.out (by kernel_rfl)) (fun _ _ _ h => h) (Or.inl ⟨by rfl, ?_⟩) ?_ ?_
                                        rotate_left
                                        · intro w'
                                          go_simp
                                          with_reducible rfl
                                        rotate_left
                                        · simp only [Act.put, List.setIfInBounds_toArray, List.set_cons_zero, List.set_cons_succ, i64_w, i32_w]
                                          rfl
                                        refine pure_ (i := 6) (N := some 156) (v := ?_) (a' := ?_) #[true, true, true, true, true, true, true, false] rfl rfl (any_of HT_.out (by kernel_rfl)) (fun _ _ _ h => h) (Or.inl ⟨by rfl, ?_⟩) ?_ ?_
                                        rotate_left
                                        · intro w'
                                          go_simp
                                          with_reducible rfl
                                        rotate_left
                                        · simp only [Act.put, List.setIfInBounds_toArray, List.set_cons_zero, List.set_cons_succ, i64_w, i32_w]
                                          rfl
                                        refine last_ (i := 7) (N := none) #[true, true, true, true, true, true, true, true] rfl rfl (one_of HT_.out (by kernel_rfl)) (by decide) (fun K hK => ?_)
                                        have hs72 : w71.cell? ⟨gb520, 3, none⟩ = some (.int .i64 ((rd_T53 t490 x22_4).f3)) := (blk_cell BK520.out 3).trans rfl
                                        have hfs72 := blk_frozen BK520.out 3
                                        refine skip_ (w1 := ?_) (by rfl) rfl ?_ ?_
                                        rotate_left
                                        · go_simp
                                          rfl
                                        refine hK.out _ _ ?_
                                        clear hK K
                                        refine done_ (done_of HT_.out (by kernel_rfl)) ?_
                                        try go_wp2
                                        rw [show ((w71.drewN nd).setCell ⟨gb520, 3, none⟩ (.int .i64 (wrap64 ((wrap64 (((rd_T53 t490 x22_4).f3) + t521)) + 1)))) = (w71.setCell ⟨gb520, 3, none⟩ (.int .i64 (wrap64 ((wrap64 (((rd_T53 t490 x22_4).f3) + t521)) + 1)))).drewN nd from rfl]
                                        have n0_ : Aside0 (Kd.R k53 53 (w71.setCell ⟨gb520, 3, none⟩ (.int .i64 (wrap64 ((wrap64 (((rd_T53 t490 x22_4).f3) + t521)) + 1)))) w.heap.size (fun k_ => some k_ ≠ (.slice (some ad519) t490.length co67 : Value).ownBlock ∧ some k_ ≠ (v512 : Value).ownBlock ∧ k_ ≠ gb520) v488 t484) := ⟨by (with_reducible repeat (first | apply Kd.R_alloc | apply Kd.R_drewN | apply Kd.R_drew)); exact Kd.R_mono (Kd.R_far (p := ⟨gb520, 3, none⟩) (Kd.R_mono HO_5.out (fun k_ hk => (⟨hk, hk.2.2⟩ : _ ∧ k_ ≠ gb520))) (fun _ hk => hk.2) (.int .i64 (wrap64 ((wrap64 (((rd_T53 t490 x22_4).f3) + t521)) + 1)))) (fun _ hk => ⟨hk.1.1, ⟨hk.1.2.1, hk.1.2.2⟩⟩)⟩
                                        have n1_ : Aside0 (Kd.R k53 53 (w71.setCell ⟨gb520, 3, none⟩ (.int .i64 (wrap64 ((wrap64 (((rd_T53 t490 x22_4).f3) + t521)) + 1)))) w.heap.size (fun k_ => some k_ ≠ (v488 : Value).ownBlock ∧ some k_ ≠ (v512 : Value).ownBlock ∧ k_ ≠ gb520) (.slice (some ad519) t490.length co67) t490) := ⟨by (with_reducible repeat (first | apply Kd.R_alloc | apply Kd.R_drewN | apply Kd.R_drew)); exact Kd.R_mono (Kd.R_far (p := ⟨gb520, 3, none⟩) (Kd.R_mono HO_9.out (fun k_ hk => (⟨hk, hk.2.2⟩ : _ ∧ k_ ≠ gb520))) (fun _ hk => hk.2) (.int .i64 (wrap64 ((wrap64 (((rd_T53 t490 x22_4).f3) + t521)) + 1)))) (fun _ hk => ⟨hk.1.1, ⟨hk.1.2.1, hk.1.2.2⟩⟩)⟩
                                        have n2_ : Aside0 (Kd.R k53 53 (w71.setCell ⟨gb520, 3, none⟩ (.int .i64 (wrap64 ((wrap64 (((rd_T53 t490 x22_4).f3) + t521)) + 1)))) w.heap.size (fun k_ => some k_ ≠ (v488 : Value).ownBlock ∧ some k_ ≠ (.slice (some ad519) t490.length co67 : Value).ownBlock ∧ k_ ≠ gb520) v512 t508) := ⟨by (with_reducible repeat (first | apply Kd.R_alloc | apply Kd.R_drewN | apply Kd.R_drew)); exact Kd.R_mono (Kd.R_far (p := ⟨gb520, 3, none⟩) (Kd.R_mono HO_18.out (fun k_ hk => (⟨hk, hk.2.2⟩ : _ ∧ k_ ≠ gb520))) (fun _ hk => hk.2) (.int .i64 (wrap64 ((wrap64 (((rd_T53 t490 x22_4).f3) + t521)) + 1)))) (fun _ hk => ⟨hk.1.1, ⟨hk.1.2.1, hk.1.2.2⟩⟩)⟩
                                        have n3_ : Aside0 ((w71.setCell ⟨gb520, 3, none⟩ (.int .i64 (wrap64 ((wrap64 (((rd_T53 t490 x22_4).f3) + t521)) + 1)))).heap[gb520]? = some (.cells #[.int .i64 ((rd_T53 t490 x22_4).f0), .string ((rd_T53 t490 x22_4).f1), .bool ((rd_T53 t490 x22_4).f2), .int .i64 (wrap64 ((wrap64 (((rd_T53 t490 x22_4).f3) + t521)) + 1)), .int .i64 (wrap64 ((wrap64 (((rd_T53 t490 x22_4).f4) + (a0.size : Int))) + 1)), .int .i64 (wrap64 ((wrap64 (((rd_T53 t490 x22_4).f5) + (a0.size : Int))) + 1))] 53 (0, 0))) := ⟨by (with_reducible repeat (first | refine blk_drewN ?_ _ | refine blk_drew ?_ | refine blk_alloc ?_ _)); refine blk_put (cs := #[.int .i64 ((rd_T53 t490 x22_4).f0), .string ((rd_T53 t490 x22_4).f1), .bool ((rd_T53 t490 x22_4).f2), .int .i64 ((rd_T53 t490 x22_4).f3), .int .i64 (wrap64 ((wrap64 (((rd_T53 t490 x22_4).f4) + (a0.size : Int))) + 1)), .int .i64 (wrap64 ((wrap64 (((rd_T53 t490 x22_4).f5) + (a0.size : Int))) + 1))]) ?_ 3 _ rfl; (with_reducible repeat (first | refine blk_drewN ?_ _ | refine blk_drew ?_ | refine blk_alloc ?_ _)); exact BK520.out⟩
                                        have n4_ : Aside0 (Below w.heap.size w (w71.setCell ⟨gb520, 3, none⟩ (.int .i64 (wrap64 ((wrap64 (((rd_T53 t490 x22_4).f3) + t521)) + 1))))) := ⟨by repeat (first | (with_reducible first | exact HB.out | apply below_alloc | apply pw_below_drewN | apply below_drew1 | refine below_set ?_ GE520.out) | exact HB.out)⟩
                                        (try clear HO_5)
                                        (try clear HO_9)
                                        (try clear HO_18)
                                        (try clear BK520)
                                        (try clear HB)
                                        generalize (w71.setCell ⟨gb520, 3, none⟩ (.int .i64 (wrap64 ((wrap64 (((rd_T53 t490 x22_4).f3) + t521)) + 1)))) = w73 at n0_ n1_ n2_ n3_ n4_ ⊢
                                        have HO_5 := n0_
                                        have HO_9 := n1_
                                        have HO_18 := n2_
                                        have BK520 := n3_
                                        have HB := n4_
                                        clear n0_ n1_ n2_ n3_ n4_
                                        obtain ⟨Ao75, co75, eo75⟩ := Kd.R_slice HO_5.out
                                        (first | subst eo75 | (injection eo75 with f1_ f2_ f3_; have f4_ := f1_.symm; have f5_ := f3_.symm; clear f1_ f2_ f3_; subst f4_; subst f5_))
                                        obtain ⟨Ao76, co76, eo76⟩ := Kd.R_slice HO_18.out
                                        (first | subst eo76 | (injection eo76 with f1_ f2_ f3_; have f4_ := f1_.symm; have f5_ := f3_.symm; clear f1_ f2_ f3_; subst f4_; subst f5_))
                                        have p522 : 0 ≤ ((ji53) : Int) := of_decide_eq_true (by first | (with_reducible assumption) | assumption)
                                        have q522 : (ji53) < (t508.length : Int) := of_decide_eq_true (by first | (with_reducible assumption) | assumption)
                                        obtain ⟨ad522, e522, hx522_0, hx522_1, hx522_2, hx522_3, hx522_4, hx522_5⟩ := at_T53 (Kd.R_reads' HO_18.out).2.2 (ji53) p522 q522
                                        cases e522
                                        replace p522 := eq_true p522
                                        replace q522 := eq_true q522
                                        have q0_ : w73.cell? ⟨gb520, 0, none⟩ = some (.int .i64 ((rd_T53 t490 x22_4).f0)) := (blk_cell BK520.out 0).trans rfl
                                        have q1_ : w73.cell? ⟨gb520, 1, none⟩ = some (.string ((rd_T53 t490 x22_4).f1)) := (blk_cell BK520.out 1).trans rfl
                                        have q2_ : w73.cell? ⟨gb520, 2, none⟩ = some (.bool ((rd_T53 t490 x22_4).f2)) := (blk_cell BK520.out 2).trans rfl
                                        have q3_ : w73.cell? ⟨gb520, 3, none⟩ = some (.int .i64 (wrap64 ((wrap64 (((rd_T53 t490 x22_4).f3) + t521)) + 1))) := (blk_cell BK520.out 3).trans rfl
                                        have q4_ : w73.cell? ⟨gb520, 4, none⟩ = some (.int .i64 (wrap64 ((wrap64 (((rd_T53 t490 x22_4).f4) + (a0.size : Int))) + 1))) := (blk_cell BK520.out 4).trans rfl
                                        have q5_ : w73.cell? ⟨gb520, 5, none⟩ = some (.int .i64 (wrap64 ((wrap64 (((rd_T53 t490 x22_4).f5) + (a0.size : Int))) + 1))) := (blk_cell BK520.out 5).trans rfl
                                        go_quiet (fail)
                                        go_wp2
                                        go_roundg k4
                                        case measure => have := HJ4.out; have := HJ17.out; have := HJ34.out; have := HK4.out; omega
                                        case rel => exact ⟨(wrap64 (x22_4 + 1)), (by first | rfl | (simp; done) | (simp [*]; done)), H', ⟨by have := HJ4.out; have := HJ17.out; have := HJ34.out; have := HK4.out; omega⟩, ⟨by (with_reducible repeat (first | apply Kd.R_alloc | apply Kd.R_drewN | apply Kd.R_drew)); exact Kd.R_mono HO_5.out (fun _ hk => ⟨hk.1, hk.2.1⟩)⟩, ⟨by (with_reducible repeat (first | apply Kd.R_alloc | apply Kd.R_drewN | apply Kd.R_drew)); exact Kd.R_mono HO_9.out (fun _ hk => ⟨hk.1, hk.2.1⟩)⟩, ⟨by (with_reducible repeat (first | apply Kd.R_alloc | apply Kd.R_drewN | apply Kd.R_drew)); exact Kd.R_mono HO_18.out (fun _ hk => ⟨hk.1, hk.2.1⟩)⟩, ⟨by repeat (first | (with_reducible first | exact HB.out | apply below_alloc | apply pw_below_drewN | apply below_drew1 | refine below_set ?_ GE520.out) | exact HB.out)⟩⟩
                                    · rw [if_neg c55] at H
                                      exact absurd H (by simp)
                                  · rw [if_neg c54] at H
                                    exact absurd H (by simp)
                                · rw [if_neg c51] at H
                                  exact absurd H (by simp)
                              · rw [if_neg c50] at H
                                have c50b0 : decide (x22_4 < (t490.length : Int)) = false := decide_eq_false c50
                                clear c50
                                have H' := Aside0.mk H
                                clear H
                                obtain ⟨Ao77, co77, eo77⟩ := Kd.R_slice HO_9.out
                                subst eo77
                                go_wp2
                                go_loopg [24] k4 (fun kq v24 w' => ∃ (x24_5 : Int), v24 = .int .i64 x24_5 ∧ Aside0 (qanatlaw03_ScanLocal.l1 kq t484 t508 x24_5 = some r) ∧ Aside0 (kq ≤ k4) ∧ Aside0 (Kd.R k53 53 w' w.heap.size (fun k_ => some k_ ≠ (v512 : Value).ownBlock) v488 t484) ∧ Aside0 (Kd.R k53 53 w' w.heap.size (fun k_ => some k_ ≠ (v488 : Value).ownBlock) v512 t508) ∧ Aside0 (Below w.heap.size w w'))
                                case atStart => exact ⟨(0), (by first | rfl | (simp; done) | (simp [*]; done)), H', ⟨Nat.le_refl _⟩, ⟨by (with_reducible repeat (first | apply Kd.R_alloc | apply Kd.R_drewN | apply Kd.R_drew)); exact Kd.R_mono HO_5.out (fun _ hk => hk.2)⟩, ⟨by (with_reducible repeat (first | apply Kd.R_alloc | apply Kd.R_drewN | apply Kd.R_drew)); exact Kd.R_mono HO_18.out (fun _ hk => hk.1)⟩, ⟨by repeat (first | (with_reducible first | exact HB.out | apply below_alloc | apply pw_below_drewN | apply below_drew1) | exact HB.out)⟩⟩
                                case round =>
                                  clear H'
                                  try clear c1
                                  try clear c2
                                  try clear p2
                                  try clear c3
                                  try clear c4
                                  try clear q4
                                  try clear c5
                                  try clear p5
                                  try clear q5
                                  try clear hx5
                                  try clear p6
                                  try clear c13
                                  try clear c16
                                  try clear c16b0
                                  try clear c16b1
                                  try clear c16b2
                                  try clear c17
                                  try clear c21
                                  try clear c21b0
                                  try clear c21b1
                                  try clear c22
                                  try clear c22b0
                                  try clear c22b1
                                  try clear c24
                                  try clear c24b0
                                  try clear c25
                                  try clear c25b0
                                  try clear c26
                                  try clear c26b0
                                  try clear c26b1
                                  try clear c27
                                  try clear c29
                                  try clear c32
                                  try clear c32b0
                                  try clear c32b1
                                  try clear c32b2
                                  try clear c33
                                  try clear c33b0
                                  try clear c33b1
                                  try clear c33b2
                                  try clear c37
                                  try clear c37b0
                                  try clear c37b1
                                  try clear c38
                                  try clear c38b0
                                  try clear c38b1
                                  try clear c39
                                  try clear c39b0
                                  try clear c39b1
                                  try clear c40
                                  try clear c40b0
                                  try clear c40b1
                                  try clear q45
                                  try clear c49
                                  try clear c50
                                  try clear c50b0
                                  try clear p50
                                  try clear q50
                                  try clear hx50
                                  try clear c51
                                  try clear c51b0
                                  try clear p51
                                  try clear q51
                                  try clear hx51
                                  try clear p52
                                  try clear q52
                                  try clear hx52
                                  try clear c54
                                  try clear c54b0
                                  try clear c55
                                  try clear c55b0
                                  try clear c56
                                  try clear c56b0
                                  try clear p64
                                  try clear hcz59_0
                                  try clear hcz59_1
                                  try clear hcz59_2
                                  try clear hcz59_3
                                  try clear hcz59_4
                                  try clear hcz59_5
                                  try clear hcz69_0
                                  try clear hcz69_1
                                  try clear hcz69_2
                                  try clear hcz69_3
                                  try clear hcz69_4
                                  try clear hcz69_5
                                  try clear hfz59_0
                                  try clear hfz59_1
                                  try clear hfz59_2
                                  try clear hfz59_3
                                  try clear hfz59_4
                                  try clear hfz59_5
                                  try clear hfz69_0
                                  try clear hfz69_1
                                  try clear hfz69_2
                                  try clear hfz69_3
                                  try clear hfz69_4
                                  try clear hfz69_5
                                  try clear hx505_0
                                  try clear hx505_1
                                  try clear hx505_2
                                  try clear hx505_3
                                  try clear hx505_4
                                  try clear hx505_5
                                  try clear hx506_0
                                  try clear hx506_1
                                  try clear hx506_2
                                  try clear hx506_3
                                  try clear hx506_4
                                  try clear hx506_5
                                  try clear hx519_0
                                  try clear hx519_1
                                  try clear hx519_2
                                  try clear hx519_3
                                  try clear hx519_4
                                  try clear hx519_5
                                  try clear hx522_0
                                  try clear hx522_1
                                  try clear hx522_2
                                  try clear hx522_3
                                  try clear hx522_4
                                  try clear hx522_5
                                  try clear p2
                                  try clear p5
                                  try clear p505
                                  try clear p506
                                  try clear p519
                                  try clear p522
                                  try clear p6
                                  try clear q4
                                  try clear q45
                                  try clear q5
                                  try clear q505
                                  try clear q506
                                  try clear q519
                                  try clear q522
                                  obtain ⟨x24_5, rfl, HA, HK5, HO_5, HO_18, HB⟩ := hrel
                                  cases gk with
                                  | zero => exact absurd HA.out (by simp [qanatlaw03_ScanLocal.l1])
                                  | succ k5 =>
                                    have H := HA.out
                                    clear HA
                                    simp only [qanatlaw03_ScanLocal.l1] at H
                                    by_cases c78 : x24_5 < (t484.length : Int)
                                    · rw [if_pos c78] at H
                                      have c78b0 : decide (x24_5 < (t484.length : Int)) = true := decide_eq_true c78
                                      clear c78
                                      by_cases c79 : 0 ≤ x24_5
                                      · rw [if_pos c79] at H
                                        have c79b0 : decide (0 ≤ x24_5) = true := decide_eq_true c79
                                        clear c79
                                        by_cases c80 : x24_5 < (t508.length : Int)
                                        · rw [if_pos c80] at H
                                          have c80b0 : decide (x24_5 < (t508.length : Int)) = true := decide_eq_true c80
                                          clear c80
                                          by_cases c81 : ((rd_T53 t484 x24_5).f4) = ((rd_T53 t508 x24_5).f4)
                                          · rw [if_pos c81] at H
                                            have c81b0 : (((rd_T53 t484 x24_5).f4) == ((rd_T53 t508 x24_5).f4)) = true := beq_iff_eq.mpr c81
                                            have c81b1 : (((rd_T53 t484 x24_5).f4) != ((rd_T53 t508 x24_5).f4)) = false := bne_eq_false_iff_eq.mpr c81
                                            clear c81
                                            by_cases c82 : ((rd_T53 t484 x24_5).f3) = ((rd_T53 t508 x24_5).f3)
                                            · rw [if_pos c82] at H
                                              have c82b0 : (((rd_T53 t484 x24_5).f3) == ((rd_T53 t508 x24_5).f3)) = true := beq_iff_eq.mpr c82
                                              have c82b1 : (((rd_T53 t484 x24_5).f3) != ((rd_T53 t508 x24_5).f3)) = false := bne_eq_false_iff_eq.mpr c82
                                              clear c82
                                              by_cases c83 : ((rd_T53 t484 x24_5).f0) = 4
                                              · rw [if_pos c83] at H
                                                have c83b0 : (((rd_T53 t484 x24_5).f0) == 4) = true := beq_iff_eq.mpr c83
                                                have c83b1 : (((rd_T53 t484 x24_5).f0) != 4) = false := bne_eq_false_iff_eq.mpr c83
                                                clear c83
                                                have H' := Aside0.mk H
                                                clear H
                                                obtain ⟨Ao84, co84, eo84⟩ := Kd.R_slice HO_5.out
                                                subst eo84
                                                try go_wp2
                                                have p523 : 0 ≤ (x24_5 : Int) := of_decide_eq_true (by first | (with_reducible assumption) | assumption)
                                                have q523 : x24_5 < (t484.length : Int) := of_decide_eq_true (by first | (with_reducible assumption) | assumption)
                                                obtain ⟨ad523, e523, hx523_0, hx523_1, hx523_2, hx523_3, hx523_4, hx523_5⟩ := at_T53 (Kd.R_reads' HO_5.out).2.2 x24_5 p523 q523
                                                cases e523
                                                replace p523 := eq_true p523
                                                replace q523 := eq_true q523
                                                obtain ⟨Ao86, co86, eo86⟩ := Kd.R_slice HO_18.out
                                                (first | subst eo86 | (injection eo86 with f1_ f2_ f3_; have f4_ := f1_.symm; have f5_ := f3_.symm; clear f1_ f2_ f3_; subst f4_; subst f5_))
                                                have p524 : 0 ≤ (x24_5 : Int) := of_decide_eq_true (by first | (with_reducible assumption) | assumption)
                                                have q524 : x24_5 < (t508.length : Int) := of_decide_eq_true (by first | (with_reducible assumption) | assumption)
                                                obtain ⟨ad524, e524, hx524_0, hx524_1, hx524_2, hx524_3, hx524_4, hx524_5⟩ := at_T53 (Kd.R_reads' HO_18.out).2.2 x24_5 p524 q524
                                                cases e524
                                                replace p524 := eq_true p524
                                                replace q524 := eq_true q524
                                                have p525 : 0 ≤ (x24_5 : Int) := of_decide_eq_true (by first | (with_reducible assumption) | assumption)
                                                have q525 : x24_5 < (t484.length : Int) := of_decide_eq_true (by first | (with_reducible assumption) | assumption)
                                                obtain ⟨ad525, e525, hx525_0, hx525_1, hx525_2, hx525_3, hx525_4, hx525_5⟩ := at_T53 (Kd.R_reads' HO_5.out).2.2 x24_5 p525 q525
                                                obtain rfl : ad523 = ad525 := (by injection e525)
                                                replace p525 := eq_true p525
                                                replace q525 := eq_true q525
                                                have p526 : 0 ≤ (x24_5 : Int) := of_decide_eq_true (by first | (with_reducible assumption) | assumption)
                                                have q526 : x24_5 < (t508.length : Int) := of_decide_eq_true (by first | (with_reducible assumption) | assumption)
                                                obtain ⟨ad526, e526, hx526_0, hx526_1, hx526_2, hx526_3, hx526_4, hx526_5⟩ := at_T53 (Kd.R_reads' HO_18.out).2.2 x24_5 p526 q526
                                                obtain rfl : ad524 = ad526 := (by injection e526)
                                                replace p526 := eq_true p526
                                                replace q526 := eq_true q526
                                                have p527 : 0 ≤ (x24_5 : Int) := of_decide_eq_true (by first | (with_reducible assumption) | assumption)
                                                have q527 : x24_5 < (t484.length : Int) := of_decide_eq_true (by first | (with_reducible assumption) | assumption)
                                                obtain ⟨ad527, e527, hx527_0, hx527_1, hx527_2, hx527_3, hx527_4, hx527_5⟩ := at_T53 (Kd.R_reads' HO_5.out).2.2 x24_5 p527 q527
                                                obtain rfl : ad523 = ad527 := (by injection e527)
                                                replace p527 := eq_true p527
                                                replace q527 := eq_true q527
                                                go_quiet (fail)
                                                go_wp2
                                                go_roundg k5
                                                case measure => have := HJ4.out; have := HJ17.out; have := HJ34.out; have := HK4.out; have := HK5.out; omega
                                                case rel => exact ⟨(wrap64 (x24_5 + 1)), (by first | rfl | (simp; done) | (simp [*]; done)), H', ⟨by have := HJ4.out; have := HJ17.out; have := HJ34.out; have := HK4.out; have := HK5.out; omega⟩, ⟨by (with_reducible repeat (first | apply Kd.R_alloc | apply Kd.R_drewN | apply Kd.R_drew)); exact HO_5.out⟩, ⟨by (with_reducible repeat (first | apply Kd.R_alloc | apply Kd.R_drewN | apply Kd.R_drew)); exact HO_18.out⟩, ⟨by repeat (first | (with_reducible first | exact HB.out | apply below_alloc | apply pw_below_drewN | apply below_drew1) | exact HB.out)⟩⟩
                                              · rw [if_neg c83] at H
                                                have c83b0 : (((rd_T53 t484 x24_5).f0) == 4) = false := beq_eq_false_iff_ne.mpr c83
                                                have c83b1 : (((rd_T53 t484 x24_5).f0) != 4) = true := bne_iff_ne.mpr c83
                                                by_cases c87 : ((rd_T53 t484 x24_5).f5) = ((rd_T53 t508 x24_5).f5)
                                                · rw [if_pos c87] at H
                                                  have c87b0 : (((rd_T53 t484 x24_5).f5) == ((rd_T53 t508 x24_5).f5)) = true := beq_iff_eq.mpr c87
                                                  have c87b1 : (((rd_T53 t484 x24_5).f5) != ((rd_T53 t508 x24_5).f5)) = false := bne_eq_false_iff_eq.mpr c87
                                                  clear c87
                                                  have H' := Aside0.mk H
                                                  clear H
                                                  obtain ⟨Ao88, co88, eo88⟩ := Kd.R_slice HO_5.out
                                                  subst eo88
                                                  try go_wp2
                                                  have p523 : 0 ≤ (x24_5 : Int) := of_decide_eq_true (by first | (with_reducible assumption) | assumption)
                                                  have q523 : x24_5 < (t484.length : Int) := of_decide_eq_true (by first | (with_reducible assumption) | assumption)
                                                  obtain ⟨ad523, e523, hx523_0, hx523_1, hx523_2, hx523_3, hx523_4, hx523_5⟩ := at_T53 (Kd.R_reads' HO_5.out).2.2 x24_5 p523 q523
                                                  cases e523
                                                  replace p523 := eq_true p523
                                                  replace q523 := eq_true q523
                                                  obtain ⟨Ao90, co90, eo90⟩ := Kd.R_slice HO_18.out
                                                  (first | subst eo90 | (injection eo90 with f1_ f2_ f3_; have f4_ := f1_.symm; have f5_ := f3_.symm; clear f1_ f2_ f3_; subst f4_; subst f5_))
                                                  have p524 : 0 ≤ (x24_5 : Int) := of_decide_eq_true (by first | (with_reducible assumption) | assumption)
                                                  have q524 : x24_5 < (t508.length : Int) := of_decide_eq_true (by first | (with_reducible assumption) | assumption)
                                                  obtain ⟨ad524, e524, hx524_0, hx524_1, hx524_2, hx524_3, hx524_4, hx524_5⟩ := at_T53 (Kd.R_reads' HO_18.out).2.2 x24_5 p524 q524
                                                  cases e524
                                                  replace p524 := eq_true p524
                                                  replace q524 := eq_true q524
                                                  have p525 : 0 ≤ (x24_5 : Int) := of_decide_eq_true (by first | (with_reducible assumption) | assumption)
                                                  have q525 : x24_5 < (t484.length : Int) := of_decide_eq_true (by first | (with_reducible assumption) | assumption)
                                                  obtain ⟨ad525, e525, hx525_0, hx525_1, hx525_2, hx525_3, hx525_4, hx525_5⟩ := at_T53 (Kd.R_reads' HO_5.out).2.2 x24_5 p525 q525
                                                  obtain rfl : ad523 = ad525 := (by injection e525)
                                                  replace p525 := eq_true p525
                                                  replace q525 := eq_true q525
                                                  have p526 : 0 ≤ (x24_5 : Int) := of_decide_eq_true (by first | (with_reducible assumption) | assumption)
                                                  have q526 : x24_5 < (t508.length : Int) := of_decide_eq_true (by first | (with_reducible assumption) | assumption)
                                                  obtain ⟨ad526, e526, hx526_0, hx526_1, hx526_2, hx526_3, hx526_4, hx526_5⟩ := at_T53 (Kd.R_reads' HO_18.out).2.2 x24_5 p526 q526
                                                  obtain rfl : ad524 = ad526 := (by injection e526)
                                                  replace p526 := eq_true p526
                                                  replace q526 := eq_true q526
                                                  have p527 : 0 ≤ (x24_5 : Int) := of_decide_eq_true (by first | (with_reducible assumption) | assumption)
                                                  have q527 : x24_5 < (t484.length : Int) := of_decide_eq_true (by first | (with_reducible assumption) | assumption)
                                                  obtain ⟨ad527, e527, hx527_0, hx527_1, hx527_2, hx527_3, hx527_4, hx527_5⟩ := at_T53 (Kd.R_reads' HO_5.out).2.2 x24_5 p527 q527
                                                  obtain rfl : ad523 = ad527 := (by injection e527)
                                                  replace p527 := eq_true p527
                                                  replace q527 := eq_true q527
                                                  have p528 : 0 ≤ (x24_5 : Int) := of_decide_eq_true (by first | (with_reducible assumption) | assumption)
                                                  have q528 : x24_5 < (t484.length : Int) := of_decide_eq_true (by first | (with_reducible assumption) | assumption)
                                                  obtain ⟨ad528, e528, hx528_0, hx528_1, hx528_2, hx528_3, hx528_4, hx528_5⟩ := at_T53 (Kd.R_reads' HO_5.out).2.2 x24_5 p528 q528
                                                  obtain rfl : ad523 = ad528 := (by injection e528)
                                                  replace p528 := eq_true p528
                                                  replace q528 := eq_true q528
                                                  have p529 : 0 ≤ (x24_5 : Int) := of_decide_eq_true (by first | (with_reducible assumption) | assumption)
                                                  have q529 : x24_5 < (t508.length : Int) := of_decide_eq_true (by first | (with_reducible assumption) | assumption)
                                                  obtain ⟨ad529, e529, hx529_0, hx529_1, hx529_2, hx529_3, hx529_4, hx529_5⟩ := at_T53 (Kd.R_reads' HO_18.out).2.2 x24_5 p529 q529
                                                  obtain rfl : ad524 = ad529 := (by injection e529)
                                                  replace p529 := eq_true p529
                                                  replace q529 := eq_true q529
                                                  go_quiet (fail)
                                                  go_wp2
                                                  go_roundg k5
                                                  case measure => have := HJ4.out; have := HJ17.out; have := HJ34.out; have := HK4.out; have := HK5.out; omega
                                                  case rel => exact ⟨(wrap64 (x24_5 + 1)), (by first | rfl | (simp; done) | (simp [*]; done)), H', ⟨by have := HJ4.out; have := HJ17.out; have := HJ34.out; have := HK4.out; have := HK5.out; omega⟩, ⟨by (with_reducible repeat (first | apply Kd.R_alloc | apply Kd.R_drewN | apply Kd.R_drew)); exact HO_5.out⟩, ⟨by (with_reducible repeat (first | apply Kd.R_alloc | apply Kd.R_drewN | apply Kd.R_drew)); exact HO_18.out⟩, ⟨by repeat (first | (with_reducible first | exact HB.out | apply below_alloc | apply pw_below_drewN | apply below_drew1) | exact HB.out)⟩⟩
                                                · rw [if_neg c87] at H
                                                  have c87b0 : (((rd_T53 t484 x24_5).f5) == ((rd_T53 t508 x24_5).f5)) = false := beq_eq_false_iff_ne.mpr c87
                                                  have c87b1 : (((rd_T53 t484 x24_5).f5) != ((rd_T53 t508 x24_5).f5)) = true := bne_iff_ne.mpr c87
                                                  exact absurd ((Option.some.inj H).trans hr) (by decide)
                                            · rw [if_neg c82] at H
                                              have c82b0 : (((rd_T53 t484 x24_5).f3) == ((rd_T53 t508 x24_5).f3)) = false := beq_eq_false_iff_ne.mpr c82
                                              have c82b1 : (((rd_T53 t484 x24_5).f3) != ((rd_T53 t508 x24_5).f3)) = true := bne_iff_ne.mpr c82
                                              exact absurd ((Option.some.inj H).trans hr) (by decide)
                                          · rw [if_neg c81] at H
                                            have c81b0 : (((rd_T53 t484 x24_5).f4) == ((rd_T53 t508 x24_5).f4)) = false := beq_eq_false_iff_ne.mpr c81
                                            have c81b1 : (((rd_T53 t484 x24_5).f4) != ((rd_T53 t508 x24_5).f4)) = true := bne_iff_ne.mpr c81
                                            exact absurd ((Option.some.inj H).trans hr) (by decide)
                                        · rw [if_neg c80] at H
                                          exact absurd H (by simp)
                                      · rw [if_neg c79] at H
                                        exact absurd H (by simp)
                                    · rw [if_neg c78] at H
                                      have c78b0 : decide (x24_5 < (t484.length : Int)) = false := decide_eq_false c78
                                      clear c78
                                      replace H := Option.bind_eq_some_iff.mp H
                                      obtain ⟨t530, A1000, H⟩ := H
                                      replace H : (some t530) = some r := H
                                      have A100 := Aside0.mk A1000
                                      clear A1000
                                      obtain rfl := Option.some.inj H
                                      obtain ⟨Ao101, co101, eo101⟩ := Kd.R_slice HO_5.out
                                      subst eo101
                                      go_wp2_with (first | ((with_reducible refine gate_callee (f := 16) rfl ?_); refine goesL_ (some 217) rfl rfl Tryz.func16 (by kernel_rfl) rfl #[] rfl (by (try simp only [List.map_toArray, List.map_cons, List.map_nil]); first | done | rfl | (simp only [List.length_drop, List.length_take]; rfl)) ?_; (with_reducible refine (qanatlaw03_sanity.calls  t530 _ (TabOK.of_below hT (by repeat (first | (with_reducible first | exact HB.out | apply below_alloc | apply pw_below_drewN | apply below_drew1) | exact HB.out))) A100.out).mono ?_); rintro e w102 ⟨rfl, hb⟩; refine ⟨_, rfl, ?_⟩; have n0_ := Aside0.mk (Kd.R_below (by (with_reducible repeat (first | apply Kd.R_alloc | apply Kd.R_drewN | apply Kd.R_drew)); exact HO_5.out) hb); have n1_ := Aside0.mk (Kd.R_below (by (with_reducible repeat (first | apply Kd.R_alloc | apply Kd.R_drewN | apply Kd.R_drew)); exact HO_18.out) hb); have n2_ := Aside0.mk (below_step (by repeat (first | (with_reducible first | exact HB.out | apply below_alloc | apply pw_below_drewN | apply below_drew1) | exact HB.out)) hb); clear HO_5; clear HO_18; clear HB; have HO_5 := n0_; have HO_18 := n1_; have HB := n2_; clear n0_ n1_ n2_; (try clear hb); (try clear hb2); (try clear hk); (try clear hi)))
                                      go_ret
                                      exact ⟨by first | rfl | (simp [errW_none, errW_some] <;> rfl) | (simp [*, errW_none, errW_some] <;> rfl), by repeat (first | (with_reducible first | exact HB.out | apply below_alloc | apply pw_below_drewN | apply below_drew1) | exact HB.out)⟩
                  · rw [if_neg c33] at H
                    exact absurd H (by simp)
                · rw [if_neg c32] at H
                  exact absurd H (by simp)
        · rw [if_neg c16] at H
          exact absurd H (by simp)
def qanatlaw03_ScanLocal.Pure : Prop := ∀ (a0 : ByteArray) (a1 : ByteArray), a0.size ≤ 140737488351232 → a1.size ≤ 140737488351232 → ∃ k, qanatlaw03_ScanLocal.f k a0 a1 = some true
theorem qanatlaw03_ScanLocal.walk (P : qanatlaw03_ScanLocal.Pure) (a0 : ByteArray) (a1 : ByteArray) (w : World) (hT : TabOK w) (w0 : a0.size ≤ 140737488351232) (w1 : a1.size ≤ 140737488351232) :
    Calls Tryz.prog 8 #[.string a0, .string a1] w fun e w' => e = .returned (.bool true) ∧ Below w.heap.size w w' := by
  obtain ⟨k, h⟩ := P a0 a1 w0 w1
  refine (qanatlaw03_ScanLocal.calls k a0 a1 true rfl w hT h).mono ?_
  rintro e w' ⟨rfl, hd⟩
  exact ⟨rfl, hd⟩
end Go.Proofs.YtkkpjonfaflkmaaGreatDoor.T
