/- Part 23 of the proof of ScanSymbols: the functions that it calls return what their plain descriptions say. -/
import Derived.Test.YtkkpjonfaflkmaaGreatDoorCScanSymbols3
import Derived.Test.YtkkpjonfaflkmaaGreatDoorCScanSymbols6
import Derived.Test.YtkkpjonfaflkmaaGreatDoorCScanSymbols11
import Derived.Test.YtkkpjonfaflkmaaGreatDoorCScanSymbols12
import Derived.Test.YtkkpjonfaflkmaaGreatDoorCScanSymbols13
import Derived.Test.YtkkpjonfaflkmaaGreatDoorCScanSymbols22
import Derived.Test.YtkkpjonfaflkmaaGreatDoorCScanSymbols7
import Derived.Test.YtkkpjonfaflkmaaGreatDoorCScanSymbols17
import Derived.Test.YtkkpjonfaflkmaaGreatDoorCScanSymbols5

namespace Go.Proofs.YtkkpjonfaflkmaaGreatDoor.T
set_option linter.unusedSimpArgs false
open Go.RowKit Go.Proofs.YtkkpjonfaflkmaaGreatDoorW.PrintWords Go.Proofs.YtkkpjonfaflkmaaGreatDoorW.PrintLast Go.Proofs.YtkkpjonfaflkmaaGreatDoorW.PrintMore
attribute [local go_sem] max2_int min2_int max_two min_two max_three min_three max_four min_four   -- for this text's walks alone
set_option linter.unusedVariables false
set_option linter.unusedSimpArgs false
def qanatlaw03_ScanSymbols.f (k : Nat) (a0 : ByteArray) : Option (Bool) := if (a0.size : Int) > 200 then ((qanatlaw03_sanity.f).bind fun t276 => (some t276)) else ((scan_Symbol.f a0).bind fun bt277 => ((qanatref03_Symbol.f k a0).bind fun bt280 => ((scan_Split.f a0).bind fun bt287 => ((qanatref03_Split.f k a0).bind fun bt292 => ((qanatref03_SameStrings.f k bt287.2.1 bt292.2.2.1).bind fun t299 => ((qanatlaw03_sanity.f).bind fun t300 => (if t300 = true then (if bt277.1.toList = bt280.1.toList then (if bt277.2.1 = bt280.2.1 then (if bt277.2.2 = bt280.2.2.2 then (if bt287.1.toList = bt292.1.toList then (if t299 = true then (some (bt287.2.2 == bt292.2.2.2)) else (some false)) else (some false)) else (some false)) else (some false)) else (some false)) else (some false))))))))
theorem qanatlaw03_ScanSymbols.mono : ∀ a0 k, LeO (qanatlaw03_ScanSymbols.f k a0) (qanatlaw03_ScanSymbols.f (k + 1) a0) := by
  intro a0 k
  unfold qanatlaw03_ScanSymbols.f
  repeat' first
      | (with_reducible exact qanatref03_SameStrings.mono _ _ _)
      | (with_reducible exact qanatref03_Split.mono _ _)
      | (with_reducible exact qanatref03_Symbol.mono _ _)
      | (with_reducible exact LeO.refl _)
      | (with_reducible exact LeO.none _)
      | (with_reducible refine LeO.ite ?_ ?_)
      | (with_reducible refine LeO.bind ?_ (fun _ => ?_))
      | exact qanatref03_SameStrings.mono _ _ _
      | exact qanatref03_Split.mono _ _
      | exact qanatref03_Symbol.mono _ _
      | exact LeO.none _
      | refine LeO.ite ?_ ?_
      | refine LeO.bind ?_ (fun _ => ?_)
set_option maxHeartbeats 8000000 in
set_option maxRecDepth 100000 in
theorem qanatlaw03_ScanSymbols.calls (k : Nat) (a0 : ByteArray) (r : Bool) (hr : r = true) (w : World) (hT : TabOK w) (h : qanatlaw03_ScanSymbols.f k a0 = some r) :
    Calls Tryz.prog 4 #[.string a0] w fun e w' => e = .returned (.bool r) ∧ Below w.heap.size w w' := by
  have hu45 := Tryz.underlying45
  have HB := Aside0.mk (Below.refl w.heap.size w)
  have H : (if (a0.size : Int) > 200 then ((qanatlaw03_sanity.f).bind fun t276 => (some t276)) else ((scan_Symbol.f a0).bind fun bt277 => ((qanatref03_Symbol.f k a0).bind fun bt280 => ((scan_Split.f a0).bind fun bt287 => ((qanatref03_Split.f k a0).bind fun bt292 => ((qanatref03_SameStrings.f k bt287.2.1 bt292.2.2.1).bind fun t299 => ((qanatlaw03_sanity.f).bind fun t300 => (if t300 = true then (if bt277.1.toList = bt280.1.toList then (if bt277.2.1 = bt280.2.1 then (if bt277.2.2 = bt280.2.2.2 then (if bt287.1.toList = bt292.1.toList then (if t299 = true then (some (bt287.2.2 == bt292.2.2.2)) else (some false)) else (some false)) else (some false)) else (some false)) else (some false)) else (some false))))))))) = some r := h
  clear h
  by_cases c2 : (a0.size : Int) > 200
  · rw [if_pos c2] at H
    have c2b0 : decide (200 < (a0.size : Int)) = true := decide_eq_true c2
    have c2b1 : decide (200 < a0.size) = true := decide_eq_true (by omega)
    clear c2
    replace H := Option.bind_eq_some_iff.mp H
    obtain ⟨t276, A30, H⟩ := H
    replace H : (some t276) = some r := H
    have A3 := Aside0.mk A30
    clear A30
    obtain rfl := Option.some.inj H
    go_enter Tryz.func4, Tryz.ntmps4
    go_wp2_with (first | ((with_reducible refine gate_callee (f := 16) rfl ?_); refine goesL_ (some 15) rfl rfl Tryz.func16 (by kernel_rfl) rfl #[] rfl (by (try simp only [List.map_toArray, List.map_cons, List.map_nil]); first | done | rfl | (simp only [List.length_drop, List.length_take]; rfl)) ?_; (with_reducible refine (qanatlaw03_sanity.calls  t276 _ (TabOK.of_below hT (by repeat (first | (with_reducible first | exact HB.out | apply below_alloc | apply pw_below_drewN | apply below_drew1) | exact HB.out))) A3.out).mono ?_); rintro e w4 ⟨rfl, hb⟩; refine ⟨_, rfl, ?_⟩; have n0_ := Aside0.mk (below_step (by repeat (first | (with_reducible first | exact HB.out | apply below_alloc | apply pw_below_drewN | apply below_drew1) | exact HB.out)) hb); clear HB; have HB := n0_; clear n0_; (try clear hb); (try clear hb2); (try clear hk); (try clear hi)))
    go_ret
    exact ⟨by first | rfl | (simp [errW_none, errW_some] <;> rfl) | (simp [*, errW_none, errW_some] <;> rfl), by repeat (first | (with_reducible first | exact HB.out | apply below_alloc | apply pw_below_drewN | apply below_drew1) | exact HB.out)⟩
  · rw [if_neg c2] at H
    have c2b0 : decide (200 < (a0.size : Int)) = false := decide_eq_false c2
    have c2b1 : decide (200 < a0.size) = false := decide_eq_false (by omega)
    clear c2
    replace H := Option.bind_eq_some_iff.mp H
    obtain ⟨⟨t277, t278, t279⟩, A50, H⟩ := H
    replace H : ((qanatref03_Symbol.f k a0).bind fun bt280 => ((scan_Split.f a0).bind fun bt287 => ((qanatref03_Split.f k a0).bind fun bt292 => ((qanatref03_SameStrings.f k bt287.2.1 bt292.2.2.1).bind fun t299 => ((qanatlaw03_sanity.f).bind fun t300 => (if t300 = true then (if t277.toList = bt280.1.toList then (if t278 = bt280.2.1 then (if t279 = bt280.2.2.2 then (if bt287.1.toList = bt292.1.toList then (if t299 = true then (some (bt287.2.2 == bt292.2.2.2)) else (some false)) else (some false)) else (some false)) else (some false)) else (some false)) else (some false))))))) = some r := H
    have A5 := Aside0.mk A50
    clear A50
    replace H := Option.bind_eq_some_iff.mp H
    obtain ⟨⟨t280, t281, t282, t285⟩, A60, H⟩ := H
    replace H : ((scan_Split.f a0).bind fun bt287 => ((qanatref03_Split.f k a0).bind fun bt292 => ((qanatref03_SameStrings.f k bt287.2.1 bt292.2.2.1).bind fun t299 => ((qanatlaw03_sanity.f).bind fun t300 => (if t300 = true then (if t277.toList = t280.toList then (if t278 = t281 then (if t279 = t285 then (if bt287.1.toList = bt292.1.toList then (if t299 = true then (some (bt287.2.2 == bt292.2.2.2)) else (some false)) else (some false)) else (some false)) else (some false)) else (some false)) else (some false)))))) = some r := H
    have A6 := Aside0.mk A60
    clear A60
    replace H := Option.bind_eq_some_iff.mp H
    obtain ⟨⟨t287, t288, t289⟩, A70, H⟩ := H
    replace H : ((qanatref03_Split.f k a0).bind fun bt292 => ((qanatref03_SameStrings.f k t288 bt292.2.2.1).bind fun t299 => ((qanatlaw03_sanity.f).bind fun t300 => (if t300 = true then (if t277.toList = t280.toList then (if t278 = t281 then (if t279 = t285 then (if t287.toList = bt292.1.toList then (if t299 = true then (some (t289 == bt292.2.2.2)) else (some false)) else (some false)) else (some false)) else (some false)) else (some false)) else (some false))))) = some r := H
    have A7 := Aside0.mk A70
    clear A70
    replace H := Option.bind_eq_some_iff.mp H
    obtain ⟨⟨t292, t293, t294, t297⟩, A80, H⟩ := H
    replace H : ((qanatref03_SameStrings.f k t288 t294).bind fun t299 => ((qanatlaw03_sanity.f).bind fun t300 => (if t300 = true then (if t277.toList = t280.toList then (if t278 = t281 then (if t279 = t285 then (if t287.toList = t292.toList then (if t299 = true then (some (t289 == t297)) else (some false)) else (some false)) else (some false)) else (some false)) else (some false)) else (some false)))) = some r := H
    have A8 := Aside0.mk A80
    clear A80
    replace H := Option.bind_eq_some_iff.mp H
    obtain ⟨t299, A90, H⟩ := H
    replace H : ((qanatlaw03_sanity.f).bind fun t300 => (if t300 = true then (if t277.toList = t280.toList then (if t278 = t281 then (if t279 = t285 then (if t287.toList = t292.toList then (if t299 = true then (some (t289 == t297)) else (some false)) else (some false)) else (some false)) else (some false)) else (some false)) else (some false))) = some r := H
    have A9 := Aside0.mk A90
    clear A90
    replace H := Option.bind_eq_some_iff.mp H
    obtain ⟨t300, A100, H⟩ := H
    replace H : (if t300 = true then (if t277.toList = t280.toList then (if t278 = t281 then (if t279 = t285 then (if t287.toList = t292.toList then (if t299 = true then (some (t289 == t297)) else (some false)) else (some false)) else (some false)) else (some false)) else (some false)) else (some false)) = some r := H
    have A10 := Aside0.mk A100
    clear A100
    by_cases c11 : t300 = true
    · subst c11
      have H1 : (if t277.toList = t280.toList then (if t278 = t281 then (if t279 = t285 then (if t287.toList = t292.toList then (if t299 = true then (some (t289 == t297)) else (some false)) else (some false)) else (some false)) else (some false)) else (some false)) = some r := by rw [if_pos rfl] at H; exact H
      clear H
      have H := H1
      clear H1
      by_cases c12 : t277.toList = t280.toList
      · rw [if_pos c12] at H
        have c12b0 : (t277.toList == t280.toList) = true := beq_iff_eq.mpr c12
        have c12b1 : (t277.toList != t280.toList) = false := bne_eq_false_iff_eq.mpr c12
        clear c12
        by_cases c13 : t278 = t281
        · rw [if_pos c13] at H
          have c13b0 : (t278 == t281) = true := beq_iff_eq.mpr c13
          have c13b1 : (t278 != t281) = false := bne_eq_false_iff_eq.mpr c13
          clear c13
          by_cases c14 : t279 = t285
          · rw [if_pos c14] at H
            have c14b0 : (t279 == t285) = true := beq_iff_eq.mpr c14
            have c14b1 : (t279 != t285) = false := bne_eq_false_iff_eq.mpr c14
            clear c14
            by_cases c15 : t287.toList = t292.toList
            · rw [if_pos c15] at H
              have c15b0 : (t287.toList == t292.toList) = true := beq_iff_eq.mpr c15
              have c15b1 : (t287.toList != t292.toList) = false := bne_eq_false_iff_eq.mpr c15
              clear c15
              by_cases c16 : t299 = true
              · subst c16
                have H1 : (some (t289 == t297)) = some r := by rw [if_pos rfl] at H; exact H
                clear H
                have H := H1
                clear H1
                obtain rfl := Option.some.inj H
                go_enter Tryz.func4, Tryz.ntmps4
                go_wp2_with (first | ((with_reducible refine gate_callee (f := 25) rfl ?_); refine goesL_ (some 18) rfl rfl Tryz.func25 (by kernel_rfl) rfl #[.string a0] rfl (by (try simp only [List.map_toArray, List.map_cons, List.map_nil]); first | done | rfl | (simp only [List.length_drop, List.length_take]; rfl)) ?_; (with_reducible refine (scan_Symbol.calls a0 t277 t278 t279 _ A5.out).mono ?_); rintro e w17 ⟨rfl, hb⟩; refine ⟨_, rfl, ?_⟩; have n0_ := Aside0.mk (below_step (by repeat (first | (with_reducible first | exact HB.out | apply below_alloc | apply pw_below_drewN | apply below_drew1) | exact HB.out)) hb); clear HB; have HB := n0_; clear n0_; (try clear hb); (try clear hb2); (try clear hk); (try clear hi)) | ((with_reducible refine gate_callee (f := 26) rfl ?_); refine goesL_ (some 23) rfl rfl Tryz.func26 (by kernel_rfl) rfl #[.string a0] rfl (by (try simp only [List.map_toArray, List.map_cons, List.map_nil]); first | done | rfl | (simp only [List.length_drop, List.length_take]; rfl)) ?_; (with_reducible refine (qanatref03_Symbol.calls k a0 t280 t281 t282 t285 _ A6.out).mono ?_); rintro e w18 ⟨v283, rfl, ho0, hb⟩; refine ⟨_, rfl, ?_⟩; have n0_ := Aside0.mk (Kd.R_lower ho0 (below_size (by repeat (first | (with_reducible first | exact HB.out | apply below_alloc | apply pw_below_drewN | apply below_drew1) | exact HB.out)))); have n1_ := Aside0.mk (below_step (by repeat (first | (with_reducible first | exact HB.out | apply below_alloc | apply pw_below_drewN | apply below_drew1) | exact HB.out)) hb); clear HB; have HO284 := n0_; have HB := n1_; clear n0_ n1_; (try clear hb); (try clear hb2); (try clear hk); (try clear hi); (try clear ho0)) | ((with_reducible refine gate_dst (N := 6) rfl ?_); refine box_event ?hg (N := 6) ?hd (cs := #[.string (⟨#[]⟩ : ByteArray), .int .i64 0, .slice none 0 0, .int .i64 0]) (t := 45) ?hr ?_; (case hd => rfl); (case hg => rfl); (case hr => first | (go_simp; done) | (go_simp; rfl)); intro gb286 hg w19 hbox hb; have n0_ := Aside0.mk (Kd.R_below (by (with_reducible repeat (first | apply Kd.R_alloc | apply Kd.R_drewN | apply Kd.R_drew)); exact HO284.out) hb); have n1_ := Aside0.mk (below_step (by repeat (first | (with_reducible first | exact HB.out | apply below_alloc | apply pw_below_drewN | apply below_drew1) | exact HB.out)) hb); have n2_ := Aside0.mk (hbox); have n3_ := Aside0.mk ((by rw [hg]; exact (below_size (by repeat (first | (with_reducible first | exact HB.out | apply below_alloc | apply pw_below_drewN | apply below_drew1) | exact HB.out))) : w.heap.size ≤ gb286)); have n4_ := Aside0.mk ((by rw [hg]; exact (below_size (by repeat (first | (with_reducible first | exact HB.out | apply below_alloc | apply pw_below_drewN | apply below_drew1) | exact HB.out))) : w.heap.size ≤ gb286)); clear HO284; clear HB; have HO284 := n0_; have HB := n1_; have BK286 := n2_; have GW286 := n3_; have GE286 := n4_; clear n0_ n1_ n2_ n3_ n4_; clear hb hbox hg; have hcz20_0 : w19.cell? ⟨gb286, 0, none⟩ = some (.string (⟨#[]⟩ : ByteArray)) := (blk_cell BK286.out 0).trans rfl; have hcz20_1 : w19.cell? ⟨gb286, 1, none⟩ = some (.int .i64 0) := (blk_cell BK286.out 1).trans rfl; have hcz20_2 : w19.cell? ⟨gb286, 2, none⟩ = some (.slice none 0 0) := (blk_cell BK286.out 2).trans rfl; have hcz20_3 : w19.cell? ⟨gb286, 3, none⟩ = some (.int .i64 0) := (blk_cell BK286.out 3).trans rfl; have hfz20_0 := blk_frozen BK286.out 0; have hfz20_1 := blk_frozen BK286.out 1; have hfz20_2 := blk_frozen BK286.out 2; have hfz20_3 := blk_frozen BK286.out 3; obtain ⟨Ao21, co21, eo21⟩ := Kd.R_slice HO284.out; subst eo21) | ((with_reducible refine gate_callee (f := 27) rfl ?_); refine goesL_ (some 26) rfl rfl Tryz.func27 (by kernel_rfl) rfl #[.string a0] rfl (by (try simp only [List.map_toArray, List.map_cons, List.map_nil]); first | done | rfl | (simp only [List.length_drop, List.length_take]; rfl)) ?_; (with_reducible refine (scan_Split.calls a0 t287 t288 t289 _ (TabOK.of_below hT (by repeat (first | (with_reducible first | exact HB.out | apply below_alloc | apply pw_below_drewN | apply below_drew1 | refine below_set ?_ GE286.out) | exact HB.out))) A7.out).mono ?_); rintro e w22 ⟨v290, rfl, ho0, hb⟩; refine ⟨_, rfl, ?_⟩; have n0_ := Aside0.mk (Kd.R_elder' (by (with_reducible repeat (first | apply Kd.R_alloc | apply Kd.R_drewN | apply Kd.R_drew)); exact (Kd.R_mono (Kd.R_far (p := ⟨gb286, 3, none⟩) (Kd.R_far (p := ⟨gb286, 2, none⟩) (Kd.R_far (p := ⟨gb286, 1, none⟩) (Kd.R_far (p := ⟨gb286, 0, none⟩) (Kd.R_types HO284.out BK286.out (by decide)) (fun _ hk => hk.2) (.string t280)) (fun _ hk => hk.2) (.int .i64 t281)) (fun _ hk => hk.2) (.slice Ao21 t282.length co21)) (fun _ hk => hk.2) (.int .i64 t285)) (fun _ h_ => h_.1))) (Kd.R_base ho0) hb); have n1_ := Aside0.mk (Kd.R_lower (Kd.R_new' ho0 (Kd.R_lt (by (with_reducible repeat (first | apply Kd.R_alloc | apply Kd.R_drewN | apply Kd.R_drew)); exact (Kd.R_mono (Kd.R_far (p := ⟨gb286, 3, none⟩) (Kd.R_far (p := ⟨gb286, 2, none⟩) (Kd.R_far (p := ⟨gb286, 1, none⟩) (Kd.R_far (p := ⟨gb286, 0, none⟩) (Kd.R_types HO284.out BK286.out (by decide)) (fun _ hk => hk.2) (.string t280)) (fun _ hk => hk.2) (.int .i64 t281)) (fun _ hk => hk.2) (.slice Ao21 t282.length co21)) (fun _ hk => hk.2) (.int .i64 t285)) (fun _ h_ => h_.1))))) (below_size (by repeat (first | (with_reducible first | exact HB.out | apply below_alloc | apply pw_below_drewN | apply below_drew1 | refine below_set ?_ GE286.out) | exact HB.out)))); have n2_ := Aside0.mk (blk_below (g := gb286) (o := .cells #[.string t280, .int .i64 t281, .slice Ao21 t282.length co21, .int .i64 t285] 45 (0, 0)) (by (with_reducible repeat (first | refine blk_drewN ?_ _ | refine blk_drew ?_ | refine blk_alloc ?_ _)); refine blk_put (cs := #[.string t280, .int .i64 t281, .slice Ao21 t282.length co21, .int .i64 0]) ?_ 3 _ rfl; (with_reducible repeat (first | refine blk_drewN ?_ _ | refine blk_drew ?_ | refine blk_alloc ?_ _)); refine blk_put (cs := #[.string t280, .int .i64 t281, .slice none 0 0, .int .i64 0]) ?_ 2 _ rfl; (with_reducible repeat (first | refine blk_drewN ?_ _ | refine blk_drew ?_ | refine blk_alloc ?_ _)); refine blk_put (cs := #[.string t280, .int .i64 0, .slice none 0 0, .int .i64 0]) ?_ 1 _ rfl; (with_reducible repeat (first | refine blk_drewN ?_ _ | refine blk_drew ?_ | refine blk_alloc ?_ _)); refine blk_put (cs := #[.string (⟨#[]⟩ : ByteArray), .int .i64 0, .slice none 0 0, .int .i64 0]) ?_ 0 _ rfl; (with_reducible repeat (first | refine blk_drewN ?_ _ | refine blk_drew ?_ | refine blk_alloc ?_ _)); exact BK286.out) hb); have n3_ := Aside0.mk (below_step (by repeat (first | (with_reducible first | exact HB.out | apply below_alloc | apply pw_below_drewN | apply below_drew1 | refine below_set ?_ GE286.out) | exact HB.out)) hb); clear HO284; clear BK286; clear HB; have HO284 := n0_; have HO291 := n1_; have BK286 := n2_; have HB := n3_; clear n0_ n1_ n2_ n3_; (try clear hb); (try clear hb2); (try clear hk); (try clear hi); (try clear ho0)) | ((with_reducible refine gate_callee (f := 28) rfl ?_); refine goesL_ (some 31) rfl rfl Tryz.func28 (by kernel_rfl) rfl #[.string a0] rfl (by (try simp only [List.map_toArray, List.map_cons, List.map_nil]); first | done | rfl | (simp only [List.length_drop, List.length_take]; rfl)) ?_; (with_reducible refine (qanatref03_Split.calls k a0 t292 t293 t294 t297 _ A8.out).mono ?_); rintro e w23 ⟨v295, rfl, ho0, hb⟩; refine ⟨_, rfl, ?_⟩; have n0_ := Aside0.mk (Kd.R_elder' (by (with_reducible repeat (first | apply Kd.R_alloc | apply Kd.R_drewN | apply Kd.R_drew)); exact HO284.out) (Kd.R_base ho0) hb); have n1_ := Aside0.mk (Kd.R_elder' (by (with_reducible repeat (first | apply Kd.R_alloc | apply Kd.R_drewN | apply Kd.R_drew)); exact HO291.out) (Kd.R_base ho0) hb); have n2_ := Aside0.mk (Kd.R_lower (Kd.R_new' (Kd.R_new' ho0 (Kd.R_lt (by (with_reducible repeat (first | apply Kd.R_alloc | apply Kd.R_drewN | apply Kd.R_drew)); exact HO284.out))) (Kd.R_lt (by (with_reducible repeat (first | apply Kd.R_alloc | apply Kd.R_drewN | apply Kd.R_drew)); exact HO291.out))) (below_size (by repeat (first | (with_reducible first | exact HB.out | apply below_alloc | apply pw_below_drewN | apply below_drew1 | refine below_set ?_ GE286.out) | exact HB.out)))); have n3_ := Aside0.mk (blk_below (g := gb286) (o := .cells #[.string t280, .int .i64 t281, .slice Ao21 t282.length co21, .int .i64 t285] 45 (0, 0)) (by (with_reducible repeat (first | refine blk_drewN ?_ _ | refine blk_drew ?_ | refine blk_alloc ?_ _)); exact BK286.out) hb); have n4_ := Aside0.mk (below_step (by repeat (first | (with_reducible first | exact HB.out | apply below_alloc | apply pw_below_drewN | apply below_drew1 | refine below_set ?_ GE286.out) | exact HB.out)) hb); clear HO284; clear HO291; clear BK286; clear HB; have HO284 := n0_; have HO291 := n1_; have HO296 := n2_; have BK286 := n3_; have HB := n4_; clear n0_ n1_ n2_ n3_ n4_; (try clear hb); (try clear hb2); (try clear hk); (try clear hi); (try clear ho0)) | ((with_reducible refine gate_dst (N := 10) rfl ?_); refine box_event ?hg (N := 10) ?hd (cs := #[.string (⟨#[]⟩ : ByteArray), .int .i64 0, .slice none 0 0, .int .i64 0]) (t := 45) ?hr ?_; (case hd => rfl); (case hg => rfl); (case hr => first | (go_simp; done) | (go_simp; rfl)); intro gb298 hg w24 hbox hb; have n0_ := Aside0.mk (Kd.R_below (by (with_reducible repeat (first | apply Kd.R_alloc | apply Kd.R_drewN | apply Kd.R_drew)); exact HO284.out) hb); have n1_ := Aside0.mk (Kd.R_below (by (with_reducible repeat (first | apply Kd.R_alloc | apply Kd.R_drewN | apply Kd.R_drew)); exact HO291.out) hb); have n2_ := Aside0.mk (Kd.R_below (by (with_reducible repeat (first | apply Kd.R_alloc | apply Kd.R_drewN | apply Kd.R_drew)); exact HO296.out) hb); have n3_ := Aside0.mk (blk_below (g := gb286) (o := .cells #[.string t280, .int .i64 t281, .slice Ao21 t282.length co21, .int .i64 t285] 45 (0, 0)) (by (with_reducible repeat (first | refine blk_drewN ?_ _ | refine blk_drew ?_ | refine blk_alloc ?_ _)); exact BK286.out) hb); have n4_ := Aside0.mk (below_step (by repeat (first | (with_reducible first | exact HB.out | apply below_alloc | apply pw_below_drewN | apply below_drew1 | refine below_set ?_ GE286.out) | exact HB.out)) hb); have n5_ := Aside0.mk (hbox); have n6_ := Aside0.mk ((by rw [hg]; exact (below_size (by repeat (first | (with_reducible first | exact HB.out | apply below_alloc | apply pw_below_drewN | apply below_drew1 | refine below_set ?_ GE286.out) | exact HB.out))) : w.heap.size ≤ gb298)); have n7_ := Aside0.mk ((by rw [hg]; exact (below_size (by repeat (first | (with_reducible first | exact HB.out | apply below_alloc | apply pw_below_drewN | apply below_drew1 | refine below_set ?_ GE286.out) | exact HB.out))) : w.heap.size ≤ gb298)); have n8_ := Aside0.mk ((by rw [hg]; exact Nat.ne_of_lt (blk_lt (g := gb286) (o := .cells #[.string t280, .int .i64 t281, .slice Ao21 t282.length co21, .int .i64 t285] 45 (0, 0)) (by (with_reducible repeat (first | refine blk_drewN ?_ _ | refine blk_drew ?_ | refine blk_alloc ?_ _)); exact BK286.out)) : gb286 ≠ gb298)); have n9_ := Aside0.mk ((by rw [hg]; exact Nat.ne_of_gt (blk_lt (g := gb286) (o := .cells #[.string t280, .int .i64 t281, .slice Ao21 t282.length co21, .int .i64 t285] 45 (0, 0)) (by (with_reducible repeat (first | refine blk_drewN ?_ _ | refine blk_drew ?_ | refine blk_alloc ?_ _)); exact BK286.out)) : gb298 ≠ gb286)); clear HO284; clear HO291; clear HO296; clear BK286; clear HB; have HO284 := n0_; have HO291 := n1_; have HO296 := n2_; have BK286 := n3_; have HB := n4_; have BK298 := n5_; have GW298 := n6_; have GE298 := n7_; have NB286_298 := n8_; have NB298_286 := n9_; clear n0_ n1_ n2_ n3_ n4_ n5_ n6_ n7_ n8_ n9_; clear hb hbox hg; have hnb25 := NB298_286.out; have hnc25 := NB286_298.out; have hcz26_0 : w24.cell? ⟨gb298, 0, none⟩ = some (.string (⟨#[]⟩ : ByteArray)) := (blk_cell BK298.out 0).trans rfl; have hcz26_1 : w24.cell? ⟨gb298, 1, none⟩ = some (.int .i64 0) := (blk_cell BK298.out 1).trans rfl; have hcz26_2 : w24.cell? ⟨gb298, 2, none⟩ = some (.slice none 0 0) := (blk_cell BK298.out 2).trans rfl; have hcz26_3 : w24.cell? ⟨gb298, 3, none⟩ = some (.int .i64 0) := (blk_cell BK298.out 3).trans rfl; have hfz26_0 := blk_frozen BK298.out 0; have hfz26_1 := blk_frozen BK298.out 1; have hfz26_2 := blk_frozen BK298.out 2; have hfz26_3 := blk_frozen BK298.out 3; obtain ⟨Ao27, co27, eo27⟩ := Kd.R_slice HO296.out; subst eo27; obtain ⟨Ao28, co28, eo28⟩ := Kd.R_slice HO291.out; subst eo28) | ((with_reducible refine gate_callee (f := 29) rfl ?_); refine goesL_ (some 35) rfl rfl Tryz.func29 (by kernel_rfl) rfl #[.slice Ao28 t288.length co28, .slice Ao27 t294.length co27] rfl (by (try simp only [List.map_toArray, List.map_cons, List.map_nil]); first | done | rfl | (simp only [List.length_drop, List.length_take]; rfl)) ?_; (with_reducible refine (qanatref03_SameStrings.calls k _ _ t288 _ _ t294 true _ ?side1 ?side2 ?side3 ?side4 A9.out).mono ?_); (case side1 => refine (Kd.R_reads' (e := 9) (base := w.heap.size) (ok := fun k_ => ((True ∧ some k_ ≠ (.slice Ao21 t282.length co21 : Value).ownBlock) ∧ some k_ ≠ (.slice Ao27 t294.length co27 : Value).ownBlock)) (n := t288.length) (c := co28) ?_).2.2; exact (by (with_reducible repeat (first | apply Kd.R_alloc | apply Kd.R_drewN | apply Kd.R_drew)); exact (Kd.R_mono (Kd.R_far (p := ⟨gb298, 3, none⟩) (Kd.R_far (p := ⟨gb298, 2, none⟩) (Kd.R_far (p := ⟨gb298, 1, none⟩) (Kd.R_far (p := ⟨gb298, 0, none⟩) (Kd.R_types HO291.out BK298.out (by decide)) (fun _ hk => hk.2) (.string t292)) (fun _ hk => hk.2) (.int .i64 t293)) (fun _ hk => hk.2) (.slice Ao27 t294.length co27)) (fun _ hk => hk.2) (.int .i64 t297)) (fun _ h_ => h_.1)))); (case side2 => exact (Kd.R_reads' HO291.out).2.1); (case side3 => refine (Kd.R_reads' (e := 9) (base := w.heap.size) (ok := fun k_ => ((True ∧ some k_ ≠ (.slice Ao21 t282.length co21 : Value).ownBlock) ∧ some k_ ≠ (.slice Ao28 t288.length co28 : Value).ownBlock)) (n := t294.length) (c := co27) ?_).2.2; exact (by (with_reducible repeat (first | apply Kd.R_alloc | apply Kd.R_drewN | apply Kd.R_drew)); exact (Kd.R_mono (Kd.R_far (p := ⟨gb298, 3, none⟩) (Kd.R_far (p := ⟨gb298, 2, none⟩) (Kd.R_far (p := ⟨gb298, 1, none⟩) (Kd.R_far (p := ⟨gb298, 0, none⟩) (Kd.R_types HO296.out BK298.out (by decide)) (fun _ hk => hk.2) (.string t292)) (fun _ hk => hk.2) (.int .i64 t293)) (fun _ hk => hk.2) (.slice Ao27 t294.length co27)) (fun _ hk => hk.2) (.int .i64 t297)) (fun _ h_ => h_.1)))); (case side4 => exact (Kd.R_reads' HO296.out).2.1); rintro e w' ⟨rfl, ⟨nd, rfl⟩⟩; refine ⟨_, rfl, ?_⟩) | ((with_reducible refine gate_callee (f := 16) rfl ?_); refine goesL_ (some 36) rfl rfl Tryz.func16 (by kernel_rfl) rfl #[] rfl (by (try simp only [List.map_toArray, List.map_cons, List.map_nil]); first | done | rfl | (simp only [List.length_drop, List.length_take]; rfl)) ?_; (with_reducible refine (qanatlaw03_sanity.calls  true _ (TabOK.of_below hT (by repeat (first | (with_reducible first | exact HB.out | apply below_alloc | apply pw_below_drewN | apply below_drew1 | refine below_set ?_ GE286.out | refine below_set ?_ GE298.out) | exact HB.out))) A10.out).mono ?_); rintro e w29 ⟨rfl, hb⟩; refine ⟨_, rfl, ?_⟩; have n0_ := Aside0.mk (Kd.R_below (by (with_reducible repeat (first | apply Kd.R_alloc | apply Kd.R_drewN | apply Kd.R_drew)); exact (Kd.R_mono (Kd.R_far (p := ⟨gb298, 3, none⟩) (Kd.R_far (p := ⟨gb298, 2, none⟩) (Kd.R_far (p := ⟨gb298, 1, none⟩) (Kd.R_far (p := ⟨gb298, 0, none⟩) (Kd.R_types HO284.out BK298.out (by decide)) (fun _ hk => hk.2) (.string t292)) (fun _ hk => hk.2) (.int .i64 t293)) (fun _ hk => hk.2) (.slice Ao27 t294.length co27)) (fun _ hk => hk.2) (.int .i64 t297)) (fun _ h_ => h_.1))) hb); have n1_ := Aside0.mk (Kd.R_below (by (with_reducible repeat (first | apply Kd.R_alloc | apply Kd.R_drewN | apply Kd.R_drew)); exact (Kd.R_mono (Kd.R_far (p := ⟨gb298, 3, none⟩) (Kd.R_far (p := ⟨gb298, 2, none⟩) (Kd.R_far (p := ⟨gb298, 1, none⟩) (Kd.R_far (p := ⟨gb298, 0, none⟩) (Kd.R_types HO291.out BK298.out (by decide)) (fun _ hk => hk.2) (.string t292)) (fun _ hk => hk.2) (.int .i64 t293)) (fun _ hk => hk.2) (.slice Ao27 t294.length co27)) (fun _ hk => hk.2) (.int .i64 t297)) (fun _ h_ => h_.1))) hb); have n2_ := Aside0.mk (Kd.R_below (by (with_reducible repeat (first | apply Kd.R_alloc | apply Kd.R_drewN | apply Kd.R_drew)); exact (Kd.R_mono (Kd.R_far (p := ⟨gb298, 3, none⟩) (Kd.R_far (p := ⟨gb298, 2, none⟩) (Kd.R_far (p := ⟨gb298, 1, none⟩) (Kd.R_far (p := ⟨gb298, 0, none⟩) (Kd.R_types HO296.out BK298.out (by decide)) (fun _ hk => hk.2) (.string t292)) (fun _ hk => hk.2) (.int .i64 t293)) (fun _ hk => hk.2) (.slice Ao27 t294.length co27)) (fun _ hk => hk.2) (.int .i64 t297)) (fun _ h_ => h_.1))) hb); have n3_ := Aside0.mk (blk_below (g := gb286) (o := .cells #[.string t280, .int .i64 t281, .slice Ao21 t282.length co21, .int .i64 t285] 45 (0, 0)) (by (with_reducible repeat (first | refine blk_drewN ?_ _ | refine blk_drew ?_ | refine blk_alloc ?_ _)); refine blk_far ?_ NB286_298.out _; (with_reducible repeat (first | refine blk_drewN ?_ _ | refine blk_drew ?_ | refine blk_alloc ?_ _)); refine blk_far ?_ NB286_298.out _; (with_reducible repeat (first | refine blk_drewN ?_ _ | refine blk_drew ?_ | refine blk_alloc ?_ _)); refine blk_far ?_ NB286_298.out _; (with_reducible repeat (first | refine blk_drewN ?_ _ | refine blk_drew ?_ | refine blk_alloc ?_ _)); refine blk_far ?_ NB286_298.out _; (with_reducible repeat (first | refine blk_drewN ?_ _ | refine blk_drew ?_ | refine blk_alloc ?_ _)); exact BK286.out) hb); have n4_ := Aside0.mk (blk_below (g := gb298) (o := .cells #[.string t292, .int .i64 t293, .slice Ao27 t294.length co27, .int .i64 t297] 45 (0, 0)) (by (with_reducible repeat (first | refine blk_drewN ?_ _ | refine blk_drew ?_ | refine blk_alloc ?_ _)); refine blk_put (cs := #[.string t292, .int .i64 t293, .slice Ao27 t294.length co27, .int .i64 0]) ?_ 3 _ rfl; (with_reducible repeat (first | refine blk_drewN ?_ _ | refine blk_drew ?_ | refine blk_alloc ?_ _)); refine blk_put (cs := #[.string t292, .int .i64 t293, .slice none 0 0, .int .i64 0]) ?_ 2 _ rfl; (with_reducible repeat (first | refine blk_drewN ?_ _ | refine blk_drew ?_ | refine blk_alloc ?_ _)); refine blk_put (cs := #[.string t292, .int .i64 0, .slice none 0 0, .int .i64 0]) ?_ 1 _ rfl; (with_reducible repeat (first | refine blk_drewN ?_ _ | refine blk_drew ?_ | refine blk_alloc ?_ _)); refine blk_put (cs := #[.string (⟨#[]⟩ : ByteArray), .int .i64 0, .slice none 0 0, .int .i64 0]) ?_ 0 _ rfl; (with_reducible repeat (first | refine blk_drewN ?_ _ | refine blk_drew ?_ | refine blk_alloc ?_ _)); exact BK298.out) hb); have n5_ := Aside0.mk (below_step (by repeat (first | (with_reducible first | exact HB.out | apply below_alloc | apply pw_below_drewN | apply below_drew1 | refine below_set ?_ GE286.out | refine below_set ?_ GE298.out) | exact HB.out)) hb); clear HO284; clear HO291; clear HO296; clear BK286; clear BK298; clear HB; have HO284 := n0_; have HO291 := n1_; have HO296 := n2_; have BK286 := n3_; have BK298 := n4_; have HB := n5_; clear n0_ n1_ n2_ n3_ n4_ n5_; (try clear hb); (try clear hb2); (try clear hk); (try clear hi); have hcz30_0 : w29.cell? ⟨gb286, 0, none⟩ = some (.string t280) := (blk_cell BK286.out 0).trans rfl; have hcz30_1 : w29.cell? ⟨gb286, 1, none⟩ = some (.int .i64 t281) := (blk_cell BK286.out 1).trans rfl; have hcz30_2 : w29.cell? ⟨gb286, 2, none⟩ = some (.slice Ao21 t282.length co21) := (blk_cell BK286.out 2).trans rfl; have hcz30_3 : w29.cell? ⟨gb286, 3, none⟩ = some (.int .i64 t285) := (blk_cell BK286.out 3).trans rfl; have hfz30_0 := blk_frozen BK286.out 0; have hfz30_1 := blk_frozen BK286.out 1; have hfz30_2 := blk_frozen BK286.out 2; have hfz30_3 := blk_frozen BK286.out 3; have hcz31_0 : w29.cell? ⟨gb298, 0, none⟩ = some (.string t292) := (blk_cell BK298.out 0).trans rfl; have hcz31_1 : w29.cell? ⟨gb298, 1, none⟩ = some (.int .i64 t293) := (blk_cell BK298.out 1).trans rfl; have hcz31_2 : w29.cell? ⟨gb298, 2, none⟩ = some (.slice Ao27 t294.length co27) := (blk_cell BK298.out 2).trans rfl; have hcz31_3 : w29.cell? ⟨gb298, 3, none⟩ = some (.int .i64 t297) := (blk_cell BK298.out 3).trans rfl; have hfz31_0 := blk_frozen BK298.out 0; have hfz31_1 := blk_frozen BK298.out 1; have hfz31_2 := blk_frozen BK298.out 2; have hfz31_3 := blk_frozen BK298.out 3))
                go_ret
                exact ⟨by first | rfl | (simp [errW_none, errW_some] <;> rfl) | (simp [*, errW_none, errW_some] <;> rfl), by repeat (first | (with_reducible first | exact HB.out | apply below_alloc | apply pw_below_drewN | apply below_drew1 | refine below_set ?_ GE286.out | refine below_set ?_ GE298.out) | exact HB.out)⟩
              · replace c16 := Bool.eq_false_iff.mpr c16
                subst c16
                have H1 : (some false) = some r := by rw [if_neg (show ¬ (false = true) by decide)] at H; exact H
                clear H
                have H := H1
                clear H1
                exact absurd ((Option.some.inj H).trans hr) (by decide)
            · rw [if_neg c15] at H
              have c15b0 : (t287.toList == t292.toList) = false := beq_eq_false_iff_ne.mpr c15
              have c15b1 : (t287.toList != t292.toList) = true := bne_iff_ne.mpr c15
              exact absurd ((Option.some.inj H).trans hr) (by decide)
          · rw [if_neg c14] at H
            have c14b0 : (t279 == t285) = false := beq_eq_false_iff_ne.mpr c14
            have c14b1 : (t279 != t285) = true := bne_iff_ne.mpr c14
            exact absurd ((Option.some.inj H).trans hr) (by decide)
        · rw [if_neg c13] at H
          have c13b0 : (t278 == t281) = false := beq_eq_false_iff_ne.mpr c13
          have c13b1 : (t278 != t281) = true := bne_iff_ne.mpr c13
          exact absurd ((Option.some.inj H).trans hr) (by decide)
      · rw [if_neg c12] at H
        have c12b0 : (t277.toList == t280.toList) = false := beq_eq_false_iff_ne.mpr c12
        have c12b1 : (t277.toList != t280.toList) = true := bne_iff_ne.mpr c12
        exact absurd ((Option.some.inj H).trans hr) (by decide)
    · replace c11 := Bool.eq_false_iff.mpr c11
      subst c11
      have H1 : (some false) = some r := by rw [if_neg (show ¬ (false = true) by decide)] at H; exact H
      clear H
      have H := H1
      clear H1
      exact absurd ((Option.some.inj H).trans hr) (by decide)
def qanatlaw03_ScanSymbols.Pure : Prop := ∀ (a0 : ByteArray), a0.size ≤ 140737488351232 → ∃ k, qanatlaw03_ScanSymbols.f k a0 = some true
theorem qanatlaw03_ScanSymbols.walk (P : qanatlaw03_ScanSymbols.Pure) (a0 : ByteArray) (w : World) (hT : TabOK w) (w0 : a0.size ≤ 140737488351232) :
    Calls Tryz.prog 4 #[.string a0] w fun e w' => e = .returned (.bool true) ∧ Below w.heap.size w w' := by
  obtain ⟨k, h⟩ := P a0 w0
  refine (qanatlaw03_ScanSymbols.calls k a0 true rfl w hT h).mono ?_
  rintro e w' ⟨rfl, hd⟩
  exact ⟨rfl, hd⟩
end Go.Proofs.YtkkpjonfaflkmaaGreatDoor.T

namespace Go.Proofs.YtkkpjonfaflkmaaGreatDoor.T
set_option linter.unusedSimpArgs false
set_option linter.unusedVariables false
open Go.RowKit Go.Proofs.YtkkpjonfaflkmaaGreatDoorW.PrintWords Go.Proofs.YtkkpjonfaflkmaaGreatDoorW.PrintLast Go.Proofs.YtkkpjonfaflkmaaGreatDoorW.PrintMore
theorem w64n {i : Nat} (h : i ≤ 1000000000000) : wrap64 ((i : Int) + 1) = ((i + 1 : Nat) : Int) := by unfold wrap64; omega
theorem drop_bt (a0 : ByteArray) {i : Nat} (h : i < a0.size) : (bytesOf a0).drop i = bt a0 (i : Int) :: (bytesOf a0).drop (i + 1) := by
  rw [bt_getD a0 i h]
  exact drop_at _ _ (by rw [bytesOf_length]; exact h)
theorem prn_all_str (L : List Int) (h : ∀ x ∈ L, 0 ≤ x ∧ x < 256) : (strOfNums L).size = L.length := by simp [strOfNums, ByteArray.size]
end Go.Proofs.YtkkpjonfaflkmaaGreatDoor.T

namespace Go.Proofs.YtkkpjonfaflkmaaGreatDoor.S
set_option linter.unusedSimpArgs false
set_option linter.unusedVariables false
end Go.Proofs.YtkkpjonfaflkmaaGreatDoor.S

namespace Go.Proofs.YtkkpjonfaflkmaaGreatDoor.T
set_option linter.unusedSimpArgs false
set_option linter.unusedVariables false
open Go.RowKit Go.Proofs.YtkkpjonfaflkmaaGreatDoorW.PrintWords Go.Proofs.YtkkpjonfaflkmaaGreatDoorW.PrintLast Go.Proofs.YtkkpjonfaflkmaaGreatDoorW.PrintMore
theorem rdigit (c : Int) : qanatref03_digit.f c = some (S.dig c) := by
  unfold qanatref03_digit.f S.dig
  by_cases h : c ≥ 48
  · rw [if_pos h, decide_eq_true (show (48 : Int) ≤ c from h)]; simp
  · rw [if_neg h, decide_eq_false (show ¬ (48 : Int) ≤ c from h)]; simp
theorem rletter (c : Int) : qanatref03_letter.f c = some ((decide (97 ≤ c) && decide (c ≤ 122)) || (decide (65 ≤ c) && decide (c ≤ 90))) := by
  unfold qanatref03_letter.f
  by_cases h : c ≥ 97
  · rw [if_pos h, decide_eq_true (show (97 : Int) ≤ c from h)]
    by_cases h2 : c ≤ 122
    · rw [if_pos h2, decide_eq_true h2]; simp
    · rw [if_neg h2, decide_eq_false h2, if_pos (by omega), decide_eq_false (show ¬ c ≤ 90 by omega)]; simp
  · rw [if_neg h, decide_eq_false (show ¬ (97 : Int) ≤ c from h)]
    by_cases h2 : c ≥ 65
    · rw [if_pos h2, decide_eq_true (show (65 : Int) ≤ c from h2)]; simp
    · rw [if_neg h2, decide_eq_false (show ¬ (65 : Int) ≤ c from h2)]; simp
theorem rchar (c : Int) : qanatref03_Char.f c = some (S.sym c) := by
  unfold qanatref03_Char.f
  rw [rletter, rdigit]
  simp only [Option.bind_some]
  unfold S.sym S.dig
  cases (decide (97 ≤ c) && decide (c ≤ 122)) || (decide (65 ≤ c) && decide (c ≤ 90)) with
  | true => simp
  | false =>
    cases decide (48 ≤ c) && decide (c ≤ 57) with
    | true => simp
    | false =>
      by_cases h1 : c = 46
      · simp [h1]
      · by_cases h2 : c = 95
        · simp [h2]
        · by_cases h3 : c = 33
          · simp [h3]
          · simp [h1, h2, h3]
            exact Bool.beq_eq_decide_eq c 63
def mz : List Int → Int → Int → Bool
  | [], d, p => decide (0 < d) && decide (p < 2)
  | c :: t, d, p => if S.dig c = true then mz t (d + 1) p else if c = 46 then mz t d (p + 1) else false
theorem mz_eq : ∀ (l : List Int) (d p : Int), 0 ≤ d → mz l d p = (l.all (fun c => S.dig c || decide (c = 46)) && (decide (0 < d) || l.any S.dig) && decide (p + l.count 46 < 2))
  | [], d, p, h => by simp [mz]
  | c :: t, d, p, h => by
    rw [mz]
    by_cases hd : S.dig c = true
    · have hc : c ≠ 46 := fun e => by rw [e] at hd; exact absurd hd (by decide)
      rw [if_pos hd, mz_eq t _ _ (by omega), List.count_cons_of_ne hc, decide_eq_true (show 0 < d + 1 by omega)]
      simp [hd]
    · rw [if_neg hd]
      by_cases hc : c = 46
      · rw [if_pos hc, mz_eq t _ _ h, hc, List.count_cons_self]
        have h46 : S.dig 46 = false := by decide
        have e : p + 1 + (t.count 46 : Int) = p + ((t.count 46 + 1 : Nat) : Int) := by omega
        rw [e]
        simp [h46]
      · rw [if_neg hc]
        simp [hd, hc]
theorem rmant_l0 (b : ByteArray) (h1 : 1 ≤ b.size) (h2 : b.size ≤ 100000) : ∀ (m k i : Nat) (d p : Int), i + m + 1 = b.size → m < k → 0 ≤ d → d ≤ i → 0 ≤ p → p ≤ i →
    qanatref03_mantissa.l0 k b d p (i : Int) = some (mz ((bytesOf b).dropLast.drop i) d p)
  | 0, k, i, d, p, h, hk, hd, hd2, hp, hp2 => by
    obtain ⟨k, rfl⟩ : ∃ k', k = k' + 1 := ⟨k - 1, by omega⟩
    have hw : wrap64 ((b.size : Int) - 1) = (b.size : Int) - 1 := by unfold wrap64; omega
    have hl : (bytesOf b).dropLast.drop i = [] := List.drop_of_length_le (by rw [List.length_dropLast, bytesOf_length]; omega)
    rw [qanatref03_mantissa.l0, hw, if_neg (by omega), hl, mz]
    by_cases h0 : d > 0
    · rw [if_pos h0, decide_eq_true (show 0 < d from h0)]; simp
    · rw [if_neg h0, decide_eq_false (show ¬ 0 < d from h0)]; simp
  | m + 1, k, i, d, p, h, hk, hd, hd2, hp, hp2 => by
    obtain ⟨k, rfl⟩ : ∃ k', k = k' + 1 := ⟨k - 1, by omega⟩
    have hw : wrap64 ((b.size : Int) - 1) = (b.size : Int) - 1 := by unfold wrap64; omega
    have hwd : wrap64 (d + 1) = d + 1 := by unfold wrap64; omega
    have hwp : wrap64 (p + 1) = p + 1 := by unfold wrap64; omega
    have hil : i < (bytesOf b).dropLast.length := by rw [List.length_dropLast, bytesOf_length]; omega
    have hl : (bytesOf b).dropLast.drop i = bt b (i : Int) :: (bytesOf b).dropLast.drop (i + 1) := by
      rw [List.drop_eq_getElem_cons hil, List.getElem_dropLast]
      have hb := bt_getD b i (by omega)
      rw [List.getD_eq_getElem?_getD, List.getElem?_eq_getElem (by rw [bytesOf_length]; omega), Option.getD_some] at hb
      rw [hb]
    rw [qanatref03_mantissa.l0, hw, if_pos (by omega), if_pos (by omega), if_pos (by omega), rdigit, Option.bind_some, hl, mz, w64n (by omega), hwd, hwp]
    by_cases h0 : S.dig (bt b (i : Int)) = true
    · rw [if_pos h0, if_pos h0]
      exact rmant_l0 b h1 h2 m k (i + 1) (d + 1) p (by omega) (by omega) (by omega) (by omega) hp (by omega)
    · rw [if_neg h0, if_neg h0]
      by_cases h46 : bt b (i : Int) = 46
      · rw [if_pos h46, if_pos h46]
        exact rmant_l0 b h1 h2 m k (i + 1) d (p + 1) (by omega) (by omega) hd (by omega) (by omega) (by omega)
      · rw [if_neg h46, if_neg h46]
theorem rmant (b : ByteArray) (h2 : b.size ≤ 100000) (k : Nat) (hk : b.size + 1 < k) : qanatref03_mantissa.f k b = some (S.mant (bytesOf b)) := by
  obtain ⟨k, rfl⟩ : ∃ k', k = k' + 1 := ⟨k - 1, by omega⟩
  have hlen := bytesOf_length b
  unfold qanatref03_mantissa.f
  by_cases h : (b.size : Int) < 2
  · rw [if_pos h, qanatref03_mantissa.j0, if_pos rfl]
    have hs : (bytesOf b).length < 2 := by omega
    match hb : bytesOf b, hs with
    | [], _ => rfl
    | [c], _ => simp [S.mant]
  · have hw : wrap64 ((b.size : Int) - 1) = (b.size : Int) - 1 := by unfold wrap64; omega
    rw [if_neg h, hw, if_pos (by omega), if_pos (by omega)]
    have hlast : (bytesOf b).getLast? = some (bt b ((b.size : Int) - 1)) := by
      have hb := bt_getD b (b.size - 1) (by omega)
      rw [List.getLast?_eq_getElem?, hlen]
      rw [List.getD_eq_getElem?_getD] at hb
      rw [show (b.size : Int) - 1 = ((b.size - 1 : Nat) : Int) by omega, hb, List.getElem?_eq_getElem (by omega)]
      rfl
    have hm : S.mant (bytesOf b) = ((decide (bt b ((b.size : Int) - 1) = 69) || decide (bt b ((b.size : Int) - 1) = 101)) && mz (bytesOf b).dropLast 0 0) := by
      unfold S.mant
      rw [hlast, mz_eq _ _ _ (Int.le_refl 0)]
      have e : decide ((0 : Int) + (List.count 46 (bytesOf b).dropLast : Int) < 2) = decide (List.count 46 (bytesOf b).dropLast ≤ 1) := decide_eq_decide.2 (by omega)
      rw [e]
      simp [Bool.and_assoc]
    have hl0 := rmant_l0 b (by omega) h2 (b.size - 1) k 0 0 0 (by omega) (by omega) (Int.le_refl 0) (Int.le_refl 0) (Int.le_refl 0) (Int.le_refl 0)
    rw [List.drop_zero] at hl0
    rw [hm]
    by_cases h69 : bt b ((b.size : Int) - 1) = 69
    · rw [if_pos h69, qanatref03_mantissa.j0, if_neg Bool.false_ne_true, decide_eq_true h69]
      simpa using hl0
    · rw [if_neg h69, qanatref03_mantissa.j0, decide_eq_false h69]
      by_cases h101 : bt b ((b.size : Int) - 1) = 101
      · rw [if_neg (by simp [h101]), decide_eq_true h101]
        simpa using hl0
      · rw [if_pos (by simp [h101]), decide_eq_false h101]; rfl
end Go.Proofs.YtkkpjonfaflkmaaGreatDoor.T

namespace Go.Proofs.YtkkpjonfaflkmaaGreatDoor.T
set_option linter.unusedSimpArgs false
set_option linter.unusedVariables false
open Go.RowKit Go.Proofs.YtkkpjonfaflkmaaGreatDoorW.PrintWords Go.Proofs.YtkkpjonfaflkmaaGreatDoorW.PrintLast Go.Proofs.YtkkpjonfaflkmaaGreatDoorW.PrintMore
def rfin (a0 : ByteArray) (n : Nat) : Int × ByteArray × Int × Int × Int := if 40 < n then (0, ⟨#[]⟩, 0, 30, 1) else (1, upS (a0.extract 0 n), (n : Int), 0, 0)
theorem run_drop_le (p : Int → Bool) (xs : List Int) : S.run p xs ≤ xs.length := by
  induction xs with
  | nil => exact Nat.le_refl _
  | cons c t ih => rw [S.run]; split
                   · exact Nat.succ_le_succ ih
                   · exact Nat.zero_le _
theorem rsym_end (a0 : ByteArray) (hs : a0.size ≤ 100000) (n : Nat) (hn : n ≤ a0.size) :
    (if (wrap64 ((n : Int) - 0)) > 40 then (some ((0 : Int), (⟨#[]⟩ : ByteArray), (0 : Int), (30 : Int), (1 : Int))) else (if 0 ≤ (0 : Int) then (if 0 ≤ (n : Int) then (if (n : Int) ≤ (a0.size : Int) then ((qanatref03_Upper.f (a0.extract ((0 : Int)).toNat ((n : Int)).toNat)).bind fun t168 => (some ((1 : Int), t168, (n : Int), (0 : Int), (0 : Int)))) else (none)) else (none)) else (none))) = some (rfin a0 n) := by
  have hw : wrap64 ((n : Int) - 0) = (n : Int) := by unfold wrap64; omega
  rw [hw]
  unfold rfin
  by_cases h : (n : Int) > 40
  · rw [if_pos h, if_pos (by omega)]
  · rw [if_neg h, if_neg (show ¬ 40 < n by omega), if_pos (Int.le_refl 0), if_pos (show (0 : Int) ≤ n by omega), if_pos (show (n : Int) ≤ (a0.size : Int) by omega)]
    unfold qanatref03_Upper.f
    rw [if_pos (by rw [ByteArray.size_extract]; omega), Option.bind_some]
    rfl
theorem rsym_l1 (a0 : ByteArray) (hs : a0.size ≤ 100000) : ∀ (m k i : Nat), i + m = a0.size → m < k →
    qanatref03_symbol.l1 k a0 0 1 (i : Int) = some (rfin a0 (i + S.run S.dig ((bytesOf a0).drop i)))
  | 0, k, i, h, hk => by
    obtain ⟨k, rfl⟩ : ∃ k', k = k' + 1 := ⟨k - 1, by omega⟩
    have hl : (bytesOf a0).drop i = [] := List.drop_of_length_le (by rw [bytesOf_length]; omega)
    rw [qanatref03_symbol.l1, if_neg (by omega), hl, S.run]
    exact rsym_end a0 hs i (by omega)
  | m + 1, k, i, h, hk => by
    obtain ⟨k, rfl⟩ : ∃ k', k = k' + 1 := ⟨k - 1, by omega⟩
    rw [qanatref03_symbol.l1, if_pos (by omega), if_pos (by omega), rdigit, Option.bind_some, drop_bt a0 (by omega), S.run]
    by_cases hd : S.dig (bt a0 (i : Int)) = true
    · rw [if_pos hd, if_pos hd, w64n (by omega), rsym_l1 a0 hs m k (i + 1) (by omega) (by omega)]
      congr 2
      omega
    · rw [if_neg hd, if_neg hd]
      exact rsym_end a0 hs i (by omega)
theorem rsym_l0 (a0 : ByteArray) (hs : a0.size ≤ 100000) : ∀ (m k i : Nat), i + m = a0.size → m < k →
    ∃ k', k ≤ k' + m + 1 ∧ qanatref03_symbol.l0 k a0 0 1 (i : Int) = qanatref03_symbol.j1 k' a0 0 1 ((i + S.run S.sym ((bytesOf a0).drop i) : Nat) : Int)
  | 0, k, i, h, hk => by
    obtain ⟨k, rfl⟩ : ∃ k', k = k' + 1 := ⟨k - 1, by omega⟩
    have hl : (bytesOf a0).drop i = [] := List.drop_of_length_le (by rw [bytesOf_length]; omega)
    rw [qanatref03_symbol.l0, if_neg (by omega), hl, S.run]
    exact ⟨k, by omega, rfl⟩
  | m + 1, k, i, h, hk => by
    obtain ⟨k, rfl⟩ : ∃ k', k = k' + 1 := ⟨k - 1, by omega⟩
    rw [qanatref03_symbol.l0, if_pos (by omega), if_pos (by omega), rchar, Option.bind_some, drop_bt a0 (by omega), S.run]
    by_cases hd : S.sym (bt a0 (i : Int)) = true
    · rw [if_pos hd, if_pos hd, w64n (by omega)]
      obtain ⟨k', hk', e⟩ := rsym_l0 a0 hs m k (i + 1) (by omega) (by omega)
      refine ⟨k', by omega, ?_⟩
      rw [e]
      congr 2
      omega
    · rw [if_neg hd, if_neg hd]
      exact ⟨k, by omega, rfl⟩
theorem rsym_j2f (a0 : ByteArray) (hs : a0.size ≤ 100000) (k n : Nat) (hn : n ≤ a0.size) : qanatref03_symbol.j2 (k + 1) a0 0 1 (n : Int) false = some (rfin a0 n) := by
  rw [qanatref03_symbol.j2, if_neg Bool.false_ne_true]
  exact rsym_end a0 hs n hn
theorem rsymbol (a0 : ByteArray) (hs : a0.size ≤ 100000) (k : Nat) (hk : 3 * a0.size + 10 < k) : qanatref03_symbol.f k a0 0 1 = some (rfin a0 (S.symLen (bytesOf a0))) := by
  unfold qanatref03_symbol.f
  obtain ⟨k', hk', e⟩ := rsym_l0 a0 hs a0.size k 0 (by omega) (by omega)
  rw [List.drop_zero, Nat.zero_add] at e
  have e' : qanatref03_symbol.l0 k a0 0 1 0 = qanatref03_symbol.j1 k' a0 0 1 ((S.run S.sym (bytesOf a0) : Nat) : Int) := e
  rw [e']
  have hr := run_drop_le S.sym (bytesOf a0)
  rw [bytesOf_length] at hr
  unfold S.symLen
  generalize S.run S.sym (bytesOf a0) = r at hr ⊢
  obtain ⟨k, rfl⟩ : ∃ k'', k' = k'' + 2 := ⟨k' - 2, by omega⟩
  have hm := rmant (a0.extract 0 r) (by rw [ByteArray.size_extract]; omega) (k + 1) (by rw [ByteArray.size_extract]; omega)
  rw [bytesOf_extract, List.drop_zero, Nat.sub_zero] at hm
  rw [qanatref03_symbol.j1, if_pos (Int.le_refl 0), if_pos (by omega), if_pos (by omega)]
  rw [show (0 : Int).toNat = 0 from rfl, show ((r : Int)).toNat = r from rfl, hm, Option.bind_some]
  by_cases hM : S.mant ((bytesOf a0).take r) = true
  · rw [if_pos hM]
    by_cases h1 : r + 1 < a0.size
    · have hd1 := drop_bt a0 (i := r) (by omega)
      have hd2 := drop_bt a0 (i := r + 1) (by omega)
      rw [w64n (by omega), if_pos (by omega), if_pos (by omega), if_pos (by omega)]
      have hx : S.expo ((bytesOf a0).drop r) = ((decide (bt a0 (r : Int) = 43) || decide (bt a0 (r : Int) = 45)) && S.dig (bt a0 ((r + 1 : Nat) : Int))) := by rw [hd1, hd2, S.expo]
      have hj : ∀ b : Bool, S.expo ((bytesOf a0).drop r) = b → qanatref03_symbol.j2 (k + 1) a0 0 1 (r : Int) b = some (rfin a0 (if S.mant ((bytesOf a0).take r) = true ∧ S.expo ((bytesOf a0).drop r) = true then r + 1 + S.run S.dig ((bytesOf a0).drop (r + 1)) else r)) := fun b hb => by
        cases b with
        | false => rw [if_neg (by rw [hb]; exact fun h => Bool.false_ne_true h.2)]; exact rsym_j2f a0 hs k r hr
        | true =>
          rw [if_pos ⟨hM, hb⟩, qanatref03_symbol.j2, if_pos rfl, w64n (by omega)]
          exact rsym_l1 a0 hs (a0.size - (r + 1)) k (r + 1) (by omega) (by omega)
      rw [rdigit]
      simp only [Option.bind_some]
      rw [if_pos (by omega : (0 : Int) ≤ ((r + 1 : Nat) : Int))]
      by_cases h43 : bt a0 (r : Int) = 43
      · rw [if_pos h43]
        exact hj _ (by rw [hx, decide_eq_true h43]; simp)
      · rw [if_neg h43]
        by_cases h45 : bt a0 (r : Int) = 45
        · rw [if_pos h45]
          exact hj _ (by rw [hx, decide_eq_true h45]; simp)
        · rw [if_neg h45]
          exact hj _ (by rw [hx, decide_eq_false h43, decide_eq_false h45]; rfl)
    · rw [w64n (by omega), if_neg (by omega)]
      have hx : S.expo ((bytesOf a0).drop r) = false := by
        have hl : ((bytesOf a0).drop r).length ≤ 1 := by rw [List.length_drop, bytesOf_length]; omega
        match (bytesOf a0).drop r, hl with
        | [], _ => rfl
        | [c], _ => rfl
      rw [if_neg (by rw [hx]; exact fun h => Bool.false_ne_true h.2)]
      exact rsym_j2f a0 hs k r hr
  · rw [if_neg hM, if_neg (fun h => hM h.1)]
    exact rsym_j2f a0 hs k r hr
theorem symLen_le (xs : List Int) : S.symLen xs ≤ xs.length := by
  unfold S.symLen
  split
  · next h =>
    have h2 : S.expo (xs.drop (S.run S.sym xs)) = true := h.2
    have h3 := run_drop_le S.dig (xs.drop (S.run S.sym xs + 1))
    rw [List.length_drop] at h3
    have h4 : 2 ≤ (xs.drop (S.run S.sym xs)).length := by
      generalize xs.drop (S.run S.sym xs) = ys at h2
      match ys, h2 with
      | c :: d :: _, _ => simp
    rw [List.length_drop] at h4
    omega
  · exact run_drop_le _ _
end Go.Proofs.YtkkpjonfaflkmaaGreatDoor.T

namespace Go.Proofs.YtkkpjonfaflkmaaGreatDoor.T
set_option linter.unusedSimpArgs false
set_option linter.unusedVariables false
open Go.RowKit Go.Proofs.YtkkpjonfaflkmaaGreatDoorW.PrintWords Go.Proofs.YtkkpjonfaflkmaaGreatDoorW.PrintLast Go.Proofs.YtkkpjonfaflkmaaGreatDoorW.PrintMore
def kd (h : Int) (c : Nat) (l : Int) : Int := if S.dig h = true ∨ h = 46 then 1 else if c = 0 then 2 else if c = 1 then (if l = 46 then 3 else 4) else 4
theorem up_dot (c : Int) : S.up c = 46 ↔ c = 46 := by unfold S.up; split <;> omega
theorem up_dig (c : Int) : S.dig (S.up c) = S.dig c := by
  unfold S.up S.dig
  split
  · rw [decide_eq_false (show ¬ c - 32 ≤ 57 by omega), decide_eq_false (show ¬ c ≤ 57 by omega)]; simp
  · rfl
theorem kd_up (h : Int) (c : Nat) (l : Int) : kd (S.up h) c (S.up l) = kd h c l := by
  unfold kd
  simp only [up_dig, up_dot]
theorem count_up (xs : List Int) : (xs.map S.up).count 46 = xs.count 46 := by
  induction xs with
  | nil => rfl
  | cons c t ih =>
    rw [List.map_cons, List.count_cons, List.count_cons, ih]
    by_cases h : c = 46
    · simp [h, S.up]
    · have h2 : ¬ S.up c = 46 := fun e => h ((up_dot c).1 e)
      simp [h, h2]
theorem countByte_eq (c : UInt8) (l : List UInt8) : Lib.countByte l c = (l.map fun b => (b.toNat : Int)).count (c.toNat : Int) := by
  unfold Lib.countByte
  induction l with
  | nil => rfl
  | cons b t ih =>
    rw [List.map_cons, List.count_cons, List.count_cons, ih]
    by_cases h : b = c
    · simp [h]
    · have h2 : ¬ ((b.toNat : Int) = (c.toNat : Int)) := fun e => h (UInt8.toNat_inj.1 (by omega))
      simp [h, h2]
theorem scount (a0 : ByteArray) : strings_Count.f a0 (⟨#[46]⟩ : ByteArray) = some (((bytesOf a0).count 46 : Nat) : Int) := by
  show some ((Lib.countByte a0.data.toList 46 : Nat) : Int) = _
  rw [countByte_eq]
  rfl
theorem sdigit (c : Int) : scan_digit.f c = some (S.dig c) := by
  unfold scan_digit.f S.dig
  by_cases h : c ≥ 48
  · rw [if_pos h, decide_eq_true (show (48 : Int) ≤ c from h)]; simp
  · rw [if_neg h, decide_eq_false (show ¬ (48 : Int) ≤ c from h)]; simp
theorem skind (a0 : ByteArray) (h1 : 0 < a0.size) (h2 : a0.size ≤ 100000) : scan_kind.f 2 a0 = some (kd (bt a0 0) ((bytesOf a0).count 46) (bt a0 ((a0.size : Int) - 1))) := by
  have hw : wrap64 ((a0.size : Int) - 1) = (a0.size : Int) - 1 := by unfold wrap64; omega
  have hj : ∀ b : Bool, (b = true ↔ (S.dig (bt a0 0) = true ∨ bt a0 0 = 46)) → scan_kind.j0 2 a0 (((bytesOf a0).count 46 : Nat) : Int) b = some (kd (bt a0 0) ((bytesOf a0).count 46) (bt a0 ((a0.size : Int) - 1))) := fun b hb => by
    rw [scan_kind.j0, hw]
    unfold kd
    by_cases hx : S.dig (bt a0 0) = true ∨ bt a0 0 = 46
    · rw [if_pos (hb.2 hx), if_pos hx]
    · rw [if_neg (fun e => hx (hb.1 e)), if_neg hx]
      generalize (bytesOf a0).count 46 = c
      by_cases h0 : c = 0
      · rw [if_pos h0, if_pos (by omega)]
      · rw [if_neg h0, if_neg (by omega)]
        by_cases hc : c = 1
        · rw [if_pos hc, if_pos (by omega), if_pos (by omega), if_pos (by omega)]
          split <;> rfl
        · rw [if_neg hc, if_neg (by omega)]
  unfold scan_kind.f
  rw [scount, Option.bind_some, if_pos (by omega), sdigit, Option.bind_some]
  by_cases hd : S.dig (bt a0 0) = true
  · rw [if_pos hd]; exact hj _ (by simp [hd])
  · rw [if_neg hd]; exact hj _ (by simp [hd])
theorem rkind_l0 (a0 : ByteArray) (h1 : 0 < a0.size) (h2 : a0.size ≤ 100000) (t : ByteArray) (y0 y2 y3 y4 : Int) : ∀ (m k i c : Nat), i + m = a0.size → m + 1 < k → c ≤ i →
    qanatref03_Symbol.l0 k a0 (c : Int) (i : Int) y0 t y2 y3 y4 = some (t, kd (bt a0 0) (c + ((bytesOf a0).drop i).count 46) (bt a0 ((a0.size : Int) - 1)), [], 0)
  | 0, k, i, c, h, hk, hc => by
    obtain ⟨k, rfl⟩ : ∃ k', k = k' + 2 := ⟨k - 2, by omega⟩
    have hl : (bytesOf a0).drop i = [] := List.drop_of_length_le (by rw [bytesOf_length]; omega)
    have hw : wrap64 ((a0.size : Int) - 1) = (a0.size : Int) - 1 := by unfold wrap64; omega
    have hj : ∀ b : Bool, (b = true ↔ (S.dig (bt a0 0) = true ∨ bt a0 0 = 46)) → qanatref03_Symbol.j3 (k + 1) a0 (c : Int) 4 b y0 t y2 y3 y4 = some (t, kd (bt a0 0) c (bt a0 ((a0.size : Int) - 1)), [], 0) := fun b hb => by
      rw [qanatref03_Symbol.j3, hw]
      unfold kd
      by_cases hx : S.dig (bt a0 0) = true ∨ bt a0 0 = 46
      · rw [if_pos (hb.2 hx), if_pos hx]
      · rw [if_neg (fun e => hx (hb.1 e)), if_neg hx]
        by_cases h0 : c = 0
        · rw [if_pos h0, if_pos (by omega)]
        · rw [if_neg h0, if_neg (by omega)]
          by_cases hc : c = 1
          · rw [if_pos hc, if_pos (by omega), if_pos (by omega), if_pos (by omega)]
            split <;> rfl
          · rw [if_neg hc, if_neg (by omega)]
    rw [hl, List.count_nil, Nat.add_zero, qanatref03_Symbol.l0, if_neg (by omega), if_pos (by omega), rdigit, Option.bind_some]
    by_cases hd : S.dig (bt a0 0) = true
    · rw [if_pos hd]; exact hj _ (by simp [hd])
    · rw [if_neg hd]; exact hj _ (by simp [hd])
  | m + 1, k, i, c, h, hk, hc => by
    obtain ⟨k, rfl⟩ : ∃ k', k = k' + 1 := ⟨k - 1, by omega⟩
    rw [qanatref03_Symbol.l0, if_pos (by omega), if_pos (by omega), drop_bt a0 (by omega), List.count_cons, w64n (by omega), w64n (by omega)]
    by_cases h46 : bt a0 (i : Int) = 46
    · rw [if_pos h46, rkind_l0 a0 h1 h2 t y0 y2 y3 y4 m k (i + 1) (c + 1) (by omega) (by omega) (by omega), h46]
      have e : c + 1 + ((bytesOf a0).drop (i + 1)).count 46 = c + (((bytesOf a0).drop (i + 1)).count 46 + 1) := by omega
      rw [e]
      simp
    · rw [if_neg h46, rkind_l0 a0 h1 h2 t y0 y2 y3 y4 m k (i + 1) c (by omega) (by omega) (by omega)]
      simp [h46]
theorem symbol_same (a0 : ByteArray) (hs : a0.size ≤ 200) : ∃ (t : ByteArray) (q er : Int), scan_Symbol.f a0 = some (t, q, er) ∧ (∀ k, 1000 ≤ k → qanatref03_Symbol.f k a0 = some (t, q, [], er)) ∧
    (er = 0 → t.size ≤ 40 ∧ 0 < t.size ∧ q = kd (bt t 0) ((bytesOf t).count 46) (bt t ((t.size : Int) - 1))) ∧ (er ≠ 0 → t = ⟨#[]⟩ ∧ q = 0) ∧ (er = 0 ∨ er = 4) := by
  have hlen := bytesOf_length a0
  by_cases h0 : a0.size = 0
  · refine ⟨⟨#[]⟩, 0, 4, ?_, fun k hk => ?_, fun e => absurd e (by decide), fun _ => ⟨rfl, rfl⟩, .inr rfl⟩
    · unfold scan_Symbol.f; rw [if_pos (.inl h0)]
    · obtain ⟨k, rfl⟩ : ∃ k', k = k' + 1 := ⟨k - 1, by omega⟩
      unfold qanatref03_Symbol.f
      rw [if_pos (by omega), qanatref03_Symbol.j0, if_pos rfl]
  · cases hsy : S.sym (bt a0 0) with
    | false =>
      refine ⟨⟨#[]⟩, 0, 4, ?_, fun k hk => ?_, fun e => absurd e (by decide), fun _ => ⟨rfl, rfl⟩, .inr rfl⟩
      · unfold scan_Symbol.f; rw [if_pos (.inr (.inr hsy))]
      · obtain ⟨k, rfl⟩ : ∃ k', k = k' + 1 := ⟨k - 1, by omega⟩
        unfold qanatref03_Symbol.f
        rw [if_neg (by omega), if_pos (by omega), rchar, Option.bind_some, hsy, qanatref03_Symbol.j0, if_pos (show (!false) = true from rfl)]
    | true =>
      have hle := symLen_le (bytesOf a0)
      rw [hlen] at hle
      have hR : ∀ k, 1000 ≤ k → qanatref03_Symbol.f k a0 = (if (rfin a0 (S.symLen (bytesOf a0))).2.2.2.1 = 0 then (qanatref03_Symbol.j1 (k - 1) a0 ((rfin a0 (S.symLen (bytesOf a0))).2.2.1 != (a0.size : Int)) (rfin a0 (S.symLen (bytesOf a0))).1 (rfin a0 (S.symLen (bytesOf a0))).2.1 (rfin a0 (S.symLen (bytesOf a0))).2.2.1 (rfin a0 (S.symLen (bytesOf a0))).2.2.2.1 (rfin a0 (S.symLen (bytesOf a0))).2.2.2.2) else (qanatref03_Symbol.j1 (k - 1) a0 true (rfin a0 (S.symLen (bytesOf a0))).1 (rfin a0 (S.symLen (bytesOf a0))).2.1 (rfin a0 (S.symLen (bytesOf a0))).2.2.1 (rfin a0 (S.symLen (bytesOf a0))).2.2.2.1 (rfin a0 (S.symLen (bytesOf a0))).2.2.2.2)) := fun k hk => by
        obtain ⟨k, rfl⟩ : ∃ k', k = k' + 1 := ⟨k - 1, by omega⟩
        unfold qanatref03_Symbol.f
        rw [if_neg (by omega), if_pos (by omega), rchar, Option.bind_some, hsy, qanatref03_Symbol.j0, Bool.not_true, if_neg Bool.false_ne_true, rsymbol a0 (by omega) k (by omega), Option.bind_some]
        rfl
      have hj1 : ∀ k y0 y1 y2 y3 y4, 1000 ≤ k → qanatref03_Symbol.j1 (k - 1) a0 true y0 y1 y2 y3 y4 = some ((⟨#[]⟩ : ByteArray), 0, ([] : List ByteArray), 4) := fun k y0 y1 y2 y3 y4 hk => by
        obtain ⟨k, rfl⟩ : ∃ k', k = k' + 2 := ⟨k - 2, by omega⟩
        show qanatref03_Symbol.j1 (k + 1) a0 true y0 y1 y2 y3 y4 = _
        rw [qanatref03_Symbol.j1, if_pos rfl]
      by_cases h40 : 40 < a0.size
      · refine ⟨⟨#[]⟩, 0, 4, ?_, fun k hk => ?_, fun e => absurd e (by decide), fun _ => ⟨rfl, rfl⟩, .inr rfl⟩
        · unfold scan_Symbol.f; rw [if_pos (.inr (.inl h40))]
        · rw [hR k hk]
          unfold rfin
          by_cases hn : 40 < S.symLen (bytesOf a0)
          · simp only [if_pos hn]
            rw [if_neg (by decide)]
            exact hj1 _ _ _ _ _ _ hk
          · simp only [if_neg hn]
            rw [if_pos trivial, show ((((S.symLen (bytesOf a0) : Nat) : Int)) != (a0.size : Int)) = true from bne_iff_ne.2 (by omega)]
            exact hj1 _ _ _ _ _ _ hk
      · have hns : ¬ 40 < S.symLen (bytesOf a0) := by omega
        have hS : scan_Symbol.f a0 = symRes a0 (.ok (((bytesOf a0).take (S.symLen (bytesOf a0))).map S.up) (S.symLen (bytesOf a0))) := by
          unfold scan_Symbol.f
          rw [if_neg (by rw [hsy]; rintro (e | e | e); omega; omega; cases e)]
          unfold S.symTok
          rw [if_neg hns]
        by_cases hn : S.symLen (bytesOf a0) < a0.size
        · refine ⟨⟨#[]⟩, 0, 4, ?_, fun k hk => ?_, fun e => absurd e (by decide), fun _ => ⟨rfl, rfl⟩, .inr rfl⟩
          · rw [hS, symRes, if_pos hn]
          · rw [hR k hk]
            unfold rfin
            simp only [if_neg hns]
            rw [if_pos trivial, show ((((S.symLen (bytesOf a0) : Nat) : Int)) != (a0.size : Int)) = true from bne_iff_ne.2 (by omega)]
            exact hj1 _ _ _ _ _ _ hk
        · have hnn : S.symLen (bytesOf a0) = a0.size := by omega
          have htk : (bytesOf a0).take a0.size = bytesOf a0 := List.take_of_length_le (by omega)
          have hup : strOfNums ((bytesOf a0).map S.up) = upS a0 := rfl
          have hrng : ∀ x ∈ (bytesOf a0).map S.up, 0 ≤ x ∧ x < 256 := fun x hx => by
            obtain ⟨y, hy, rfl⟩ := List.mem_map.1 hx
            have := bo_range a0 y hy
            unfold S.up
            split <;> omega
          have husz : (upS a0).size = a0.size := by rw [← hup, prn_all_str _ hrng, List.length_map, hlen]
          have huby : bytesOf (upS a0) = (bytesOf a0).map S.up := by rw [← hup]; exact bytesOf_str _ hrng
          have hubt : ∀ i : Nat, i < a0.size → bt (upS a0) (i : Int) = S.up (bt a0 (i : Int)) := fun i hi => by
            have e1 := bt_getD (upS a0) i (by omega)
            have e2 := bt_getD a0 i hi
            rw [e1, e2, huby, List.getD_eq_getElem?_getD, List.getD_eq_getElem?_getD, List.getElem?_map, List.getElem?_eq_getElem (by omega)]
            rfl
          have hu0 := hubt 0 (by omega)
          have hul := hubt (a0.size - 1) (by omega)
          rw [show ((a0.size - 1 : Nat) : Int) = (a0.size : Int) - 1 by omega] at hul
          have hkd : kd (bt (upS a0) 0) ((bytesOf (upS a0)).count 46) (bt (upS a0) (((upS a0).size : Int) - 1)) = kd (bt a0 0) ((bytesOf a0).count 46) (bt a0 ((a0.size : Int) - 1)) := by
            rw [husz, hul, show bt (upS a0) 0 = S.up (bt a0 0) from hu0, huby, count_up, kd_up]
          refine ⟨upS a0, kd (bt a0 0) ((bytesOf a0).count 46) (bt a0 ((a0.size : Int) - 1)), 0, ?_, fun k hk => ?_, fun _ => ⟨by omega, by omega, hkd.symm⟩, fun e => absurd rfl e, .inl rfl⟩
          · rw [hS, symRes, if_neg hn, hnn, htk, hup, skind (upS a0) (by omega) (by omega), hkd]
            rfl
          · rw [hR k hk]
            unfold rfin
            simp only [if_neg hns]
            rw [if_pos trivial, hnn, show (((a0.size : Nat) : Int) != (a0.size : Int)) = false from by simp]
            obtain ⟨k, rfl⟩ : ∃ k', k = k' + 2 := ⟨k - 2, by omega⟩
            show qanatref03_Symbol.j1 (k + 1) a0 false _ _ _ _ _ = _
            have hex : a0.extract 0 a0.size = a0 := by
              apply bytesOf_inj
              rw [bytesOf_extract, List.drop_zero, Nat.sub_zero, htk]
            rw [qanatref03_Symbol.j1, if_neg Bool.false_ne_true, hex]
            have hz := rkind_l0 a0 (by omega) (by omega) (upS a0) 1 (a0.size : Int) 0 0 a0.size k 0 0 (by omega) (by omega) (by omega)
            rw [List.drop_zero, Nat.zero_add] at hz
            exact hz
end Go.Proofs.YtkkpjonfaflkmaaGreatDoor.T
