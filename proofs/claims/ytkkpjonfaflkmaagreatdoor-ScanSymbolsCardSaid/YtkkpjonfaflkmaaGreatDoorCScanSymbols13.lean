/- Part 13 of the proof of ScanSymbols: the functions that it calls return what their plain descriptions say. -/
import Derived.Test.YtkkpjonfaflkmaaGreatDoorCScanSymbols3
import Derived.Test.YtkkpjonfaflkmaaGreatDoorCScanSymbols11
import Derived.Test.YtkkpjonfaflkmaaGreatDoorCScanSymbols7
import Derived.Carry
import Derived.Maps.OwnSet
import Derived.Maps.Views
import Derived.Deep.AppendLies
import Derived.Deep.RegionLaw
import Derived.Test.YtkkpjonfaflkmaaGreatDoorCScanSymbols8

namespace Go.Proofs.YtkkpjonfaflkmaaGreatDoor.T
set_option linter.unusedSimpArgs false
open Go.RowKit Go.Proofs.YtkkpjonfaflkmaaGreatDoorW.PrintWords Go.Proofs.YtkkpjonfaflkmaaGreatDoorW.PrintLast Go.Proofs.YtkkpjonfaflkmaaGreatDoorW.PrintMore
attribute [local go_sem] max2_int min2_int max_two min_two max_three min_three max_four min_four   -- for this text's walks alone
set_option linter.unusedVariables false
set_option linter.unusedSimpArgs false
def qanatref03_SameStrings.l0 : Nat → List ByteArray → List ByteArray → Int → Option (Bool)
  | 0, _, _, _ => none
  | k + 1, x0, x1, x5 => if x5 < (x0.length : Int) then (if 0 ≤ x5 then (if x5 < (x1.length : Int) then (if (rdOf ByteArray.empty x0 x5).toList = (rdOf ByteArray.empty x1 x5).toList then (qanatref03_SameStrings.l0 k x0 x1 (wrap64 (x5 + 1))) else (some false)) else (none)) else (none)) else (some true)
def qanatref03_SameStrings.f (k : Nat) (l0 : List ByteArray) (l1 : List ByteArray) : Option (Bool) := if (l0.length : Int) = (l1.length : Int) then (qanatref03_SameStrings.l0 k l0 l1 0) else (some false)
theorem qanatref03_SameStrings.mono_l : ∀ k, (∀ y0 y1 y2, LeO (qanatref03_SameStrings.l0 k y0 y1 y2) (qanatref03_SameStrings.l0 (k + 1) y0 y1 y2))
  | 0 => fun _ _ _ r h => by simp [qanatref03_SameStrings.l0] at h
  | k + 1 => by
    have ih0 := qanatref03_SameStrings.mono_l k
    · intro y0 y1 y2
      unfold qanatref03_SameStrings.l0
      repeat' first
      | (with_reducible exact ih0 _ _ _)
      | (with_reducible exact LeO.refl _)
      | (with_reducible exact LeO.none _)
      | (with_reducible refine LeO.ite ?_ ?_)
      | (with_reducible refine LeO.bind ?_ (fun _ => ?_))
      | exact ih0 _ _ _
      | exact LeO.none _
      | refine LeO.ite ?_ ?_
      | refine LeO.bind ?_ (fun _ => ?_)
theorem qanatref03_SameStrings.mono : ∀ a0 a1 k, LeO (qanatref03_SameStrings.f k a0 a1) (qanatref03_SameStrings.f (k + 1) a0 a1) := by
  intro a0 a1 k
  have ih0 := qanatref03_SameStrings.mono_l k
  unfold qanatref03_SameStrings.f
  repeat' first
      | (with_reducible exact ih0 _ _ _)
      | (with_reducible exact LeO.refl _)
      | (with_reducible exact LeO.none _)
      | (with_reducible refine LeO.ite ?_ ?_)
      | (with_reducible refine LeO.bind ?_ (fun _ => ?_))
      | exact ih0 _ _ _
      | exact LeO.none _
      | refine LeO.ite ?_ ?_
      | refine LeO.bind ?_ (fun _ => ?_)
set_option maxHeartbeats 8000000 in
set_option maxRecDepth 100000 in
theorem qanatref03_SameStrings.calls (k : Nat) (A0 : Option Addr) (c0 : Nat) (l0 : List ByteArray) (A1 : Option Addr) (c1 : Nat) (l1 : List ByteArray) (r : Bool) (w : World) (hr0 : Kd.C Kd.string w A0 l0.length l0) (hc0 : l0.length ≤ c0) (hr1 : Kd.C Kd.string w A1 l1.length l1) (hc1 : l1.length ≤ c1) (h : qanatref03_SameStrings.f k l0 l1 = some r) :
    Calls Tryz.prog 29 #[.slice A0 l0.length c0, .slice A1 l1.length c1] w fun e w' => e = .returned (.bool r) ∧ Drawn0 w w' := by
  have HR0 := Aside0.mk hr0
  have HC0 := Aside0.mk hc0
  clear hr0 hc0
  have HR1 := Aside0.mk hr1
  have HC1 := Aside0.mk hc1
  clear hr1 hc1
  have H : (if (l0.length : Int) = (l1.length : Int) then (qanatref03_SameStrings.l0 k l0 l1 0) else (some false)) = some r := h
  clear h
  by_cases c3 : (l0.length : Int) = (l1.length : Int)
  · rw [if_pos c3] at H
    have c3b0 : ((l0.length : Int) == (l1.length : Int)) = true := beq_iff_eq.mpr c3
    have c3b1 : ((l0.length : Int) != (l1.length : Int)) = false := bne_eq_false_iff_eq.mpr c3
    have c3b2 : (l0.length == l1.length) = true := by first | simpa using c3 | (simp at c3 ⊢; omega)
    clear c3
    have H' := Aside0.mk H
    clear H
    go_enter Tryz.func29, Tryz.ntmps29
    go_wp2
    repeat (go_quiet (fail); try go_wp2)
    go_loopg [5] k (fun kq v5 w' => ∃ (x5_1 : Int), v5 = .int .i64 x5_1 ∧ Aside0 (qanatref03_SameStrings.l0 kq l0 l1 x5_1 = some r) ∧ Aside0 (kq ≤ k) ∧ Drawn0 w w')
    case atStart => exact ⟨(0), (by first | rfl | (simp; done) | (simp [*]; done)), H', ⟨Nat.le_refl _⟩, by repeat (first | exact Drawn0.refl _ | apply Drawn0.step)⟩
    case round =>
      clear H'
      try clear c1
      try clear c2
      try clear p2
      try clear c3
      try clear c3b0
      try clear c3b1
      try clear c3b2
      obtain ⟨x5_1, rfl, HA, HK1, ⟨m1, rfl⟩⟩ := hrel
      cases gk with
      | zero => exact absurd HA.out (by simp [qanatref03_SameStrings.l0])
      | succ k1 =>
        have H := HA.out
        clear HA
        simp only [qanatref03_SameStrings.l0] at H
        by_cases c4 : x5_1 < (l0.length : Int)
        · rw [if_pos c4] at H
          have c4b0 : decide (x5_1 < (l0.length : Int)) = true := decide_eq_true c4
          clear c4
          by_cases c5 : 0 ≤ x5_1
          · rw [if_pos c5] at H
            have c5b0 : decide (0 ≤ x5_1) = true := decide_eq_true c5
            clear c5
            by_cases c6 : x5_1 < (l1.length : Int)
            · rw [if_pos c6] at H
              have c6b0 : decide (x5_1 < (l1.length : Int)) = true := decide_eq_true c6
              clear c6
              by_cases c7 : (rdOf ByteArray.empty l0 x5_1).toList = (rdOf ByteArray.empty l1 x5_1).toList
              · rw [if_pos c7] at H
                have c7b0 : ((rdOf ByteArray.empty l0 x5_1).toList == (rdOf ByteArray.empty l1 x5_1).toList) = true := beq_iff_eq.mpr c7
                have c7b1 : ((rdOf ByteArray.empty l0 x5_1).toList != (rdOf ByteArray.empty l1 x5_1).toList) = false := bne_eq_false_iff_eq.mpr c7
                clear c7
                have H' := Aside0.mk H
                clear H
                have p274 : 0 ≤ (x5_1 : Int) := of_decide_eq_true (by first | (with_reducible assumption) | assumption)
                have q274 : x5_1 < (l0.length : Int) := of_decide_eq_true (by first | (with_reducible assumption) | assumption)
                obtain ⟨ad274, e274, hx274_0⟩ := Kd.at_string HR0.out x5_1 p274 q274
                cases e274
                replace p274 := eq_true p274
                replace q274 := eq_true q274
                have p275 : 0 ≤ (x5_1 : Int) := of_decide_eq_true (by first | (with_reducible assumption) | assumption)
                have q275 : x5_1 < (l1.length : Int) := of_decide_eq_true (by first | (with_reducible assumption) | assumption)
                obtain ⟨ad275, e275, hx275_0⟩ := Kd.at_string HR1.out x5_1 p275 q275
                cases e275
                replace p275 := eq_true p275
                replace q275 := eq_true q275
                go_wp2
                repeat (go_quiet (fail); try go_wp2)
                go_roundg k1
                case measure => have := HK1.out; omega
                case rel => exact ⟨(wrap64 (x5_1 + 1)), (by first | rfl | (simp; done) | (simp [*]; done)), H', ⟨by have := HK1.out; omega⟩, by repeat (first | exact Drawn0.refl _ | apply Drawn0.step)⟩
              · rw [if_neg c7] at H
                have c7b0 : ((rdOf ByteArray.empty l0 x5_1).toList == (rdOf ByteArray.empty l1 x5_1).toList) = false := beq_eq_false_iff_ne.mpr c7
                have c7b1 : ((rdOf ByteArray.empty l0 x5_1).toList != (rdOf ByteArray.empty l1 x5_1).toList) = true := bne_iff_ne.mpr c7
                obtain rfl := Option.some.inj H
                have p274 : 0 ≤ (x5_1 : Int) := of_decide_eq_true (by first | (with_reducible assumption) | assumption)
                have q274 : x5_1 < (l0.length : Int) := of_decide_eq_true (by first | (with_reducible assumption) | assumption)
                obtain ⟨ad274, e274, hx274_0⟩ := Kd.at_string HR0.out x5_1 p274 q274
                cases e274
                replace p274 := eq_true p274
                replace q274 := eq_true q274
                have p275 : 0 ≤ (x5_1 : Int) := of_decide_eq_true (by first | (with_reducible assumption) | assumption)
                have q275 : x5_1 < (l1.length : Int) := of_decide_eq_true (by first | (with_reducible assumption) | assumption)
                obtain ⟨ad275, e275, hx275_0⟩ := Kd.at_string HR1.out x5_1 p275 q275
                cases e275
                replace p275 := eq_true p275
                replace q275 := eq_true q275
                go_wp2
                repeat (go_quiet (fail); try go_wp2)
                go_ret
                exact ⟨by first | rfl | (simp; done) | (simp [*]; done), by repeat (first | exact Drawn0.refl _ | apply Drawn0.step)⟩
            · rw [if_neg c6] at H
              exact absurd H (by simp)
          · rw [if_neg c5] at H
            exact absurd H (by simp)
        · rw [if_neg c4] at H
          have c4b0 : decide (x5_1 < (l0.length : Int)) = false := decide_eq_false c4
          clear c4
          obtain rfl := Option.some.inj H
          go_wp2
          repeat (go_quiet (fail); try go_wp2)
          go_ret
          exact ⟨by first | rfl | (simp; done) | (simp [*]; done), by repeat (first | exact Drawn0.refl _ | apply Drawn0.step)⟩
  · rw [if_neg c3] at H
    have c3b0 : ((l0.length : Int) == (l1.length : Int)) = false := beq_eq_false_iff_ne.mpr c3
    have c3b1 : ((l0.length : Int) != (l1.length : Int)) = true := bne_iff_ne.mpr c3
    have c3b2 : (l0.length == l1.length) = false := by first | simpa using c3 | (simp at c3 ⊢; omega)
    obtain rfl := Option.some.inj H
    go_enter Tryz.func29, Tryz.ntmps29
    go_wp2
    repeat (go_quiet (fail); try go_wp2)
    go_ret
    exact ⟨by first | rfl | (simp; done) | (simp [*]; done), by repeat (first | exact Drawn0.refl _ | apply Drawn0.step)⟩
end Go.Proofs.YtkkpjonfaflkmaaGreatDoor.T

namespace Go.Proofs.YtkkpjonfaflkmaaGreatDoor.T
set_option linter.unusedSimpArgs false
open Go.RowKit Go.Proofs.YtkkpjonfaflkmaaGreatDoorW.PrintWords Go.Proofs.YtkkpjonfaflkmaaGreatDoorW.PrintLast Go.Proofs.YtkkpjonfaflkmaaGreatDoorW.PrintMore
attribute [local go_sem] max2_int min2_int max_two min_two max_three min_three max_four min_four   -- for this text's walks alone
set_option linter.unusedVariables false
set_option linter.unusedSimpArgs false
def scan_like.f (a0_0 : Int) (a0_1 : ByteArray) (a0_2 : Bool) (a0_3 : Int) (a0_4 : Int) (a0_5 : Int) (a1_0 : Int) (a1_1 : ByteArray) (a1_2 : Bool) (a1_3 : Int) (a1_4 : Int) (a1_5 : Int) : Option (Bool) := if a0_0 = a1_0 then (some (a0_1.toList == a1_1.toList)) else (some false)
set_option maxHeartbeats 8000000 in
set_option maxRecDepth 100000 in
theorem scan_like.calls (a0_0 : Int) (a0_1 : ByteArray) (a0_2 : Bool) (a0_3 : Int) (a0_4 : Int) (a0_5 : Int) (a1_0 : Int) (a1_1 : ByteArray) (a1_2 : Bool) (a1_3 : Int) (a1_4 : Int) (a1_5 : Int) (r : Bool) (w : World) (h : scan_like.f a0_0 a0_1 a0_2 a0_3 a0_4 a0_5 a1_0 a1_1 a1_2 a1_3 a1_4 a1_5 = some r) :
    Calls Tryz.prog 76 #[.agg #[.int .i64 a0_0, .string a0_1, .bool a0_2, .int .i64 a0_3, .int .i64 a0_4, .int .i64 a0_5], .agg #[.int .i64 a1_0, .string a1_1, .bool a1_2, .int .i64 a1_3, .int .i64 a1_4, .int .i64 a1_5]] w fun e w' => e = .returned (.bool r) ∧ Below w.heap.size w w' := by
  have hu53 := Tryz.underlying53
  have HB := Aside0.mk (Below.refl w.heap.size w)
  have H : (if a0_0 = a1_0 then (some (a0_1.toList == a1_1.toList)) else (some false)) = some r := h
  clear h
  by_cases c3 : a0_0 = a1_0
  · rw [if_pos c3] at H
    have c3b0 : (a0_0 == a1_0) = true := beq_iff_eq.mpr c3
    have c3b1 : (a0_0 != a1_0) = false := bne_eq_false_iff_eq.mpr c3
    clear c3
    obtain rfl := Option.some.inj H
    go_enter Tryz.func76, Tryz.ntmps76
    go_wp2_with (first | ((with_reducible refine gate_dst (N := 2) rfl ?_); refine box_event ?hg (N := 2) ?hd (cs := #[.int .i64 a0_0, .string a0_1, .bool a0_2, .int .i64 a0_3, .int .i64 a0_4, .int .i64 a0_5]) (t := 53) ?hr ?_; (case hd => rfl); (case hg => rfl); (case hr => first | (go_simp; done) | (go_simp; rfl)); intro gb148 hg w4 hbox hb; have n0_ := Aside0.mk (below_step (by repeat (first | (with_reducible first | exact HB.out | apply below_alloc | apply pw_below_drewN | apply below_drew1) | exact HB.out)) hb); have n1_ := Aside0.mk (hbox); have n2_ := Aside0.mk ((by rw [hg]; exact (below_size (by repeat (first | (with_reducible first | exact HB.out | apply below_alloc | apply pw_below_drewN | apply below_drew1) | exact HB.out))) : w.heap.size ≤ gb148)); have n3_ := Aside0.mk ((by rw [hg]; exact (below_size (by repeat (first | (with_reducible first | exact HB.out | apply below_alloc | apply pw_below_drewN | apply below_drew1) | exact HB.out))) : w.heap.size ≤ gb148)); clear HB; have HB := n0_; have BK148 := n1_; have GW148 := n2_; have GE148 := n3_; clear n0_ n1_ n2_ n3_; clear hb hbox hg) | ((with_reducible refine gate_dst (N := 3) rfl ?_); refine box_event ?hg (N := 3) ?hd (cs := #[.int .i64 a1_0, .string a1_1, .bool a1_2, .int .i64 a1_3, .int .i64 a1_4, .int .i64 a1_5]) (t := 53) ?hr ?_; (case hd => rfl); (case hg => rfl); (case hr => first | (go_simp; done) | (go_simp; rfl)); intro gb149 hg w5 hbox hb; have n0_ := Aside0.mk (blk_below (g := gb148) (o := .cells #[.int .i64 a0_0, .string a0_1, .bool a0_2, .int .i64 a0_3, .int .i64 a0_4, .int .i64 a0_5] 53 (0, 0)) (by (with_reducible repeat (first | refine blk_drewN ?_ _ | refine blk_drew ?_ | refine blk_alloc ?_ _)); exact BK148.out) hb); have n1_ := Aside0.mk (below_step (by repeat (first | (with_reducible first | exact HB.out | apply below_alloc | apply pw_below_drewN | apply below_drew1 | refine below_set ?_ GE148.out) | exact HB.out)) hb); have n2_ := Aside0.mk (hbox); have n3_ := Aside0.mk ((by rw [hg]; exact (below_size (by repeat (first | (with_reducible first | exact HB.out | apply below_alloc | apply pw_below_drewN | apply below_drew1 | refine below_set ?_ GE148.out) | exact HB.out))) : w.heap.size ≤ gb149)); have n4_ := Aside0.mk ((by rw [hg]; exact (below_size (by repeat (first | (with_reducible first | exact HB.out | apply below_alloc | apply pw_below_drewN | apply below_drew1 | refine below_set ?_ GE148.out) | exact HB.out))) : w.heap.size ≤ gb149)); have n5_ := Aside0.mk ((by rw [hg]; exact Nat.ne_of_lt (blk_lt (g := gb148) (o := .cells #[.int .i64 a0_0, .string a0_1, .bool a0_2, .int .i64 a0_3, .int .i64 a0_4, .int .i64 a0_5] 53 (0, 0)) (by (with_reducible repeat (first | refine blk_drewN ?_ _ | refine blk_drew ?_ | refine blk_alloc ?_ _)); exact BK148.out)) : gb148 ≠ gb149)); have n6_ := Aside0.mk ((by rw [hg]; exact Nat.ne_of_gt (blk_lt (g := gb148) (o := .cells #[.int .i64 a0_0, .string a0_1, .bool a0_2, .int .i64 a0_3, .int .i64 a0_4, .int .i64 a0_5] 53 (0, 0)) (by (with_reducible repeat (first | refine blk_drewN ?_ _ | refine blk_drew ?_ | refine blk_alloc ?_ _)); exact BK148.out)) : gb149 ≠ gb148)); clear BK148; clear HB; have BK148 := n0_; have HB := n1_; have BK149 := n2_; have GW149 := n3_; have GE149 := n4_; have NB148_149 := n5_; have NB149_148 := n6_; clear n0_ n1_ n2_ n3_ n4_ n5_ n6_; clear hb hbox hg; have hnb6 := NB148_149.out; have hnc6 := NB149_148.out; have hcz7_0 : w5.cell? ⟨gb148, 0, none⟩ = some (.int .i64 a0_0) := (blk_cell BK148.out 0).trans rfl; have hcz7_1 : w5.cell? ⟨gb148, 1, none⟩ = some (.string a0_1) := (blk_cell BK148.out 1).trans rfl; have hcz7_2 : w5.cell? ⟨gb148, 2, none⟩ = some (.bool a0_2) := (blk_cell BK148.out 2).trans rfl; have hcz7_3 : w5.cell? ⟨gb148, 3, none⟩ = some (.int .i64 a0_3) := (blk_cell BK148.out 3).trans rfl; have hcz7_4 : w5.cell? ⟨gb148, 4, none⟩ = some (.int .i64 a0_4) := (blk_cell BK148.out 4).trans rfl; have hcz7_5 : w5.cell? ⟨gb148, 5, none⟩ = some (.int .i64 a0_5) := (blk_cell BK148.out 5).trans rfl; have hfz7_0 := blk_frozen BK148.out 0; have hfz7_1 := blk_frozen BK148.out 1; have hfz7_2 := blk_frozen BK148.out 2; have hfz7_3 := blk_frozen BK148.out 3; have hfz7_4 := blk_frozen BK148.out 4; have hfz7_5 := blk_frozen BK148.out 5; have hcz8_0 : w5.cell? ⟨gb149, 0, none⟩ = some (.int .i64 a1_0) := (blk_cell BK149.out 0).trans rfl; have hcz8_1 : w5.cell? ⟨gb149, 1, none⟩ = some (.string a1_1) := (blk_cell BK149.out 1).trans rfl; have hcz8_2 : w5.cell? ⟨gb149, 2, none⟩ = some (.bool a1_2) := (blk_cell BK149.out 2).trans rfl; have hcz8_3 : w5.cell? ⟨gb149, 3, none⟩ = some (.int .i64 a1_3) := (blk_cell BK149.out 3).trans rfl; have hcz8_4 : w5.cell? ⟨gb149, 4, none⟩ = some (.int .i64 a1_4) := (blk_cell BK149.out 4).trans rfl; have hcz8_5 : w5.cell? ⟨gb149, 5, none⟩ = some (.int .i64 a1_5) := (blk_cell BK149.out 5).trans rfl; have hfz8_0 := blk_frozen BK149.out 0; have hfz8_1 := blk_frozen BK149.out 1; have hfz8_2 := blk_frozen BK149.out 2; have hfz8_3 := blk_frozen BK149.out 3; have hfz8_4 := blk_frozen BK149.out 4; have hfz8_5 := blk_frozen BK149.out 5))
    go_ret
    exact ⟨by first | rfl | (simp [errW_none, errW_some] <;> rfl) | (simp [*, errW_none, errW_some] <;> rfl), by repeat (first | (with_reducible first | exact HB.out | apply below_alloc | apply pw_below_drewN | apply below_drew1 | refine below_set ?_ GE148.out | refine below_set ?_ GE149.out) | exact HB.out)⟩
  · rw [if_neg c3] at H
    have c3b0 : (a0_0 == a1_0) = false := beq_eq_false_iff_ne.mpr c3
    have c3b1 : (a0_0 != a1_0) = true := bne_iff_ne.mpr c3
    obtain rfl := Option.some.inj H
    go_enter Tryz.func76, Tryz.ntmps76
    go_wp2_with (first | ((with_reducible refine gate_dst (N := 2) rfl ?_); refine box_event ?hg (N := 2) ?hd (cs := #[.int .i64 a0_0, .string a0_1, .bool a0_2, .int .i64 a0_3, .int .i64 a0_4, .int .i64 a0_5]) (t := 53) ?hr ?_; (case hd => rfl); (case hg => rfl); (case hr => first | (go_simp; done) | (go_simp; rfl)); intro gb148 hg w9 hbox hb; have n0_ := Aside0.mk (below_step (by repeat (first | (with_reducible first | exact HB.out | apply below_alloc | apply pw_below_drewN | apply below_drew1) | exact HB.out)) hb); have n1_ := Aside0.mk (hbox); have n2_ := Aside0.mk ((by rw [hg]; exact (below_size (by repeat (first | (with_reducible first | exact HB.out | apply below_alloc | apply pw_below_drewN | apply below_drew1) | exact HB.out))) : w.heap.size ≤ gb148)); have n3_ := Aside0.mk ((by rw [hg]; exact (below_size (by repeat (first | (with_reducible first | exact HB.out | apply below_alloc | apply pw_below_drewN | apply below_drew1) | exact HB.out))) : w.heap.size ≤ gb148)); clear HB; have HB := n0_; have BK148 := n1_; have GW148 := n2_; have GE148 := n3_; clear n0_ n1_ n2_ n3_; clear hb hbox hg) | ((with_reducible refine gate_dst (N := 3) rfl ?_); refine box_event ?hg (N := 3) ?hd (cs := #[.int .i64 a1_0, .string a1_1, .bool a1_2, .int .i64 a1_3, .int .i64 a1_4, .int .i64 a1_5]) (t := 53) ?hr ?_; (case hd => rfl); (case hg => rfl); (case hr => first | (go_simp; done) | (go_simp; rfl)); intro gb149 hg w10 hbox hb; have n0_ := Aside0.mk (blk_below (g := gb148) (o := .cells #[.int .i64 a0_0, .string a0_1, .bool a0_2, .int .i64 a0_3, .int .i64 a0_4, .int .i64 a0_5] 53 (0, 0)) (by (with_reducible repeat (first | refine blk_drewN ?_ _ | refine blk_drew ?_ | refine blk_alloc ?_ _)); exact BK148.out) hb); have n1_ := Aside0.mk (below_step (by repeat (first | (with_reducible first | exact HB.out | apply below_alloc | apply pw_below_drewN | apply below_drew1 | refine below_set ?_ GE148.out) | exact HB.out)) hb); have n2_ := Aside0.mk (hbox); have n3_ := Aside0.mk ((by rw [hg]; exact (below_size (by repeat (first | (with_reducible first | exact HB.out | apply below_alloc | apply pw_below_drewN | apply below_drew1 | refine below_set ?_ GE148.out) | exact HB.out))) : w.heap.size ≤ gb149)); have n4_ := Aside0.mk ((by rw [hg]; exact (below_size (by repeat (first | (with_reducible first | exact HB.out | apply below_alloc | apply pw_below_drewN | apply below_drew1 | refine below_set ?_ GE148.out) | exact HB.out))) : w.heap.size ≤ gb149)); have n5_ := Aside0.mk ((by rw [hg]; exact Nat.ne_of_lt (blk_lt (g := gb148) (o := .cells #[.int .i64 a0_0, .string a0_1, .bool a0_2, .int .i64 a0_3, .int .i64 a0_4, .int .i64 a0_5] 53 (0, 0)) (by (with_reducible repeat (first | refine blk_drewN ?_ _ | refine blk_drew ?_ | refine blk_alloc ?_ _)); exact BK148.out)) : gb148 ≠ gb149)); have n6_ := Aside0.mk ((by rw [hg]; exact Nat.ne_of_gt (blk_lt (g := gb148) (o := .cells #[.int .i64 a0_0, .string a0_1, .bool a0_2, .int .i64 a0_3, .int .i64 a0_4, .int .i64 a0_5] 53 (0, 0)) (by (with_reducible repeat (first | refine blk_drewN ?_ _ | refine blk_drew ?_ | refine blk_alloc ?_ _)); exact BK148.out)) : gb149 ≠ gb148)); clear BK148; clear HB; have BK148 := n0_; have HB := n1_; have BK149 := n2_; have GW149 := n3_; have GE149 := n4_; have NB148_149 := n5_; have NB149_148 := n6_; clear n0_ n1_ n2_ n3_ n4_ n5_ n6_; clear hb hbox hg; have hnb11 := NB148_149.out; have hnc11 := NB149_148.out; have hcz12_0 : w10.cell? ⟨gb148, 0, none⟩ = some (.int .i64 a0_0) := (blk_cell BK148.out 0).trans rfl; have hcz12_1 : w10.cell? ⟨gb148, 1, none⟩ = some (.string a0_1) := (blk_cell BK148.out 1).trans rfl; have hcz12_2 : w10.cell? ⟨gb148, 2, none⟩ = some (.bool a0_2) := (blk_cell BK148.out 2).trans rfl; have hcz12_3 : w10.cell? ⟨gb148, 3, none⟩ = some (.int .i64 a0_3) := (blk_cell BK148.out 3).trans rfl; have hcz12_4 : w10.cell? ⟨gb148, 4, none⟩ = some (.int .i64 a0_4) := (blk_cell BK148.out 4).trans rfl; have hcz12_5 : w10.cell? ⟨gb148, 5, none⟩ = some (.int .i64 a0_5) := (blk_cell BK148.out 5).trans rfl; have hfz12_0 := blk_frozen BK148.out 0; have hfz12_1 := blk_frozen BK148.out 1; have hfz12_2 := blk_frozen BK148.out 2; have hfz12_3 := blk_frozen BK148.out 3; have hfz12_4 := blk_frozen BK148.out 4; have hfz12_5 := blk_frozen BK148.out 5; have hcz13_0 : w10.cell? ⟨gb149, 0, none⟩ = some (.int .i64 a1_0) := (blk_cell BK149.out 0).trans rfl; have hcz13_1 : w10.cell? ⟨gb149, 1, none⟩ = some (.string a1_1) := (blk_cell BK149.out 1).trans rfl; have hcz13_2 : w10.cell? ⟨gb149, 2, none⟩ = some (.bool a1_2) := (blk_cell BK149.out 2).trans rfl; have hcz13_3 : w10.cell? ⟨gb149, 3, none⟩ = some (.int .i64 a1_3) := (blk_cell BK149.out 3).trans rfl; have hcz13_4 : w10.cell? ⟨gb149, 4, none⟩ = some (.int .i64 a1_4) := (blk_cell BK149.out 4).trans rfl; have hcz13_5 : w10.cell? ⟨gb149, 5, none⟩ = some (.int .i64 a1_5) := (blk_cell BK149.out 5).trans rfl; have hfz13_0 := blk_frozen BK149.out 0; have hfz13_1 := blk_frozen BK149.out 1; have hfz13_2 := blk_frozen BK149.out 2; have hfz13_3 := blk_frozen BK149.out 3; have hfz13_4 := blk_frozen BK149.out 4; have hfz13_5 := blk_frozen BK149.out 5))
    go_ret
    exact ⟨by first | rfl | (simp [errW_none, errW_some] <;> rfl) | (simp [*, errW_none, errW_some] <;> rfl), by repeat (first | (with_reducible first | exact HB.out | apply below_alloc | apply pw_below_drewN | apply below_drew1 | refine below_set ?_ GE148.out | refine below_set ?_ GE149.out) | exact HB.out)⟩
end Go.Proofs.YtkkpjonfaflkmaaGreatDoor.T

namespace Go.Proofs.YtkkpjonfaflkmaaGreatDoor.T
set_option linter.unusedSimpArgs false
set_option linter.unusedVariables false
open Go.RowKit Go.Proofs.YtkkpjonfaflkmaaGreatDoorW.PrintWords Go.Proofs.YtkkpjonfaflkmaaGreatDoorW.PrintLast Go.Proofs.YtkkpjonfaflkmaaGreatDoorW.PrintMore
attribute [local go_sem] Oper.semAt_some
def encTk (x : S53) : Value := .agg #[.int .i64 x.f0, .string x.f1, .bool x.f2, .int .i64 x.f3, .int .i64 x.f4, .int .i64 x.f5]
def eqF {α : Type} (p : α → α → Bool) : List α → List α → Bool
  | [], [] => true
  | x :: l, y :: m => p x y && eqF p l m
  | _, _ => false
theorem eqF_len {α : Type} (p : α → α → Bool) : ∀ l m : List α, l.length ≠ m.length → eqF p l m = false
  | [], [], h => absurd rfl h
  | [], _ :: _, _ => rfl
  | _ :: _, [], _ => rfl
  | x :: l, y :: m, h => by rw [eqF, eqF_len p l m (fun e => h (by simp [e])), Bool.and_false]
def likeB (x y : S53) : Bool := decide (x.f0 = y.f0) && (x.f1.toList == y.f1.toList)
def sameB (x y : S53) : Bool := likeB x y && (x.f2 == y.f2)
def Tells2 (g : Nat) (p : S53 → S53 → Bool) : Prop := ∀ (W : World) (x y : S53), Calls Tryz.prog g #[encTk x, encTk y] W fun e W' => e = .returned (.bool (p x y)) ∧ Below W.heap.size W W'
theorem like_tells : Tells2 76 likeB := fun W x y => by
  refine scan_like.calls _ _ _ _ _ _ _ _ _ _ _ _ _ W ?_
  unfold scan_like.f likeB
  by_cases h : x.f0 = y.f0
  · rw [if_pos h, decide_eq_true h, Bool.true_and]
  · rw [if_neg h, decide_eq_false h, Bool.false_and]
theorem like_enters : ∀ args w, (callFunc 76 args).run Tryz.prog w = .ok (.enter 76 args) w := enters_of Tryz.func76 (by kernel_rfl) rfl
theorem same1_enters : ∀ args w, (callFunc 75 args).run Tryz.prog w = .ok (.enter 75 args) w := enters_of Tryz.func75 (by kernel_rfl) rfl
theorem drop_rd {l : List S53} {k : Nat} (h : k < l.length) : l.drop k = rd_T53 l (k : Int) :: l.drop (k + 1) := by
  rw [List.drop_eq_getElem_cons h]
  congr 1
  unfold rd_T53
  rw [Int.toNat_natCast, List.getD_eq_getElem?_getD, List.getElem?_eq_getElem h]
  rfl
set_option maxRecDepth 100000 in
set_option maxHeartbeats 4000000 in
theorem eqf.calls (A0 : Option Addr) (c0 : Nat) (l0 : List S53) (A1 : Option Addr) (c1 : Nat) (l1 : List S53) (g : Nat) (p : S53 → S53 → Bool) (w : World)
    (eg : ∀ args w, (callFunc g args).run Tryz.prog w = .ok (.enter g args) w) (hp : Tells2 g p) (hr0 : Kd.C k53 w A0 l0.length l0) (hc0 : l0.length ≤ c0) (hr1 : Kd.C k53 w A1 l1.length l1) (hc1 : l1.length ≤ c1) (hsm : l0.length ≤ 1000000) :
    Calls Tryz.prog 74 #[.slice A0 l0.length c0, .slice A1 l1.length c1, .func (.func g) #[] #[]] w fun e w' => e = .returned (.bool (eqF p l0 l1)) ∧ Below w.heap.size w w' := by
  have hu53 := Tryz.underlying53
  have HP := Aside0.mk hp
  have HR0 := Aside0.mk hr0
  have HR1 := Aside0.mk hr1
  clear hp hr0 hr1
  by_cases hl : l0.length = l1.length
  · obtain ⟨n, hn⟩ : ∃ n, l0.length = n := ⟨_, rfl⟩
    have hn1 : l1.length = n := by omega
    obtain ⟨R, hR⟩ : ∃ R, eqF p l0 l1 = R := ⟨_, rfl⟩
    rw [hR]
    have HR := Aside0.mk hR
    have HL0 := Aside0.mk hn
    have HL1 := Aside0.mk hn1
    rw [hn] at HR0 hc0 hsm ⊢
    rw [hn1] at HR1 hc1 ⊢
    clear hl hn hn1 hR
    go_enter Tryz.func74, Tryz.ntmps74
    go_wp2
    go_loopg [17] n (fun gg s17 wr => ∃ kk : Nat, kk ≤ n ∧ n - kk ≤ gg ∧ s17 = .int .i64 kk ∧ Aside0 (Below w.heap.size w wr) ∧ Aside0 (eqF p (l0.drop kk) (l1.drop kk) = R))
    case atStart => exact ⟨0, by omega, by omega, rfl, ⟨Below.refl _ _⟩, HR⟩
    case round =>
      obtain ⟨kk, hkk, hg, rfl, HB, HA⟩ := hrel
      by_cases hlt : kk < n
      · have hltz : (kk : Int) < (n : Int) := by omega
        have hz0 : (0 : Int) ≤ (kk : Int) := by omega
        have hw1 : IntKind.i64.wrap ((kk : Int) + 1) = ((kk + 1 : Nat) : Int) := by rw [w64 _ (by omega) (by omega)]; omega
        have HA2 := HA.out
        rw [drop_rd (l := l0) (k := kk) (by rw [HL0.out]; exact hlt), drop_rd (l := l1) (k := kk) (by rw [HL1.out]; exact hlt), eqF] at HA2
        obtain ⟨ad, rfl, x0, x1, x2, x3, x4, x5⟩ := at_T53 (Kd.C_below HR0.out HB.out) (kk : Int) hz0 hltz
        simp only [Int.toNat_natCast] at x0 x1 x2 x3 x4 x5
        have hcl := HP.out
        generalize rd_T53 l0 (kk : Int) = tx at *
        go_upto_region 6 with (fail)
        have hn1 := heap_alloc_new wr (.cells #[.int .i64 tx.f0, .string tx.f1, .bool tx.f2, .int .i64 tx.f3, .int .i64 tx.f4, .int .i64 tx.f5] 53)
        have hB1 := below_alloc HB.out (.cells #[.int .i64 tx.f0, .string tx.f1, .bool tx.f2, .int .i64 tx.f3, .int .i64 tx.f4, .int .i64 tx.f5] 53)
        obtain ⟨h1, hh1⟩ : ∃ h1, wr.heap.size = h1 := ⟨_, rfl⟩
        rw [hh1] at hn1 ⊢
        clear x0 x1 x2 x3 x4 x5 hh1 HB
        generalize wr.alloc (.cells #[.int .i64 tx.f0, .string tx.f1, .bool tx.f2, .int .i64 tx.f3, .int .i64 tx.f4, .int .i64 tx.f5] 53) = W1 at *
        obtain ⟨be, rfl, y0, y1, y2, y3, y4, y5⟩ := at_T53 (Kd.C_below HR1.out hB1) (kk : Int) hz0 hltz
        simp only [Int.toNat_natCast] at y0 y1 y2 y3 y4 y5
        generalize rd_T53 l1 (kk : Int) = ty at *
        go_upto_region 7 with (fail)
        have hn2 := heap_alloc_new W1 (.cells #[.int .i64 ty.f0, .string ty.f1, .bool ty.f2, .int .i64 ty.f3, .int .i64 ty.f4, .int .i64 ty.f5] 53)
        have hB2 := below_alloc hB1 (.cells #[.int .i64 ty.f0, .string ty.f1, .bool ty.f2, .int .i64 ty.f3, .int .i64 ty.f4, .int .i64 ty.f5] 53)
        have hn3 := (((But.refl (fun _ => False) W1).alloc (.cells #[.int .i64 ty.f0, .string ty.f1, .bool ty.f2, .int .i64 ty.f3, .int .i64 ty.f4, .int .i64 ty.f5] 53)).block h1 (Array.getElem?_eq_some_iff.1 hn1).1 (fun e => e)).trans hn1
        obtain ⟨h2, hh2⟩ : ∃ h2, W1.heap.size = h2 := ⟨_, rfl⟩
        rw [hh2] at hn2 ⊢
        clear y0 y1 y2 y3 y4 y5 hh2 hB1 hn1
        generalize W1.alloc (.cells #[.int .i64 ty.f0, .string ty.f1, .bool ty.f2, .int .i64 ty.f3, .int .i64 ty.f4, .int .i64 ty.f5] 53) = W2 at *
        have HC := Lib.hid (hcl W2 tx ty)
        have HB2 := Aside0.mk hB2
        have a0 : W2.cell? ⟨h1, 0, none⟩ = some (.int .i64 tx.f0) := (blk_cell hn3 0).trans rfl
        have a1 : W2.cell? ⟨h1, 1, none⟩ = some (.string tx.f1) := (blk_cell hn3 1).trans rfl
        have a2 : W2.cell? ⟨h1, 2, none⟩ = some (.bool tx.f2) := (blk_cell hn3 2).trans rfl
        have a3 : W2.cell? ⟨h1, 3, none⟩ = some (.int .i64 tx.f3) := (blk_cell hn3 3).trans rfl
        have a4 : W2.cell? ⟨h1, 4, none⟩ = some (.int .i64 tx.f4) := (blk_cell hn3 4).trans rfl
        have a5 : W2.cell? ⟨h1, 5, none⟩ = some (.int .i64 tx.f5) := (blk_cell hn3 5).trans rfl
        have b0 : W2.cell? ⟨h2, 0, none⟩ = some (.int .i64 ty.f0) := (blk_cell hn2 0).trans rfl
        have b1 : W2.cell? ⟨h2, 1, none⟩ = some (.string ty.f1) := (blk_cell hn2 1).trans rfl
        have b2 : W2.cell? ⟨h2, 2, none⟩ = some (.bool ty.f2) := (blk_cell hn2 2).trans rfl
        have b3 : W2.cell? ⟨h2, 3, none⟩ = some (.int .i64 ty.f3) := (blk_cell hn2 3).trans rfl
        have b4 : W2.cell? ⟨h2, 4, none⟩ = some (.int .i64 ty.f4) := (blk_cell hn2 4).trans rfl
        have b5 : W2.cell? ⟨h2, 5, none⟩ = some (.int .i64 ty.f5) := (blk_cell hn2 5).trans rfl
        clear hcl hB2 hn2 hn3
        cases hq : p tx ty with
        | true =>
          rw [hq] at HC HA2
          rw [Bool.true_and] at HA2
          replace HA2 := Aside0.mk HA2
          clear hq
          go_wp2_with (go_at_fn g; refine HC.out.mono ?_; rintro e w' ⟨rfl, hb3⟩)
          go_roundg (n - (kk + 1))
          case measure => omega
          case rel => exact ⟨kk + 1, by omega, by omega, by go_num, ⟨HB2.out.trans (hb3.mono HB2.out.size)⟩, HA2⟩
        | false =>
          rw [hq] at HC HA2
          rw [Bool.false_and] at HA2
          replace HA2 := Aside0.mk HA2
          clear hq
          go_wp2_with (go_at_fn g; refine HC.out.mono ?_; rintro e w' ⟨rfl, hb3⟩)
          go_ret
          exact ⟨by rw [← HA2.out]; rfl, HB2.out.trans (hb3.mono HB2.out.size)⟩
      · have hltz : ¬ (kk : Int) < (n : Int) := by omega
        have HA2 := HA.out
        rw [List.drop_eq_nil_of_le (by rw [HL0.out]; omega), List.drop_eq_nil_of_le (by rw [HL1.out]; omega)] at HA2
        replace HA2 := Aside0.mk HA2
        go_wp2
        go_ret
        exact ⟨by rw [← HA2.out]; rfl, HB.out⟩
  · rw [eqF_len p l0 l1 hl]
    obtain ⟨n, hn⟩ : ∃ n, l0.length = n := ⟨_, rfl⟩
    obtain ⟨m, hm⟩ : ∃ m, l1.length = m := ⟨_, rfl⟩
    rw [hn, hm] at hl
    rw [hn, hm]
    have g1 : ((n : Int) == (m : Int)) = false := beq_eq_false_iff_ne.2 (by omega)
    have g2 : ((n : Int) != (m : Int)) = true := bne_iff_ne.2 (by omega)
    have g3 : (n == m) = false := beq_eq_false_iff_ne.2 (by omega)
    clear hn hm hl HR0 HR1
    go_enter Tryz.func74, Tryz.ntmps74
    go_wp2
    go_ret
    exact ⟨rfl, Below.refl _ _⟩
set_option maxRecDepth 100000 in
set_option maxHeartbeats 4000000 in
theorem same1_tells : Tells2 75 sameB := fun W x y => by
  have hcl := like_tells
  unfold encTk
  have hu53 := Tryz.underlying53
  go_enter Tryz.func75, Tryz.ntmps75
  go_upto_region 1 with (fail)
  have hn1 := heap_alloc_new W (.cells #[.int .i64 x.f0, .string x.f1, .bool x.f2, .int .i64 x.f3, .int .i64 x.f4, .int .i64 x.f5] 53)
  have hs1 := World.size_alloc W (.cells #[.int .i64 x.f0, .string x.f1, .bool x.f2, .int .i64 x.f3, .int .i64 x.f4, .int .i64 x.f5] 53)
  have hn2 := heap_alloc_new (W.alloc (.cells #[.int .i64 x.f0, .string x.f1, .bool x.f2, .int .i64 x.f3, .int .i64 x.f4, .int .i64 x.f5] 53)) (.cells #[.int .i64 y.f0, .string y.f1, .bool y.f2, .int .i64 y.f3, .int .i64 y.f4, .int .i64 y.f5] 53)
  have hn3 := (((But.refl (fun _ => False) (W.alloc (.cells #[.int .i64 x.f0, .string x.f1, .bool x.f2, .int .i64 x.f3, .int .i64 x.f4, .int .i64 x.f5] 53))).alloc (.cells #[.int .i64 y.f0, .string y.f1, .bool y.f2, .int .i64 y.f3, .int .i64 y.f4, .int .i64 y.f5] 53)).block W.heap.size (by omega) (fun e => e)).trans hn1
  have hB2 := below_alloc (below_alloc (Below.refl W.heap.size W) (.cells #[.int .i64 x.f0, .string x.f1, .bool x.f2, .int .i64 x.f3, .int .i64 x.f4, .int .i64 x.f5] 53)) (.cells #[.int .i64 y.f0, .string y.f1, .bool y.f2, .int .i64 y.f3, .int .i64 y.f4, .int .i64 y.f5] 53)
  rw [hs1] at hn2
  obtain ⟨H, hH⟩ : ∃ H, W.heap.size = H := ⟨_, rfl⟩
  rw [hH] at hn2 hn3 hB2 ⊢
  clear hn1 hs1
  generalize (W.alloc (.cells #[.int .i64 x.f0, .string x.f1, .bool x.f2, .int .i64 x.f3, .int .i64 x.f4, .int .i64 x.f5] 53)).alloc (.cells #[.int .i64 y.f0, .string y.f1, .bool y.f2, .int .i64 y.f3, .int .i64 y.f4, .int .i64 y.f5] 53) = W2 at *
  have hc := hcl W2 x y
  have hfin : Aside0 (∀ w3, Below W2.heap.size W2 w3 → Below H W w3) := ⟨fun w3 hb => hB2.trans (hb.mono (by have := hB2.size; omega))⟩
  have hcf : Aside0 (∀ w3, Below W2.heap.size W2 w3 → w3.cell? ⟨H, 2, none⟩ = some (.bool x.f2) ∧ w3.cell? ⟨H + 1, 2, none⟩ = some (.bool y.f2)) := ⟨fun w3 hb => ⟨(blk_cell ((hb.block H (Array.getElem?_eq_some_iff.1 hn3).1).trans hn3) 2).trans rfl, (blk_cell ((hb.block (H + 1) (Array.getElem?_eq_some_iff.1 hn2).1).trans hn2) 2).trans rfl⟩⟩
  have a0 : W2.cell? ⟨H, 0, none⟩ = some (.int .i64 x.f0) := (blk_cell hn3 0).trans rfl
  have a1 : W2.cell? ⟨H, 1, none⟩ = some (.string x.f1) := (blk_cell hn3 1).trans rfl
  have a2 : W2.cell? ⟨H, 2, none⟩ = some (.bool x.f2) := (blk_cell hn3 2).trans rfl
  have a3 : W2.cell? ⟨H, 3, none⟩ = some (.int .i64 x.f3) := (blk_cell hn3 3).trans rfl
  have a4 : W2.cell? ⟨H, 4, none⟩ = some (.int .i64 x.f4) := (blk_cell hn3 4).trans rfl
  have a5 : W2.cell? ⟨H, 5, none⟩ = some (.int .i64 x.f5) := (blk_cell hn3 5).trans rfl
  have b0 : W2.cell? ⟨H + 1, 0, none⟩ = some (.int .i64 y.f0) := (blk_cell hn2 0).trans rfl
  have b1 : W2.cell? ⟨H + 1, 1, none⟩ = some (.string y.f1) := (blk_cell hn2 1).trans rfl
  have b2 : W2.cell? ⟨H + 1, 2, none⟩ = some (.bool y.f2) := (blk_cell hn2 2).trans rfl
  have b3 : W2.cell? ⟨H + 1, 3, none⟩ = some (.int .i64 y.f3) := (blk_cell hn2 3).trans rfl
  have b4 : W2.cell? ⟨H + 1, 4, none⟩ = some (.int .i64 y.f4) := (blk_cell hn2 4).trans rfl
  have b5 : W2.cell? ⟨H + 1, 5, none⟩ = some (.int .i64 y.f5) := (blk_cell hn2 5).trans rfl
  unfold encTk at hc
  have HH := Aside0.mk hH
  clear hcl hn2 hn3 hB2 hH
  cases hq : likeB x y with
  | false =>
    rw [hq] at hc
    have HC := Lib.hid hc
    have HSB : Aside0 (sameB x y = false) := ⟨by unfold sameB; rw [hq]; rfl⟩
    clear hc hq
    go_wp2_with (go_at_call 76; refine HC.out.mono ?_; rintro e w3 ⟨rfl, hb3⟩)
    go_ret
    exact ⟨by rw [HSB.out]; rfl, by rw [HH.out]; exact hfin.out _ hb3⟩
  | true =>
    rw [hq] at hc
    have HC := Lib.hid hc
    have HSB : Aside0 (sameB x y = (x.f2 == y.f2)) := ⟨by unfold sameB; rw [hq]; rfl⟩
    clear hc hq
    go_wp2_with (go_at_call 76; refine HC.out.mono ?_; rintro e w3 ⟨rfl, hb3⟩; obtain ⟨k1, k2⟩ := hcf.out _ hb3)
    go_ret
    exact ⟨by rw [HSB.out]; first | rfl | simp, by rw [HH.out]; exact hfin.out _ hb3⟩
def scan_Same.f (l0 l1 : List S53) : Option Bool := if l0.length ≤ 1000000 then some (eqF sameB l0 l1) else none
set_option maxRecDepth 100000 in
set_option maxHeartbeats 4000000 in
theorem scan_Same.calls (A0 : Option Addr) (c0 : Nat) (l0 : List S53) (A1 : Option Addr) (c1 : Nat) (l1 : List S53) (r : Bool) (w : World) (hr0 : Kd.C k53 w A0 l0.length l0) (hc0 : l0.length ≤ c0) (hr1 : Kd.C k53 w A1 l1.length l1) (hc1 : l1.length ≤ c1) (h : scan_Same.f l0 l1 = some r) :
    Calls Tryz.prog 37 #[.slice A0 l0.length c0, .slice A1 l1.length c1] w fun e w' => e = .returned (.bool r) ∧ Below w.heap.size w w' := by
  unfold scan_Same.f at h
  by_cases hs : l0.length ≤ 1000000
  · rw [if_pos hs] at h
    obtain rfl := Option.some.inj h
    have hc := Lib.hid (eqf.calls A0 c0 l0 A1 c1 l1 75 sameB w same1_enters same1_tells hr0 hc0 hr1 hc1 hs)
    clear hr0 hr1 hc0 hc1 hs
    generalize eqF sameB l0 l1 = R at *
    generalize l0.length = n at *
    generalize l1.length = m at *
    go_enter Tryz.func37, Tryz.ntmps37
    go_wp2_with (go_at_call 74; refine hc.out.mono ?_; rintro e w' ⟨rfl, hb⟩)
    go_ret
    exact ⟨rfl, hb⟩
  · rw [if_neg hs] at h; cases h
end Go.Proofs.YtkkpjonfaflkmaaGreatDoor.T

namespace Go.Proofs.YtkkpjonfaflkmaaGreatDoor.T
set_option linter.unusedSimpArgs false
set_option linter.unusedVariables false
open Go.RowKit Go.Maps Go.Proofs.YtkkpjonfaflkmaaGreatDoorW.PrintWords Go.Proofs.YtkkpjonfaflkmaaGreatDoorW.PrintLast Go.Proofs.YtkkpjonfaflkmaaGreatDoorW.PrintMore
def encS (v : Value) : Option (DataW Unit × List MemPlace) :=
  match v with
  | .slice none n c => some (.agg [.lit (.int .i64 n), .lit (.int .i64 c)], [])
  | .slice (some ⟨g, o, none⟩) n c => some (.agg [.lit (.int .i64 g), .lit (.int .i64 o), .lit (.int .i64 n), .lit (.int .i64 c)], [])
  | _ => none
theorem encS_inj {v v' : Value} {d : DataW Unit} {p p' : List MemPlace} (h : encS v = some (d, p)) (h' : encS v' = some (d, p')) : v = v' := by
  unfold encS at h h'
  split at h
  · split at h'
    · simp at h h'
      obtain ⟨rfl, _⟩ := h
      obtain ⟨h', _⟩ := h'
      simp at h'
      obtain ⟨h1, h2⟩ := h'
      cases Int.ofNat_inj.1 h1; cases Int.ofNat_inj.1 h2; rfl
    · simp at h h'
      obtain ⟨rfl, _⟩ := h
      obtain ⟨h', _⟩ := h'
      simp at h'
    · cases h'
  · split at h'
    · simp at h h'
      obtain ⟨rfl, _⟩ := h
      obtain ⟨h', _⟩ := h'
      simp at h'
    · simp at h h'
      obtain ⟨rfl, _⟩ := h
      obtain ⟨h', _⟩ := h'
      simp at h'
      obtain ⟨h1, h2, h3, h4⟩ := h'
      cases Int.ofNat_inj.1 h1; cases Int.ofNat_inj.1 h2; cases Int.ofNat_inj.1 h3; cases Int.ofNat_inj.1 h4; rfl
    · cases h'
  · cases h
def grp (ps : List (Int × ByteArray)) (c : Int) : List ByteArray := (ps.filter fun p => decide (p.1 = c)).map (·.2)
structure SgI (W : World) (b base : Nat) (ps : List (Int × ByteArray)) (hd : Int → Value) (D : DataW Unit) : Prop where
  map : W.ownsMap Tryz.prog 5 encS b ps.length D
  at_ : ∀ c, 0 ≤ c → c < 256 → ∃ d, encS (hd c) = some (d, []) ∧ D.atKey (.int .u8 c) (.agg [.lit (.int .i64 0), .lit (.int .i64 0)]) = d
  row : ∀ c, W.ownsRow base 9 1 (hd c) (grp ps c).length ((grp ps c).map Value.string)
  apart : ∀ c c', c ≠ c' → (hd c).ownBlock = none ∨ (hd c).ownBlock ≠ (hd c').ownBlock
  lt : b < base
theorem zero43 (w : World) : (zeroValue 43).run Tryz.prog w = .ok (.slice none 0 0) w := by kernel_rfl
theorem keyed5 : Keyed Tryz.prog 5 := int_keyed Tryz.underlying5
theorem key_u8 {x : Int} (h0 : 0 ≤ x) (h1 : x < 256) : keyOf Tryz.prog 5 (.int .u8 x) = some (.int .u8 x) := keyOf_int_mk Tryz.underlying5 (WalkArith.wf_u8 ⟨h0, by omega⟩)
theorem SgI.look {W : World} {b base : Nat} {ps : List (Int × ByteArray)} {hd : Int → Value} {D : DataW Unit} (h : SgI W b base ps hd D) (c : Int) (h0 : 0 ≤ c) (h1 : c < 256) :
    (Instr.lookup 91 (.map (some b)) (.int .u8 c) false).run Tryz.prog W = .ok (hd c) W := by
  obtain ⟨v, p, hrun, hv⟩ := h.map.lookup keyed5 Tryz.underlying91 (zero43 W) (zd := .agg [.lit (.int .i64 0), .lit (.int .i64 0)]) (zp := []) rfl (key_u8 h0 h1)
  obtain ⟨d, h2, h3⟩ := h.at_ c h0 h1
  rw [h3] at hv
  rw [hrun, encS_inj hv h2]
theorem SgI.blk {W W' : World} {b base : Nat} {ps : List (Int × ByteArray)} {hd : Int → Value} {D : DataW Unit} (h : SgI W b base ps hd D) (he : W'.heap[b]? = W.heap[b]?) (hr : ∀ c g, (hd c).ownBlock = some g → W'.heap[g]? = W.heap[g]?) : SgI W' b base ps hd D := by
  refine ⟨?_, h.at_, fun c => ?_, h.apart, h.lt⟩
  · obtain ⟨es, clock, hb, rest⟩ := h.map
    exact ⟨es, clock, he.trans hb, rest⟩
  · obtain ⟨h1, h2⟩ := h.row c
    refine ⟨h1, h2.imp id ?_⟩
    rintro ⟨g, cap, cur, hv, hbg, hg, rest⟩
    exact ⟨g, cap, cur, hv, hbg, (hr c g (by rw [hv]; rfl)).trans hg, rest⟩
theorem SgI.kept {W W' : World} {b base : Nat} {ps : List (Int × ByteArray)} {hd : Int → Value} {D : DataW Unit} (h : SgI W b base ps hd D) (hb : Below W.heap.size W W') : SgI W' b base ps hd D :=
  h.blk (hb.block _ h.map.lt) (fun c g hg => hb.block _ ((h.row c).lt g hg).2)
theorem SgI.step {W W1 w' : World} {b base : Nat} {ps : List (Int × ByteArray)} {hd : Int → Value} {D : DataW Unit} (h : SgI W b base ps hd D) (hw1 : Below W.heap.size W W1) (c : Int) (h0 : 0 ≤ c) (h1 : c < 256) (x : ByteArray) (g cap : Nat) (hps : ps.length ≤ 1000)
    (hown : w'.ownsRow base 9 1 (.slice (some ⟨g, 0, none⟩) ((grp ps c).length + 1) cap) ((grp ps c).length + 1) ((grp ps c).map Value.string ++ [.string x])) (hg : W1.grownBy w' (hd c).ownBlock) (hloc : (hd c).ownBlock = some g ∨ W.heap.size ≤ g) (hbw : b < W.heap.size) :
    ∃ w2 D' hd', (Instr.mapUpdate 91 (.map (some b)) (.int .u8 c) (.slice (some ⟨g, 0, none⟩) ((grp ps c).length + 1) cap)).run Tryz.prog w' = .ok () w2 ∧ SgI w2 b base (ps ++ [(c, x)]) hd' D' ∧ w'.grownBy w2 (some b) := by
  have hne : ∀ c', c' ≠ c → ∀ g', (hd c').ownBlock = some g' → w'.heap[g']? = W.heap[g']? := by
    intro c' hc' g' hg'
    have hl := ((h.row c').lt g' hg').2
    refine (hg.block g' (by have := hw1.size; omega) ?_).trans (hw1.block _ hl)
    intro e
    rcases h.apart c' c hc' with e1 | e1
    · rw [e1] at hg'; cases hg'
    · exact e1 (by rw [hg', e])
  have hbb : w'.heap[b]? = W.heap[b]? := by
    refine (hg.block b (by have := hw1.size; omega) ?_).trans (hw1.block _ hbw)
    intro e
    have := ((h.row c).lt b e.symm).1
    have := h.lt
    omega
  have hmap : w'.ownsMap Tryz.prog 5 encS b ps.length D := by
    obtain ⟨es, clock, hb, rest⟩ := h.map
    exact ⟨es, clock, hbb.trans hb, rest⟩
  obtain ⟨w2, hrun, hm2, hg2⟩ := hmap.update keyed5 Tryz.underlying91 (by unfold maxLen; omega) (key_u8 h0 h1) (val := .slice (some ⟨g, 0, none⟩) ((grp ps c).length + 1) cap) (d := _) (ps := []) rfl
  have hgb : g ≠ b := by have := (hown.lt g rfl).1; have := h.lt; omega
  have hlist : ∀ c', grp (ps ++ [(c, x)]) c' = if c' = c then grp ps c' ++ [x] else grp ps c' := fun c' => by
    unfold grp
    rw [List.filter_append, List.map_append]
    by_cases e : c' = c
    · rw [if_pos e]; simp [e]
    · rw [if_neg e]
      have : ¬ c = c' := fun q => e q.symm
      simp [this]
  refine ⟨w2, _, fun c' => if c' = c then .slice (some ⟨g, 0, none⟩) ((grp ps c).length + 1) cap else hd c', hrun, ⟨by rw [List.length_append]; exact hm2, fun c' h0' h1' => ?_, fun c' => ?_, fun c' c'' hcc => ?_, h.lt⟩, hg2⟩
  · by_cases e : c' = c
    · subst e
      simp only [if_true]
      exact ⟨_, rfl, atKey_put_same hmap.isMap (show WideAt.IsKeyLit (.int .u8 c') from trivial) _ _⟩
    · simp only [e, if_false]
      obtain ⟨d, h2, h3⟩ := h.at_ c' h0' h1'
      refine ⟨d, h2, ?_⟩
      rw [atKey_put_other (by simpa using e)]
      exact h3
  · rw [hlist]
    by_cases e : c' = c
    · subst e
      simp only [if_true]
      rw [List.length_append, List.map_append]
      have := hown.kept hg2 (.inr (by simp [Value.ownBlock]; exact hgb))
      exact this
    · simp only [e, if_false]
      obtain ⟨r1, r2⟩ := h.row c'
      refine ⟨r1, r2.imp id ?_⟩
      rintro ⟨g', cap', cur', hv, hbg, hg', rest⟩
      have hob : (hd c').ownBlock = some g' := by rw [hv]; rfl
      have hlt' : g' < w'.heap.size := by have := ((h.row c').lt g' hob).2; have := hw1.size; have := hg.size; omega
      exact ⟨g', cap', cur', hv, hbg, (hg2.block g' hlt' (by intro e1; cases e1; have := h.lt; omega)).trans ((hne c' e g' hob).trans hg'), rest⟩
  · have new_old : ∀ c', c' ≠ c → (hd c').ownBlock = none ∨ (hd c').ownBlock ≠ some g := by
      intro c' e
      rcases hloc with hl | hl
      · rw [← hl]; exact h.apart c' c e
      · cases hv : (hd c').ownBlock with
        | none => exact .inl rfl
        | some g' =>
          have := ((h.row c').lt g' hv).2
          exact .inr (by intro e1; cases e1; omega)
    by_cases e : c' = c
    · have e2 : c'' ≠ c := fun q => hcc (by rw [e, q])
      simp only [e, e2, if_true, if_false]
      refine .inr ?_
      rcases new_old c'' e2 with q | q
      · rw [q]; simp [Value.ownBlock]
      · exact fun q2 => q q2.symm
    · by_cases e2 : c'' = c
      · simp only [e, e2, if_true, if_false]
        exact new_old c' e
      · simp only [e, e2, if_false]
        exact h.apart c' c'' hcc
def sgPs : List (Int × ByteArray) := S.signs.map fun l => (l.headD 0, strOfNums l)
theorem sgPs_len : sgPs.length = 35 := by decide
def sgSrc : ByteArray := ⟨(([92, 61, 61, 32, 92, 62, 62, 32, 92, 60, 60, 32, 62, 62, 61, 32, 60, 60, 61, 32, 42, 42, 32, 47, 47, 32, 124, 124, 32, 38, 38, 32, 61, 61, 32, 92, 61, 32, 92, 62, 32, 92, 60, 32, 62, 61] : List UInt8).append [32, 60, 61, 32, 62, 62, 32, 60, 60, 32, 62, 60, 32, 60, 62, 32, 43, 32, 45, 32, 42, 32, 47, 32, 37, 32, 124, 32, 38, 32, 61, 32, 62, 32, 60, 32, 92, 32, 40, 32, 41, 32, 44, 32, 58, 32, 59]).toArray⟩
theorem sg_fields : (Lib.fields sgSrc.data.toList).map (fun l => Value.string ⟨l.toArray⟩) = sgPs.map fun p => Value.string p.2 := by
  have h : (Lib.fields sgSrc.data.toList).map (fun l => (⟨l.toArray⟩ : ByteArray)) = sgPs.map (·.2) := by decide +kernel
  have h2 := congrArg (List.map Value.string) h
  rw [List.map_map, List.map_map] at h2
  exact h2
theorem sg_flen : (Lib.fields sgSrc.data.toList).length = 35 := by decide +kernel
theorem sg_ascii : ∀ (j : Nat) b, sgSrc.data.toList[j]? = some b → b.toNat < 128 := fun j b hb =>
  of_decide_eq_true (List.all_eq_true.1 (show sgSrc.data.toList.all (fun b => decide (b.toNat < 128)) = true by decide +kernel) b (List.mem_of_getElem? hb))
theorem sg_each : ∀ k : Fin 35, (bytesOf (sgPs.getD k.val (0, ⟨#[]⟩)).2).headD 0 = (sgPs.getD k.val (0, ⟨#[]⟩)).1 ∧ (bytesOf (sgPs.getD k.val (0, ⟨#[]⟩)).2) ≠ [] ∧ 0 ≤ (sgPs.getD k.val (0, ⟨#[]⟩)).1 ∧ (sgPs.getD k.val (0, ⟨#[]⟩)).1 < 256 := by decide +kernel
theorem SgI.made2 (w : World) (o : Obj) : SgI ((w.alloc (.map #[] 0)).alloc o) w.heap.size (w.heap.size + 2) [] (fun _ => .slice none 0 0) (.map []) :=
  ⟨(World.ownsMap_made _ _ _ _).alloc o, fun c _ _ => ⟨_, rfl, rfl⟩, fun c => World.ownsRow_nil _ _ _ _, fun c c' _ => .inl rfl, by omega⟩
set_option maxRecDepth 100000 in
set_option maxHeartbeats 4000000 in
theorem scan_signs.calls (w : World) (hT : Lib.TabIs Tryz.prog (w.alloc (.map #[] 0)) "strings.asciiSpace" .u8 Lib.asciiSpaceTab) :
    Calls Tryz.prog 88 #[] w fun e w' => e = .returned (.map (some w.heap.size)) ∧ Below w.heap.size w w' ∧ ∃ hd D, SgI w' w.heap.size (w.heap.size + 2) sgPs hd D := by
  have hmm := @run_makeMap Tryz.prog
  have hfi := Tryz.strings_Fields_laid sgSrc (w.alloc (.map #[] 0)) (by decide) sg_ascii hT
  rw [sg_flen, sg_fields] at hfi
  have HFI := Lib.hid hfi
  have HI0 := Aside0.mk (SgI.made2 w (.cells (sgPs.map fun p => Value.string p.2).toArray 9))
  have HR0 : Aside0 (((w.alloc (.map #[] 0)).alloc (.cells (sgPs.map fun p => Value.string p.2).toArray 9)).heap[w.heap.size + 1]? = some (.cells (sgPs.map fun p => Value.string p.2).toArray 9 (0, 0))) := ⟨by
    have := heap_alloc_new (w.alloc (.map #[] 0)) (.cells (sgPs.map fun p => Value.string p.2).toArray 9)
    rwa [World.size_alloc] at this⟩
  have HB0 : Aside0 (Below w.heap.size w ((w.alloc (.map #[] 0)).alloc (.cells (sgPs.map fun p => Value.string p.2).toArray 9))) := ⟨below_alloc (below_alloc (Below.refl _ _) _) _⟩
  have HS0 : Aside0 (w.heap.size + 2 ≤ ((w.alloc (.map #[] 0)).alloc (.cells (sgPs.map fun p => Value.string p.2).toArray 9)).heap.size) := ⟨by simp⟩
  clear hfi hT
  go_enter Tryz.func88, Tryz.ntmps88
  go_wp2_with (go_at_call 122; refine HFI.out.mono ?_; rintro e w1 ⟨rfl, rfl⟩)
  obtain ⟨W0, hW0⟩ : ∃ W0, (w.alloc (.map #[] 0)).alloc (.cells (sgPs.map fun p => Value.string p.2).toArray 9) = W0 := ⟨_, rfl⟩
  rw [hW0] at HI0 HR0 HB0 HS0 ⊢
  clear hW0 HFI
  generalize hH : w.heap.size = H at *
  obtain ⟨i0, hi, hz0, hz1, hz2⟩ := info_parts (show (Tryz.prog.info? 9).map (fun i => (i.zero, i.size, i.bytes)) = some (some (.string ⟨#[]⟩), 1, 16) by kernel_rfl)
  go_loopg [3, 7] 35 (fun gg _ s7 wr => ∃ (kk : Nat) (hd : Int → Value) (D : DataW Unit), kk ≤ 35 ∧ 35 - kk ≤ gg ∧ s7 = .int .i64 kk ∧ Aside0 (SgI wr H (H + 2) (sgPs.take kk) hd D) ∧ Aside0 (wr.heap[H + 1]? = some (.cells (sgPs.map fun p => Value.string p.2).toArray 9 (0, 0))) ∧ Aside0 (Below H w wr) ∧ Aside0 (H + 2 ≤ wr.heap.size))
  case atStart => exact ⟨0, _, _, by omega, by omega, rfl, HI0, HR0, HB0, HS0⟩
  case round =>
    obtain ⟨kk, hd, D, hkk, hg, rfl, HI, HR, HB, HS⟩ := hrel
    by_cases hlt : kk < 35
    · have hltz : (kk : Int) < 35 := by omega
      obtain ⟨q1, q2, q3, q4⟩ := sg_each ⟨kk, hlt⟩
      simp only at q1 q2 q3 q4
      have hget : sgPs[kk]? = some (sgPs.getD kk (0, ⟨#[]⟩)) := by
        rw [List.getD_eq_getElem?_getD, List.getElem?_eq_getElem (by rw [sgPs_len]; exact hlt)]
        rfl
      have htake : sgPs.take (kk + 1) = sgPs.take kk ++ [sgPs.getD kk (0, ⟨#[]⟩)] := by
        rw [List.take_add_one, hget]
        rfl
      have hcell : wr.cell? ⟨H + 1, kk, none⟩ = some (.string (sgPs.getD kk (0, ⟨#[]⟩)).2) := by
        refine (blk_cell HR.out kk).trans ?_
        rw [List.getElem?_toArray, List.getElem?_map, hget]
        rfl
      obtain ⟨p, hp⟩ : ∃ p, sgPs.getD kk (0, ⟨#[]⟩) = p := ⟨_, rfl⟩
      rw [hp] at q1 q2 q3 q4 htake hcell
      obtain ⟨c, x⟩ := p
      simp only at q1 q2 q3 q4 hcell
      obtain ⟨y, M, hyM⟩ : ∃ y M, bytesOf x = y :: M := by
        rcases hb : bytesOf x with _ | ⟨y, M⟩
        · exact absurd hb q2
        · exact ⟨y, M, rfl⟩
      obtain ⟨hz, hby⟩ := first_byte x y M hyM
      rw [hyM] at q1
      obtain rfl : y = c := q1
      have hzi : (0 : Int) < (x.size : Int) := by omega
      have HI1 : Aside0 (SgI wr.drew H (H + 2) (sgPs.take kk) hd D) := ⟨⟨HI.out.map, HI.out.at_, HI.out.row, HI.out.apart, HI.out.lt⟩⟩
      have HI2 : Aside0 (SgI (wr.alloc (.cells #[.string x] 9)).drew H (H + 2) (sgPs.take kk) hd D) := ⟨HI.out.kept (below_drew1 (below_alloc (Below.refl _ _) _))⟩
      have hlk1 := HI1.out.look y q3 q4
      have hlk2 := HI2.out.look y q3 q4
      have HT := Aside0.mk htake
      have hplen : (sgPs.take kk).length ≤ 1000 := by rw [List.length_take]; omega
      have HPL := Aside0.mk hplen
      have hgl : (grp (sgPs.take kk) y).length ≤ 1000 := by
        unfold grp
        rw [List.length_map]
        exact Nat.le_trans (List.length_filter_le _ _) hplen
      obtain ⟨gn, hgn⟩ : ∃ gn, (grp (sgPs.take kk) y).length = gn := ⟨_, rfl⟩
      have HGN := Aside0.mk hgn
      rw [hgn] at hgl
      clear q2 hyM hget htake hplen hgn
      go_wp2
      go_region_law ((refine step_append_lies _ rfl (.tmp 17) (.tmp 19) 43 rfl (H + 2) 9 i0 (.string ⟨#[]⟩) 1 16 Tryz.underlying43 hi hz0 hz1 hz2 rfl (by decide) (hd y) gn ((grp (sgPs.take kk) y).map Value.string) rfl (by rw [← HGN.out]; exact HI2.out.row y) ⟨wr.heap.size, 0, none⟩ 1 1 [.string x] rfl rfl (cell_one_new _ _ _) (by simp [Value.oneCell']) (by decide) (by unfold maxLen; omega) (by omega) (by have := HS.out; simp; omega) (wr.heap.size + 1) (by simp) ?_; intro g cap w' hown' hgr hl hlt'; obtain ⟨w2, D2, hd2, hrun, hI2, hg2⟩ := HI.out.step (W1 := (wr.alloc (.cells #[.string x] 9)).drew) (below_drew1 (below_alloc (Below.refl _ _) _)) y q3 q4 x g cap HPL.out (by rw [HGN.out]; exact hown') hgr (hl.imp id (fun e => by omega)) HI.out.map.lt; rw [HGN.out] at hrun; have HI3 := Aside0.mk hI2; have HG3 := Aside0.mk (And.intro hgr hg2); clear hI2 hg2 hgr hown' hl))
      all_goals
        go_wp2
        go_roundg (35 - (kk + 1))
        case measure => omega
        case rel =>
          obtain ⟨k1, k2⟩ := HG3.out
          have hobl : ∀ k, (hd y).ownBlock = some k → H + 2 ≤ k := fun k e => ((HI.out.row y).lt k e).1
          have hs1 := k1.size
          have hs2 := k2.size
          have hs0 := HS.out
          have hs3 : ((wr.alloc (.cells #[.string x] 9)).drew).heap.size = wr.heap.size + 1 := World.size_alloc _ _
          refine ⟨kk + 1, hd2, D2, by omega, by omega, by go_num, ⟨by rw [HT.out]; exact HI3.out⟩, ⟨?_⟩, ⟨?_⟩, ⟨by omega⟩⟩
          · refine (k2.block _ (by omega) (by simp)).trans ((k1.block _ (by omega) (by intro e; have := hobl _ e.symm; omega)).trans ?_)
            exact (Below.heap_alloc _ _ _ (by omega)).trans HR.out
          · have b0 : Below H w (wr.alloc (.cells #[.string x] 9)) := HB.out.alloc (by omega) _
            have b1 : Below H w (wr.alloc (.cells #[.string x] 9)).drew := ⟨b0.os, b0.tape, b0.output, b0.size, b0.block⟩
            exact (b1.grown k1 (by omega) (fun k e => by have := hobl k e; omega)).grown k2 (by omega) (fun k e => by cases e; omega)
    · obtain rfl : kk = 35 := by omega
      go_wp2
      go_ret
      rw [hH]
      refine ⟨rfl, HB.out, hd, D, ?_⟩
      have := HI.out
      rw [List.take_of_length_le (by rw [sgPs_len]; omega)] at this
      exact this
end Go.Proofs.YtkkpjonfaflkmaaGreatDoor.T

namespace Go.Proofs.YtkkpjonfaflkmaaGreatDoor.T
set_option linter.unusedSimpArgs false
set_option linter.unusedVariables false
open Go.RowKit Go.Maps Go.Proofs.YtkkpjonfaflkmaaGreatDoorW.PrintWords Go.Proofs.YtkkpjonfaflkmaaGreatDoorW.PrintLast Go.Proofs.YtkkpjonfaflkmaaGreatDoorW.PrintMore
theorem grp_signs (c : Int) : grp sgPs c = (S.signs.filter fun l => decide (l.headD 0 = c)).map strOfNums := by
  unfold grp sgPs
  rw [List.filter_map, List.map_map]
  rfl
theorem signs_good : ∀ l ∈ S.signs, l ≠ [] ∧ l.length ≤ 3 ∧ ∀ x ∈ l, 0 ≤ x ∧ x < 256 := by decide
theorem find_sign (c : Int) (t : List Int) : (grp sgPs c).find? (fun x => (bytesOf x).isPrefixOf (c :: t)) = (S.signs.find? (fun x => x.isPrefixOf (c :: t))).map strOfNums := by
  rw [grp_signs, List.find?_map, List.find?_filter]
  congr 1
  have key : ∀ ls : List (List Int), (∀ l ∈ ls, l ≠ [] ∧ l.length ≤ 3 ∧ ∀ x ∈ l, 0 ≤ x ∧ x < 256) →
      ls.find? (fun a => decide ((decide (a.headD 0 = c)) = true ∧ ((fun x => (bytesOf x).isPrefixOf (c :: t)) ∘ strOfNums) a = true)) = ls.find? (fun x => x.isPrefixOf (c :: t)) := by
    intro ls
    induction ls with
    | nil => intro _; rfl
    | cons l ls ih =>
      intro h
      obtain ⟨h1, _, h2⟩ := h l (by simp)
      have e : decide ((decide (l.headD 0 = c)) = true ∧ ((fun x => (bytesOf x).isPrefixOf (c :: t)) ∘ strOfNums) l = true) = l.isPrefixOf (c :: t) := by
        simp only [Function.comp_apply]
        simp only [bytesOf_str l h2]
        rcases l with _ | ⟨a, l'⟩
        · exact absurd rfl h1
        · by_cases ha : a = c
          · subst ha; simp only [List.headD_cons, decide_true, true_and, Bool.decide_eq_true]
          · simp [List.isPrefixOf, ha]
      rw [List.find?_cons, List.find?_cons, e, ih (fun l' hl' => h l' (by simp [hl']))]
  exact key S.signs signs_good
structure ScM (s : Nat) (src : ByteArray) (i line : Int) (mb base : Nat) (hd : Int → Value) (D : DataW Unit) (w : World) : Prop where
  sc : Sc s src i line (.map (some mb)) w
  sg : SgI w mb base sgPs hd D
  nm : mb ≠ s
  nr : ∀ c g, (hd c).ownBlock = some g → g ≠ s
theorem SgI.but {s : Nat} {w w' : World} {mb base : Nat} {hd : Int → Value} {D : DataW Unit} (h : SgI w mb base sgPs hd D) (nm : mb ≠ s) (nr : ∀ c g, (hd c).ownBlock = some g → g ≠ s) (hb : But (· = s) w w') : SgI w' mb base sgPs hd D :=
  h.blk (hb.block _ h.map.lt nm) (fun c g hg => hb.block _ ((h.row c).lt g hg).2 (nr c g hg))
set_option maxRecDepth 100000 in
set_option maxHeartbeats 4000000 in
theorem scan_sign.calls (s : Nat) (src : ByteArray) (i line mb base : Nat) (hd : Int → Value) (D : DataW Unit) (w : World) (hsz : src.size ≤ 100000) (hl : line ≤ 1000000000) (hi : i < src.size) (h : ScM s src i line mb base hd D w) :
    Calls Tryz.prog 125 #[.pointer (some ⟨s, 0, none⟩)] w fun e w' => But (· = s) w w' ∧ SymPost s src (.map (some mb)) i line e w' (S.signTok ((bytesOf src).drop i)) := by
  have HM := Aside0.mk h
  obtain ⟨n, hn⟩ : ∃ n, src.size = n := ⟨_, rfl⟩
  obtain ⟨L, hL⟩ : ∃ L, bytesOf src = L := ⟨_, rfl⟩
  have HN : Aside0 (L.length = n) := ⟨by rw [← hL, bytesOf_length]; exact hn⟩
  have hbi := nth_byte src i hi
  rw [hL] at hbi ⊢
  have hdi := drop_at L i (by rw [HN.out]; omega)
  obtain ⟨c, hc⟩ : ∃ c, L.getD i 0 = c := ⟨_, rfl⟩
  have hcr : 0 ≤ c ∧ c < 256 := by rw [← hc]; exact bo_range src _ (by rw [hL]; exact getD_mem _ _ (by rw [HN.out]; omega))
  rw [hc] at hbi hdi
  have HDI := Aside0.mk hdi
  have HL := Aside0.mk hL
  have HX : Aside0 (bytesOf (src.extract i n) = L.drop i) := ⟨by rw [← hn, bytesOf_rest, hL]⟩
  have hz0 : (0 : Int) ≤ (i : Int) := by omega
  have hz1 : (i : Int) < (n : Int) := by omega
  have hz2 : (i : Int) ≤ (n : Int) := by omega
  obtain ⟨G, hG⟩ : ∃ G, grp sgPs c = G := ⟨_, rfl⟩
  have hrow := h.sg.row c
  rw [hG] at hrow
  obtain ⟨k, hk⟩ : ∃ k, G.length = k := ⟨_, rfl⟩
  rw [hk] at hrow
  obtain ⟨A, cap, hv⟩ : ∃ A cap, hd c = .slice A k cap := by
    rcases hrow.2 with ⟨e, e2⟩ | ⟨g, cap, cur, e, _⟩
    · exact ⟨_, _, by rw [e, e2]⟩
    · exact ⟨_, _, e⟩
  have hlk : ∀ y : ScC s src i line (.map (some mb)) w, (Instr.lookup 91 (.map (some mb)) (.int .u8 c) false).run Tryz.prog y.world = .ok (.slice A k cap) y.world := fun y => by
    rw [← hv]
    exact (h.sg.but h.nm h.nr y.but).look c hcr.1 hcr.2
  have hkb : k ≤ 35 := by
    rw [← hk, ← hG]
    unfold grp
    rw [List.length_map]
    have := List.length_filter_le (fun p : Int × ByteArray => decide (p.1 = c)) sgPs
    rw [sgPs_len] at this
    exact this
  have hfind := find_sign c (L.drop (i + 1))
  rw [hG, ← hdi] at hfind
  have hgr : ∀ x ∈ G, x.size ≤ 3 ∧ ∃ l, x = strOfNums l := by
    intro x hx
    rw [← hG, grp_signs] at hx
    obtain ⟨l, hl, rfl⟩ := List.mem_map.1 hx
    obtain ⟨_, h1, h2⟩ := signs_good l (List.mem_filter.1 hl).1
    refine ⟨?_, l, rfl⟩
    rw [← bytesOf_length, bytesOf_str l h2]
    exact h1
  have HGR := Aside0.mk hgr
  clear hgr
  have HF := Aside0.mk hfind
  have HROW := Aside0.mk hrow
  have HG := Aside0.mk hG
  have HV := Aside0.mk hv
  have HK := Aside0.mk hk
  have HW0 : Aside0 (Sc s src i line (.map (some mb)) w.drew ∧ But (· = s) w w.drew) := ⟨h.sc, (But.refl _ w).drew⟩
  have cc0 : ∀ y : ScC s src i line (.map (some mb)) w, y.world.cell? ⟨s, 0, none⟩ = some (.string src) := ScC.c0
  have cc1 : ∀ y : ScC s src i line (.map (some mb)) w, y.world.cell? ⟨s, 1, none⟩ = some (.int .i64 i) := ScC.c1
  have cc3 : ∀ y : ScC s src i line (.map (some mb)) w, y.world.cell? ⟨s, 3, none⟩ = some (.map (some mb)) := ScC.c3
  have hne : Nonempty (ScC s src i line (.map (some mb)) w) := ⟨⟨w.drew, HW0.out.1, HW0.out.2⟩⟩
  clear hfind hrow hG hv hk hL hc hdi hcr
  rw [hn] at hsz hi
  go_enter Tryz.func125, Tryz.ntmps125
  go_upto_region 1 with (fail)
  refine wp_region_cls (fun W => ∃ y : ScC s src i line (.map (some mb)) w, W = y.world) (by kernel_rfl) (by kernel_rfl) ⟨⟨w.drew, HW0.out.1, HW0.out.2⟩, rfl⟩ ?_
  repeat (go_big_quiet_step (fail))
  refine wpQuiet_nil ?_
  rintro W ⟨y, rfl⟩
  go_wp2
  have HY0 : Aside0 (∃ y2 : ScC s src i line (.map (some mb)) w, y.world = y2.world) := ⟨⟨y, rfl⟩⟩
  generalize y.world = W0 at *
  go_loopg [4, 20] (k + 1) (fun gg _ s20 wr => ∃ j : Nat, j ≤ k ∧ k + 1 - j ≤ gg ∧ s20 = .int .i64 j ∧ Aside0 (∃ y2 : ScC s src i line (.map (some mb)) w, wr = y2.world) ∧ Aside0 ((G.drop j).find? (fun x => (bytesOf x).isPrefixOf (L.drop i)) = G.find? (fun x => (bytesOf x).isPrefixOf (L.drop i))))
  case atStart => exact ⟨0, Nat.zero_le _, by omega, rfl, HY0, ⟨rfl⟩⟩
  case round =>
    obtain ⟨j, hj, hg, rfl, HY, HA⟩ := hrel
    obtain ⟨y2, hy2⟩ := HY.out
    have hs2 := y2.sc
    have hb2 := y2.but
    rw [← hy2] at hs2 hb2
    have HS2 := Aside0.mk hs2
    have HB2 := Aside0.mk hb2
    have d1 := hs2.c1
    have d2 := hs2.c2
    have f1 := hs2.fr 1
    clear hs2 hb2 hy2
    by_cases hlt : j < k
    · have hltz : (j : Int) < (k : Int) := by omega
      have hGl : j < G.length := by rw [HK.out]; exact hlt
      have hdj : G.drop j = G[j] :: G.drop (j + 1) := List.drop_eq_getElem_cons hGl
      have hxm : G[j] ∈ G := List.getElem_mem hGl
      have hgj : (G.map Value.string)[j]? = some (.string G[j]) := by rw [List.getElem?_map, List.getElem?_eq_getElem hGl]; rfl
      obtain ⟨x, hx⟩ : ∃ x, G[j] = x := ⟨_, rfl⟩
      rw [hx] at hdj hxm hgj
      have hr2 := (HM.out.sg.but HM.out.nm HM.out.nr HB2.out).row c
      rw [HG.out, HK.out, HV.out] at hr2
      rcases hr2.2 with ⟨_, e2⟩ | ⟨g, cap', cur, e, _⟩
      · omega
      simp only [Value.slice.injEq] at e
      obtain ⟨rfl, _, rfl⟩ := e
      have hcell : wr.cell? ⟨g, j, none⟩ = some (.string x) := by rw [hr2.cellAt j (by omega), hgj]
      obtain ⟨b, hb⟩ : ∃ b, (bytesOf x).isPrefixOf (L.drop i) = b := ⟨_, rfl⟩
      have hcall : ∀ W, Calls Tryz.prog 123 #[.string (src.extract i n), .string x] W fun e W' => e = .returned (.bool b) ∧ W' = W := fun W => by
        have h := Tryz.strings_HasPrefix (src.extract i n) x W
        rw [hasPrefix_nums, HX.out, hb] at h
        exact h
      have hxs := (HGR.out x hxm).1
      have HXL := Aside0.mk (HGR.out x hxm).2
      have HC := Lib.hid hcall
      have HDJ := Aside0.mk hdj
      have HB := Aside0.mk hb
      clear hr2 hcall hdj hgj hx hxm hb
      have hne2 : Nonempty (ScC s src i line (.map (some mb)) w) := hne
      go_upto_region 4 with (fail)
      refine wp_region_cls (fun W => ∃ y : ScC s src i line (.map (some mb)) w, W = y.world) (by kernel_rfl) (by kernel_rfl) ⟨⟨wr.drew, HS2.out, HB2.out.drew⟩, rfl⟩ ?_
      repeat (go_big_quiet_step ((rename_i y; (go_at_call 123; refine (HC.out _).mono ?_; rintro e w' ⟨rfl, rfl⟩; exact ⟨rfl, y, rfl⟩))))
      refine wpQuiet_nil ?_
      rintro W ⟨y3, rfl⟩
      have HS3 := Aside0.mk y3.sc
      have HB3 := Aside0.mk y3.but
      have c1 := y3.sc.c1
      have fr1 := y3.sc.fr 1
      generalize y3.world = W3 at *
      cases b with
      | true =>
        have hfs : ∃ l, S.signs.find? (fun x => x.isPrefixOf (L.drop i)) = some l ∧ x = strOfNums l ∧ x.size = l.length := by
          have h1 := HF.out
          rw [← HA.out, HDJ.out, List.find?_cons] at h1
          simp only [HB.out] at h1
          cases h2 : S.signs.find? (fun x => x.isPrefixOf (L.drop i)) with
          | none => rw [h2] at h1; cases h1
          | some v =>
            rw [h2] at h1
            simp only [Option.map_some, Option.some.injEq] at h1
            obtain ⟨_, _, h4⟩ := signs_good v (List.mem_of_find?_eq_some h2)
            refine ⟨v, rfl, h1, ?_⟩
            rw [h1, ← bytesOf_length, bytesOf_str v h4]
        obtain ⟨l, hl1, hl2, hl3⟩ := hfs
        have HT : Aside0 (S.signTok (L.drop i) = .ok l l.length) := ⟨by unfold S.signTok; rw [hl1]⟩
        have HL2 := Aside0.mk hl2
        have HL3 := Aside0.mk hl3
        clear hl1 hl2 hl3
        obtain ⟨xn, hxn⟩ : ∃ xn, x.size = xn := ⟨_, rfl⟩
        rw [hxn] at hxs
        rw [hxn] at HL3
        have hw : IntKind.i64.wrap ((i : Int) + (xn : Int)) = (i : Int) + (xn : Int) := w64 _ (by omega) (by omega)
        go_wp2_with fail
        go_ret
        refine ⟨HB3.out.set _ _ rfl, ?_⟩
        rw [HT.out]
        refine ⟨by rw [HL2.out]; rfl, ?_⟩
        rw [← HL3.out]
        exact HS3.out.set1 _
      | false =>
        go_wp2_with fail
        go_roundg (k + 1 - (j + 1))
        case measure => omega
        case rel =>
          refine ⟨j + 1, by omega, by omega, by go_num, ⟨⟨_, HS3.out, HB3.out⟩, rfl⟩, ⟨?_⟩⟩
          rw [← HA.out, HDJ.out, List.find?_cons]
          simp only [HB.out]
    · obtain rfl : j = k := by omega
      have hnone : S.signs.find? (fun x => x.isPrefixOf (L.drop i)) = none := by
        have h1 := HF.out
        have hG0 : G.drop j = [] := List.drop_eq_nil_of_le (by rw [HK.out]; omega)
        rw [← HA.out, hG0] at h1
        cases h2 : S.signs.find? (fun x => x.isPrefixOf (L.drop i)) with
        | none => rfl
        | some v => rw [h2] at h1; cases h1
      have HT : Aside0 (S.signTok (L.drop i) = .err 13) := ⟨by unfold S.signTok; rw [hnone]⟩
      have HFL := Lib.hid (scan_fail.calls (.pointer (some ⟨s, 0, none⟩)) 13 line wr)
      clear hnone
      go_wp2_with (go_at_call 97; refine HFL.out.mono ?_; rintro e w3 ⟨rfl, rfl⟩; unfold Fails)
      refine ⟨rfl, HB2.out, ?_⟩
      rw [HT.out]
      exact ⟨rfl, _, HS2.out⟩
end Go.Proofs.YtkkpjonfaflkmaaGreatDoor.T
