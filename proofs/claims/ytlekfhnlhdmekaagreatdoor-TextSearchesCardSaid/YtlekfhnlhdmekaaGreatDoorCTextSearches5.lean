/- Part 5 of the proof of TextSearches: the functions that it calls return what their plain descriptions say. -/
import Derived.Test.YtlekfhnlhdmekaaGreatDoorCTextSearches2
import Derived.Test.YtlekfhnlhdmekaaGreatDoorCTextSearches4
import Derived.RangeFuncNested
import Derived.RangeFuncLeaves
import Derived.Test.YtlekfhnlhdmekaaGreatDoorCTextSearches3
import Derived.Test.YtlekfhnlhdmekaaGreatDoorCTextSearches1
import Derived.Stop.RegionWithIn
import Derived.Shelf.RegionOpen

-- Written by a program of this session (mp.py over the kit's print.py), out of the translation.
namespace Go.Proofs.YtlekfhnlhdmekaaGreatDoor.T
set_option linter.unusedSimpArgs false
open Go.RowKit Go.Proofs.YtlekfhnlhdmekaaGreatDoorW.PrintWords Go.Proofs.YtlekfhnlhdmekaaGreatDoorW.PrintLast Go.Proofs.YtlekfhnlhdmekaaGreatDoorW.PrintMore
attribute [local go_sem] max2_int min2_int max_two min_two max_three min_three max_four min_four   -- for this text's walks alone
set_option linter.unusedVariables false
set_option linter.unusedSimpArgs false

/-! ### qanatref02_LastPos: function 62 -/
mutual
def qanatref02_LastPos.j0 : Nat → ByteArray → ByteArray → Int → Bool → Option (Int × Int)
  | 0, _, _, _, _ => none
  | k + 1, x0, x1, x2, x20 => if x20 = true then (some (0, 1)) else (if x2 = (-1) then (qanatref02_LastPos.j1 k x0 x1 x2 false) else (qanatref02_LastPos.j1 k x0 x1 x2 (decide (x2 < (x1.size : Int)))))
def qanatref02_LastPos.j1 : Nat → ByteArray → ByteArray → Int → Bool → Option (Int × Int)
  | 0, _, _, _, _ => none
  | k + 1, x0, x1, x2, x29 => if x29 = true then (if 0 ≤ x2 then (if x2 ≤ (x1.size : Int) then (qanatref02_LastPos.j2 k x0 (x1.extract 0 (x2 : Int).toNat)) else (none)) else (none)) else (qanatref02_LastPos.j2 k x0 x1)
def qanatref02_LastPos.j2 : Nat → ByteArray → ByteArray → Option (Int × Int)
  | 0, _, _ => none
  | k + 1, x0, x1 => qanatref02_LastPos.l0 k x0 x1 (wrap64 ((x1.size : Int) - (x0.size : Int)))
def qanatref02_LastPos.l0 : Nat → ByteArray → ByteArray → Int → Option (Int × Int)
  | 0, _, _, _ => none
  | k + 1, x0, x1, x7 => if x7 ≥ 0 then (qanatref02_LastPos.j4 k x0 x1 x7 (decide ((x0.size : Int) > 0))) else (qanatref02_LastPos.j4 k x0 x1 x7 false)
def qanatref02_LastPos.j4 : Nat → ByteArray → ByteArray → Int → Bool → Option (Int × Int)
  | 0, _, _, _, _ => none
  | k + 1, x0, x1, x7, x44 => if x44 = true then ((qanatref02_at.f x0 x1 x7).bind fun t598 => (if t598 = true then (some (wrap64 (x7 + 1), 0)) else (qanatref02_LastPos.l0 k x0 x1 (wrap64 (x7 - 1))))) else (some (0, 0))
end
def qanatref02_LastPos.f (k : Nat) (a0 : ByteArray) (a1 : ByteArray) (a2 : Int) : Option (Int × Int) := (qanatref02_Valid.f a0).bind fun t595 => (if t595 = true then ((qanatref02_Valid.f a1).bind fun t596 => (if t596 = true then ((qanatref02_whole.f a2 1 true).bind fun t597 => (qanatref02_LastPos.j0 k a0 a1 a2 (!t597))) else (qanatref02_LastPos.j0 k a0 a1 a2 true))) else (qanatref02_LastPos.j0 k a0 a1 a2 true))
theorem qanatref02_LastPos.mono_l : ∀ k, (∀ y0 y1 y2 y3, LeO (qanatref02_LastPos.j0 k y0 y1 y2 y3) (qanatref02_LastPos.j0 (k + 1) y0 y1 y2 y3)) ∧ (∀ y0 y1 y2 y3, LeO (qanatref02_LastPos.j1 k y0 y1 y2 y3) (qanatref02_LastPos.j1 (k + 1) y0 y1 y2 y3)) ∧ (∀ y0 y1, LeO (qanatref02_LastPos.j2 k y0 y1) (qanatref02_LastPos.j2 (k + 1) y0 y1)) ∧ (∀ y0 y1 y2, LeO (qanatref02_LastPos.l0 k y0 y1 y2) (qanatref02_LastPos.l0 (k + 1) y0 y1 y2)) ∧ (∀ y0 y1 y2 y3, LeO (qanatref02_LastPos.j4 k y0 y1 y2 y3) (qanatref02_LastPos.j4 (k + 1) y0 y1 y2 y3))
  | 0 => ⟨fun _ _ _ _ r h => by simp [qanatref02_LastPos.j0] at h, fun _ _ _ _ r h => by simp [qanatref02_LastPos.j1] at h, fun _ _ r h => by simp [qanatref02_LastPos.j2] at h, fun _ _ _ r h => by simp [qanatref02_LastPos.l0] at h, fun _ _ _ _ r h => by simp [qanatref02_LastPos.j4] at h⟩
  | k + 1 => by
    obtain ⟨ih0, ih1, ih2, ih3, ih4⟩ := qanatref02_LastPos.mono_l k
    refine ⟨?_, ?_, ?_, ?_, ?_⟩
    · intro y0 y1 y2 y3
      unfold qanatref02_LastPos.j0
      repeat' first
      | (with_reducible exact ih0 _ _ _ _)
      | (with_reducible exact ih1 _ _ _ _)
      | (with_reducible exact ih2 _ _)
      | (with_reducible exact ih3 _ _ _)
      | (with_reducible exact ih4 _ _ _ _)
      | (with_reducible exact LeO.refl _)
      | (with_reducible exact LeO.none _)
      | (with_reducible refine LeO.ite ?_ ?_)
      | (with_reducible refine LeO.bind ?_ (fun _ => ?_))
      | exact ih0 _ _ _ _
      | exact ih1 _ _ _ _
      | exact ih2 _ _
      | exact ih3 _ _ _
      | exact ih4 _ _ _ _
      | exact LeO.none _
      | refine LeO.ite ?_ ?_
      | refine LeO.bind ?_ (fun _ => ?_)
    · intro y0 y1 y2 y3
      unfold qanatref02_LastPos.j1
      repeat' first
      | (with_reducible exact ih0 _ _ _ _)
      | (with_reducible exact ih1 _ _ _ _)
      | (with_reducible exact ih2 _ _)
      | (with_reducible exact ih3 _ _ _)
      | (with_reducible exact ih4 _ _ _ _)
      | (with_reducible exact LeO.refl _)
      | (with_reducible exact LeO.none _)
      | (with_reducible refine LeO.ite ?_ ?_)
      | (with_reducible refine LeO.bind ?_ (fun _ => ?_))
      | exact ih0 _ _ _ _
      | exact ih1 _ _ _ _
      | exact ih2 _ _
      | exact ih3 _ _ _
      | exact ih4 _ _ _ _
      | exact LeO.none _
      | refine LeO.ite ?_ ?_
      | refine LeO.bind ?_ (fun _ => ?_)
    · intro y0 y1
      unfold qanatref02_LastPos.j2
      repeat' first
      | (with_reducible exact ih0 _ _ _ _)
      | (with_reducible exact ih1 _ _ _ _)
      | (with_reducible exact ih2 _ _)
      | (with_reducible exact ih3 _ _ _)
      | (with_reducible exact ih4 _ _ _ _)
      | (with_reducible exact LeO.refl _)
      | (with_reducible exact LeO.none _)
      | (with_reducible refine LeO.ite ?_ ?_)
      | (with_reducible refine LeO.bind ?_ (fun _ => ?_))
      | exact ih0 _ _ _ _
      | exact ih1 _ _ _ _
      | exact ih2 _ _
      | exact ih3 _ _ _
      | exact ih4 _ _ _ _
      | exact LeO.none _
      | refine LeO.ite ?_ ?_
      | refine LeO.bind ?_ (fun _ => ?_)
    · intro y0 y1 y2
      unfold qanatref02_LastPos.l0
      repeat' first
      | (with_reducible exact ih0 _ _ _ _)
      | (with_reducible exact ih1 _ _ _ _)
      | (with_reducible exact ih2 _ _)
      | (with_reducible exact ih3 _ _ _)
      | (with_reducible exact ih4 _ _ _ _)
      | (with_reducible exact LeO.refl _)
      | (with_reducible exact LeO.none _)
      | (with_reducible refine LeO.ite ?_ ?_)
      | (with_reducible refine LeO.bind ?_ (fun _ => ?_))
      | exact ih0 _ _ _ _
      | exact ih1 _ _ _ _
      | exact ih2 _ _
      | exact ih3 _ _ _
      | exact ih4 _ _ _ _
      | exact LeO.none _
      | refine LeO.ite ?_ ?_
      | refine LeO.bind ?_ (fun _ => ?_)
    · intro y0 y1 y2 y3
      unfold qanatref02_LastPos.j4
      repeat' first
      | (with_reducible exact ih0 _ _ _ _)
      | (with_reducible exact ih1 _ _ _ _)
      | (with_reducible exact ih2 _ _)
      | (with_reducible exact ih3 _ _ _)
      | (with_reducible exact ih4 _ _ _ _)
      | (with_reducible exact LeO.refl _)
      | (with_reducible exact LeO.none _)
      | (with_reducible refine LeO.ite ?_ ?_)
      | (with_reducible refine LeO.bind ?_ (fun _ => ?_))
      | exact ih0 _ _ _ _
      | exact ih1 _ _ _ _
      | exact ih2 _ _
      | exact ih3 _ _ _
      | exact ih4 _ _ _ _
      | exact LeO.none _
      | refine LeO.ite ?_ ?_
      | refine LeO.bind ?_ (fun _ => ?_)
theorem qanatref02_LastPos.mono : ∀ a0 a1 a2 k, LeO (qanatref02_LastPos.f k a0 a1 a2) (qanatref02_LastPos.f (k + 1) a0 a1 a2) := by
  intro a0 a1 a2 k
  obtain ⟨ih0, ih1, ih2, ih3, ih4⟩ := qanatref02_LastPos.mono_l k
  unfold qanatref02_LastPos.f
  repeat' first
      | (with_reducible exact ih0 _ _ _ _)
      | (with_reducible exact ih1 _ _ _ _)
      | (with_reducible exact ih2 _ _)
      | (with_reducible exact ih3 _ _ _)
      | (with_reducible exact ih4 _ _ _ _)
      | (with_reducible exact LeO.refl _)
      | (with_reducible exact LeO.none _)
      | (with_reducible refine LeO.ite ?_ ?_)
      | (with_reducible refine LeO.bind ?_ (fun _ => ?_))
      | exact ih0 _ _ _ _
      | exact ih1 _ _ _ _
      | exact ih2 _ _
      | exact ih3 _ _ _
      | exact ih4 _ _ _ _
      | exact LeO.none _
      | refine LeO.ite ?_ ?_
      | refine LeO.bind ?_ (fun _ => ?_)
set_option maxHeartbeats 8000000 in
set_option maxRecDepth 100000 in
theorem qanatref02_LastPos.calls (k : Nat) (a0 : ByteArray) (a1 : ByteArray) (a2 : Int) (r1 : Int) (r2 : Int) (w : World) (h : qanatref02_LastPos.f k a0 a1 a2 = some (r1, r2)) :
    Calls Tryz.prog 62 #[.string a0, .string a1, .int .i64 a2] w fun e w' => e = .returned (.agg #[.int .i64 r1, .int .i64 r2]) ∧ Below w.heap.size w w' := by
  have hu49 := Tryz.underlying49
  have HB := Aside0.mk (Below.refl w.heap.size w)
  have H : ((qanatref02_Valid.f a0).bind fun t595 => (if t595 = true then ((qanatref02_Valid.f a1).bind fun t596 => (if t596 = true then ((qanatref02_whole.f a2 1 true).bind fun t597 => (qanatref02_LastPos.j0 k a0 a1 a2 (!t597))) else (qanatref02_LastPos.j0 k a0 a1 a2 true))) else (qanatref02_LastPos.j0 k a0 a1 a2 true))) = some (r1, r2) := h
  clear h
  have HC4 := Aside0.mk H
  clear H
  go_enter Tryz.func62, Tryz.ntmps62
  go_upto_region 1 with (first | ((with_reducible refine gate_dst (N := 6) rfl ?_); (try (refine gate_guard (by rfl) ?_; dsimp only)); refine box_event ?hg (N := 6) ?hd (cs := #[.int .i64 0, .int .i64 0]) (t := 49) ?hr ?_; (case hd => rfl); (case hg => rfl); (case hr => first | (go_simp; done) | (go_simp; rfl)); intro gb594 hg w5 hbox hb; have n0_ := Aside0.mk (below_step (by repeat (first | (with_reducible first | exact HB.out | apply below_alloc | apply pw_below_drewN | apply below_drew1) | exact HB.out)) hb); have n1_ := Aside0.mk (hbox); have n2_ := Aside0.mk ((by rw [hg]; exact (below_size (by repeat (first | (with_reducible first | exact HB.out | apply below_alloc | apply pw_below_drewN | apply below_drew1) | exact HB.out))) : w.heap.size ≤ gb594)); have n3_ := Aside0.mk ((by rw [hg]; exact (below_size (by repeat (first | (with_reducible first | exact HB.out | apply below_alloc | apply pw_below_drewN | apply below_drew1) | exact HB.out))) : w.heap.size ≤ gb594)); clear HB; have HB := n0_; have BK594 := n1_; have GW594 := n2_; have GE594 := n3_; clear n0_ n1_ n2_ n3_; clear hb hbox hg))
  (try simp only [Act.put, List.setIfInBounds_toArray, List.set_cons_zero, List.set_cons_succ])
  go_cut [20] (fun v20 wc => ∃ (kq : Nat) (x20_3 : Bool), v20 = .bool x20_3 ∧ Aside0 (qanatref02_LastPos.j0 kq a0 a1 a2 x20_3 = some (r1, r2)) ∧ Aside0 (kq ≤ k) ∧ Aside0 (wc.heap[gb594]? = some (.cells #[.int .i64 0, .int .i64 0] 49 (0, 0))) ∧ Aside0 (Below w.heap.size w wc))
  case first =>
    have H := HC4.out
    clear HC4
    replace H := Option.bind_eq_some_iff.mp H
    obtain ⟨t595, A60, H⟩ := H
    replace H : (if t595 = true then ((qanatref02_Valid.f a1).bind fun t596 => (if t596 = true then ((qanatref02_whole.f a2 1 true).bind fun t597 => (qanatref02_LastPos.j0 k a0 a1 a2 (!t597))) else (qanatref02_LastPos.j0 k a0 a1 a2 true))) else (qanatref02_LastPos.j0 k a0 a1 a2 true)) = some (r1, r2) := H
    have A6 := Aside0.mk A60
    clear A60
    by_cases c7 : t595 = true
    · subst c7
      have H1 : ((qanatref02_Valid.f a1).bind fun t596 => (if t596 = true then ((qanatref02_whole.f a2 1 true).bind fun t597 => (qanatref02_LastPos.j0 k a0 a1 a2 (!t597))) else (qanatref02_LastPos.j0 k a0 a1 a2 true))) = some (r1, r2) := by rw [if_pos rfl] at H; exact H
      clear H
      have H := H1
      clear H1
      replace H := Option.bind_eq_some_iff.mp H
      obtain ⟨t596, A80, H⟩ := H
      replace H : (if t596 = true then ((qanatref02_whole.f a2 1 true).bind fun t597 => (qanatref02_LastPos.j0 k a0 a1 a2 (!t597))) else (qanatref02_LastPos.j0 k a0 a1 a2 true)) = some (r1, r2) := H
      have A8 := Aside0.mk A80
      clear A80
      by_cases c9 : t596 = true
      · subst c9
        have H1 : ((qanatref02_whole.f a2 1 true).bind fun t597 => (qanatref02_LastPos.j0 k a0 a1 a2 (!t597))) = some (r1, r2) := by rw [if_pos rfl] at H; exact H
        clear H
        have H := H1
        clear H1
        replace H := Option.bind_eq_some_iff.mp H
        obtain ⟨t597, A100, H⟩ := H
        replace H : (qanatref02_LastPos.j0 k a0 a1 a2 (!t597)) = some (r1, r2) := H
        have A10 := Aside0.mk A100
        clear A100
        have H' := Aside0.mk H
        clear H
        go_wp2_with (first | ((with_reducible refine gate_callee (f := 89) rfl ?_); refine goesL_ (some 9) rfl rfl Tryz.func89 (by kernel_rfl) rfl #[.string a0] rfl (by (try simp only [List.map_toArray, List.map_cons, List.map_nil]); first | done | rfl | (simp only [List.length_drop, List.length_take]; rfl)) ?_; (with_reducible refine (qanatref02_Valid.calls a0 true _ A6.out).mono ?_); rintro e w' ⟨rfl, ⟨nd, rfl⟩⟩; refine ⟨_, rfl, ?_⟩) | (go_at_call 89; (with_reducible refine (qanatref02_Valid.calls a1 true _ A8.out).mono ?_); rintro e w' ⟨rfl, ⟨nd, rfl⟩⟩) | (go_at_call 102; (with_reducible refine (qanatref02_whole.calls a2 1 true t597 _ A10.out).mono ?_); rintro e w' ⟨rfl, ⟨nd, rfl⟩⟩))
        go_meet
        case rel => exact ⟨_, (!t597), (by first | rfl | (simp; done) | (simp [*]; done)), H', ⟨by first | omega | exact Nat.le_refl _⟩, ⟨by (with_reducible repeat (first | refine blk_drewN ?_ _ | refine blk_drew ?_ | refine blk_alloc ?_ _)); exact BK594.out⟩, ⟨by repeat (first | (with_reducible first | exact HB.out | apply below_alloc | apply pw_below_drewN | apply below_drew1 | refine below_set ?_ GE594.out) | exact HB.out)⟩⟩
      · replace c9 := Bool.eq_false_iff.mpr c9
        subst c9
        have H1 : (qanatref02_LastPos.j0 k a0 a1 a2 true) = some (r1, r2) := by rw [if_neg (show ¬ (false = true) by decide)] at H; exact H
        clear H
        have H := H1
        clear H1
        have H' := Aside0.mk H
        clear H
        go_wp2_with (first | ((with_reducible refine gate_callee (f := 89) rfl ?_); refine goesL_ (some 9) rfl rfl Tryz.func89 (by kernel_rfl) rfl #[.string a0] rfl (by (try simp only [List.map_toArray, List.map_cons, List.map_nil]); first | done | rfl | (simp only [List.length_drop, List.length_take]; rfl)) ?_; (with_reducible refine (qanatref02_Valid.calls a0 true _ A6.out).mono ?_); rintro e w' ⟨rfl, ⟨nd, rfl⟩⟩; refine ⟨_, rfl, ?_⟩) | (go_at_call 89; (with_reducible refine (qanatref02_Valid.calls a1 false _ A8.out).mono ?_); rintro e w' ⟨rfl, ⟨nd, rfl⟩⟩))
        go_meet
        case rel => exact ⟨_, (true), (by first | rfl | (simp; done) | (simp [*]; done)), H', ⟨by first | omega | exact Nat.le_refl _⟩, ⟨by (with_reducible repeat (first | refine blk_drewN ?_ _ | refine blk_drew ?_ | refine blk_alloc ?_ _)); exact BK594.out⟩, ⟨by repeat (first | (with_reducible first | exact HB.out | apply below_alloc | apply pw_below_drewN | apply below_drew1 | refine below_set ?_ GE594.out) | exact HB.out)⟩⟩
    · replace c7 := Bool.eq_false_iff.mpr c7
      subst c7
      have H1 : (qanatref02_LastPos.j0 k a0 a1 a2 true) = some (r1, r2) := by rw [if_neg (show ¬ (false = true) by decide)] at H; exact H
      clear H
      have H := H1
      clear H1
      have H' := Aside0.mk H
      clear H
      go_wp2_with (first | ((with_reducible refine gate_callee (f := 89) rfl ?_); refine goesL_ (some 9) rfl rfl Tryz.func89 (by kernel_rfl) rfl #[.string a0] rfl (by (try simp only [List.map_toArray, List.map_cons, List.map_nil]); first | done | rfl | (simp only [List.length_drop, List.length_take]; rfl)) ?_; (with_reducible refine (qanatref02_Valid.calls a0 false _ A6.out).mono ?_); rintro e w' ⟨rfl, ⟨nd, rfl⟩⟩; refine ⟨_, rfl, ?_⟩))
      go_meet
      case rel => exact ⟨_, (true), (by first | rfl | (simp; done) | (simp [*]; done)), H', ⟨by first | omega | exact Nat.le_refl _⟩, ⟨by (with_reducible repeat (first | refine blk_drewN ?_ _ | refine blk_drew ?_ | refine blk_alloc ?_ _)); exact BK594.out⟩, ⟨by repeat (first | (with_reducible first | exact HB.out | apply below_alloc | apply pw_below_drewN | apply below_drew1 | refine below_set ?_ GE594.out) | exact HB.out)⟩⟩
  case rest =>
    clear HC4
    try clear p2
    try clear c6
    try clear c7
    try clear c8
    try clear c9
    obtain ⟨kq, x20_3, rfl, HA, HJ3, BK594, HB⟩ := hcut
    cases kq with
    | zero => exact absurd HA.out (by simp [qanatref02_LastPos.j0])
    | succ kj3 =>
      have H := HA.out
      clear HA
      simp only [qanatref02_LastPos.j0] at H
      by_cases c11 : x20_3 = true
      · subst c11
        have H1 : (some (0, 1)) = some (r1, r2) := by rw [if_pos rfl] at H; exact H
        clear H
        have H := H1
        clear H1
        simp only [Option.some.injEq, Prod.mk.injEq] at H
        obtain ⟨rfl, rfl⟩ := H
        have hcz12_0 : wc.cell? ⟨gb594, 0, none⟩ = some (.int .i64 0) := (blk_cell BK594.out 0).trans rfl
        have hcz12_1 : wc.cell? ⟨gb594, 1, none⟩ = some (.int .i64 0) := (blk_cell BK594.out 1).trans rfl
        have hfz12_0 := blk_frozen BK594.out 0
        have hfz12_1 := blk_frozen BK594.out 1
        go_wp2
        refine bodyPost_ret (results_cell_row rfl _ _ gb594 49 #[.int .i64 0, .int .i64 1] (0, 0) _ rfl (by (with_reducible repeat (first | refine blk_drewN ?_ _ | refine blk_drew ?_ | refine blk_alloc ?_ _)); refine blk_put (cs := #[.int .i64 0, .int .i64 0]) ?_ 1 _ rfl; (with_reducible repeat (first | refine blk_drewN ?_ _ | refine blk_drew ?_ | refine blk_alloc ?_ _)); refine blk_put (cs := #[.int .i64 0, .int .i64 0]) ?_ 0 _ rfl; (with_reducible repeat (first | refine blk_drewN ?_ _ | refine blk_drew ?_ | refine blk_alloc ?_ _)); exact BK594.out) Tryz.underlying49 rfl (by kernel_rfl)) rfl ?_
        exact ⟨by first | rfl | (simp [errW_none, errW_some] <;> rfl) | (simp [*, errW_none, errW_some] <;> rfl), by repeat (first | (with_reducible first | exact HB.out | apply below_alloc | apply pw_below_drewN | apply below_drew1 | refine below_set ?_ GE594.out) | exact HB.out)⟩
      · replace c11 := Bool.eq_false_iff.mpr c11
        subst c11
        have H1 : (if a2 = (-1) then (qanatref02_LastPos.j1 kj3 a0 a1 a2 false) else (qanatref02_LastPos.j1 kj3 a0 a1 a2 (decide (a2 < (a1.size : Int))))) = some (r1, r2) := by rw [if_neg (show ¬ (false = true) by decide)] at H; exact H
        clear H
        have H := H1
        clear H1
        have HC13 := Aside0.mk H
        clear H
        go_upto_region 3 with (fail)
        go_cut [29] (fun v29 wc => ∃ (kq : Nat) (x29_12 : Bool), v29 = .bool x29_12 ∧ Aside0 (qanatref02_LastPos.j1 kq a0 a1 a2 x29_12 = some (r1, r2)) ∧ Aside0 (kq ≤ kj3) ∧ Aside0 (wc.heap[gb594]? = some (.cells #[.int .i64 0, .int .i64 0] 49 (0, 0))) ∧ Aside0 (Below w.heap.size w wc))
        case first =>
          have H := HC13.out
          clear HC13
          by_cases c14 : a2 = (-1)
          · rw [if_pos c14] at H
            have c14b0 : (a2 == (-1)) = true := beq_iff_eq.mpr c14
            have c14b1 : (a2 != (-1)) = false := bne_eq_false_iff_eq.mpr c14
            clear c14
            (first | rw [c14b0] | (simp only [i64_w, i32_w]; rw [c14b0]) | skip)
            have H' := Aside0.mk H
            clear H
            go_wp2
            go_meet
            case rel => exact ⟨_, (false), (by first | rfl | (simp; done) | (simp [*]; done)), H', ⟨by have := HJ3.out; first | omega | exact Nat.le_refl _⟩, ⟨by (with_reducible repeat (first | refine blk_drewN ?_ _ | refine blk_drew ?_ | refine blk_alloc ?_ _)); exact BK594.out⟩, ⟨by repeat (first | (with_reducible first | exact HB.out | apply below_alloc | apply pw_below_drewN | apply below_drew1 | refine below_set ?_ GE594.out) | exact HB.out)⟩⟩
          · rw [if_neg c14] at H
            have c14b0 : (a2 == (-1)) = false := beq_eq_false_iff_ne.mpr c14
            have c14b1 : (a2 != (-1)) = true := bne_iff_ne.mpr c14
            (first | rw [c14b0] | (simp only [i64_w, i32_w]; rw [c14b0]) | skip)
            have H' := Aside0.mk H
            clear H
            go_wp2
            go_meet
            case rel => exact ⟨_, (decide (a2 < (a1.size : Int))), (by first | rfl | (simp; done) | (simp [*]; done)), H', ⟨by have := HJ3.out; first | omega | exact Nat.le_refl _⟩, ⟨by (with_reducible repeat (first | refine blk_drewN ?_ _ | refine blk_drew ?_ | refine blk_alloc ?_ _)); exact BK594.out⟩, ⟨by repeat (first | (with_reducible first | exact HB.out | apply below_alloc | apply pw_below_drewN | apply below_drew1 | refine below_set ?_ GE594.out) | exact HB.out)⟩⟩
        case rest =>
          clear HC13
          try clear c1
          try clear p2
          try clear c6
          try clear c7
          try clear c8
          try clear c9
          try clear c11
          try clear c14
          try clear c14b0
          try clear c14b1
          try clear hcz12_0
          try clear hcz12_1
          try clear hfz12_0
          try clear hfz12_1
          try clear p2
          obtain ⟨kq, x29_12, rfl, HA, HJ12, BK594, HB⟩ := hcut
          cases kq with
          | zero => exact absurd HA.out (by simp [qanatref02_LastPos.j1])
          | succ kj12 =>
            have H := HA.out
            clear HA
            simp only [qanatref02_LastPos.j1] at H
            have HC15 := Aside0.mk H
            clear H
            go_upto_if 29 with (fail)
            go_cut [1] (fun v1 wc => ∃ (kq : Nat) (x1_14 : ByteArray), v1 = .string x1_14 ∧ Aside0 (qanatref02_LastPos.j2 kq a0 x1_14 = some (r1, r2)) ∧ Aside0 (kq ≤ kj12) ∧ Aside0 (wc.heap[gb594]? = some (.cells #[.int .i64 0, .int .i64 0] 49 (0, 0))) ∧ Aside0 (Below w.heap.size w wc))
            case first =>
              have H := HC15.out
              clear HC15
              by_cases c16 : x29_12 = true
              · subst c16
                have H1 : (if 0 ≤ a2 then (if a2 ≤ (a1.size : Int) then (qanatref02_LastPos.j2 kj12 a0 (a1.extract 0 (a2 : Int).toNat)) else (none)) else (none)) = some (r1, r2) := by rw [if_pos rfl] at H; exact H
                clear H
                have H := H1
                clear H1
                by_cases c17 : 0 ≤ a2
                · rw [if_pos c17] at H
                  have c17b0 := eq_true c17
                  have c17b1 : decide (0 ≤ a2) = true := decide_eq_true c17
                  clear c17
                  by_cases c18 : a2 ≤ (a1.size : Int)
                  · rw [if_pos c18] at H
                    have c18b0 := eq_true c18
                    have c18b1 : decide (a2 ≤ (a1.size : Int)) = true := decide_eq_true c18
                    clear c18
                    have H' := Aside0.mk H
                    clear H
                    go_wp2
                    go_meet
                    case rel => exact ⟨_, (a1.extract 0 (a2 : Int).toNat), (by first | rfl | (simp; done) | (simp [*]; done)), H', ⟨by have := HJ3.out; have := HJ12.out; first | omega | exact Nat.le_refl _⟩, ⟨by (with_reducible repeat (first | refine blk_drewN ?_ _ | refine blk_drew ?_ | refine blk_alloc ?_ _)); exact BK594.out⟩, ⟨by repeat (first | (with_reducible first | exact HB.out | apply below_alloc | apply pw_below_drewN | apply below_drew1 | refine below_set ?_ GE594.out) | exact HB.out)⟩⟩
                  · rw [if_neg c18] at H
                    exact absurd H (by simp)
                · rw [if_neg c17] at H
                  exact absurd H (by simp)
              · replace c16 := Bool.eq_false_iff.mpr c16
                subst c16
                have H1 : (qanatref02_LastPos.j2 kj12 a0 a1) = some (r1, r2) := by rw [if_neg (show ¬ (false = true) by decide)] at H; exact H
                clear H
                have H := H1
                clear H1
                have H' := Aside0.mk H
                clear H
                go_wp2
                go_meet
                case rel => exact ⟨_, (a1), (by first | rfl | (simp; done) | (simp [*]; done)), H', ⟨by have := HJ3.out; have := HJ12.out; first | omega | exact Nat.le_refl _⟩, ⟨by (with_reducible repeat (first | refine blk_drewN ?_ _ | refine blk_drew ?_ | refine blk_alloc ?_ _)); exact BK594.out⟩, ⟨by repeat (first | (with_reducible first | exact HB.out | apply below_alloc | apply pw_below_drewN | apply below_drew1 | refine below_set ?_ GE594.out) | exact HB.out)⟩⟩
            case rest =>
              clear HC15
              try clear c1
              try clear p2
              try clear c6
              try clear c7
              try clear c8
              try clear c9
              try clear c11
              try clear c14
              try clear c14b0
              try clear c14b1
              try clear c16
              try clear c17
              try clear c17b0
              try clear c17b1
              try clear c18
              try clear c18b0
              try clear c18b1
              try clear hcz12_0
              try clear hcz12_1
              try clear hfz12_0
              try clear hfz12_1
              try clear p2
              obtain ⟨kq, x1_14, rfl, HA, HJ14, BK594, HB⟩ := hcut
              cases kq with
              | zero => exact absurd HA.out (by simp [qanatref02_LastPos.j2])
              | succ kj14 =>
                have H := HA.out
                clear HA
                simp only [qanatref02_LastPos.j2] at H
                have H' := Aside0.mk H
                clear H
                go_wp2
                go_loopg [7] kj14 (fun kq v7 w' => ∃ (x7_4 : Int) (x595000_4 : Int) (x595001_4 : Int), v7 = .int .i64 x7_4 ∧ Aside0 (qanatref02_LastPos.l0 kq a0 x1_14 x7_4 = some (r1, r2)) ∧ Aside0 (kq ≤ kj14) ∧ Aside0 (w'.heap[gb594]? = some (.cells #[.int .i64 x595000_4, .int .i64 x595001_4] 49 (0, 0))) ∧ Aside0 (Below w.heap.size w w'))
                case atStart => exact ⟨(wrap64 ((x1_14.size : Int) - (a0.size : Int))), (0), (0), (by first | rfl | (simp; done) | (simp [*]; done)), H', ⟨Nat.le_refl _⟩, ⟨by (with_reducible repeat (first | refine blk_drewN ?_ _ | refine blk_drew ?_ | refine blk_alloc ?_ _)); exact BK594.out⟩, ⟨by repeat (first | (with_reducible first | exact HB.out | apply below_alloc | apply pw_below_drewN | apply below_drew1 | refine below_set ?_ GE594.out) | exact HB.out)⟩⟩
                case round =>
                  clear H'
                  try clear c1
                  try clear p2
                  try clear c6
                  try clear p6
                  try clear c7
                  try clear c8
                  try clear c9
                  try clear c11
                  try clear c14
                  try clear c14b0
                  try clear c14b1
                  try clear c16
                  try clear c17
                  try clear c17b0
                  try clear c17b1
                  try clear c18
                  try clear c18b0
                  try clear c18b1
                  try clear hcz12_0
                  try clear hcz12_1
                  try clear hfz12_0
                  try clear hfz12_1
                  try clear p2
                  obtain ⟨x7_4, x595000_4, x595001_4, rfl, HA, HK4, BK594, HB⟩ := hrel
                  cases gk with
                  | zero => exact absurd HA.out (by simp [qanatref02_LastPos.l0])
                  | succ k4 =>
                    have H := HA.out
                    clear HA
                    simp only [qanatref02_LastPos.l0] at H
                    have HC19 := Aside0.mk H
                    clear H
                    go_upto_region 6 with (fail)
                    go_cut [44] (fun v44 wc => ∃ (kq : Nat) (x44_18 : Bool), v44 = .bool x44_18 ∧ Aside0 (qanatref02_LastPos.j4 kq a0 x1_14 x7_4 x44_18 = some (r1, r2)) ∧ Aside0 (kq ≤ k4) ∧ Aside0 (wc.heap[gb594]? = some (.cells #[.int .i64 x595000_4, .int .i64 x595001_4] 49 (0, 0))) ∧ Aside0 (Below w.heap.size w wc))
                    case first =>
                      have H := HC19.out
                      clear HC19
                      by_cases c20 : x7_4 ≥ 0
                      · rw [if_pos c20] at H
                        have c20b0 : decide (0 ≤ x7_4) = true := decide_eq_true c20
                        clear c20
                        (first | rw [c20b0] | (simp only [i64_w, i32_w]; rw [c20b0]) | skip)
                        have H' := Aside0.mk H
                        clear H
                        go_wp2
                        go_meet
                        case rel => exact ⟨_, (decide ((a0.size : Int) > 0)), (by first | rfl | (simp; done) | (simp [*]; done)), H', ⟨by have := HJ3.out; have := HJ12.out; have := HJ14.out; have := HK4.out; first | omega | exact Nat.le_refl _⟩, ⟨by (with_reducible repeat (first | refine blk_drewN ?_ _ | refine blk_drew ?_ | refine blk_alloc ?_ _)); exact BK594.out⟩, ⟨by repeat (first | (with_reducible first | exact HB.out | apply below_alloc | apply pw_below_drewN | apply below_drew1 | refine below_set ?_ GE594.out) | exact HB.out)⟩⟩
                      · rw [if_neg c20] at H
                        have c20b0 : decide (0 ≤ x7_4) = false := decide_eq_false c20
                        clear c20
                        (first | rw [c20b0] | (simp only [i64_w, i32_w]; rw [c20b0]) | skip)
                        have H' := Aside0.mk H
                        clear H
                        go_wp2
                        go_meet
                        case rel => exact ⟨_, (false), (by first | rfl | (simp; done) | (simp [*]; done)), H', ⟨by have := HJ3.out; have := HJ12.out; have := HJ14.out; have := HK4.out; first | omega | exact Nat.le_refl _⟩, ⟨by (with_reducible repeat (first | refine blk_drewN ?_ _ | refine blk_drew ?_ | refine blk_alloc ?_ _)); exact BK594.out⟩, ⟨by repeat (first | (with_reducible first | exact HB.out | apply below_alloc | apply pw_below_drewN | apply below_drew1 | refine below_set ?_ GE594.out) | exact HB.out)⟩⟩
                    case rest =>
                      clear HC19
                      try clear c1
                      try clear c2
                      try clear p2
                      try clear c6
                      try clear p6
                      try clear c7
                      try clear c8
                      try clear c9
                      try clear c11
                      try clear c14
                      try clear c14b0
                      try clear c14b1
                      try clear c16
                      try clear c17
                      try clear c17b0
                      try clear c17b1
                      try clear c18
                      try clear c18b0
                      try clear c18b1
                      try clear c20
                      try clear c20b0
                      try clear hcz12_0
                      try clear hcz12_1
                      try clear hfz12_0
                      try clear hfz12_1
                      try clear p2
                      try clear p6
                      obtain ⟨kq, x44_18, rfl, HA, HJ18, BK594, HB⟩ := hcut
                      cases kq with
                      | zero => exact absurd HA.out (by simp [qanatref02_LastPos.j4])
                      | succ kj18 =>
                        have H := HA.out
                        clear HA
                        simp only [qanatref02_LastPos.j4] at H
                        by_cases c21 : x44_18 = true
                        · subst c21
                          have H1 : ((qanatref02_at.f a0 x1_14 x7_4).bind fun t598 => (if t598 = true then (some (wrap64 (x7_4 + 1), 0)) else (qanatref02_LastPos.l0 kj18 a0 x1_14 (wrap64 (x7_4 - 1))))) = some (r1, r2) := by rw [if_pos rfl] at H; exact H
                          clear H
                          have H := H1
                          clear H1
                          replace H := Option.bind_eq_some_iff.mp H
                          obtain ⟨t598, A220, H⟩ := H
                          replace H : (if t598 = true then (some (wrap64 (x7_4 + 1), 0)) else (qanatref02_LastPos.l0 kj18 a0 x1_14 (wrap64 (x7_4 - 1)))) = some (r1, r2) := H
                          have A22 := Aside0.mk A220
                          clear A220
                          by_cases c23 : t598 = true
                          · subst c23
                            have H1 : (some (wrap64 (x7_4 + 1), 0)) = some (r1, r2) := by rw [if_pos rfl] at H; exact H
                            clear H
                            have H := H1
                            clear H1
                            simp only [Option.some.injEq, Prod.mk.injEq] at H
                            obtain ⟨rfl, rfl⟩ := H
                            go_wp2_with (first | ((with_reducible refine gate_callee (f := 103) rfl ?_); refine goesL_ (some 50) rfl rfl Tryz.func103 (by kernel_rfl) rfl #[.string a0, .string x1_14, .int .i64 x7_4] rfl (by (try simp only [List.map_toArray, List.map_cons, List.map_nil]); first | done | rfl | (simp only [List.length_drop, List.length_take]; rfl)) ?_; (with_reducible refine (qanatref02_at.calls a0 x1_14 x7_4 true _ A22.out).mono ?_); rintro e w' ⟨rfl, ⟨nd, rfl⟩⟩; refine ⟨_, rfl, ?_⟩; (try (rw [drewN_self wc]; generalize hq_ : World.drewN wc _ = wc; have n0_ : Aside0 (wc.heap[gb594]? = some (.cells #[.int .i64 x595000_4, .int .i64 x595001_4] 49 (0, 0))) := ⟨by rw [← hq_]; exact (by (with_reducible repeat (first | refine blk_drewN ?_ _ | refine blk_drew ?_ | refine blk_alloc ?_ _)); exact BK594.out)⟩; have n1_ : Aside0 (Below w.heap.size w wc) := ⟨by rw [← hq_]; exact (by repeat (first | (with_reducible first | exact HB.out | apply below_alloc | apply pw_below_drewN | apply below_drew1 | refine below_set ?_ GE594.out) | exact HB.out))⟩; clear BK594 HB hq_; have BK594 := n0_; have HB := n1_; clear n0_ n1_)); have hcz24_0 : wc.cell? ⟨gb594, 0, none⟩ = some (.int .i64 x595000_4) := (blk_cell BK594.out 0).trans rfl; have hcz24_1 : wc.cell? ⟨gb594, 1, none⟩ = some (.int .i64 x595001_4) := (blk_cell BK594.out 1).trans rfl; have hfz24_0 := blk_frozen BK594.out 0; have hfz24_1 := blk_frozen BK594.out 1))
                            refine bodyPost_ret (results_cell_row rfl _ _ gb594 49 #[.int .i64 (wrap64 (x7_4 + 1)), .int .i64 0] (0, 0) _ rfl (by (with_reducible repeat (first | refine blk_drewN ?_ _ | refine blk_drew ?_ | refine blk_alloc ?_ _)); refine blk_put (cs := #[.int .i64 (wrap64 (x7_4 + 1)), .int .i64 x595001_4]) ?_ 1 _ rfl; (with_reducible repeat (first | refine blk_drewN ?_ _ | refine blk_drew ?_ | refine blk_alloc ?_ _)); refine blk_put (cs := #[.int .i64 x595000_4, .int .i64 x595001_4]) ?_ 0 _ rfl; (with_reducible repeat (first | refine blk_drewN ?_ _ | refine blk_drew ?_ | refine blk_alloc ?_ _)); exact BK594.out) Tryz.underlying49 rfl (by kernel_rfl)) rfl ?_
                            exact ⟨by first | rfl | (simp [errW_none, errW_some] <;> rfl) | (simp [*, errW_none, errW_some] <;> rfl), by repeat (first | (with_reducible first | exact HB.out | apply below_alloc | apply pw_below_drewN | apply below_drew1 | refine below_set ?_ GE594.out) | exact HB.out)⟩
                          · replace c23 := Bool.eq_false_iff.mpr c23
                            subst c23
                            have H1 : (qanatref02_LastPos.l0 kj18 a0 x1_14 (wrap64 (x7_4 - 1))) = some (r1, r2) := by rw [if_neg (show ¬ (false = true) by decide)] at H; exact H
                            clear H
                            have H := H1
                            clear H1
                            have H' := Aside0.mk H
                            clear H
                            go_wp2_with (first | ((with_reducible refine gate_callee (f := 103) rfl ?_); refine goesL_ (some 50) rfl rfl Tryz.func103 (by kernel_rfl) rfl #[.string a0, .string x1_14, .int .i64 x7_4] rfl (by (try simp only [List.map_toArray, List.map_cons, List.map_nil]); first | done | rfl | (simp only [List.length_drop, List.length_take]; rfl)) ?_; (with_reducible refine (qanatref02_at.calls a0 x1_14 x7_4 false _ A22.out).mono ?_); rintro e w' ⟨rfl, ⟨nd, rfl⟩⟩; refine ⟨_, rfl, ?_⟩))
                            go_roundg kj18
                            case measure => have := HJ3.out; have := HJ12.out; have := HJ14.out; have := HK4.out; have := HJ18.out; omega
                            case rel => exact ⟨(wrap64 (x7_4 - 1)), (x595000_4), (x595001_4), (by first | rfl | (simp; done) | (simp [*]; done)), H', ⟨by have := HJ3.out; have := HJ12.out; have := HJ14.out; have := HK4.out; have := HJ18.out; omega⟩, ⟨by (with_reducible repeat (first | refine blk_drewN ?_ _ | refine blk_drew ?_ | refine blk_alloc ?_ _)); exact BK594.out⟩, ⟨by repeat (first | (with_reducible first | exact HB.out | apply below_alloc | apply pw_below_drewN | apply below_drew1 | refine below_set ?_ GE594.out) | exact HB.out)⟩⟩
                        · replace c21 := Bool.eq_false_iff.mpr c21
                          subst c21
                          have H1 : (some (0, 0)) = some (r1, r2) := by rw [if_neg (show ¬ (false = true) by decide)] at H; exact H
                          clear H
                          have H := H1
                          clear H1
                          simp only [Option.some.injEq, Prod.mk.injEq] at H
                          obtain ⟨rfl, rfl⟩ := H
                          have hcz25_0 : wc.cell? ⟨gb594, 0, none⟩ = some (.int .i64 x595000_4) := (blk_cell BK594.out 0).trans rfl
                          have hcz25_1 : wc.cell? ⟨gb594, 1, none⟩ = some (.int .i64 x595001_4) := (blk_cell BK594.out 1).trans rfl
                          have hfz25_0 := blk_frozen BK594.out 0
                          have hfz25_1 := blk_frozen BK594.out 1
                          go_wp2
                          refine bodyPost_ret (results_cell_row rfl _ _ gb594 49 #[.int .i64 0, .int .i64 0] (0, 0) _ rfl (by (with_reducible repeat (first | refine blk_drewN ?_ _ | refine blk_drew ?_ | refine blk_alloc ?_ _)); refine blk_put (cs := #[.int .i64 0, .int .i64 x595001_4]) ?_ 1 _ rfl; (with_reducible repeat (first | refine blk_drewN ?_ _ | refine blk_drew ?_ | refine blk_alloc ?_ _)); refine blk_put (cs := #[.int .i64 x595000_4, .int .i64 x595001_4]) ?_ 0 _ rfl; (with_reducible repeat (first | refine blk_drewN ?_ _ | refine blk_drew ?_ | refine blk_alloc ?_ _)); exact BK594.out) Tryz.underlying49 rfl (by kernel_rfl)) rfl ?_
                          exact ⟨by first | rfl | (simp [errW_none, errW_some] <;> rfl) | (simp [*, errW_none, errW_some] <;> rfl), by repeat (first | (with_reducible first | exact HB.out | apply below_alloc | apply pw_below_drewN | apply below_drew1 | refine below_set ?_ GE594.out) | exact HB.out)⟩

end Go.Proofs.YtlekfhnlhdmekaaGreatDoor.T

-- Written by a program of this session (mp.py over the kit's print.py), out of the translation.
namespace Go.Proofs.YtlekfhnlhdmekaaGreatDoor.T
set_option linter.unusedSimpArgs false
open Go.RowKit Go.Proofs.YtlekfhnlhdmekaaGreatDoorW.PrintWords Go.Proofs.YtlekfhnlhdmekaaGreatDoorW.PrintLast Go.Proofs.YtlekfhnlhdmekaaGreatDoorW.PrintMore
attribute [local go_sem] max2_int min2_int max_two min_two max_three min_three max_four min_four   -- for this text's walks alone
set_option linter.unusedVariables false
set_option linter.unusedSimpArgs false

/-! ### qanatref02_Count: function 63 -/
mutual
def qanatref02_Count.j0 : Nat → ByteArray → ByteArray → Bool → Option (Int × Int)
  | 0, _, _, _ => none
  | k + 1, x0, x1, x14 => if x14 = true then (some (0, 1)) else ((qanatref02_find.f k x0 x1 0).bind fun t602 => (qanatref02_Count.l0 k x0 x1 0 t602))
def qanatref02_Count.l0 : Nat → ByteArray → ByteArray → Int → Int → Option (Int × Int)
  | 0, _, _, _, _ => none
  | k + 1, x0, x1, x5, x6 => if x6 ≥ 0 then ((qanatref02_find.f k x0 x1 (wrap64 (x6 + (x0.size : Int)))).bind fun t603 => (qanatref02_Count.l0 k x0 x1 (wrap64 (x5 + 1)) t603)) else (some (x5, 0))
end
def qanatref02_Count.f (k : Nat) (a0 : ByteArray) (a1 : ByteArray) : Option (Int × Int) := (qanatref02_Valid.f a0).bind fun t600 => (if t600 = true then ((qanatref02_Valid.f a1).bind fun t601 => (qanatref02_Count.j0 k a0 a1 (!t601))) else (qanatref02_Count.j0 k a0 a1 true))
theorem qanatref02_Count.mono_l : ∀ k, (∀ y0 y1 y2, LeO (qanatref02_Count.j0 k y0 y1 y2) (qanatref02_Count.j0 (k + 1) y0 y1 y2)) ∧ (∀ y0 y1 y2 y3, LeO (qanatref02_Count.l0 k y0 y1 y2 y3) (qanatref02_Count.l0 (k + 1) y0 y1 y2 y3))
  | 0 => ⟨fun _ _ _ r h => by simp [qanatref02_Count.j0] at h, fun _ _ _ _ r h => by simp [qanatref02_Count.l0] at h⟩
  | k + 1 => by
    obtain ⟨ih0, ih1⟩ := qanatref02_Count.mono_l k
    refine ⟨?_, ?_⟩
    · intro y0 y1 y2
      unfold qanatref02_Count.j0
      repeat' first
      | (with_reducible exact ih0 _ _ _)
      | (with_reducible exact ih1 _ _ _ _)
      | (with_reducible exact qanatref02_find.mono _ _ _ _)
      | (with_reducible exact LeO.refl _)
      | (with_reducible exact LeO.none _)
      | (with_reducible refine LeO.ite ?_ ?_)
      | (with_reducible refine LeO.bind ?_ (fun _ => ?_))
      | exact ih0 _ _ _
      | exact ih1 _ _ _ _
      | exact qanatref02_find.mono _ _ _ _
      | exact LeO.none _
      | refine LeO.ite ?_ ?_
      | refine LeO.bind ?_ (fun _ => ?_)
    · intro y0 y1 y2 y3
      unfold qanatref02_Count.l0
      repeat' first
      | (with_reducible exact ih0 _ _ _)
      | (with_reducible exact ih1 _ _ _ _)
      | (with_reducible exact qanatref02_find.mono _ _ _ _)
      | (with_reducible exact LeO.refl _)
      | (with_reducible exact LeO.none _)
      | (with_reducible refine LeO.ite ?_ ?_)
      | (with_reducible refine LeO.bind ?_ (fun _ => ?_))
      | exact ih0 _ _ _
      | exact ih1 _ _ _ _
      | exact qanatref02_find.mono _ _ _ _
      | exact LeO.none _
      | refine LeO.ite ?_ ?_
      | refine LeO.bind ?_ (fun _ => ?_)
theorem qanatref02_Count.mono : ∀ a0 a1 k, LeO (qanatref02_Count.f k a0 a1) (qanatref02_Count.f (k + 1) a0 a1) := by
  intro a0 a1 k
  obtain ⟨ih0, ih1⟩ := qanatref02_Count.mono_l k
  unfold qanatref02_Count.f
  repeat' first
      | (with_reducible exact ih0 _ _ _)
      | (with_reducible exact ih1 _ _ _ _)
      | (with_reducible exact qanatref02_find.mono _ _ _ _)
      | (with_reducible exact LeO.refl _)
      | (with_reducible exact LeO.none _)
      | (with_reducible refine LeO.ite ?_ ?_)
      | (with_reducible refine LeO.bind ?_ (fun _ => ?_))
      | exact ih0 _ _ _
      | exact ih1 _ _ _ _
      | exact qanatref02_find.mono _ _ _ _
      | exact LeO.none _
      | refine LeO.ite ?_ ?_
      | refine LeO.bind ?_ (fun _ => ?_)
set_option maxHeartbeats 8000000 in
set_option maxRecDepth 100000 in
theorem qanatref02_Count.calls (k : Nat) (a0 : ByteArray) (a1 : ByteArray) (r1 : Int) (r2 : Int) (w : World) (h : qanatref02_Count.f k a0 a1 = some (r1, r2)) :
    Calls Tryz.prog 63 #[.string a0, .string a1] w fun e w' => e = .returned (.agg #[.int .i64 r1, .int .i64 r2]) ∧ Below w.heap.size w w' := by
  have hu49 := Tryz.underlying49
  have HB := Aside0.mk (Below.refl w.heap.size w)
  have H : ((qanatref02_Valid.f a0).bind fun t600 => (if t600 = true then ((qanatref02_Valid.f a1).bind fun t601 => (qanatref02_Count.j0 k a0 a1 (!t601))) else (qanatref02_Count.j0 k a0 a1 true))) = some (r1, r2) := h
  clear h
  have HC3 := Aside0.mk H
  clear H
  go_enter Tryz.func63, Tryz.ntmps63
  go_upto_region 1 with (first | ((with_reducible refine gate_dst (N := 4) rfl ?_); refine box_event ?hg (N := 4) ?hd (cs := #[.int .i64 0, .int .i64 0]) (t := 49) ?hr ?_; (case hd => rfl); (case hg => rfl); (case hr => first | (go_simp; done) | (go_simp; rfl)); intro gb599 hg w4 hbox hb; have n0_ := Aside0.mk (below_step (by repeat (first | (with_reducible first | exact HB.out | apply below_alloc | apply pw_below_drewN | apply below_drew1) | exact HB.out)) hb); have n1_ := Aside0.mk (hbox); have n2_ := Aside0.mk ((by rw [hg]; exact (below_size (by repeat (first | (with_reducible first | exact HB.out | apply below_alloc | apply pw_below_drewN | apply below_drew1) | exact HB.out))) : w.heap.size ≤ gb599)); have n3_ := Aside0.mk ((by rw [hg]; exact (below_size (by repeat (first | (with_reducible first | exact HB.out | apply below_alloc | apply pw_below_drewN | apply below_drew1) | exact HB.out))) : w.heap.size ≤ gb599)); clear HB; have HB := n0_; have BK599 := n1_; have GW599 := n2_; have GE599 := n3_; clear n0_ n1_ n2_ n3_; clear hb hbox hg))
  (try simp only [Act.put, List.setIfInBounds_toArray, List.set_cons_zero, List.set_cons_succ])
  go_cut [14] (fun v14 wc => ∃ (kq : Nat) (x14_2 : Bool), v14 = .bool x14_2 ∧ Aside0 (qanatref02_Count.j0 kq a0 a1 x14_2 = some (r1, r2)) ∧ Aside0 (kq ≤ k) ∧ Aside0 (wc.heap[gb599]? = some (.cells #[.int .i64 0, .int .i64 0] 49 (0, 0))) ∧ Aside0 (Below w.heap.size w wc))
  case first =>
    have H := HC3.out
    clear HC3
    replace H := Option.bind_eq_some_iff.mp H
    obtain ⟨t600, A50, H⟩ := H
    replace H : (if t600 = true then ((qanatref02_Valid.f a1).bind fun t601 => (qanatref02_Count.j0 k a0 a1 (!t601))) else (qanatref02_Count.j0 k a0 a1 true)) = some (r1, r2) := H
    have A5 := Aside0.mk A50
    clear A50
    by_cases c6 : t600 = true
    · subst c6
      have H1 : ((qanatref02_Valid.f a1).bind fun t601 => (qanatref02_Count.j0 k a0 a1 (!t601))) = some (r1, r2) := by rw [if_pos rfl] at H; exact H
      clear H
      have H := H1
      clear H1
      replace H := Option.bind_eq_some_iff.mp H
      obtain ⟨t601, A70, H⟩ := H
      replace H : (qanatref02_Count.j0 k a0 a1 (!t601)) = some (r1, r2) := H
      have A7 := Aside0.mk A70
      clear A70
      have H' := Aside0.mk H
      clear H
      go_wp2_with (first | ((with_reducible refine gate_callee (f := 89) rfl ?_); refine goesL_ (some 8) rfl rfl Tryz.func89 (by kernel_rfl) rfl #[.string a0] rfl (by (try simp only [List.map_toArray, List.map_cons, List.map_nil]); first | done | rfl | (simp only [List.length_drop, List.length_take]; rfl)) ?_; (with_reducible refine (qanatref02_Valid.calls a0 true _ A5.out).mono ?_); rintro e w' ⟨rfl, ⟨nd, rfl⟩⟩; refine ⟨_, rfl, ?_⟩) | (go_at_call 89; (with_reducible refine (qanatref02_Valid.calls a1 t601 _ A7.out).mono ?_); rintro e w' ⟨rfl, ⟨nd, rfl⟩⟩))
      go_meet
      case rel => exact ⟨_, (!t601), (by first | rfl | (simp; done) | (simp [*]; done)), H', ⟨by first | omega | exact Nat.le_refl _⟩, ⟨by (with_reducible repeat (first | refine blk_drewN ?_ _ | refine blk_drew ?_ | refine blk_alloc ?_ _)); exact BK599.out⟩, ⟨by repeat (first | (with_reducible first | exact HB.out | apply below_alloc | apply pw_below_drewN | apply below_drew1 | refine below_set ?_ GE599.out) | exact HB.out)⟩⟩
    · replace c6 := Bool.eq_false_iff.mpr c6
      subst c6
      have H1 : (qanatref02_Count.j0 k a0 a1 true) = some (r1, r2) := by rw [if_neg (show ¬ (false = true) by decide)] at H; exact H
      clear H
      have H := H1
      clear H1
      have H' := Aside0.mk H
      clear H
      go_wp2_with (first | ((with_reducible refine gate_callee (f := 89) rfl ?_); refine goesL_ (some 8) rfl rfl Tryz.func89 (by kernel_rfl) rfl #[.string a0] rfl (by (try simp only [List.map_toArray, List.map_cons, List.map_nil]); first | done | rfl | (simp only [List.length_drop, List.length_take]; rfl)) ?_; (with_reducible refine (qanatref02_Valid.calls a0 false _ A5.out).mono ?_); rintro e w' ⟨rfl, ⟨nd, rfl⟩⟩; refine ⟨_, rfl, ?_⟩))
      go_meet
      case rel => exact ⟨_, (true), (by first | rfl | (simp; done) | (simp [*]; done)), H', ⟨by first | omega | exact Nat.le_refl _⟩, ⟨by (with_reducible repeat (first | refine blk_drewN ?_ _ | refine blk_drew ?_ | refine blk_alloc ?_ _)); exact BK599.out⟩, ⟨by repeat (first | (with_reducible first | exact HB.out | apply below_alloc | apply pw_below_drewN | apply below_drew1 | refine below_set ?_ GE599.out) | exact HB.out)⟩⟩
  case rest =>
    clear HC3
    try clear p2
    try clear c6
    obtain ⟨kq, x14_2, rfl, HA, HJ2, BK599, HB⟩ := hcut
    cases kq with
    | zero => exact absurd HA.out (by simp [qanatref02_Count.j0])
    | succ kj2 =>
      have H := HA.out
      clear HA
      simp only [qanatref02_Count.j0] at H
      by_cases c8 : x14_2 = true
      · subst c8
        have H1 : (some (0, 1)) = some (r1, r2) := by rw [if_pos rfl] at H; exact H
        clear H
        have H := H1
        clear H1
        simp only [Option.some.injEq, Prod.mk.injEq] at H
        obtain ⟨rfl, rfl⟩ := H
        have hcz9_0 : wc.cell? ⟨gb599, 0, none⟩ = some (.int .i64 0) := (blk_cell BK599.out 0).trans rfl
        have hcz9_1 : wc.cell? ⟨gb599, 1, none⟩ = some (.int .i64 0) := (blk_cell BK599.out 1).trans rfl
        have hfz9_0 := blk_frozen BK599.out 0
        have hfz9_1 := blk_frozen BK599.out 1
        go_wp2
        refine bodyPost_ret (results_cell_row rfl _ _ gb599 49 #[.int .i64 0, .int .i64 1] (0, 0) _ rfl (by (with_reducible repeat (first | refine blk_drewN ?_ _ | refine blk_drew ?_ | refine blk_alloc ?_ _)); refine blk_put (cs := #[.int .i64 0, .int .i64 0]) ?_ 1 _ rfl; (with_reducible repeat (first | refine blk_drewN ?_ _ | refine blk_drew ?_ | refine blk_alloc ?_ _)); refine blk_put (cs := #[.int .i64 0, .int .i64 0]) ?_ 0 _ rfl; (with_reducible repeat (first | refine blk_drewN ?_ _ | refine blk_drew ?_ | refine blk_alloc ?_ _)); exact BK599.out) Tryz.underlying49 rfl (by kernel_rfl)) rfl ?_
        exact ⟨by first | rfl | (simp [errW_none, errW_some] <;> rfl) | (simp [*, errW_none, errW_some] <;> rfl), by repeat (first | (with_reducible first | exact HB.out | apply below_alloc | apply pw_below_drewN | apply below_drew1 | refine below_set ?_ GE599.out) | exact HB.out)⟩
      · replace c8 := Bool.eq_false_iff.mpr c8
        subst c8
        have H1 : ((qanatref02_find.f kj2 a0 a1 0).bind fun t602 => (qanatref02_Count.l0 kj2 a0 a1 0 t602)) = some (r1, r2) := by rw [if_neg (show ¬ (false = true) by decide)] at H; exact H
        clear H
        have H := H1
        clear H1
        replace H := Option.bind_eq_some_iff.mp H
        obtain ⟨t602, A100, H⟩ := H
        replace H : (qanatref02_Count.l0 kj2 a0 a1 0 t602) = some (r1, r2) := H
        have A10 := Aside0.mk A100
        clear A100
        have H' := Aside0.mk H
        clear H
        go_wp2_with (first | ((with_reducible refine gate_callee (f := 122) rfl ?_); refine goesL_ (some 18) rfl rfl Tryz.func122 (by kernel_rfl) rfl #[.string a0, .string a1, .int .i64 0] rfl (by (try simp only [List.map_toArray, List.map_cons, List.map_nil]); first | done | rfl | (simp only [List.length_drop, List.length_take]; rfl)) ?_; (with_reducible refine (qanatref02_find.calls kj2 a0 a1 0 t602 _ A10.out).mono ?_); rintro e w' ⟨rfl, ⟨nd, rfl⟩⟩; refine ⟨_, rfl, ?_⟩))
        go_loopg [5, 6] kj2 (fun kq v5 v6 w' => ∃ (x5_2 : Int) (x6_2 : Int), v5 = .int .i64 x5_2 ∧ v6 = .int .i64 x6_2 ∧ Aside0 (qanatref02_Count.l0 kq a0 a1 x5_2 x6_2 = some (r1, r2)) ∧ Aside0 (kq ≤ kj2) ∧ Aside0 (w'.heap[gb599]? = some (.cells #[.int .i64 0, .int .i64 0] 49 (0, 0))) ∧ Aside0 (Below w.heap.size w w'))
        case atStart => exact ⟨(0), (t602), (by first | rfl | (simp; done) | (simp [*]; done)), (by first | rfl | (simp; done) | (simp [*]; done)), H', ⟨Nat.le_refl _⟩, ⟨by (with_reducible repeat (first | refine blk_drewN ?_ _ | refine blk_drew ?_ | refine blk_alloc ?_ _)); exact BK599.out⟩, ⟨by repeat (first | (with_reducible first | exact HB.out | apply below_alloc | apply pw_below_drewN | apply below_drew1 | refine below_set ?_ GE599.out) | exact HB.out)⟩⟩
        case round =>
          clear H'
          try clear c1
          try clear p2
          try clear c6
          try clear c8
          try clear hcz9_0
          try clear hcz9_1
          try clear hfz9_0
          try clear hfz9_1
          try clear p2
          obtain ⟨x5_2, x6_2, rfl, rfl, HA, HK2, BK599, HB⟩ := hrel
          cases gk with
          | zero => exact absurd HA.out (by simp [qanatref02_Count.l0])
          | succ k2 =>
            have H := HA.out
            clear HA
            simp only [qanatref02_Count.l0] at H
            by_cases c11 : x6_2 ≥ 0
            · rw [if_pos c11] at H
              have c11b0 : decide (0 ≤ x6_2) = true := decide_eq_true c11
              clear c11
              replace H := Option.bind_eq_some_iff.mp H
              obtain ⟨t603, A120, H⟩ := H
              replace H : (qanatref02_Count.l0 k2 a0 a1 (wrap64 (x5_2 + 1)) t603) = some (r1, r2) := H
              have A12 := Aside0.mk A120
              clear A120
              have H' := Aside0.mk H
              clear H
              go_wp2_with (first | ((with_reducible refine gate_callee (f := 122) rfl ?_); refine goesL_ (some 27) rfl rfl Tryz.func122 (by kernel_rfl) rfl #[.string a0, .string a1, .int .i64 (wrap64 (x6_2 + (a0.size : Int)))] rfl (by (try simp only [List.map_toArray, List.map_cons, List.map_nil]); first | done | rfl | (simp only [List.length_drop, List.length_take]; rfl)) ?_; (with_reducible refine (qanatref02_find.calls k2 a0 a1 (wrap64 (x6_2 + (a0.size : Int))) t603 _ A12.out).mono ?_); rintro e w' ⟨rfl, ⟨nd, rfl⟩⟩; refine ⟨_, rfl, ?_⟩))
              go_roundg k2
              case measure => have := HJ2.out; have := HK2.out; omega
              case rel => exact ⟨(wrap64 (x5_2 + 1)), (t603), (by first | rfl | (simp; done) | (simp [*]; done)), (by first | rfl | (simp; done) | (simp [*]; done)), H', ⟨by have := HJ2.out; have := HK2.out; omega⟩, ⟨by (with_reducible repeat (first | refine blk_drewN ?_ _ | refine blk_drew ?_ | refine blk_alloc ?_ _)); exact BK599.out⟩, ⟨by repeat (first | (with_reducible first | exact HB.out | apply below_alloc | apply pw_below_drewN | apply below_drew1 | refine below_set ?_ GE599.out) | exact HB.out)⟩⟩
            · rw [if_neg c11] at H
              have c11b0 : decide (0 ≤ x6_2) = false := decide_eq_false c11
              clear c11
              simp only [Option.some.injEq, Prod.mk.injEq] at H
              obtain ⟨rfl, rfl⟩ := H
              have hcz13_0 : wr.cell? ⟨gb599, 0, none⟩ = some (.int .i64 0) := (blk_cell BK599.out 0).trans rfl
              have hcz13_1 : wr.cell? ⟨gb599, 1, none⟩ = some (.int .i64 0) := (blk_cell BK599.out 1).trans rfl
              have hfz13_0 := blk_frozen BK599.out 0
              have hfz13_1 := blk_frozen BK599.out 1
              go_wp2
              refine bodyPost_ret (results_cell_row rfl _ _ gb599 49 #[.int .i64 x5_2, .int .i64 0] (0, 0) _ rfl (by (with_reducible repeat (first | refine blk_drewN ?_ _ | refine blk_drew ?_ | refine blk_alloc ?_ _)); refine blk_put (cs := #[.int .i64 x5_2, .int .i64 0]) ?_ 1 _ rfl; (with_reducible repeat (first | refine blk_drewN ?_ _ | refine blk_drew ?_ | refine blk_alloc ?_ _)); refine blk_put (cs := #[.int .i64 0, .int .i64 0]) ?_ 0 _ rfl; (with_reducible repeat (first | refine blk_drewN ?_ _ | refine blk_drew ?_ | refine blk_alloc ?_ _)); exact BK599.out) Tryz.underlying49 rfl (by kernel_rfl)) rfl ?_
              exact ⟨by first | rfl | (simp [errW_none, errW_some] <;> rfl) | (simp [*, errW_none, errW_some] <;> rfl), by repeat (first | (with_reducible first | exact HB.out | apply below_alloc | apply pw_below_drewN | apply below_drew1 | refine below_set ?_ GE599.out) | exact HB.out)⟩

end Go.Proofs.YtlekfhnlhdmekaaGreatDoor.T

-- Written by a program of this session (mp.py over the kit's print.py), out of the translation.
namespace Go.Proofs.YtlekfhnlhdmekaaGreatDoor.T
set_option linter.unusedSimpArgs false
open Go.RowKit Go.Proofs.YtlekfhnlhdmekaaGreatDoorW.PrintWords Go.Proofs.YtlekfhnlhdmekaaGreatDoorW.PrintLast Go.Proofs.YtlekfhnlhdmekaaGreatDoorW.PrintMore
attribute [local go_sem] max2_int min2_int max_two min_two max_three min_three max_four min_four   -- for this text's walks alone
set_option linter.unusedVariables false
set_option linter.unusedSimpArgs false

/-! ### qanatref02_Change: function 64 -/
mutual
def qanatref02_Change.j0 : Nat → ByteArray → ByteArray → ByteArray → Bool → Option (ByteArray × Int)
  | 0, _, _, _, _ => none
  | k + 1, x0, x1, x2, x22 => if x22 = true then (some ((⟨#[]⟩ : ByteArray), 1)) else ((qanatref02_find.f k x0 x1 0).bind fun t608 => (qanatref02_Change.l0 k x0 x1 x2 ([] : List Int) 0 t608))
def qanatref02_Change.l0 : Nat → ByteArray → ByteArray → ByteArray → List Int → Int → Int → Option (ByteArray × Int)
  | 0, _, _, _, _, _, _ => none
  | k + 1, x0, x1, x2, x7, x8, x9 => if x9 ≥ 0 then (if (x7.length : Int) ≤ 1000 then (if 0 ≤ x8 then (if x8 ≤ x9 then (if x9 ≤ (x1.size : Int) then (if x7.length + (x1.extract (x8 : Int).toNat (x9 : Int).toNat).size < 140737488355328 then ((some (x7 ++ bytesOf (x1.extract (x8 : Int).toNat (x9 : Int).toNat) : List Int)).bind fun y609 => (if y609.length + x2.size < 140737488355328 then ((qanatref02_find.f k x0 x1 (wrap64 (x9 + (x0.size : Int)))).bind fun t615 => (qanatref02_Change.l0 k x0 x1 x2 (y609 ++ bytesOf x2) (wrap64 (x9 + (x0.size : Int))) t615)) else (none))) else (none)) else (none)) else (none)) else (none)) else (if 0 ≤ x8 then (if x8 ≤ (x1.size : Int) then (if x7.length + (x1.extract (x8 : Int).toNat x1.size).size < 140737488355328 then ((qanatref02_out.f (x7 ++ bytesOf (x1.extract (x8 : Int).toNat x1.size))).bind fun bt619 => (some (bt619.1, bt619.2))) else (none)) else (none)) else (none))) else (if 0 ≤ x8 then (if x8 ≤ (x1.size : Int) then (if x7.length + (x1.extract (x8 : Int).toNat x1.size).size < 140737488355328 then ((qanatref02_out.f (x7 ++ bytesOf (x1.extract (x8 : Int).toNat x1.size))).bind fun bt624 => (some (bt624.1, bt624.2))) else (none)) else (none)) else (none))
end
def qanatref02_Change.f (k : Nat) (a0 : ByteArray) (a1 : ByteArray) (a2 : ByteArray) : Option (ByteArray × Int) := (qanatref02_Valid.f a0).bind fun t605 => (if t605 = true then ((qanatref02_Valid.f a1).bind fun t606 => (if t606 = true then ((qanatref02_Valid.f a2).bind fun t607 => (qanatref02_Change.j0 k a0 a1 a2 (!t607))) else (qanatref02_Change.j0 k a0 a1 a2 true))) else (qanatref02_Change.j0 k a0 a1 a2 true))
theorem qanatref02_Change.mono_l : ∀ k, (∀ y0 y1 y2 y3, LeO (qanatref02_Change.j0 k y0 y1 y2 y3) (qanatref02_Change.j0 (k + 1) y0 y1 y2 y3)) ∧ (∀ y0 y1 y2 y3 y4 y5, LeO (qanatref02_Change.l0 k y0 y1 y2 y3 y4 y5) (qanatref02_Change.l0 (k + 1) y0 y1 y2 y3 y4 y5))
  | 0 => ⟨fun _ _ _ _ r h => by simp [qanatref02_Change.j0] at h, fun _ _ _ _ _ _ r h => by simp [qanatref02_Change.l0] at h⟩
  | k + 1 => by
    obtain ⟨ih0, ih1⟩ := qanatref02_Change.mono_l k
    refine ⟨?_, ?_⟩
    · intro y0 y1 y2 y3
      unfold qanatref02_Change.j0
      repeat' first
      | (with_reducible exact ih0 _ _ _ _)
      | (with_reducible exact ih1 _ _ _ _ _ _)
      | (with_reducible exact qanatref02_find.mono _ _ _ _)
      | (with_reducible exact LeO.refl _)
      | (with_reducible exact LeO.none _)
      | (with_reducible refine LeO.ite ?_ ?_)
      | (with_reducible refine LeO.bind ?_ (fun _ => ?_))
      | exact ih0 _ _ _ _
      | exact ih1 _ _ _ _ _ _
      | exact qanatref02_find.mono _ _ _ _
      | exact LeO.none _
      | refine LeO.ite ?_ ?_
      | refine LeO.bind ?_ (fun _ => ?_)
    · intro y0 y1 y2 y3 y4 y5
      unfold qanatref02_Change.l0
      repeat' first
      | (with_reducible exact ih0 _ _ _ _)
      | (with_reducible exact ih1 _ _ _ _ _ _)
      | (with_reducible exact qanatref02_find.mono _ _ _ _)
      | (with_reducible exact LeO.refl _)
      | (with_reducible exact LeO.none _)
      | (with_reducible refine LeO.ite ?_ ?_)
      | (with_reducible refine LeO.bind ?_ (fun _ => ?_))
      | exact ih0 _ _ _ _
      | exact ih1 _ _ _ _ _ _
      | exact qanatref02_find.mono _ _ _ _
      | exact LeO.none _
      | refine LeO.ite ?_ ?_
      | refine LeO.bind ?_ (fun _ => ?_)
theorem qanatref02_Change.mono : ∀ a0 a1 a2 k, LeO (qanatref02_Change.f k a0 a1 a2) (qanatref02_Change.f (k + 1) a0 a1 a2) := by
  intro a0 a1 a2 k
  obtain ⟨ih0, ih1⟩ := qanatref02_Change.mono_l k
  unfold qanatref02_Change.f
  repeat' first
      | (with_reducible exact ih0 _ _ _ _)
      | (with_reducible exact ih1 _ _ _ _ _ _)
      | (with_reducible exact qanatref02_find.mono _ _ _ _)
      | (with_reducible exact LeO.refl _)
      | (with_reducible exact LeO.none _)
      | (with_reducible refine LeO.ite ?_ ?_)
      | (with_reducible refine LeO.bind ?_ (fun _ => ?_))
      | exact ih0 _ _ _ _
      | exact ih1 _ _ _ _ _ _
      | exact qanatref02_find.mono _ _ _ _
      | exact LeO.none _
      | refine LeO.ite ?_ ?_
      | refine LeO.bind ?_ (fun _ => ?_)
set_option maxHeartbeats 8000000 in
set_option maxRecDepth 100000 in
theorem qanatref02_Change.calls (k : Nat) (a0 : ByteArray) (a1 : ByteArray) (a2 : ByteArray) (r1 : ByteArray) (r2 : Int) (w : World) (h : qanatref02_Change.f k a0 a1 a2 = some (r1, r2)) :
    Calls Tryz.prog 64 #[.string a0, .string a1, .string a2] w fun e w' => e = .returned (.agg #[.string r1, .int .i64 r2]) ∧ Below w.heap.size w w' := by
  have hu29 := Tryz.underlying29
  have HB := Aside0.mk (Below.refl w.heap.size w)
  have H : ((qanatref02_Valid.f a0).bind fun t605 => (if t605 = true then ((qanatref02_Valid.f a1).bind fun t606 => (if t606 = true then ((qanatref02_Valid.f a2).bind fun t607 => (qanatref02_Change.j0 k a0 a1 a2 (!t607))) else (qanatref02_Change.j0 k a0 a1 a2 true))) else (qanatref02_Change.j0 k a0 a1 a2 true))) = some (r1, r2) := h
  clear h
  have HC4 := Aside0.mk H
  clear H
  go_enter Tryz.func64, Tryz.ntmps64
  go_upto_region 1 with (first | ((with_reducible refine gate_dst (N := 6) rfl ?_); (try (refine gate_guard (by rfl) ?_; dsimp only)); refine box_event ?hg (N := 6) ?hd (cs := #[.string (⟨#[]⟩ : ByteArray), .int .i64 0]) (t := 29) ?hr ?_; (case hd => rfl); (case hg => rfl); (case hr => first | (go_simp; done) | (go_simp; rfl)); intro gb604 hg w5 hbox hb; have n0_ := Aside0.mk (below_step (by repeat (first | (with_reducible first | exact HB.out | apply below_alloc | apply pw_below_drewN | apply below_drew1) | exact HB.out)) hb); have n1_ := Aside0.mk (hbox); have n2_ := Aside0.mk ((by rw [hg]; exact (below_size (by repeat (first | (with_reducible first | exact HB.out | apply below_alloc | apply pw_below_drewN | apply below_drew1) | exact HB.out))) : w.heap.size ≤ gb604)); have n3_ := Aside0.mk ((by rw [hg]; exact (below_size (by repeat (first | (with_reducible first | exact HB.out | apply below_alloc | apply pw_below_drewN | apply below_drew1) | exact HB.out))) : w.heap.size ≤ gb604)); clear HB; have HB := n0_; have BK604 := n1_; have GW604 := n2_; have GE604 := n3_; clear n0_ n1_ n2_ n3_; clear hb hbox hg))
  (try simp only [Act.put, List.setIfInBounds_toArray, List.set_cons_zero, List.set_cons_succ])
  go_cut [22] (fun v22 wc => ∃ (kq : Nat) (x22_3 : Bool), v22 = .bool x22_3 ∧ Aside0 (qanatref02_Change.j0 kq a0 a1 a2 x22_3 = some (r1, r2)) ∧ Aside0 (kq ≤ k) ∧ Aside0 (wc.heap[gb604]? = some (.cells #[.string (⟨#[]⟩ : ByteArray), .int .i64 0] 29 (0, 0))) ∧ Aside0 (Below w.heap.size w wc))
  case first =>
    have H := HC4.out
    clear HC4
    replace H := Option.bind_eq_some_iff.mp H
    obtain ⟨t605, A60, H⟩ := H
    replace H : (if t605 = true then ((qanatref02_Valid.f a1).bind fun t606 => (if t606 = true then ((qanatref02_Valid.f a2).bind fun t607 => (qanatref02_Change.j0 k a0 a1 a2 (!t607))) else (qanatref02_Change.j0 k a0 a1 a2 true))) else (qanatref02_Change.j0 k a0 a1 a2 true)) = some (r1, r2) := H
    have A6 := Aside0.mk A60
    clear A60
    by_cases c7 : t605 = true
    · subst c7
      have H1 : ((qanatref02_Valid.f a1).bind fun t606 => (if t606 = true then ((qanatref02_Valid.f a2).bind fun t607 => (qanatref02_Change.j0 k a0 a1 a2 (!t607))) else (qanatref02_Change.j0 k a0 a1 a2 true))) = some (r1, r2) := by rw [if_pos rfl] at H; exact H
      clear H
      have H := H1
      clear H1
      replace H := Option.bind_eq_some_iff.mp H
      obtain ⟨t606, A80, H⟩ := H
      replace H : (if t606 = true then ((qanatref02_Valid.f a2).bind fun t607 => (qanatref02_Change.j0 k a0 a1 a2 (!t607))) else (qanatref02_Change.j0 k a0 a1 a2 true)) = some (r1, r2) := H
      have A8 := Aside0.mk A80
      clear A80
      by_cases c9 : t606 = true
      · subst c9
        have H1 : ((qanatref02_Valid.f a2).bind fun t607 => (qanatref02_Change.j0 k a0 a1 a2 (!t607))) = some (r1, r2) := by rw [if_pos rfl] at H; exact H
        clear H
        have H := H1
        clear H1
        replace H := Option.bind_eq_some_iff.mp H
        obtain ⟨t607, A100, H⟩ := H
        replace H : (qanatref02_Change.j0 k a0 a1 a2 (!t607)) = some (r1, r2) := H
        have A10 := Aside0.mk A100
        clear A100
        have H' := Aside0.mk H
        clear H
        go_wp2_with (first | ((with_reducible refine gate_callee (f := 89) rfl ?_); refine goesL_ (some 11) rfl rfl Tryz.func89 (by kernel_rfl) rfl #[.string a0] rfl (by (try simp only [List.map_toArray, List.map_cons, List.map_nil]); first | done | rfl | (simp only [List.length_drop, List.length_take]; rfl)) ?_; (with_reducible refine (qanatref02_Valid.calls a0 true _ A6.out).mono ?_); rintro e w' ⟨rfl, ⟨nd, rfl⟩⟩; refine ⟨_, rfl, ?_⟩) | (go_at_call 89; (with_reducible refine (qanatref02_Valid.calls a1 true _ A8.out).mono ?_); rintro e w' ⟨rfl, ⟨nd, rfl⟩⟩) | (go_at_call 89; (with_reducible refine (qanatref02_Valid.calls a2 t607 _ A10.out).mono ?_); rintro e w' ⟨rfl, ⟨nd, rfl⟩⟩))
        go_meet
        case rel => exact ⟨_, (!t607), (by first | rfl | (simp; done) | (simp [*]; done)), H', ⟨by first | omega | exact Nat.le_refl _⟩, ⟨by (with_reducible repeat (first | refine blk_drewN ?_ _ | refine blk_drew ?_ | refine blk_alloc ?_ _)); exact BK604.out⟩, ⟨by repeat (first | (with_reducible first | exact HB.out | apply below_alloc | apply pw_below_drewN | apply below_drew1 | refine below_set ?_ GE604.out) | exact HB.out)⟩⟩
      · replace c9 := Bool.eq_false_iff.mpr c9
        subst c9
        have H1 : (qanatref02_Change.j0 k a0 a1 a2 true) = some (r1, r2) := by rw [if_neg (show ¬ (false = true) by decide)] at H; exact H
        clear H
        have H := H1
        clear H1
        have H' := Aside0.mk H
        clear H
        go_wp2_with (first | ((with_reducible refine gate_callee (f := 89) rfl ?_); refine goesL_ (some 11) rfl rfl Tryz.func89 (by kernel_rfl) rfl #[.string a0] rfl (by (try simp only [List.map_toArray, List.map_cons, List.map_nil]); first | done | rfl | (simp only [List.length_drop, List.length_take]; rfl)) ?_; (with_reducible refine (qanatref02_Valid.calls a0 true _ A6.out).mono ?_); rintro e w' ⟨rfl, ⟨nd, rfl⟩⟩; refine ⟨_, rfl, ?_⟩) | (go_at_call 89; (with_reducible refine (qanatref02_Valid.calls a1 false _ A8.out).mono ?_); rintro e w' ⟨rfl, ⟨nd, rfl⟩⟩))
        go_meet
        case rel => exact ⟨_, (true), (by first | rfl | (simp; done) | (simp [*]; done)), H', ⟨by first | omega | exact Nat.le_refl _⟩, ⟨by (with_reducible repeat (first | refine blk_drewN ?_ _ | refine blk_drew ?_ | refine blk_alloc ?_ _)); exact BK604.out⟩, ⟨by repeat (first | (with_reducible first | exact HB.out | apply below_alloc | apply pw_below_drewN | apply below_drew1 | refine below_set ?_ GE604.out) | exact HB.out)⟩⟩
    · replace c7 := Bool.eq_false_iff.mpr c7
      subst c7
      have H1 : (qanatref02_Change.j0 k a0 a1 a2 true) = some (r1, r2) := by rw [if_neg (show ¬ (false = true) by decide)] at H; exact H
      clear H
      have H := H1
      clear H1
      have H' := Aside0.mk H
      clear H
      go_wp2_with (first | ((with_reducible refine gate_callee (f := 89) rfl ?_); refine goesL_ (some 11) rfl rfl Tryz.func89 (by kernel_rfl) rfl #[.string a0] rfl (by (try simp only [List.map_toArray, List.map_cons, List.map_nil]); first | done | rfl | (simp only [List.length_drop, List.length_take]; rfl)) ?_; (with_reducible refine (qanatref02_Valid.calls a0 false _ A6.out).mono ?_); rintro e w' ⟨rfl, ⟨nd, rfl⟩⟩; refine ⟨_, rfl, ?_⟩))
      go_meet
      case rel => exact ⟨_, (true), (by first | rfl | (simp; done) | (simp [*]; done)), H', ⟨by first | omega | exact Nat.le_refl _⟩, ⟨by (with_reducible repeat (first | refine blk_drewN ?_ _ | refine blk_drew ?_ | refine blk_alloc ?_ _)); exact BK604.out⟩, ⟨by repeat (first | (with_reducible first | exact HB.out | apply below_alloc | apply pw_below_drewN | apply below_drew1 | refine below_set ?_ GE604.out) | exact HB.out)⟩⟩
  case rest =>
    clear HC4
    try clear p2
    try clear c6
    try clear c7
    try clear c8
    try clear c9
    obtain ⟨kq, x22_3, rfl, HA, HJ3, BK604, HB⟩ := hcut
    cases kq with
    | zero => exact absurd HA.out (by simp [qanatref02_Change.j0])
    | succ kj3 =>
      have H := HA.out
      clear HA
      simp only [qanatref02_Change.j0] at H
      by_cases c11 : x22_3 = true
      · subst c11
        have H1 : (some ((⟨#[]⟩ : ByteArray), 1)) = some (r1, r2) := by rw [if_pos rfl] at H; exact H
        clear H
        have H := H1
        clear H1
        simp only [Option.some.injEq, Prod.mk.injEq] at H
        obtain ⟨rfl, rfl⟩ := H
        have hcz12_0 : wc.cell? ⟨gb604, 0, none⟩ = some (.string (⟨#[]⟩ : ByteArray)) := (blk_cell BK604.out 0).trans rfl
        have hcz12_1 : wc.cell? ⟨gb604, 1, none⟩ = some (.int .i64 0) := (blk_cell BK604.out 1).trans rfl
        have hfz12_0 := blk_frozen BK604.out 0
        have hfz12_1 := blk_frozen BK604.out 1
        go_wp2
        refine bodyPost_ret (results_cell_row rfl _ _ gb604 29 #[.string (⟨#[]⟩ : ByteArray), .int .i64 1] (0, 0) _ rfl (by (with_reducible repeat (first | refine blk_drewN ?_ _ | refine blk_drew ?_ | refine blk_alloc ?_ _)); refine blk_put (cs := #[.string (⟨#[]⟩ : ByteArray), .int .i64 0]) ?_ 1 _ rfl; (with_reducible repeat (first | refine blk_drewN ?_ _ | refine blk_drew ?_ | refine blk_alloc ?_ _)); refine blk_put (cs := #[.string (⟨#[]⟩ : ByteArray), .int .i64 0]) ?_ 0 _ rfl; (with_reducible repeat (first | refine blk_drewN ?_ _ | refine blk_drew ?_ | refine blk_alloc ?_ _)); exact BK604.out) Tryz.underlying29 rfl (by kernel_rfl)) rfl ?_
        exact ⟨by first | rfl | (simp [errW_none, errW_some] <;> rfl) | (simp [*, errW_none, errW_some] <;> rfl), by repeat (first | (with_reducible first | exact HB.out | apply below_alloc | apply pw_below_drewN | apply below_drew1 | refine below_set ?_ GE604.out) | exact HB.out)⟩
      · replace c11 := Bool.eq_false_iff.mpr c11
        subst c11
        have H1 : ((qanatref02_find.f kj3 a0 a1 0).bind fun t608 => (qanatref02_Change.l0 kj3 a0 a1 a2 ([] : List Int) 0 t608)) = some (r1, r2) := by rw [if_neg (show ¬ (false = true) by decide)] at H; exact H
        clear H
        have H := H1
        clear H1
        replace H := Option.bind_eq_some_iff.mp H
        obtain ⟨t608, A130, H⟩ := H
        replace H : (qanatref02_Change.l0 kj3 a0 a1 a2 ([] : List Int) 0 t608) = some (r1, r2) := H
        have A13 := Aside0.mk A130
        clear A130
        have H' := Aside0.mk H
        clear H
        go_wp2_with (first | ((with_reducible refine gate_callee (f := 122) rfl ?_); refine goesL_ (some 26) rfl rfl Tryz.func122 (by kernel_rfl) rfl #[.string a0, .string a1, .int .i64 0] rfl (by (try simp only [List.map_toArray, List.map_cons, List.map_nil]); first | done | rfl | (simp only [List.length_drop, List.length_take]; rfl)) ?_; (with_reducible refine (qanatref02_find.calls kj3 a0 a1 0 t608 _ A13.out).mono ?_); rintro e w' ⟨rfl, ⟨nd, rfl⟩⟩; refine ⟨_, rfl, ?_⟩))
        go_loopg [7, 8, 9] kj3 (fun kq v7 v8 v9 w' => ∃ (x7_2 : List Int) (x8_2 : Int) (x9_2 : Int), v8 = .int .i64 x8_2 ∧ v9 = .int .i64 x9_2 ∧ Aside0 (qanatref02_Change.l0 kq a0 a1 a2 x7_2 x8_2 x9_2 = some (r1, r2)) ∧ Aside0 (kq ≤ kj3) ∧ Aside0 (Kd.R (Kd.int .u8) 5 w' w.heap.size (fun _ => True) v7 x7_2) ∧ Aside0 (w'.heap[gb604]? = some (.cells #[.string (⟨#[]⟩ : ByteArray), .int .i64 0] 29 (0, 0))) ∧ Aside0 (Below w.heap.size w w'))
        case atStart => exact ⟨(([] : List Int)), (0), (t608), (by first | rfl | (simp; done) | (simp [*]; done)), (by first | rfl | (simp; done) | (simp [*]; done)), H', ⟨Nat.le_refl _⟩, ⟨by first | exact Kd.R_nil _ _ _ _ _ | exact Kd.N_nil _ _ _ _ _ | exact Kd.V_nil _ _ _ _ _ | exact Kd.Q_nil _ _ _ _ _ | exact Kd.S_nil _ _ _ _ _⟩, ⟨by (with_reducible repeat (first | refine blk_drewN ?_ _ | refine blk_drew ?_ | refine blk_alloc ?_ _)); exact BK604.out⟩, ⟨by repeat (first | (with_reducible first | exact HB.out | apply below_alloc | apply pw_below_drewN | apply below_drew1 | refine below_set ?_ GE604.out) | exact HB.out)⟩⟩
        case round =>
          clear H'
          try clear c1
          try clear p2
          try clear c6
          try clear c7
          try clear c8
          try clear c9
          try clear c11
          try clear c12
          try clear hcz12_0
          try clear hcz12_1
          try clear hfz12_0
          try clear hfz12_1
          try clear p2
          obtain ⟨x7_2, x8_2, x9_2, rfl, rfl, HA, HK2, HO_7, BK604, HB⟩ := hrel
          cases gk with
          | zero => exact absurd HA.out (by simp [qanatref02_Change.l0])
          | succ k2 =>
            have H := HA.out
            clear HA
            simp only [qanatref02_Change.l0] at H
            by_cases c14 : x9_2 ≥ 0
            · rw [if_pos c14] at H
              have c14b0 : decide (0 ≤ x9_2) = true := decide_eq_true c14
              clear c14
              by_cases c15 : (x7_2.length : Int) ≤ 1000
              · rw [if_pos c15] at H
                have c15b0 : decide ((x7_2.length : Int) ≤ 1000) = true := decide_eq_true c15
                have c15b1 : decide (x7_2.length ≤ 1000) = true := decide_eq_true (by omega)
                clear c15
                by_cases c16 : 0 ≤ x8_2
                · rw [if_pos c16] at H
                  have c16b0 := eq_true c16
                  have c16b1 : decide (0 ≤ x8_2) = true := decide_eq_true c16
                  clear c16
                  by_cases c17 : x8_2 ≤ x9_2
                  · rw [if_pos c17] at H
                    have c17b0 := eq_true c17
                    have c17b1 : decide (x8_2 ≤ x9_2) = true := decide_eq_true c17
                    clear c17
                    by_cases c18 : x9_2 ≤ (a1.size : Int)
                    · rw [if_pos c18] at H
                      have c18b0 := eq_true c18
                      have c18b1 : decide (x9_2 ≤ (a1.size : Int)) = true := decide_eq_true c18
                      clear c18
                      by_cases c19 : x7_2.length + (a1.extract (x8_2 : Int).toNat (x9_2 : Int).toNat).size < 140737488355328
                      · rw [if_pos c19] at H
                        have LMc19 := Aside0.mk c19
                        clear c19
                        obtain ⟨y609, hy609⟩ : ∃ y_ : List Int, y_ = (x7_2 ++ bytesOf (a1.extract (x8_2 : Int).toNat (x9_2 : Int).toNat)) := ⟨_, rfl⟩
                        replace H : (if y609.length + a2.size < 140737488355328 then ((qanatref02_find.f k2 a0 a1 (wrap64 (x9_2 + (a0.size : Int)))).bind fun t615 => (qanatref02_Change.l0 k2 a0 a1 a2 (y609 ++ bytesOf a2) (wrap64 (x9_2 + (a0.size : Int))) t615)) else (none)) = some (r1, r2) := by first | (rw [hy609]; with_reducible exact H) | (have H2_ := (Option.bind_some _ _).symm.trans H; rw [hy609]; with_reducible exact H2_) | (have H2_ := (Option.bind_some _ _).symm.trans H; with_reducible exact H2_) | with_reducible exact H | (rw [hy609]; exact H) | exact H
                        have Ny609 := Aside0.mk hy609
                        clear hy609
                        by_cases c20 : y609.length + a2.size < 140737488355328
                        · rw [if_pos c20] at H
                          have LMc20 := Aside0.mk c20
                          clear c20
                          obtain ⟨y612, hy612⟩ : ∃ y_ : List Int, y_ = (y609 ++ bytesOf a2) := ⟨_, rfl⟩
                          replace H : ((qanatref02_find.f k2 a0 a1 (wrap64 (x9_2 + (a0.size : Int)))).bind fun t615 => (qanatref02_Change.l0 k2 a0 a1 a2 y612 (wrap64 (x9_2 + (a0.size : Int))) t615)) = some (r1, r2) := by first | (rw [hy612]; with_reducible exact H) | (have H2_ := (Option.bind_some _ _).symm.trans H; rw [hy612]; with_reducible exact H2_) | (have H2_ := (Option.bind_some _ _).symm.trans H; with_reducible exact H2_) | with_reducible exact H | (rw [hy612]; exact H) | exact H
                          have Ny612 := Aside0.mk hy612
                          clear hy612
                          replace H := Option.bind_eq_some_iff.mp H
                          obtain ⟨t615, A210, H⟩ := H
                          replace H : (qanatref02_Change.l0 k2 a0 a1 a2 y612 (wrap64 (x9_2 + (a0.size : Int))) t615) = some (r1, r2) := H
                          have A21 := Aside0.mk A210
                          clear A210
                          have H' := Aside0.mk H
                          clear H
                          obtain ⟨Ao22, co22, eo22⟩ := Kd.R_slice HO_7.out
                          subst eo22
                          go_wp2_with (first | (at_builtin; refine print_append_str (w0 := w) w.heap.size rfl (.tmp 38) _ 83 9 5 rfl Tryz.underlying83 Tryz.underlying9 info5 (.slice Ao22 x7_2.length co22) x7_2 (a1.extract (x8_2 : Int).toNat (x9_2 : Int).toNat) rfl rfl ?aO ?aB ?aS ?aL ?_; (case aB => exact (by repeat (first | (with_reducible first | exact HB.out | apply below_alloc | apply pw_below_drewN | apply below_drew1 | refine below_set ?_ GE604.out) | exact HB.out))); (case aO => exact (Kd.own_of_R (by (with_reducible repeat (first | apply Kd.R_alloc | apply Kd.R_drewN | apply Kd.R_drew)); exact HO_7.out))); (case aS => exact (below_size (by repeat (first | (with_reducible first | exact HB.out | apply below_alloc | apply pw_below_drewN | apply below_drew1 | refine below_set ?_ GE604.out) | exact HB.out)))); (case aL => have := LMc19.out; omega); intro v610 w23 ho0 hb hg; have ho := Kd.R_of_own (h1 := fun _ => rfl) (ok := fun _ => True) ho0 (fun _ _ => trivial); clear ho0; have hat := True.intro; rw [← Ny609.out] at ho; change Kd.R (Kd.int .u8) 5 w23 w.heap.size (fun _ => True) v610 y609 at ho; have n0_ := Aside0.mk (blk_grown (g := gb604) (o := .cells #[.string (⟨#[]⟩ : ByteArray), .int .i64 0] 29 (0, 0)) (by (with_reducible repeat (first | refine blk_drewN ?_ _ | refine blk_drew ?_ | refine blk_alloc ?_ _)); exact BK604.out) hg (Kd.R_ne HO_7.out BK604.out (by decide))); have n1_ := Aside0.mk (hb); have n2_ := Aside0.mk (ho); clear BK604; clear HB; clear HO_7; have BK604 := n0_; have HB := n1_; have HO611 := n2_; clear n0_ n1_ n2_; clear ho hb hg hat) | (at_builtin; refine print_append_str (w0 := w) w.heap.size rfl (.tmp 44) _ 83 9 5 rfl Tryz.underlying83 Tryz.underlying9 info5 v610 y609 a2 rfl rfl ?aO ?aB ?aS ?aL ?_; (case aB => exact (by repeat (first | (with_reducible first | exact HB.out | apply below_alloc | apply pw_below_drewN | apply below_drew1 | refine below_set ?_ GE604.out) | exact HB.out))); (case aO => exact (Kd.own_of_R (by (with_reducible repeat (first | apply Kd.R_alloc | apply Kd.R_drewN | apply Kd.R_drew)); exact HO611.out))); (case aS => exact (below_size (by repeat (first | (with_reducible first | exact HB.out | apply below_alloc | apply pw_below_drewN | apply below_drew1 | refine below_set ?_ GE604.out) | exact HB.out)))); (case aL => have := LMc20.out; omega); intro v613 w24 ho0 hb hg; have ho := Kd.R_of_own (h1 := fun _ => rfl) (ok := fun _ => True) ho0 (fun _ _ => trivial); clear ho0; have hat := True.intro; rw [← Ny612.out] at ho; change Kd.R (Kd.int .u8) 5 w24 w.heap.size (fun _ => True) v613 y612 at ho; have n0_ := Aside0.mk (blk_grown (g := gb604) (o := .cells #[.string (⟨#[]⟩ : ByteArray), .int .i64 0] 29 (0, 0)) (by (with_reducible repeat (first | refine blk_drewN ?_ _ | refine blk_drew ?_ | refine blk_alloc ?_ _)); exact BK604.out) hg (Kd.R_ne HO611.out BK604.out (by decide))); have n1_ := Aside0.mk (hb); have n2_ := Aside0.mk (ho); clear BK604; clear HB; clear HO611; have BK604 := n0_; have HB := n1_; have HO614 := n2_; clear n0_ n1_ n2_; clear ho hb hg hat) | ((with_reducible refine gate_callee (f := 122) rfl ?_); refine goesL_ (some 37) rfl rfl Tryz.func122 (by kernel_rfl) rfl #[.string a0, .string a1, .int .i64 (wrap64 (x9_2 + (a0.size : Int)))] rfl (by (try simp only [List.map_toArray, List.map_cons, List.map_nil]); first | done | rfl | (simp only [List.length_drop, List.length_take]; rfl)) ?_; (with_reducible refine (qanatref02_find.calls k2 a0 a1 (wrap64 (x9_2 + (a0.size : Int))) t615 _ A21.out).mono ?_); rintro e w' ⟨rfl, ⟨nd, rfl⟩⟩; refine ⟨_, rfl, ?_⟩))
                          go_roundg k2
                          case measure => have := HJ3.out; have := HK2.out; omega
                          case rel => exact ⟨(y612), (wrap64 (x9_2 + (a0.size : Int))), (t615), (by first | rfl | (simp; done) | (simp [*]; done)), (by first | rfl | (simp; done) | (simp [*]; done)), H', ⟨by have := HJ3.out; have := HK2.out; omega⟩, ⟨by (with_reducible repeat (first | apply Kd.R_alloc | apply Kd.R_drewN | apply Kd.R_drew)); exact HO614.out⟩, ⟨by (with_reducible repeat (first | refine blk_drewN ?_ _ | refine blk_drew ?_ | refine blk_alloc ?_ _)); exact BK604.out⟩, ⟨by repeat (first | (with_reducible first | exact HB.out | apply below_alloc | apply pw_below_drewN | apply below_drew1 | refine below_set ?_ GE604.out) | exact HB.out)⟩⟩
                        · rw [if_neg c20] at H
                          exact absurd H (by simp)
                      · rw [if_neg c19] at H
                        exact absurd H (by simp)
                    · rw [if_neg c18] at H
                      exact absurd H (by simp)
                  · rw [if_neg c17] at H
                    exact absurd H (by simp)
                · rw [if_neg c16] at H
                  exact absurd H (by simp)
              · rw [if_neg c15] at H
                have c15b0 : decide ((x7_2.length : Int) ≤ 1000) = false := decide_eq_false c15
                have c15b1 : decide (x7_2.length ≤ 1000) = false := decide_eq_false (by omega)
                clear c15
                by_cases c25 : 0 ≤ x8_2
                · rw [if_pos c25] at H
                  have c25b0 := eq_true c25
                  have c25b1 : decide (0 ≤ x8_2) = true := decide_eq_true c25
                  clear c25
                  by_cases c26 : x8_2 ≤ (a1.size : Int)
                  · rw [if_pos c26] at H
                    have c26b0 := eq_true c26
                    have c26b1 : decide (x8_2 ≤ (a1.size : Int)) = true := decide_eq_true c26
                    clear c26
                    by_cases c27 : x7_2.length + (a1.extract (x8_2 : Int).toNat a1.size).size < 140737488355328
                    · rw [if_pos c27] at H
                      have LMc27 := Aside0.mk c27
                      clear c27
                      obtain ⟨y616, hy616⟩ : ∃ y_ : List Int, y_ = (x7_2 ++ bytesOf (a1.extract (x8_2 : Int).toNat a1.size)) := ⟨_, rfl⟩
                      replace H : ((qanatref02_out.f y616).bind fun bt619 => (some (bt619.1, bt619.2))) = some (r1, r2) := by first | (rw [hy616]; with_reducible exact H) | (have H2_ := (Option.bind_some _ _).symm.trans H; rw [hy616]; with_reducible exact H2_) | (have H2_ := (Option.bind_some _ _).symm.trans H; with_reducible exact H2_) | with_reducible exact H | (rw [hy616]; exact H) | exact H
                      have Ny616 := Aside0.mk hy616
                      clear hy616
                      replace H := Option.bind_eq_some_iff.mp H
                      obtain ⟨⟨t619, t620⟩, A280, H⟩ := H
                      replace H : (some (t619, t620)) = some (r1, r2) := H
                      have A28 := Aside0.mk A280
                      clear A280
                      simp only [Option.some.injEq, Prod.mk.injEq] at H
                      obtain ⟨rfl, rfl⟩ := H
                      obtain ⟨Ao29, co29, eo29⟩ := Kd.R_slice HO_7.out
                      subst eo29
                      go_wp2_with (first | (at_builtin; refine print_append_str (w0 := w) w.heap.size rfl (.tmp 51) _ 83 9 5 rfl Tryz.underlying83 Tryz.underlying9 info5 (.slice Ao29 x7_2.length co29) x7_2 (a1.extract (x8_2 : Int).toNat a1.size) rfl rfl ?aO ?aB ?aS ?aL ?_; (case aB => exact (by repeat (first | (with_reducible first | exact HB.out | apply below_alloc | apply pw_below_drewN | apply below_drew1 | refine below_set ?_ GE604.out) | exact HB.out))); (case aO => exact (Kd.own_of_R (by (with_reducible repeat (first | apply Kd.R_alloc | apply Kd.R_drewN | apply Kd.R_drew)); exact HO_7.out))); (case aS => exact (below_size (by repeat (first | (with_reducible first | exact HB.out | apply below_alloc | apply pw_below_drewN | apply below_drew1 | refine below_set ?_ GE604.out) | exact HB.out)))); (case aL => have := LMc27.out; omega); intro v617 w30 ho0 hb hg; have ho := Kd.R_of_own (h1 := fun _ => rfl) (ok := fun _ => True) ho0 (fun _ _ => trivial); clear ho0; have hat := True.intro; rw [← Ny616.out] at ho; change Kd.R (Kd.int .u8) 5 w30 w.heap.size (fun _ => True) v617 y616 at ho; have n0_ := Aside0.mk (blk_grown (g := gb604) (o := .cells #[.string (⟨#[]⟩ : ByteArray), .int .i64 0] 29 (0, 0)) (by (with_reducible repeat (first | refine blk_drewN ?_ _ | refine blk_drew ?_ | refine blk_alloc ?_ _)); exact BK604.out) hg (Kd.R_ne HO_7.out BK604.out (by decide))); have n1_ := Aside0.mk (hb); have n2_ := Aside0.mk (ho); clear BK604; clear HB; clear HO_7; have BK604 := n0_; have HB := n1_; have HO618 := n2_; clear n0_ n1_ n2_; clear ho hb hg hat; obtain ⟨Ao31, co31, eo31⟩ := Kd.R_slice HO618.out; subst eo31) | ((with_reducible refine gate_callee (f := 90) rfl ?_); refine goesL_ (some 56) rfl rfl Tryz.func90 (by kernel_rfl) rfl #[.slice Ao31 y616.length co31] rfl (by (try simp only [List.map_toArray, List.map_cons, List.map_nil]); first | done | rfl | (simp only [List.length_drop, List.length_take]; rfl)) ?_; (with_reducible refine (qanatref02_out.calls _ _ y616 t619 t620 _ ?side1 ?side2 A28.out).mono ?_); (case side1 => repeat (first | exact (Kd.R_reads' HO618.out).2.2 | (with_reducible refine Kd.C_alloc ?_ _) | (with_reducible refine Kd.C_drewN ?_ _) | (with_reducible refine Kd.C_drew ?_))); (case side2 => exact (Kd.R_reads' HO618.out).2.1); rintro e w32 ⟨rfl, hb⟩; refine ⟨_, rfl, ?_⟩; have n0_ := Aside0.mk (Kd.R_below (by (with_reducible repeat (first | apply Kd.R_alloc | apply Kd.R_drewN | apply Kd.R_drew)); exact HO618.out) hb); have n1_ := Aside0.mk (blk_below (g := gb604) (o := .cells #[.string (⟨#[]⟩ : ByteArray), .int .i64 0] 29 (0, 0)) (by (with_reducible repeat (first | refine blk_drewN ?_ _ | refine blk_drew ?_ | refine blk_alloc ?_ _)); exact BK604.out) hb); have n2_ := Aside0.mk (below_step (by repeat (first | (with_reducible first | exact HB.out | apply below_alloc | apply pw_below_drewN | apply below_drew1 | refine below_set ?_ GE604.out) | exact HB.out)) hb); clear HO618; clear BK604; clear HB; have HO618 := n0_; have BK604 := n1_; have HB := n2_; clear n0_ n1_ n2_; (try clear hb); (try clear hb2); (try clear hk); (try clear hi); have hcz33_0 : w32.cell? ⟨gb604, 0, none⟩ = some (.string (⟨#[]⟩ : ByteArray)) := (blk_cell BK604.out 0).trans rfl; have hcz33_1 : w32.cell? ⟨gb604, 1, none⟩ = some (.int .i64 0) := (blk_cell BK604.out 1).trans rfl; have hfz33_0 := blk_frozen BK604.out 0; have hfz33_1 := blk_frozen BK604.out 1))
                      refine bodyPost_ret (results_cell_row rfl _ _ gb604 29 #[.string t619, .int .i64 t620] (0, 0) _ rfl (by (with_reducible repeat (first | refine blk_drewN ?_ _ | refine blk_drew ?_ | refine blk_alloc ?_ _)); refine blk_put (cs := #[.string t619, .int .i64 0]) ?_ 1 _ rfl; (with_reducible repeat (first | refine blk_drewN ?_ _ | refine blk_drew ?_ | refine blk_alloc ?_ _)); refine blk_put (cs := #[.string (⟨#[]⟩ : ByteArray), .int .i64 0]) ?_ 0 _ rfl; (with_reducible repeat (first | refine blk_drewN ?_ _ | refine blk_drew ?_ | refine blk_alloc ?_ _)); exact BK604.out) Tryz.underlying29 rfl (by kernel_rfl)) rfl ?_
                      exact ⟨by first | rfl | (simp [errW_none, errW_some] <;> rfl) | (simp [*, errW_none, errW_some] <;> rfl), by repeat (first | (with_reducible first | exact HB.out | apply below_alloc | apply pw_below_drewN | apply below_drew1 | refine below_set ?_ GE604.out) | exact HB.out)⟩
                    · rw [if_neg c27] at H
                      exact absurd H (by simp)
                  · rw [if_neg c26] at H
                    exact absurd H (by simp)
                · rw [if_neg c25] at H
                  exact absurd H (by simp)
            · rw [if_neg c14] at H
              have c14b0 : decide (0 ≤ x9_2) = false := decide_eq_false c14
              clear c14
              by_cases c34 : 0 ≤ x8_2
              · rw [if_pos c34] at H
                have c34b0 := eq_true c34
                have c34b1 : decide (0 ≤ x8_2) = true := decide_eq_true c34
                clear c34
                by_cases c35 : x8_2 ≤ (a1.size : Int)
                · rw [if_pos c35] at H
                  have c35b0 := eq_true c35
                  have c35b1 : decide (x8_2 ≤ (a1.size : Int)) = true := decide_eq_true c35
                  clear c35
                  by_cases c36 : x7_2.length + (a1.extract (x8_2 : Int).toNat a1.size).size < 140737488355328
                  · rw [if_pos c36] at H
                    have LMc36 := Aside0.mk c36
                    clear c36
                    obtain ⟨y621, hy621⟩ : ∃ y_ : List Int, y_ = (x7_2 ++ bytesOf (a1.extract (x8_2 : Int).toNat a1.size)) := ⟨_, rfl⟩
                    replace H : ((qanatref02_out.f y621).bind fun bt624 => (some (bt624.1, bt624.2))) = some (r1, r2) := by first | (rw [hy621]; with_reducible exact H) | (have H2_ := (Option.bind_some _ _).symm.trans H; rw [hy621]; with_reducible exact H2_) | (have H2_ := (Option.bind_some _ _).symm.trans H; with_reducible exact H2_) | with_reducible exact H | (rw [hy621]; exact H) | exact H
                    have Ny621 := Aside0.mk hy621
                    clear hy621
                    replace H := Option.bind_eq_some_iff.mp H
                    obtain ⟨⟨t624, t625⟩, A370, H⟩ := H
                    replace H : (some (t624, t625)) = some (r1, r2) := H
                    have A37 := Aside0.mk A370
                    clear A370
                    simp only [Option.some.injEq, Prod.mk.injEq] at H
                    obtain ⟨rfl, rfl⟩ := H
                    go_wp2_with (first | (at_builtin; refine print_append_str (w0 := w) w.heap.size rfl (.tmp 51) _ 83 9 5 rfl Tryz.underlying83 Tryz.underlying9 info5 u7 x7_2 (a1.extract (x8_2 : Int).toNat a1.size) rfl rfl ?aO ?aB ?aS ?aL ?_; (case aB => exact (by repeat (first | (with_reducible first | exact HB.out | apply below_alloc | apply pw_below_drewN | apply below_drew1 | refine below_set ?_ GE604.out) | exact HB.out))); (case aO => exact (Kd.own_of_R (by (with_reducible repeat (first | apply Kd.R_alloc | apply Kd.R_drewN | apply Kd.R_drew)); exact HO_7.out))); (case aS => exact (below_size (by repeat (first | (with_reducible first | exact HB.out | apply below_alloc | apply pw_below_drewN | apply below_drew1 | refine below_set ?_ GE604.out) | exact HB.out)))); (case aL => have := LMc36.out; omega); intro v622 w38 ho0 hb hg; have ho := Kd.R_of_own (h1 := fun _ => rfl) (ok := fun _ => True) ho0 (fun _ _ => trivial); clear ho0; have hat := True.intro; rw [← Ny621.out] at ho; change Kd.R (Kd.int .u8) 5 w38 w.heap.size (fun _ => True) v622 y621 at ho; have n0_ := Aside0.mk (blk_grown (g := gb604) (o := .cells #[.string (⟨#[]⟩ : ByteArray), .int .i64 0] 29 (0, 0)) (by (with_reducible repeat (first | refine blk_drewN ?_ _ | refine blk_drew ?_ | refine blk_alloc ?_ _)); exact BK604.out) hg (Kd.R_ne HO_7.out BK604.out (by decide))); have n1_ := Aside0.mk (hb); have n2_ := Aside0.mk (ho); clear BK604; clear HB; clear HO_7; have BK604 := n0_; have HB := n1_; have HO623 := n2_; clear n0_ n1_ n2_; clear ho hb hg hat; obtain ⟨Ao39, co39, eo39⟩ := Kd.R_slice HO623.out; subst eo39) | ((with_reducible refine gate_callee (f := 90) rfl ?_); refine goesL_ (some 56) rfl rfl Tryz.func90 (by kernel_rfl) rfl #[.slice Ao39 y621.length co39] rfl (by (try simp only [List.map_toArray, List.map_cons, List.map_nil]); first | done | rfl | (simp only [List.length_drop, List.length_take]; rfl)) ?_; (with_reducible refine (qanatref02_out.calls _ _ y621 t624 t625 _ ?side1 ?side2 A37.out).mono ?_); (case side1 => repeat (first | exact (Kd.R_reads' HO623.out).2.2 | (with_reducible refine Kd.C_alloc ?_ _) | (with_reducible refine Kd.C_drewN ?_ _) | (with_reducible refine Kd.C_drew ?_))); (case side2 => exact (Kd.R_reads' HO623.out).2.1); rintro e w40 ⟨rfl, hb⟩; refine ⟨_, rfl, ?_⟩; have n0_ := Aside0.mk (Kd.R_below (by (with_reducible repeat (first | apply Kd.R_alloc | apply Kd.R_drewN | apply Kd.R_drew)); exact HO623.out) hb); have n1_ := Aside0.mk (blk_below (g := gb604) (o := .cells #[.string (⟨#[]⟩ : ByteArray), .int .i64 0] 29 (0, 0)) (by (with_reducible repeat (first | refine blk_drewN ?_ _ | refine blk_drew ?_ | refine blk_alloc ?_ _)); exact BK604.out) hb); have n2_ := Aside0.mk (below_step (by repeat (first | (with_reducible first | exact HB.out | apply below_alloc | apply pw_below_drewN | apply below_drew1 | refine below_set ?_ GE604.out) | exact HB.out)) hb); clear HO623; clear BK604; clear HB; have HO623 := n0_; have BK604 := n1_; have HB := n2_; clear n0_ n1_ n2_; (try clear hb); (try clear hb2); (try clear hk); (try clear hi); have hcz41_0 : w40.cell? ⟨gb604, 0, none⟩ = some (.string (⟨#[]⟩ : ByteArray)) := (blk_cell BK604.out 0).trans rfl; have hcz41_1 : w40.cell? ⟨gb604, 1, none⟩ = some (.int .i64 0) := (blk_cell BK604.out 1).trans rfl; have hfz41_0 := blk_frozen BK604.out 0; have hfz41_1 := blk_frozen BK604.out 1))
                    refine bodyPost_ret (results_cell_row rfl _ _ gb604 29 #[.string t624, .int .i64 t625] (0, 0) _ rfl (by (with_reducible repeat (first | refine blk_drewN ?_ _ | refine blk_drew ?_ | refine blk_alloc ?_ _)); refine blk_put (cs := #[.string t624, .int .i64 0]) ?_ 1 _ rfl; (with_reducible repeat (first | refine blk_drewN ?_ _ | refine blk_drew ?_ | refine blk_alloc ?_ _)); refine blk_put (cs := #[.string (⟨#[]⟩ : ByteArray), .int .i64 0]) ?_ 0 _ rfl; (with_reducible repeat (first | refine blk_drewN ?_ _ | refine blk_drew ?_ | refine blk_alloc ?_ _)); exact BK604.out) Tryz.underlying29 rfl (by kernel_rfl)) rfl ?_
                    exact ⟨by first | rfl | (simp [errW_none, errW_some] <;> rfl) | (simp [*, errW_none, errW_some] <;> rfl), by repeat (first | (with_reducible first | exact HB.out | apply below_alloc | apply pw_below_drewN | apply below_drew1 | refine below_set ?_ GE604.out) | exact HB.out)⟩
                  · rw [if_neg c36] at H
                    exact absurd H (by simp)
                · rw [if_neg c35] at H
                  exact absurd H (by simp)
              · rw [if_neg c34] at H
                exact absurd H (by simp)

end Go.Proofs.YtlekfhnlhdmekaaGreatDoor.T

/- A range over a function, its body never leaving early, over an iterator that tells which element may come next (Nx). -/
namespace Go.Proofs.YtlekfhnlhdmekaaGreatDoor.T
set_option linter.unusedSimpArgs false
set_option linter.unusedVariables false
open Go.RowKit

/-- An iterator value that runs each element of some list through yield, in order, as long as yield says 'more'; each round may lean on Nx. -/
def SeqNx {α : Type} (F : Fence) (n : Nat) (P : Program) (g : Nat) (lb : Array Value) (encs : α → Array Value) (Nx : List α → α → Prop) (Kp : World → World → Prop) (S : List α → Prop) (w : World) : Prop :=
  ∀ (l : Nat) (J : List α → World → Prop) (W : World), Below w.heap.size w W → AbidesFrom W.heap.size J →
    (∀ pre x W1, Nx pre x → J pre W1 → YieldAt F (n - 1) P l (encs x) W1 fun e W' => e = .returned (.bool true) ∧ J (pre ++ [x]) W' ∧ Kp W1 W') →
    J [] W → CallsIn F n P g (#[.func (.yield l) #[] #[]] ++ lb) W fun e W' => (∃ v, e = .returned v) ∧ ∃ xs, S xs ∧ J xs W'

/-- The loop's record at l, the block for deferred calls at D. -/
def Bk (l D : Nat) (r : Loop) (W : World) : Prop := W.heap[l]? = some (.loop r) ∧ W.heap[D]? = some (.deferred (some []))
theorem Bk.walk {l D : Nat} {r : Loop} {A B : World} {row : Option Nat} (h : Bk l D r A) (hg : A.grownBy B row) (hr : ∀ j, row = some j → ∃ o : Obj, A.heap[j]? = some o ∧ o.isWalk = true) : Bk l D r B :=
  ⟨(grownBy_keeps hg hr h.1 rfl).trans h.1, (grownBy_keeps hg hr h.2 rfl).trans h.2⟩
theorem Bk.from {l D B : Nat} {r : Loop} {X Y : World} (h : Bk l D r X) (hk : KeepsFrom B X Y) (hl : B ≤ l) (hD : B ≤ D) : Bk l D r Y := ⟨hk.same _ _ hl h.1 rfl, hk.same _ _ hD h.2 rfl⟩
theorem Bk.turn {l D : Nat} {r : Loop} {X : World} (h : Bk l D r X) (hne : D ≠ l) (r' : Loop) : Bk l D r' (X.putObj l (.loop r')) :=
  ⟨World.putObj_heap_same (Array.getElem?_eq_some_iff.1 h.1).1, (World.putObj_heap_other hne).trans h.2⟩

variable {F : Fence} {n : Nat} {P : Program}

theorem rf_law {α : Type} {g : Operand} {ps : Array Tmp} {assign body : Code} {Q : Exit → Act → World → Prop} {a : Act} {w : World}
    (hro : F.round = none) (h1 : 1 ≤ n) {gf : Nat} {lb : Array Value} (hg : a.eval g = .func (.func gf) #[] lb) (hFg : F.fn gf) (eg : ∀ args w, (callFunc gf args).run P w = .ok (.enter gf args) w)
    {encs : α → Array Value} {Nx : List α → α → Prop} {Kp : World → World → Prop} (hKt : ∀ {A B C : World}, Kp A B → Kp B C → Kp A C) (hKb : ∀ (W : World) (l : Nat) (o o' : Obj), w.heap.size ≤ l → W.heap[l]? = some o → o.isCells = false → o.isWalk = false → Kp W (W.putObj l o')) {S : List α → Prop} {w0 : World} (hseq : SeqNx F (n - 1) P gf lb encs Nx Kp S w0) (hb0 : Below w0.heap.size w0 w) (hps : ∀ x, (encs x).size = ps.size)
    (I : List α → World → Prop) (hI : OwnFrom w.heap.size I) (h0 : I [] w) (Ax : α → Act → World → Prop) (hAx : ∀ x a', OwnFrom w.heap.size (fun (_ : Unit) W => Ax x a' W))
    (hassign : ∀ (l : Nat) (pre : List α) (x : α) (W : World) (K : Act → World → Prop), I pre W → (∀ a' W', KeepsFrom w.heap.size W W' → Kp W W' → I pre W' → Ax x a' W' → K a' W') →
      assign.wpIn (F.inRound l) (n - 1 - 1) P (Exit.then K (fun _ _ _ => False)) { tmps := (ps.zip (encs x)).foldl (fun t (p, v) => t.setIfInBounds p v) a.tmps, defers := [] } W)
    (hbody : ∀ (l : Nat) (pre : List α) (x : α) (a' : Act) (W : World), Nx pre x → I pre W → Ax x a' W →
      body.wpIn (F.inRound l) (n - 1 - 1) P (fun e _ W' => e = .normal ∧ KeepsFrom w.heap.size W W' ∧ Kp W W' ∧ I (pre ++ [x]) W') a' W)
    (hdone : ∀ (D : Nat) (xs : List α) (W : World), w.heap.size ≤ D → S xs → I xs W → W.heap[D]? = some (.deferred (some [])) → Q .normal { a with defers := { target := .collected D, args := #[] } :: a.defers } W) :
    (Code.rangeFunc g ps assign body).wpIn F n P Q a w := by
  refine wpIn_rangeFunc ?_
  intro fn hfn
  rw [hro]
  have hD : w.heap.size ≠ w.heap.size + 1 := by omega
  obtain ⟨rc, hrc⟩ : ∃ rc : LoopState → Loop, rc = fun st => { state := st, pending := none, fn, tmps := a.tmps, params := ps, assign, body, defers := w.heap.size } := ⟨_, rfl⟩
  obtain ⟨V, hV⟩ : ∃ V, (w.alloc (.deferred (some []))).alloc (.loop (rc .ready)) = V := ⟨_, rfl⟩
  have sV : V.heap.size = w.heap.size + 2 := by rw [← hV]; simp
  have bV : Bk (w.heap.size + 1) w.heap.size (rc .ready) V := by
    rw [← hV]
    refine ⟨?_, (Below.heap_alloc _ _ _ (by simp)).trans (World.alloc_heap_new w _)⟩
    have := World.alloc_heap_new (w.alloc (.deferred (some []))) (.loop (rc .ready))
    rwa [World.size_alloc] at this
  have iV : I [] V := by rw [← hV]; exact hI.alloc _ (hI.alloc _ h0)
  have lV : Below w0.heap.size w0 V := by
    rw [← hV]
    exact hb0.trans ((((Below.refl _ w).alloc (Nat.le_refl _) _).alloc (by simp) _).mono hb0.size)
  refine ⟨w.heap.size + 1, [{ target := .collected w.heap.size, args := #[] }], V, { target := .fn (.func gf) lb, args := #[.func (.yield (w.heap.size + 1)) #[] #[]] }, V, gf,
    #[.func (.yield (w.heap.size + 1)) #[] #[]] ++ lb, V, ?_, ?_, ?_, ?_, fun _ => h1, ?_⟩
  · rw [← hV, hrc]
    exact run_enterLoop_outer _ _ _ _ _
  · simp only [resolve, hg]
    simp [go_sem]
  · intro f' hf'
    simp [Target.leads] at hf'
    subst hf'
    exact hFg
  · simp [invoke, go_sem, eg]
  refine (hseq (w.heap.size + 1) (fun pre W => I pre W ∧ Bk (w.heap.size + 1) w.heap.size (rc .ready) W) V lV ?_ ?_ ⟨iV, bV⟩).mono ?_
  · rintro s A B row ⟨hs, hb⟩ hgr hr
    refine ⟨hI s A B row hs hgr (fun j e => ?_), hb.walk hgr (fun j e => (hr j e).2)⟩
    obtain ⟨hj, o, ho, hw⟩ := hr j e
    exact ⟨by omega, o, ho, Obj.not_cells_of_walk hw⟩
  · rintro pre x W hnx ⟨hi, hb⟩
    have hy := run_yield (P := P) (args := encs x) hb.1 (by rw [hrc]; exact hps x)
    rw [hrc] at hy
    refine ⟨fn, _, assign, body, hy, roundIn_of_wpIn hfn (hassign _ pre x W _ hi ?_)⟩
    intro a' X hkX hbX hiX hax
    have bX := hb.from hkX (by omega) (Nat.le_refl _)
    have hlX := (Array.getElem?_eq_some_iff.1 bX.1).1
    refine ⟨_, run_beginRound bX.1 (by rw [hrc]), ?_⟩
    have bY := bX.turn hD { rc .ready with state := .busy }
    refine wpIn_mono (hbody _ pre x a' _ hnx (hI.putObj _ hiX (by omega) bX.1 rfl) ((hAx x a').putObj (s := ()) _ hax (by omega) bX.1 rfl)) ?_
    rintro e a3 Z ⟨rfl, hkZ, hbZ, hiZ⟩
    have bZ := bY.from hkZ (by omega) (Nat.le_refl _)
    refine ⟨_, _, run_endRound (P := P) none bZ.1, rfl, ⟨hI.putObj _ hiZ (by omega) bZ.1 rfl, ?_⟩, ?_⟩
    · have := bZ.turn hD (rc .ready)
      rw [hrc] at this ⊢
      exact this
    · exact hKt (hKt hbX (hKt (hKb _ _ _ _ (by omega) bX.1 rfl rfl) hbZ)) (hKb _ _ _ _ (by omega) bZ.1 rfl rfl)
  · rintro e Z ⟨⟨v, rfl⟩, xs, hS, hi, hb⟩
    refine ⟨none, _, (by have h := run_endLoop (P := P) hb.1 (by rw [hrc]; simp); rw [hrc] at h; exact h), ?_⟩
    exact hdone _ xs _ (Nat.le_refl _) hS (hI.putObj _ hi (by omega) hb.1 rfl) ((World.putObj_heap_other hD).trans hb.2)

end Go.Proofs.YtlekfhnlhdmekaaGreatDoor.T

/- text.Count and text.Change return what text_Count.f and text_Change.f say: both go over the occurrences of a string. -/
namespace Go.Proofs.YtlekfhnlhdmekaaGreatDoor.T
set_option linter.unusedSimpArgs false
set_option linter.unusedVariables false
open Go.RowKit Go.Proofs.YtlekfhnlhdmekaaGreatDoorW.PrintWords Go.Proofs.YtlekfhnlhdmekaaGreatDoorW.PrintLast Go.Proofs.YtlekfhnlhdmekaaGreatDoorW.PrintMore

attribute [local go_sem] Oper.semAt_some

theorem fnd_lo (a s : ByteArray) (i : Nat) (h : 0 ≤ fnd a s i) : (i : Int) ≤ fnd a s i ∧ fnd a s i + (a.size : Int) ≤ (s.size : Int) ∧ 0 < a.size := by
  rw [fnd] at h ⊢
  split
  · rename_i hc
    rw [dif_pos hc] at h
    split
    · omega
    · rename_i hne
      rw [if_neg hne] at h
      have := fnd_lo a s (i + 1) h
      omega
  · rename_i hc
    rw [dif_neg hc] at h
    exact absurd h (by decide)
termination_by s.size - i
theorem fnd_ge (a s : ByteArray) (i : Nat) : -1 ≤ fnd a s i := by
  rw [fnd]
  split
  · split
    · omega
    · exact fnd_ge a s (i + 1)
  · exact Int.le_refl _
termination_by s.size - i
/-- The offsets of the occurrences, from an offset on. -/
def occ (a s : ByteArray) (i : Nat) : List Int := if h : 0 ≤ fnd a s i then fnd a s i :: occ a s ((fnd a s i).toNat + a.size) else []
termination_by s.size - i
decreasing_by
  have := fnd_lo a s i h
  omega
theorem occ_length (a s : ByteArray) (i : Nat) : (occ a s i).length ≤ s.size - i := by
  rw [occ]
  split
  · rename_i h
    have h1 := fnd_lo a s i h
    have := occ_length a s ((fnd a s i).toNat + a.size)
    simp only [List.length_cons]
    omega
  · simp
termination_by s.size - i
decreasing_by
  have := fnd_lo a s i (by assumption)
  omega
theorem find_f (a s : ByteArray) (i : Nat) (ha : a.size ≤ 100000) (hs : s.size ≤ 100000) (hi : i ≤ s.size) : text_find.f a s (i : Int) = some (fnd a s i) := by
  unfold text_find.f
  rw [if_pos ⟨ha, hs, by omega⟩, if_pos (show (i : Int) ≤ (s.size : Int) by omega)]
  split
  · rw [fnd, dif_neg (by omega)]
  · rw [Int.toNat_natCast]
def msr (n : Nat) (v : Value) : Nat := if intOf v < 0 then 0 else n + 1 - (intOf v).toNat
theorem msr_lt (n : Nat) (q q2 : Int) (h0 : 0 ≤ q) (hq : q ≤ (n : Int)) (h : 0 ≤ q2 → q < q2) : msr n (.int .i64 q2) < msr n (.int .i64 q) := by
  have e1 : msr n (.int .i64 q2) = if q2 < 0 then 0 else n + 1 - q2.toNat := rfl
  have e2 : msr n (.int .i64 q) = if q < 0 then 0 else n + 1 - q.toNat := rfl
  rw [e1, e2, if_neg (show ¬ q < 0 by omega)]
  split <;> omega

set_option maxRecDepth 100000 in
set_option maxHeartbeats 4000000 in
theorem found1_in (n : Nat) (hn : 1 ≤ n) (l Ba Bs : Nat) (Kp : World → World → Prop) (a s : ByteArray) (ha : a.size ≤ 100000) (hs : s.size ≤ 100000) (hBa : ∀ W W', Kp W W' → W'.cell? ⟨Ba, 0, none⟩ = W.cell? ⟨Ba, 0, none⟩) (hBs : ∀ W W', Kp W W' → W'.cell? ⟨Bs, 0, none⟩ = W.cell? ⟨Bs, 0, none⟩) (J Jx : List Int → World → Prop)
    (hJ : ∀ q A B, J q A → A.grownBy B none → J q B)
    (hY : ∀ pre x W, (pre ++ [x]) <+: occ a s 0 → J pre W → YieldAt Fence.wide (n - 1) Tryz.prog l #[.int .i64 x] W fun e W' =>
      (e = .returned (.bool true) ∧ J (pre ++ [x]) W' ∧ Kp W W') ∨ (e = .returned (.bool false) ∧ Jx (pre ++ [x]) W'))
    (W : World) (hca : W.cell? ⟨Ba, 0, none⟩ = some (.string a)) (hcs : W.cell? ⟨Bs, 0, none⟩ = some (.string s)) (h0 : J [] W) :
    CallsIn Fence.wide n Tryz.prog 150 #[.func (.yield l) #[] #[], .pointer (some ⟨Ba, 0, none⟩), .pointer (some ⟨Bs, 0, none⟩)] W fun e W' => (∃ v, e = .returned v) ∧
      ((∃ ys, ys = occ a s 0 ∧ J ys W') ∨ (∃ pre, pre <+: occ a s 0 ∧ Jx pre W')) := by
  have HF := Aside0.mk (fun (i : Nat) (hi : i ≤ s.size) (W : World) => text_find.calls a s (i : Int) (fnd a s i) W (find_f a s i ha hs hi))
  have HF0 := Lib.hid (HF.out 0 (Nat.zero_le _))
  have HY := Aside0.mk hY
  have HJ0 := Aside0.mk h0
  have HJd := Aside0.mk hJ
  have hge := fnd_ge a s 0
  have hlo := Aside0.mk (fnd_lo a s 0)
  have HO := Aside0.mk (show occ a s 0 = [] ++ (if 0 ≤ fnd a s 0 then fnd a s 0 :: occ a s ((fnd a s 0).toNat + a.size) else []) by rw [List.nil_append]; conv => { lhs; rw [occ] }; by_cases h : 0 ≤ fnd a s 0 <;> simp [h])
  clear hY h0 hJ
  generalize fnd a s 0 = q0 at HF0 hge hlo HO
  refine callsIn_of_wp Tryz.func150 rfl trivial ?_ rfl
  simp only [Tryz.ntmps150, List.size_toArray, List.length_cons, List.length_nil, Nat.reduceAdd, Nat.reduceSub, Array.replicate_succ, Array.replicate_zero, List.push_toArray, List.append_toArray, List.nil_append, List.cons_append]
  gi_wp2_with (refine ⟨trivial, ?_⟩; gi_at_call 116; refine (callsIn_wide.2 (HF0.out _)).mono ?_; rintro e w' ⟨rfl, ⟨nd, rfl⟩⟩)
  have hW0 : W.grownBy (W.drewN nd) none := ⟨rfl, rfl, rfl, Nat.le_refl _, fun _ _ _ => rfl⟩
  have HJ1 := Aside0.mk (HJd.out _ _ _ HJ0.out hW0)
  have hca1 : (W.drewN nd).cell? ⟨Ba, 0, none⟩ = some (.string a) := hca
  have hcs1 : (W.drewN nd).cell? ⟨Bs, 0, none⟩ = some (.string s) := hcs
  clear HJ0 hW0 HF0 hca hcs
  generalize W.drewN nd = W1 at HJ1 hca1 hcs1 ⊢
  gi_loopw [4] (fun v wr => ∃ (q : Int) (pre : List Int), -1 ≤ q ∧ v = .int .i64 q ∧ Aside0 (0 ≤ q → q + (a.size : Int) ≤ (s.size : Int) ∧ 0 < a.size) ∧ Aside0 (occ a s 0 = pre ++ (if 0 ≤ q then q :: occ a s (q.toNat + a.size) else [])) ∧ Aside0 (J pre wr) ∧ wr.cell? ⟨Ba, 0, none⟩ = some (.string a) ∧ wr.cell? ⟨Bs, 0, none⟩ = some (.string s))
    (fun v wr => msr s.size v)
  case atStart => exact ⟨q0, [], hge, rfl, ⟨fun h => (hlo.out h).2⟩, HO, HJ1, hca1, hcs1⟩
  case round =>
    clear hlo HO HJ1 hca1 hcs1
    obtain ⟨q, pre, hq, rfl, HL, HO, HJ, hca, hcs⟩ := hrel
    by_cases h0 : 0 ≤ q
    · obtain ⟨hfit, hpos⟩ := HL.out h0
      have h01 : decide (0 ≤ q) = true := decide_eq_true h0
      have HO2 := Aside0.mk (show occ a s 0 = pre ++ (q :: occ a s (q.toNat + a.size)) by rw [HO.out, if_pos h0])
      obtain ⟨fn, tmps, assign, body, hy, hR⟩ := HY.out pre q wr ⟨occ a s (q.toNat + a.size), by rw [HO2.out]; simp⟩ HJ.out
      have HR := Lib.hid hR
      clear hR
      have HFq := Lib.hid (HF.out (q.toNat + a.size) (by omega))
      have hqe : ((q.toNat + a.size : Nat) : Int) = q + (a.size : Int) := by omega
      rw [hqe] at HFq
      clear hqe
      have hge2 := fnd_ge a s (q.toNat + a.size)
      have hlo2 := Aside0.mk (fnd_lo a s (q.toNat + a.size))
      have HO3 := Aside0.mk (show occ a s (q.toNat + a.size) = (if 0 ≤ fnd a s (q.toNat + a.size) then fnd a s (q.toNat + a.size) :: occ a s ((fnd a s (q.toNat + a.size)).toNat + a.size) else []) by conv => { lhs; rw [occ] }; by_cases h : 0 ≤ fnd a s (q.toNat + a.size) <;> simp [h])
      generalize hq2 : fnd a s (q.toNat + a.size) = q2 at HFq hge2 hlo2 HO3
      clear hq2
      gi_wp2
      refine HR.out.mono ?_
      rintro e W3 (⟨rfl, hJ3, hk3⟩ | ⟨rfl, hJx3⟩)
      · have hca3 : W3.cell? ⟨Ba, 0, none⟩ = some (.string a) := (hBa _ _ hk3).trans hca
        have hcs3 : W3.cell? ⟨Bs, 0, none⟩ = some (.string s) := (hBs _ _ hk3).trans hcs
        gi_wp2_with (refine ⟨trivial, ?_⟩; gi_at_call 116; refine (callsIn_wide.2 (HFq.out _)).mono ?_; rintro e w' ⟨rfl, ⟨nd, rfl⟩⟩)
        go_roundw
        case rel =>
          refine ⟨q2, pre ++ [q], hge2, rfl, ⟨fun h => ?_⟩, ⟨by rw [HO2.out, HO3.out]; simp⟩, ⟨HJd.out _ _ _ hJ3 ⟨rfl, rfl, rfl, Nat.le_refl _, fun _ _ _ => rfl⟩⟩, hca3, hcs3⟩
          have := hlo2.out h
          omega
        case measure =>
          have h2 := hlo2.out
          exact msr_lt _ _ _ h0 (by omega) (fun h => by have := h2 h; omega)
      · gi_wp2
        refine bodyPost_ret (results_none rfl _ _ _) rfl ?_
        exact ⟨⟨_, rfl⟩, .inr ⟨pre ++ [q], ⟨occ a s (q.toNat + a.size), by rw [HO2.out]; simp⟩, hJx3⟩⟩
    · have h01 : decide (0 ≤ q) = false := decide_eq_false h0
      gi_wp2
      go_end0
      exact ⟨⟨_, rfl⟩, .inl (by rw [HO.out, if_neg (by omega), List.append_nil]; exact HJ.out)⟩

theorem found_in (n : Nat) (a s : ByteArray) (w : World) :
    CallsIn Fence.wide n Tryz.prog 119 #[.string a, .string s] w fun e w' => e = .returned (.func (.func 150) #[] #[.pointer (some ⟨w.heap.size, 0, none⟩), .pointer (some ⟨w.heap.size + 1, 0, none⟩)]) ∧ w' = (w.alloc (.cells #[.string a] 9)).alloc (.cells #[.string s] 9) := by
  refine callsIn_of_wp Tryz.func119 rfl trivial ?_ rfl
  simp only [Tryz.ntmps119, List.size_toArray, List.length_cons, List.length_nil, Nat.reduceAdd, Nat.reduceSub, Array.replicate_succ, Array.replicate_zero, List.push_toArray, List.append_toArray, List.nil_append, List.cons_append]
  gi_wp2
  go_ret
  exact ⟨rfl, rfl⟩
theorem found_stops (n : Nat) (hn : 1 ≤ n) (Ba Bs : Nat) (a s : ByteArray) (ha : a.size ≤ 100000) (hs : s.size ≤ 100000) (w : World) (hBa : Ba < w.heap.size) (hBs : Bs < w.heap.size)
    (hca : w.cell? ⟨Ba, 0, none⟩ = some (.string a)) (hcs : w.cell? ⟨Bs, 0, none⟩ = some (.string s)) :
    SeqStopsK Fence.wide n Tryz.prog 150 #[.pointer (some ⟨Ba, 0, none⟩), .pointer (some ⟨Bs, 0, none⟩)] (fun x : Int => #[Value.int .i64 x]) (Below w.heap.size) (fun ys => ys = occ a s 0) (fun pre => pre <+: occ a s 0) (occ a s 0).length w := fun l J Jx W hW hJ _ hY h0 =>
  found1_in n hn l Ba Bs (Below w.heap.size) a s ha hs (fun _ _ h => h.cell (p := ⟨Ba, 0, none⟩) hBa) (fun _ _ h => h.cell (p := ⟨Bs, 0, none⟩) hBs) J Jx (fun q A B hq hg => hJ q A B none hq hg (fun r e => by cases e)) (fun pre x W1 hp hj => hY pre x W1 hj (by obtain ⟨t, ht⟩ := hp; rw [← ht]; simp)) W ((hW.cell (p := ⟨Ba, 0, none⟩) hBa).trans hca) ((hW.cell (p := ⟨Bs, 0, none⟩) hBs).trans hcs) h0
theorem found_nx (n : Nat) (hn : 1 ≤ n) (Ba Bs : Nat) (a s : ByteArray) (ha : a.size ≤ 100000) (hs : s.size ≤ 100000) (w : World) (Kp : World → World → Prop) (hBa : Ba < w.heap.size) (hBs : Bs < w.heap.size)
    (hKa : ∀ W W', Kp W W' → W'.cell? ⟨Ba, 0, none⟩ = W.cell? ⟨Ba, 0, none⟩) (hKs : ∀ W W', Kp W W' → W'.cell? ⟨Bs, 0, none⟩ = W.cell? ⟨Bs, 0, none⟩)
    (hca : w.cell? ⟨Ba, 0, none⟩ = some (.string a)) (hcs : w.cell? ⟨Bs, 0, none⟩ = some (.string s)) :
    SeqNx Fence.wide n Tryz.prog 150 #[.pointer (some ⟨Ba, 0, none⟩), .pointer (some ⟨Bs, 0, none⟩)] (fun x : Int => #[Value.int .i64 x]) (fun pre x => (pre ++ [x]) <+: occ a s 0) Kp (fun ys => ys = occ a s 0) w := fun l J W hW hJ hY h0 => by
  refine (found1_in n hn l Ba Bs Kp a s ha hs hKa hKs J (fun _ _ => False) (fun q A B hq hg => hJ q A B none hq hg (fun r e => by cases e)) (fun pre x W1 hp hj => ?_) W
    ((hW.cell (p := ⟨Ba, 0, none⟩) hBa).trans hca) ((hW.cell (p := ⟨Bs, 0, none⟩) hBs).trans hcs) h0).mono ?_
  · obtain ⟨fn, tmps, assign, body, hy, hR⟩ := hY pre x W1 hp hj
    exact ⟨fn, tmps, assign, body, hy, hR.mono fun e W' h => .inl h⟩
  · rintro e W' ⟨hv, h | ⟨_, _, h⟩⟩
    · exact ⟨hv, h⟩
    · exact h.elim

def text_Count.f (a0 a1 : ByteArray) : Option (Int × Int) := if a0.size ≤ 100000 ∧ a1.size ≤ 100000 then (if vld a0 = true ∧ vld a1 = true then some (((occ a0 a1 0).length : Int), 0) else some (0, 1)) else none

set_option maxHeartbeats 2000000 in
theorem text_Count.calls (a0 a1 : ByteArray) (r1 r2 : Int) (w : World) (h : text_Count.f a0 a1 = some (r1, r2)) :
    Calls Tryz.prog 59 #[.string a0, .string a1] w fun e w' => e = .returned (.tuple #[.int .i64 r1, .int .i64 r2]) ∧ Below w.heap.size w w' := by
  unfold text_Count.f at h
  by_cases hb : a0.size ≤ 100000 ∧ a1.size ≤ 100000
  · rw [if_pos hb] at h
    obtain ⟨hz0, hz1⟩ := hb
    have hbox : Kd.C Kd.string (w.alloc (.cells #[.string a0, .string a1] 9)) (some ⟨w.heap.size, 0, none⟩) 2 [a0, a1] :=
      Kd.C_of_reads (d := ByteArray.empty) (h1 := fun _ => rfl) ⟨rfl, by decide, fun _ => ⟨_, rfl, fun j hj => by
        rw [add_plain]
        match j, hj with
        | 0, _ => exact (blk_cell (heap_alloc_new w _) 0).trans rfl
        | 1, _ => exact (blk_cell (heap_alloc_new w _) 1).trans rfl⟩⟩
    have hb1 : Below w.heap.size w (w.alloc (.cells #[.string a0, .string a1] 9)) := (Below.refl _ _).alloc (Nat.le_refl _) _
    by_cases hv : vld a0 = true ∧ vld a1 = true
    · rw [if_pos hv] at h
      obtain ⟨rfl, rfl⟩ : ((occ a0 a1 0).length : Int) = r1 ∧ 0 = r2 := by simpa using h
      have HV := Lib.hid (text_valid.calls (some ⟨w.heap.size, 0, none⟩) 2 [a0, a1] 0 _ hbox (Nat.le_refl _) (by simp [text_valid.f, hv.1, hv.2]))
      have hol := occ_length a0 a1 0
      have HC : Aside0 (∀ W : World, CallsIn Fence.wide 7 Tryz.prog 118 #[.func (.func 150) #[] #[.pointer (some ⟨W.heap.size, 0, none⟩), .pointer (some ⟨W.heap.size + 1, 0, none⟩)]] ((W.alloc (.cells #[.string a0] 9)).alloc (.cells #[.string a1] 9)) fun e W' =>
          ∃ v, e = .returned v ∧ W'.ownsRow ((W.alloc (.cells #[.string a0] 9)).alloc (.cells #[.string a1] 9)).heap.size 3 1 v (occ a0 a1 0).length ((occ a0 a1 0).map (Value.int .i64)) ∧ Below ((W.alloc (.cells #[.string a0] 9)).alloc (.cells #[.string a1] 9)).heap.size ((W.alloc (.cells #[.string a0] 9)).alloc (.cells #[.string a1] 9)) W') :=
        ⟨fun W => colli_in Fence.wide 7 trivial trivial rfl (by omega) 150 _ trivial (enters_of Tryz.func150 (by kernel_rfl) rfl) (occ a0 a1 0) (by omega) _
          (found_stops (7 - 1 - 1) (by omega) W.heap.size (W.heap.size + 1) a0 a1 hz0 hz1 _ (by simp; omega) (by simp)
            ((World.cell?_alloc_lt _ _ _ (by simp)).trans ((blk_cell (heap_alloc_new W _) 0).trans rfl)) (by have := (blk_cell (heap_alloc_new (W.alloc (.cells #[.string a0] 9)) (.cells #[.string a1] 9)) 0); rw [World.size_alloc] at this; exact this.trans rfl))⟩
      have HF : Aside0 (∀ W : World, CallsIn Fence.wide 7 Tryz.prog 119 #[.string a0, .string a1] W fun e w' => e = .returned (.func (.func 150) #[] #[.pointer (some ⟨W.heap.size, 0, none⟩), .pointer (some ⟨W.heap.size + 1, 0, none⟩)]) ∧ w' = (W.alloc (.cells #[.string a0] 9)).alloc (.cells #[.string a1] 9)) := ⟨fun W => found_in 7 a0 a1 W⟩
      have HB := Aside0.mk hb1
      clear hbox hb1 hv h hz0 hz1
      refine (callsIn_wide (n := 8)).1 ?_
      refine callsIn_of_wp Tryz.func59 rfl trivial ?_ rfl
      simp only [Tryz.ntmps59, List.size_toArray, List.length_cons, List.length_nil, Nat.reduceAdd, Nat.reduceSub, Array.replicate_succ, Array.replicate_zero, List.push_toArray, List.append_toArray, List.nil_append, List.cons_append]
      have hf1 : Fence.wide.fn 93 := trivial
      have hf2 : Fence.wide.fn 119 := trivial
      have hf3 : Fence.wide.fn 118 := trivial
      gi_wp2_with (first | (gi_at_call 93; refine (callsIn_wide.2 HV.out).mono ?_; rintro e w1 ⟨rfl, hb1⟩) | (gi_at_call 119; refine (HF.out _).mono ?_; rintro e w' ⟨rfl, rfl⟩) | (gi_at_call 118; refine (HC.out _).mono ?_; rintro e w3 ⟨v, rfl, hrow, hb3⟩; obtain ⟨A, c, rfl⟩ := own_slice hrow))
      go_ret2
      exact ⟨rfl, below_step (below_alloc (below_alloc (below_step HB.out hb1) _) _) hb3⟩
    · rw [if_neg hv] at h
      obtain ⟨rfl, rfl⟩ : 0 = r1 ∧ 1 = r2 := by simpa using h
      have HV := Lib.hid (text_valid.calls (some ⟨w.heap.size, 0, none⟩) 2 [a0, a1] 1 _ hbox (Nat.le_refl _) (by
        have : ([a0, a1].all vld) ≠ true := by simpa using hv
        simp only [text_valid.f, if_neg this]))
      have HB := Aside0.mk hb1
      clear hbox hb1 hv h hz0 hz1
      go_enter Tryz.func59, Tryz.ntmps59
      go_wp2_with (go_at_call 93; refine HV.out.mono ?_; rintro e w1 ⟨rfl, hb1⟩)
      go_ret2
      exact ⟨rfl, below_step HB.out hb1⟩
  · rw [if_neg hb] at h
    cases h

end Go.Proofs.YtlekfhnlhdmekaaGreatDoor.T

/- text.Change returns what text_Change.f says. -/
namespace Go.Proofs.YtlekfhnlhdmekaaGreatDoor.T
set_option linter.unusedSimpArgs false
set_option linter.unusedVariables false
open Go.RowKit Go.Proofs.YtlekfhnlhdmekaaGreatDoorW.PrintWords Go.Proofs.YtlekfhnlhdmekaaGreatDoorW.PrintLast Go.Proofs.YtlekfhnlhdmekaaGreatDoorW.PrintMore

attribute [local go_sem] Oper.semAt_some

/-- The bytes of s from e on, the occurrences at the offsets (m bytes each) replaced by w; and where what follows begins. -/
def chgGo (s w : List UInt8) (m : Nat) : Nat → List Int → List UInt8 × Nat
  | e, [] => ([], e)
  | e, q :: qs => ((s.drop e).take (q.toNat - e) ++ w ++ (chgGo s w m (q.toNat + m) qs).1, (chgGo s w m (q.toNat + m) qs).2)
theorem chgGo_snoc (s w : List UInt8) (m : Nat) (q : Int) : ∀ (l : List Int) (e : Nat), chgGo s w m e (l ++ [q]) = ((chgGo s w m e l).1 ++ ((s.drop (chgGo s w m e l).2).take (q.toNat - (chgGo s w m e l).2) ++ w), q.toNat + m)
  | [], e => by simp [chgGo]
  | p :: l, e => by simp only [List.cons_append, chgGo, chgGo_snoc s w m q l]; simp [List.append_assoc]
def text_Change.f (a0 a1 a2 : ByteArray) : Option (ByteArray × Int) :=
  if a0.size ≤ 2000 ∧ a1.size ≤ 2000 ∧ a2.size ≤ 2000 then
    (if vld a0 = true ∧ vld a1 = true ∧ vld a2 = true then
      text_made.f ⟨((chgGo a1.data.toList a2.data.toList a0.size 0 (occ a0 a1 0)).1 ++ a1.data.toList.drop (chgGo a1.data.toList a2.data.toList a0.size 0 (occ a0 a1 0)).2).toArray⟩
    else some (⟨#[]⟩, 1))
  else none
theorem bF_own (T e : TypeId) (B b : Nat) (f : List Int → List Value) (hT : T ≠ e) : Own (fun s W => Lib.IsBuilderF T e B b (f s) W) := by
  have key : ∀ (p : Value) (bs : List Value) (X Y : World) (row : Option Nat), Lib.BuilderAtF T e B b p bs X → X.grownBy Y row → (∀ r, row = some r → ∃ o : Obj, X.heap[r]? = some o ∧ o.isCells = false) → Lib.BuilderAtF T e B b p bs Y := by
    rintro p bs X Y row ⟨hB, v, hb, hown, hne⟩ hg hr
    refine ⟨hB, v, (grownBy_keeps_cells hg hr hb rfl).trans hb, hown.kept hg ?_, hne⟩
    rcases hown.2 with ⟨rfl, _⟩ | ⟨g, cap, cur, fz, rfl, _, hgg, _⟩
    · exact .inl rfl
    · refine .inr fun e' => ?_
      obtain ⟨o, ho, hc⟩ := hr g (by simpa [Value.ownBlock] using e'.symm)
      rw [hgg] at ho; cases ho; cases hc
  rintro s X Y row h hg hr
  exact h.elim (fun h => .inl (key _ _ X Y row h hg hr)) (fun h => .inr (key _ _ X Y row h hg hr))
theorem WrS_k (B b : Nat) (bs : List Value) (s : ByteArray) (w : World) (h : Lib.IsBuilderF 127 5 B b bs w) (hlen : bs.length + s.size ≤ 140737488355328) (hBw : B ≤ w.heap.size) :
    Calls Tryz.prog 120 #[.pointer (some ⟨b, 0, none⟩), .string s] w fun e w' => e = .returned (.tuple #[.int .i64 s.size, .nilIface]) ∧ (Lib.BuilderAtF 127 5 B b (.pointer (some ⟨b, 0, none⟩)) (bs ++ Lib.strCells s) w' ∧ Below B w w' ∧ Lib.OthersKept 5 (some b) w w') :=
  Any.Builder_WriteString_k { Tryz.lays156 with } Tryz.Builder_Extra_156 B b bs s w h hlen hBw

/-- A piece of code that ends as it goes on. -/
def OnlyN (Q : Act → World → Prop) : Exit → Act → World → Prop
  | .normal, a, w => Q a w
  | _, _, _ => False
theorem wpIn_normal {F : Fence} {n : Nat} {P : Program} {c : Code} {Q : Exit → Act → World → Prop} {a : Act} {w : World} (h : c.wpIn F n P (OnlyN (Q .normal)) a w) : c.wpIn F n P Q a w :=
  wpIn_mono h (fun e a w h => by cases e <;> first | exact h | exact h.elim)
/-! What the offsets are good for. -/
theorem occ_pre (a s : ByteArray) (S T : List UInt8) : ∀ (pre : List Int) (x : Int) (i : Nat), (pre ++ [x]) <+: occ a s i → ((chgGo S T a.size i pre).2 : Int) ≤ x ∧ x + (a.size : Int) ≤ (s.size : Int)
  | [], x, i, h => by
    rw [occ] at h
    split at h
    · next hc =>
      have hl := fnd_lo a s i hc
      have : x = fnd a s i := by
        obtain ⟨t, ht⟩ := h
        simp at ht
        exact ht.1
      subst this
      exact ⟨hl.1, hl.2.1⟩
    · exact absurd (List.eq_nil_of_prefix_nil h) (by simp)
  | q :: pre, x, i, h => by
    rw [occ] at h
    split at h
    · next hc =>
      obtain ⟨t, ht⟩ := h
      rw [List.cons_append, List.cons_append] at ht
      injection ht with h1 h2
      rw [h1, chgGo]
      exact occ_pre a s S T pre x _ ⟨t, h2⟩
    · exact absurd (List.eq_nil_of_prefix_nil h) (by simp)
theorem occ_end (a s : ByteArray) (S T : List UInt8) (i : Nat) (hi : i ≤ s.size) : (chgGo S T a.size i (occ a s i)).2 ≤ s.size := by
  rw [occ]
  split
  · next hc =>
    have hl := fnd_lo a s i hc
    rw [chgGo]
    exact occ_end a s S T _ (by omega)
  · exact hi
termination_by s.size - i
decreasing_by
  have := fnd_lo a s i (by assumption)
  omega
theorem chg_len (S T : List UInt8) (m : Nat) : ∀ (l : List Int) (e : Nat), (chgGo S T m e l).1.length ≤ l.length * (S.length + T.length)
  | [], e => by simp [chgGo]
  | q :: l, e => by
    have ih := chg_len S T m l (q.toNat + m)
    simp only [chgGo, List.length_append, List.length_cons, List.length_take, List.length_drop, Nat.add_mul, Nat.one_mul]
    omega
/-! What holds when the offsets pre have been gone through. -/
def ChI (w : World) (a0 a1 a2 : ByteArray) (b B : Nat) (pre : List Int) (W : World) : Prop :=
  Lib.IsBuilderF 127 5 b b (Lib.byteCells (chgGo a1.data.toList a2.data.toList a0.size 0 pre).1) W ∧ W.heap[b + 1]? = some (.cells #[.int .i64 ((chgGo a1.data.toList a2.data.toList a0.size 0 pre).2 : Int)] 3 (0, 0)) ∧
  W.heap[w.heap.size]? = some (.cells #[.string a0] 9 (0, 0)) ∧ W.heap[w.heap.size + 1]? = some (.cells #[.string a1] 9 (0, 0)) ∧ W.heap[w.heap.size + 1 + 1]? = some (.cells #[.string a2] 9 (0, 0)) ∧ Below w.heap.size w W ∧ B ≤ W.heap.size ∧ W.heap[b + 1 + 1]? = some (.cells #[.string a0] 9 (0, 0)) ∧ W.heap[b + 1 + 1 + 1]? = some (.cells #[.string a1] 9 (0, 0))
theorem ch_own (w : World) (a0 a1 a2 : ByteArray) (b B : Nat) (hB : w.heap.size ≤ B) : OwnFrom B (ChI w a0 a1 a2 b B) := by
  rintro s X Y row ⟨h1, h2, h3, h4, h5, h6, h7, h8, h9⟩ hg hr
  have hr' : ∀ r, row = some r → ∃ o : Obj, X.heap[r]? = some o ∧ o.isCells = false := fun r e => (hr r e).2
  exact ⟨bF_own 127 5 b b (fun s => Lib.byteCells (chgGo a1.data.toList a2.data.toList a0.size 0 s).1) (by decide) s X Y row h1 hg hr', (grownBy_keeps_cells hg hr' h2 rfl).trans h2, (grownBy_keeps_cells hg hr' h3 rfl).trans h3, (grownBy_keeps_cells hg hr' h4 rfl).trans h4,
    (grownBy_keeps_cells hg hr' h5 rfl).trans h5, h6.grown hg (Nat.le_trans hB h7) (fun k e => Nat.le_trans hB (hr k e).1), Nat.le_trans h7 hg.size, (grownBy_keeps_cells hg hr' h8 rfl).trans h8, (grownBy_keeps_cells hg hr' h9 rfl).trans h9⟩
/-- Two cells stay. -/
def KpC (b : Nat) (W W' : World) : Prop := W'.cell? ⟨b + 1 + 1, 0, none⟩ = W.cell? ⟨b + 1 + 1, 0, none⟩ ∧ W'.cell? ⟨b + 1 + 1 + 1, 0, none⟩ = W.cell? ⟨b + 1 + 1 + 1, 0, none⟩
/-- One round's step of the invariant. -/
theorem ch_step (w : World) (a0 a1 a2 : ByteArray) (b B : Nat) (pre : List Int) (q : Nat) (W W1 : World) (hb0 : w.heap.size + 1 + 1 < b) (hB : b + 1 + 1 + 1 < B)
    (h : ChI w a0 a1 a2 b B pre W) (s : ByteArray) (hs : s = a1.extract (chgGo a1.data.toList a2.data.toList a0.size 0 pre).2 q ++ a2)
    (k1 : Lib.BuilderAtF 127 5 b b (.pointer (some ⟨b, 0, none⟩)) (Lib.byteCells (chgGo a1.data.toList a2.data.toList a0.size 0 pre).1 ++ Lib.strCells s) W1) (k2 : Below b W W1) (k3 : Lib.OthersKept 5 (some b) W W1) :
    W1.heap[b + 1]? = some (.cells #[.int .i64 ((chgGo a1.data.toList a2.data.toList a0.size 0 pre).2 : Int)] 3 (0, 0)) ∧ W1.heap[w.heap.size]? = some (.cells #[.string a0] 9 (0, 0)) ∧
      KeepsFrom B W (W1.setCell ⟨b + 1, 0, none⟩ (.int .i64 ((q : Int) + (a0.size : Int)))) ∧ KpC b W (W1.setCell ⟨b + 1, 0, none⟩ (.int .i64 ((q : Int) + (a0.size : Int)))) ∧ ChI w a0 a1 a2 b B (pre ++ [(q : Int)]) (W1.setCell ⟨b + 1, 0, none⟩ (.int .i64 ((q : Int) + (a0.size : Int)))) := by
  obtain ⟨h1, h2, h3, h4, h5, h6, h7, hq1, hq2⟩ := h
  have kc : ∀ k o, W.heap[k]? = some o → k ≠ b → (∀ c fz, o ≠ .cells c 5 fz) → W1.heap[k]? = some o := fun k o ho hk hn => k3 k o ho (by simpa using hk) hn
  have e2 := kc _ _ h2 (by omega) (fun c fz e => by cases e)
  have e3 := kc _ _ h3 (by omega) (fun c fz e => by cases e)
  have e4 := kc _ _ h4 (by omega) (fun c fz e => by cases e)
  have e5 := kc _ _ h5 (by omega) (fun c fz e => by cases e)
  have e6 := kc _ _ hq1 (by omega) (fun c fz e => by cases e)
  have e7 := kc _ _ hq2 (by omega) (fun c fz e => by cases e)
  have far : ∀ k, k ≠ b + 1 → (W1.setCell ⟨b + 1, 0, none⟩ (.int .i64 ((q : Int) + (a0.size : Int)))).heap[k]? = W1.heap[k]? := fun k hk => Below.heap_setCell _ _ _ _ hk
  refine ⟨e2, e3, ?_, ?_, ?_⟩
  · refine ⟨?_, fun i o hi ho hc => ?_⟩
    · have := k2.size; rw [World.size_setCell]; exact this
    · rw [far i (by omega)]
      exact kc i o ho (by omega) (fun c fz e => by rw [e] at hc; cases hc)
  · refine ⟨?_, ?_⟩
    · rw [World.cell?_of_block (a := ⟨b + 1 + 1, 0, none⟩) (far (b + 1 + 1) (by omega)), World.cell?_of_block (a := ⟨b + 1 + 1, 0, none⟩) (e6.trans hq1.symm)]
    · rw [World.cell?_of_block (a := ⟨b + 1 + 1 + 1, 0, none⟩) (far (b + 1 + 1 + 1) (by omega)), World.cell?_of_block (a := ⟨b + 1 + 1 + 1, 0, none⟩) (e7.trans hq2.symm)]
  · have es : (chgGo a1.data.toList a2.data.toList a0.size 0 (pre ++ [(q : Int)])) = ((chgGo a1.data.toList a2.data.toList a0.size 0 pre).1 ++ s.data.toList, q + a0.size) := by
      rw [chgGo_snoc, hs, ByteArray.data_append, Array.toList_append, ByteArray.data_extract, Array.toList_extract, List.extract_eq_take_drop]
      simp
    unfold ChI
    rw [es]
    refine ⟨.inr ?_, ?_, (far _ (by omega)).trans e3, (far _ (by omega)).trans e4, (far _ (by omega)).trans e5, (h6.trans (k2.mono (by omega))).setCell (p := ⟨b + 1, 0, none⟩) (by show _ ≤ b + 1; omega) _, ?_⟩
    · have e : Lib.byteCells ((chgGo a1.data.toList a2.data.toList a0.size 0 pre).1 ++ s.data.toList) = Lib.byteCells (chgGo a1.data.toList a2.data.toList a0.size 0 pre).1 ++ Lib.strCells s := by simp [Lib.byteCells, Lib.strCells]
      rw [e]
      obtain ⟨g1, v, g2, g3, g4⟩ := k1
      refine ⟨g1, v, (far _ (by omega)).trans g2, g3.kept (row := some (b + 1)) ⟨rfl, rfl, rfl, ?_, fun k _ hk => far k (by simpa using hk)⟩ ?_, g4⟩
      · rw [World.size_setCell]; exact Nat.le_refl _
      · refine .inr fun e' => ?_
        rcases g3.2 with ⟨rfl, _⟩ | ⟨g, cap, cur, fz, rfl, _, hgg, _⟩
        · simp [Value.ownBlock] at e'
        · have : g = b + 1 := by simpa [Value.ownBlock] using e'
          subst this
          rw [e2] at hgg
          cases hgg
    · exact (blk_put e2 0 _ rfl).trans (by simp)
    · refine ⟨?_, (far _ (by omega)).trans e6, (far _ (by omega)).trans e7⟩
      have := k2.size; rw [World.size_setCell]; omega

set_option maxRecDepth 100000 in
set_option maxHeartbeats 4000000 in
theorem text_Change.calls (a0 a1 a2 : ByteArray) (r1 : ByteArray) (r2 : Int) (w : World) (h : text_Change.f a0 a1 a2 = some (r1, r2)) :
    Calls Tryz.prog 60 #[.string a0, .string a1, .string a2] w fun e w' => e = .returned (.tuple #[.string r1, .int .i64 r2]) ∧ Below w.heap.size w w' := by
  unfold text_Change.f at h
  by_cases hb : a0.size ≤ 2000 ∧ a1.size ≤ 2000 ∧ a2.size ≤ 2000
  · rw [if_pos hb] at h
    obtain ⟨hz0, hz1, hz2⟩ := hb
    obtain ⟨W0, hW0⟩ : ∃ W0, (((w.alloc (.cells #[.string a0] 9)).alloc (.cells #[.string a1] 9)).alloc (.cells #[.string a2] 9)) = W0 := ⟨_, rfl⟩
    have hs0 : W0.heap.size = w.heap.size + 1 + 1 + 1 := by rw [← hW0]; simp
    have q0 : W0.heap[w.heap.size]? = some (.cells #[.string a0] 9 (0, 0)) := by
      rw [← hW0]; exact (Below.heap_alloc _ _ _ (by simp <;> omega)).trans ((Below.heap_alloc _ _ _ (by simp)).trans (heap_alloc_new w _))
    have q1 : W0.heap[w.heap.size + 1]? = some (.cells #[.string a1] 9 (0, 0)) := by
      rw [← hW0]; refine (Below.heap_alloc _ _ _ (by simp)).trans ?_
      have := heap_alloc_new (w.alloc (.cells #[.string a0] 9)) (.cells #[.string a1] 9)
      rwa [World.size_alloc] at this
    have q2 : W0.heap[w.heap.size + 1 + 1]? = some (.cells #[.string a2] 9 (0, 0)) := by
      rw [← hW0]
      have := heap_alloc_new ((w.alloc (.cells #[.string a0] 9)).alloc (.cells #[.string a1] 9)) (.cells #[.string a2] 9)
      rwa [World.size_alloc, World.size_alloc] at this
    have k0 : W0.cell? ⟨w.heap.size, 0, none⟩ = some (.string a0) := (blk_cell q0 0).trans rfl
    have k1 : W0.cell? ⟨w.heap.size + 1, 0, none⟩ = some (.string a1) := (blk_cell q1 0).trans rfl
    have k2 : W0.cell? ⟨w.heap.size + 1 + 1, 0, none⟩ = some (.string a2) := (blk_cell q2 0).trans rfl
    have HB0 : Aside0 (Below w.heap.size w W0) := ⟨by rw [← hW0]; exact below_alloc (below_alloc (below_alloc (Below.refl _ _) _) _) _⟩
    have hV := fun W => pre93 [a0, a1, a2] W
    have hcond : ([a0, a1, a2] : List ByteArray).all vld = true ↔ (vld a0 = true ∧ vld a1 = true ∧ vld a2 = true) := by simp
    have HQ0 := Aside0.mk q0
    have HQ1 := Aside0.mk q1
    have HQ2 := Aside0.mk q2
    have HS0 := Aside0.mk hs0
    clear q0 q1 q2 hs0
    by_cases hv : vld a0 = true ∧ vld a1 = true ∧ vld a2 = true
    · rw [if_pos hv] at h
      simp only [if_pos (hcond.2 hv)] at hV
      have HV := Lib.hid hV
      clear hV hcond hv
      have HF : Aside0 (∀ W : World, CallsIn Fence.wide 7 Tryz.prog 119 #[.string a0, .string a1] W fun e w' => e = .returned (.func (.func 150) #[] #[.pointer (some ⟨W.heap.size, 0, none⟩), .pointer (some ⟨W.heap.size + 1, 0, none⟩)]) ∧ w' = (W.alloc (.cells #[.string a0] 9)).alloc (.cells #[.string a1] 9)) := ⟨fun W => found_in 7 a0 a1 W⟩
      refine (callsIn_wide (n := 8)).1 ?_
      refine callsIn_of_wp_marks Tryz.func60 rfl trivial ?_ rfl
      simp only [Tryz.ntmps60, List.size_toArray, List.length_cons, List.length_nil, Nat.reduceAdd, Nat.reduceSub, Array.replicate_succ, Array.replicate_zero, List.push_toArray, List.append_toArray, List.nil_append, List.cons_append]
      have hf1 : Fence.wide.fn 93 := trivial
      have hf2 : Fence.wide.fn 119 := trivial
      gi_wp2_with (first | (gi_at_call 93; refine (callsIn_wide.2 (HV.out _)).mono ?_; rintro e w1 ⟨rfl, hb1⟩; have k0' : w1.cell? ⟨w.heap.size, 0, none⟩ = some (.string a0) := (blk_cell ((hb1.block _ (by rw [HS0.out]; omega)).trans HQ0.out) 0).trans rfl; have k1' : w1.cell? ⟨w.heap.size + 1, 0, none⟩ = some (.string a1) := (blk_cell ((hb1.block _ (by rw [HS0.out]; omega)).trans HQ1.out) 0).trans rfl; have k2' : w1.cell? ⟨w.heap.size + 1 + 1, 0, none⟩ = some (.string a2) := (blk_cell ((hb1.block _ (by rw [HS0.out]; omega)).trans HQ2.out) 0).trans rfl; have HB1 := Aside0.mk hb1; have hz1' : w.heap.size + 1 + 1 < w1.heap.size := (by have := HB1.out.size; have := HS0.out; omega); have hz1a : w.heap.size + 1 < w1.heap.size := (by omega); have hz1b : w.heap.size < w1.heap.size := (by omega); clear hb1) | (gi_at_call 119; refine (HF.out _).mono ?_; rintro e w' ⟨rfl, rfl⟩))
      obtain ⟨WX, hWX⟩ : ∃ WX, ((((w1.alloc (.cells #[.pointer none, .slice none 0 0] 127)).alloc (.cells #[.int .i64 0] 3)).alloc (.cells #[.string a0] 9)).alloc (.cells #[.string a1] 9)) = WX := ⟨_, rfl⟩
      rw [hWX]
      have hsx : WX.heap.size = w1.heap.size + 1 + 1 + 1 + 1 := by rw [← hWX]; simp
      have x0 : WX.heap[w1.heap.size]? = some (.cells #[.pointer none, .slice none 0 0] 127 (0, 0)) := by
        rw [← hWX]; exact (Below.heap_alloc _ _ _ (by simp <;> omega)).trans ((Below.heap_alloc _ _ _ (by simp <;> omega)).trans ((Below.heap_alloc _ _ _ (by simp)).trans (heap_alloc_new w1 _)))
      have x1 : WX.heap[w1.heap.size + 1]? = some (.cells #[.int .i64 0] 3 (0, 0)) := by
        rw [← hWX]; refine (Below.heap_alloc _ _ _ (by simp <;> omega)).trans ((Below.heap_alloc _ _ _ (by simp)).trans ?_)
        have := heap_alloc_new (w1.alloc (.cells #[.pointer none, .slice none 0 0] 127)) (.cells #[.int .i64 0] 3)
        rwa [World.size_alloc] at this
      have x2 : WX.heap[w1.heap.size + 1 + 1]? = some (.cells #[.string a0] 9 (0, 0)) := by
        rw [← hWX]; refine (Below.heap_alloc _ _ _ (by simp)).trans ?_
        have := heap_alloc_new ((w1.alloc (.cells #[.pointer none, .slice none 0 0] 127)).alloc (.cells #[.int .i64 0] 3)) (.cells #[.string a0] 9)
        rwa [World.size_alloc, World.size_alloc] at this
      have x3 : WX.heap[w1.heap.size + 1 + 1 + 1]? = some (.cells #[.string a1] 9 (0, 0)) := by
        rw [← hWX]
        have := heap_alloc_new (((w1.alloc (.cells #[.pointer none, .slice none 0 0] 127)).alloc (.cells #[.int .i64 0] 3)).alloc (.cells #[.string a0] 9)) (.cells #[.string a1] 9)
        rwa [World.size_alloc, World.size_alloc, World.size_alloc] at this
      have hbX : Below w1.heap.size w1 WX := by rw [← hWX]; exact below_alloc (below_alloc (below_alloc (below_alloc (Below.refl _ _) _) _) _) _
      have hB1 := HB1.out
      have hI0 : ChI w a0 a1 a2 w1.heap.size WX.heap.size [] WX := by
        refine ⟨.inl ⟨Nat.le_refl _, .slice none 0 0, x0, World.ownsRowF_nil _ _ _ _, by simp [Value.ownBlock]⟩, x1, ?_, ?_, ?_, (HB0.out.trans (hB1.mono HB0.out.size)).trans (hbX.mono (by omega)), Nat.le_refl _, x2, x3⟩
        · exact (hbX.block _ (by omega)).trans ((hB1.block _ (by rw [HS0.out]; omega)).trans HQ0.out)
        · exact (hbX.block _ (by omega)).trans ((hB1.block _ (by rw [HS0.out]; omega)).trans HQ1.out)
        · exact (hbX.block _ (by omega)).trans ((hB1.block _ (by rw [HS0.out]; omega)).trans HQ2.out)
      have hnx := found_nx 7 (by omega) (w1.heap.size + 1 + 1) (w1.heap.size + 1 + 1 + 1) a0 a1 (by omega) (by omega) WX (KpC w1.heap.size) (by omega) (by omega) (fun _ _ h => h.1) (fun _ _ h => h.2) ((blk_cell x2 0).trans rfl) ((blk_cell x3 0).trans rfl)
      generalize hbb : w1.heap.size = b at *
      refine rf_law (F := Fence.wide) (n := 8) (gf := 150) (encs := fun x : Int => #[Value.int .i64 x]) (Kp := KpC b) (w0 := WX) (S := fun ys => ys = occ a0 a1 0) (Nx := fun pre x => (pre ++ [x]) <+: occ a0 a1 0) rfl (by omega) rfl trivial (enters_of Tryz.func150 (by kernel_rfl) rfl)
        (fun h k => ⟨k.1.trans h.1, k.2.trans h.2⟩) ?hKb hnx (Below.refl _ _) (fun x => rfl) (ChI w a0 a1 a2 b WX.heap.size) (ch_own w a0 a1 a2 b WX.heap.size (by omega)) hI0
        (fun x a' _ => a' = { tmps := #[.string a0, .string a1, .string a2, .pointer (some ⟨w.heap.size, 0, none⟩), .pointer (some ⟨w.heap.size + 1, 0, none⟩), .pointer (some ⟨w.heap.size + 1 + 1, 0, none⟩), .string ⟨#[]⟩, .int .i64 0, .int .i64 0, .pointer (some ⟨b, 0, none⟩), .pointer (some ⟨b + 1, 0, none⟩), .int .i64 x, .string a0, .string a1, .string a2, .slice (some ⟨W0.heap.size, 0, none⟩) 3 3, .int .i64 0, .int .i64 0, .bool false, undef, .string a0, .string a1, .func (.func 150) #[] #[.pointer (some ⟨b + 1 + 1, 0, none⟩), .pointer (some ⟨b + 1 + 1 + 1, 0, none⟩)], .int .i64 x, undef, undef, undef, undef, undef, undef, undef, undef, undef, undef, undef, undef, undef, undef, undef, undef, undef, undef, undef], defers := [] }) ?hAx ?hassign ?hbody ?hdone
      case hKb =>
        intro W l o o' hl ho hc hw
        exact ⟨World.cell?_of_block (a := ⟨b + 1 + 1, 0, none⟩) (World.putObj_heap_other (by show b + 1 + 1 ≠ l; omega)), World.cell?_of_block (a := ⟨b + 1 + 1 + 1, 0, none⟩) (World.putObj_heap_other (by show b + 1 + 1 + 1 ≠ l; omega))⟩
      case hAx => exact fun x a' s W W' row h _ _ => h
      case hassign =>
        intro l pre x W K hi hK
        gi_wp2
        exact hK _ _ (KeepsFrom.refl _ _) ⟨rfl, rfl⟩ hi rfl
      case hbody =>
        rintro l pre x a' W hnx2 hi rfl
        obtain ⟨p1, p2⟩ := occ_pre a0 a1 a1.data.toList a2.data.toList pre x 0 hnx2
        have hlen := chg_len a1.data.toList a2.data.toList a0.size pre 0
        have hpl : pre.length ≤ 2000 := by
          have h1 := hnx2.length_le
          have h2 := occ_length a0 a1 0
          rw [List.length_append] at h1
          simp at h1
          omega
        have hl1 : a1.data.toList.length = a1.size := data_length a1
        have hl2 : a2.data.toList.length = a2.size := data_length a2
        have hcl : (chgGo a1.data.toList a2.data.toList a0.size 0 pre).1.length ≤ 10000000 := by
          have : pre.length * (a1.data.toList.length + a2.data.toList.length) ≤ 2000 * 4000 := Nat.mul_le_mul hpl (by omega)
          omega
        obtain ⟨q, rfl⟩ := Int.eq_ofNat_of_zero_le (show 0 ≤ x by omega)
        have HSTEP := Aside0.mk (fun s W1 hs k1 k2 k3 => ch_step w a0 a1 a2 b WX.heap.size pre q W W1 hz1' (by omega) hi s hs k1 k2 k3)
        obtain ⟨i1, i2, i3, i4, i5, i6, i7, i8, i9⟩ := hi
        have c0 : W.cell? ⟨w.heap.size, 0, none⟩ = some (.string a0) := (blk_cell i3 0).trans rfl
        have c1 : W.cell? ⟨w.heap.size + 1, 0, none⟩ = some (.string a1) := (blk_cell i4 0).trans rfl
        have c2 : W.cell? ⟨w.heap.size + 1 + 1, 0, none⟩ = some (.string a2) := (blk_cell i5 0).trans rfl
        have ce : W.cell? ⟨b + 1, 0, none⟩ = some (.int .i64 ((chgGo a1.data.toList a2.data.toList a0.size 0 pre).2 : Int)) := (blk_cell i2 0).trans rfl
        have HWR := Aside0.mk (fun (s : ByteArray) (hs : s.size ≤ 10000000) => (WrS_k b b (Lib.byteCells (chgGo a1.data.toList a2.data.toList a0.size 0 pre).1) s W.drew i1 (by rw [Lib.byteCells_length]; omega) (show b ≤ W.heap.size by omega)).mono (R' := fun e' w' => e' = .returned (.tuple #[.int .i64 s.size, .nilIface]) ∧ Lib.BuilderAtF 127 5 b b (.pointer (some ⟨b, 0, none⟩)) (Lib.byteCells (chgGo a1.data.toList a2.data.toList a0.size 0 pre).1 ++ Lib.strCells s) w' ∧ Below b W w' ∧ Lib.OthersKept 5 (some b) W w') (fun e' w' h => ⟨h.1, h.2.1, ⟨h.2.2.1.os, h.2.2.1.tape, h.2.2.1.output, h.2.2.1.size, h.2.2.1.block⟩, h.2.2.2⟩))
        have HI2 := Aside0.mk i2
        clear hlen hpl hl1 hl2 hcl i1 i2 i3 i4 i5 i6 i8 i9 hnx2
        generalize chgGo a1.data.toList a2.data.toList a0.size 0 pre = ce' at *
        obtain ⟨L, e⟩ := ce'
        simp only at p1 ce HSTEP HWR HI2
        have heq : e ≤ q := by omega
        have hqs : q ≤ a1.size := by omega
        have hes : e ≤ a1.size := by omega
        obtain ⟨sz, hsz⟩ : ∃ sz, (a1.extract e q ++ a2) = sz := ⟨_, rfl⟩
        have hw1 := HWR.out sz (by rw [← hsz, ByteArray.size_append, ByteArray.size_extract]; omega)
        have HW1 := Lib.hid hw1
        have hn1 : q - e + a2.size ≤ 9223372036854775807 := by omega
        have d1 : (9223372036854775807 < q - e + a2.size) = False := eq_false (by omega)
        have HSZ := Aside0.mk hsz
        clear hw1
        gi_wp2
        have hmx : Tryz.prog.follows .mixedOrders = true := by kernel_rfl
        gi_region_with_o (refine ⟨trivial, ?_⟩; gi_at_call 120; refine (CallsIn.inRound l (callsIn_wide.2 HW1.out)).mono ?_; rintro e' w' ⟨rfl, k1, k2, k3⟩)
        all_goals
          obtain ⟨f1, f2, f3, f4, f5⟩ := HSTEP.out sz w' HSZ.out.symm k1 k2 k3
          have m0 : w'.cell? ⟨w.heap.size, 0, none⟩ = some (.string a0) := (blk_cell f2 0).trans rfl
          have m1 : w'.cell? ⟨b + 1, 0, none⟩ = some (.int .i64 (e : Int)) := (blk_cell f1 0).trans rfl
          have m2 := blk_frozen f1 0
          have F345 := Aside0.mk (And.intro f3 (And.intro f4 f5))
          clear f1 f2 f3 f4 f5 k1 k2 k3
          gi_wp2
          have F := F345.out
          rw [hsx] at F
          exact F
      case hdone =>
        rintro D xs W hD rfl hi hdef
        have hend := occ_end a0 a1 a1.data.toList a2.data.toList 0 (Nat.zero_le _)
        have hlen := chg_len a1.data.toList a2.data.toList a0.size (occ a0 a1 0) 0
        have hpl := occ_length a0 a1 0
        have hl1 : a1.data.toList.length = a1.size := data_length a1
        have hl2 : a2.data.toList.length = a2.size := data_length a2
        have hcl : (chgGo a1.data.toList a2.data.toList a0.size 0 (occ a0 a1 0)).1.length ≤ 10000000 := by
          have : (occ a0 a1 0).length * (a1.data.toList.length + a2.data.toList.length) ≤ 2000 * 4000 := Nat.mul_le_mul (by omega) (by omega)
          omega
        unfold ChI at hi
        clear hlen hpl hl1 hl2
        generalize chgGo a1.data.toList a2.data.toList a0.size 0 (occ a0 a1 0) = ce' at *
        obtain ⟨L, e⟩ := ce'
        simp only at h hi hend hcl
        obtain ⟨i1, i2, i3, i4, i5, i6, i7, i8, i9⟩ := hi
        obtain ⟨y, hy⟩ : ∃ y : ByteArray, (⟨L.toArray⟩ : ByteArray) = y := ⟨_, rfl⟩
        obtain ⟨z, hz⟩ : ∃ z : ByteArray, (⟨(L ++ a1.data.toList.drop e).toArray⟩ : ByteArray) = z := ⟨_, rfl⟩
        have hys : y.size ≤ 10000000 := by rw [← hy, ← data_length]; simpa using hcl
        have hcat : y ++ a1.extract e a1.size = z := by
          rw [← hy, ← hz]
          apply ByteArray.ext
          apply Array.toList_inj.1
          rw [ByteArray.data_append, Array.toList_append, ByteArray.data_extract, Array.toList_extract, List.extract_eq_take_drop]
          simp only
          rw [List.take_of_length_le]
          rw [List.length_drop, data_length]; exact Nat.le_refl _
        rw [hz] at h
        have hmk := fun W => text_made.calls z r1 r2 W h
        have HM := Lib.hid hmk
        have hst : ∀ W' : World, W'.heap = W.heap → W'.os = W.os → W'.tape = W.tape → W'.output = W.output → Calls Tryz.prog 121 #[.pointer (some ⟨b, 0, none⟩)] W' fun e' w' => e' = .returned (.string y) ∧ w'.cell? ⟨w.heap.size + 1, 0, none⟩ = some (.string a1) ∧ w'.cell? ⟨b + 1, 0, none⟩ = some (.int .i64 (e : Int)) ∧ Aside0 (Below w.heap.size w w' ∧ w'.heap[D]? = some (.deferred (some []))) := by
          intro W' hh ho ht hu
          have hi1 : Lib.IsBuilderF 127 5 b b (Lib.byteCells L) W' := by
            rcases i1 with ⟨g1, v, g2, g3, g4⟩ | ⟨g1, v, g2, g3, g4⟩
            · exact .inl ⟨g1, v, by rw [hh]; exact g2, ⟨g3.1, g3.2.imp id (fun ⟨g, cap, cur, fz, q1, q2, q3, q4⟩ => ⟨g, cap, cur, fz, q1, q2, by rw [hh]; exact q3, q4⟩)⟩, g4⟩
            · exact .inr ⟨g1, v, by rw [hh]; exact g2, ⟨g3.1, g3.2.imp id (fun ⟨g, cap, cur, fz, q1, q2, q3, q4⟩ => ⟨g, cap, cur, fz, q1, q2, by rw [hh]; exact q3, q4⟩)⟩, g4⟩
          refine (Tryz.Builder_String_any_k b b L W' hi1 (by rw [hh]; omega)).mono ?_
          rintro e' w' ⟨rfl, k1, k2, k3⟩
          have kc : ∀ k o, W.heap[k]? = some o → k ≠ b → (∀ c fz, o ≠ .cells c 5 fz) → w'.heap[k]? = some o := fun k o ho hk hn => k3 k o (by rw [hh]; exact ho) (by simpa using hk) hn
          have k2' : Below b W w' := ⟨k2.os.trans ho, k2.tape.trans ht, k2.output.trans hu, by have := k2.size; rwa [hh] at this, fun k hk => by rw [k2.block k hk, hh]⟩
          exact ⟨by rw [hy], (blk_cell (kc _ _ i4 (by omega) (fun c fz e => by cases e)) 0).trans rfl, (blk_cell (kc _ _ i2 (by omega) (fun c fz e => by cases e)) 0).trans rfl, ⟨i6.trans (k2'.mono (by omega)), kc _ _ hdef (by omega) (fun c fz e => by cases e)⟩⟩
        have hs1 := hst W rfl rfl rfl rfl
        have hs2 := hst W.drew rfl rfl rfl rfl
        have HS1 := Lib.hid hs1
        have HS2 := Lib.hid hs2
        have c1 : W.cell? ⟨w.heap.size + 1, 0, none⟩ = some (.string a1) := (blk_cell i4 0).trans rfl
        have ce : W.cell? ⟨b + 1, 0, none⟩ = some (.int .i64 (e : Int)) := (blk_cell i2 0).trans rfl
        have d1 : (9223372036854775807 < y.size + (a1.size - e)) = False := eq_false (by omega)
        have hmx : Tryz.prog.follows .mixedOrders = true := by kernel_rfl
        clear i1 i2 i3 i4 i5 i6 i8 i9 hy hz h hs1 hs2 hst hmk hdef
        gi_wp2
        refine wpIn_normal ?_
        gi_region_with_o (first | (refine ⟨trivial, ?_⟩; gi_at_call 121; first | (with_reducible refine (callsIn_wide.2 HS1.out).mono ?_) | (with_reducible refine (callsIn_wide.2 HS2.out).mono ?_); rintro e' w' ⟨rfl, k1, k2, k3⟩) | (refine ⟨trivial, ?_⟩; gi_at_call 113; refine (callsIn_wide.2 (HM.out _)).mono ?_; rintro e' w'' ⟨rfl, k4⟩))
        all_goals
          have hdl : D < w'.heap.size := (Array.getElem?_eq_some_iff.1 k3.out.2).1
          have hd : w''.heap[D]? = some (.deferred (some [])) := (k4.block D hdl).trans k3.out.2
          have hbb2 : Below w.heap.size w w'' := k3.out.1.trans (k4.mono k3.out.1.size)
          have HD := Aside0.mk hd
          have HBB := Aside0.mk (hbb2.grown (grownBy_putObj' w'' D (.deferred none)) hbb2.size (fun k e => by cases e; omega))
          clear hd hbb2 k3 k4 k1 k2 hdl
          rw [OnlyN]
          gi_wp2
          refine ⟨by simp, .inl ⟨_, _, rfl, run_takeDeferred HD.out, ?_⟩⟩
          exact ⟨_, results_tmp2 rfl _ _ _, rfl, HBB.out⟩
    · rw [if_neg hv] at h
      obtain ⟨rfl, rfl⟩ : (⟨#[]⟩ : ByteArray) = r1 ∧ 1 = r2 := by simpa using h
      simp only [if_neg (fun h => hv (hcond.1 h))] at hV
      have HV := Lib.hid hV
      clear hV hcond hv h hz0 hz1 hz2
      go_enter Tryz.func60, Tryz.ntmps60
      go_wp2_with (go_at_call 93; refine (HV.out _).mono ?_; rintro e w1 ⟨rfl, hb1⟩)
      go_ret2
      exact ⟨rfl, below_step HB0.out hb1⟩
  · rw [if_neg hb] at h
    cases h

end Go.Proofs.YtlekfhnlhdmekaaGreatDoor.T

-- Written by a program of this session (mp.py over the kit's print.py), out of the translation.
namespace Go.Proofs.YtlekfhnlhdmekaaGreatDoor.T
set_option linter.unusedSimpArgs false
open Go.RowKit Go.Proofs.YtlekfhnlhdmekaaGreatDoorW.PrintWords Go.Proofs.YtlekfhnlhdmekaaGreatDoorW.PrintLast Go.Proofs.YtlekfhnlhdmekaaGreatDoorW.PrintMore
attribute [local go_sem] max2_int min2_int max_two min_two max_three min_three max_four min_four   -- for this text's walks alone
set_option linter.unusedVariables false
set_option linter.unusedSimpArgs false

/-! ### qanatlaw02_TextSearches: function 8 -/
mutual
def qanatlaw02_TextSearches.j0 : Nat → ByteArray → ByteArray → ByteArray → Int → Bool → Bool → Option (Bool)
  | 0, _, _, _, _, _, _ => none
  | k + 1, x0, x1, x2, x3, x9, x29 => if x29 = true then (some x9) else ((text_Pos.f x0 x1 x3).bind fun bt630 => ((text_LastPos.f k x0 x1 x3).bind fun bt632 => ((text_Count.f x0 x1).bind fun bt634 => ((text_Change.f x0 x1 x2).bind fun bt636 => ((qanatref02_Pos.f k x0 x1 x3).bind fun bt638 => ((qanatlaw02_num.f bt630.1 bt630.2 bt638.1 bt638.2).bind fun t640 => (if t640 = true then ((qanatref02_LastPos.f k x0 x1 x3).bind fun bt641 => ((qanatlaw02_num.f bt632.1 bt632.2 bt641.1 bt641.2).bind fun t643 => (qanatlaw02_TextSearches.j1 k x0 x1 x2 x9 bt634.1 bt634.2 bt636.1 bt636.2 t643))) else (qanatlaw02_TextSearches.j1 k x0 x1 x2 x9 bt634.1 bt634.2 bt636.1 bt636.2 false))))))))
def qanatlaw02_TextSearches.j1 : Nat → ByteArray → ByteArray → ByteArray → Bool → Int → Int → ByteArray → Int → Bool → Option (Bool)
  | 0, _, _, _, _, _, _, _, _, _ => none
  | k + 1, x0, x1, x2, x9, x14, x15, x16, x17, x18 => if x9 = true then (if x18 = true then ((qanatref02_Count.f k x0 x1).bind fun bt644 => ((qanatlaw02_num.f x14 x15 bt644.1 bt644.2).bind fun t646 => (if t646 = true then ((qanatref02_Change.f k x0 x1 x2).bind fun bt647 => ((qanatlaw02_str.f x16 x17 bt647.1 bt647.2).bind fun t649 => (some t649))) else (some false)))) else (some false)) else (some false)
end
def qanatlaw02_TextSearches.f (k : Nat) (a0 : ByteArray) (a1 : ByteArray) (a2 : ByteArray) (a3 : Int) : Option (Bool) := (qanatlaw02_head.f k).bind fun t626 => ((qanatlaw02_long.f a0).bind fun t627 => (if t627 = true then (qanatlaw02_TextSearches.j0 k a0 a1 a2 a3 t626 true) else ((qanatlaw02_long.f a1).bind fun t628 => (if t628 = true then (qanatlaw02_TextSearches.j0 k a0 a1 a2 a3 t626 true) else ((qanatlaw02_long.f a2).bind fun t629 => (qanatlaw02_TextSearches.j0 k a0 a1 a2 a3 t626 t629))))))
theorem qanatlaw02_TextSearches.mono_l : ∀ k, (∀ y0 y1 y2 y3 y4 y5, LeO (qanatlaw02_TextSearches.j0 k y0 y1 y2 y3 y4 y5) (qanatlaw02_TextSearches.j0 (k + 1) y0 y1 y2 y3 y4 y5)) ∧ (∀ y0 y1 y2 y3 y4 y5 y6 y7 y8, LeO (qanatlaw02_TextSearches.j1 k y0 y1 y2 y3 y4 y5 y6 y7 y8) (qanatlaw02_TextSearches.j1 (k + 1) y0 y1 y2 y3 y4 y5 y6 y7 y8))
  | 0 => ⟨fun _ _ _ _ _ _ r h => by simp [qanatlaw02_TextSearches.j0] at h, fun _ _ _ _ _ _ _ _ _ r h => by simp [qanatlaw02_TextSearches.j1] at h⟩
  | k + 1 => by
    obtain ⟨ih0, ih1⟩ := qanatlaw02_TextSearches.mono_l k
    refine ⟨?_, ?_⟩
    · intro y0 y1 y2 y3 y4 y5
      unfold qanatlaw02_TextSearches.j0
      repeat' first
      | (with_reducible exact ih0 _ _ _ _ _ _)
      | (with_reducible exact ih1 _ _ _ _ _ _ _ _ _)
      | (with_reducible exact qanatlaw02_head.mono _)
      | (with_reducible exact qanatref02_Change.mono _ _ _ _)
      | (with_reducible exact qanatref02_Count.mono _ _ _)
      | (with_reducible exact qanatref02_LastPos.mono _ _ _ _)
      | (with_reducible exact qanatref02_Pos.mono _ _ _ _)
      | (with_reducible exact text_LastPos.mono _ _ _ _)
      | (with_reducible exact LeO.refl _)
      | (with_reducible exact LeO.none _)
      | (with_reducible refine LeO.ite ?_ ?_)
      | (with_reducible refine LeO.bind ?_ (fun _ => ?_))
      | exact ih0 _ _ _ _ _ _
      | exact ih1 _ _ _ _ _ _ _ _ _
      | exact qanatlaw02_head.mono _
      | exact qanatref02_Change.mono _ _ _ _
      | exact qanatref02_Count.mono _ _ _
      | exact qanatref02_LastPos.mono _ _ _ _
      | exact qanatref02_Pos.mono _ _ _ _
      | exact text_LastPos.mono _ _ _ _
      | exact LeO.none _
      | refine LeO.ite ?_ ?_
      | refine LeO.bind ?_ (fun _ => ?_)
    · intro y0 y1 y2 y3 y4 y5 y6 y7 y8
      unfold qanatlaw02_TextSearches.j1
      repeat' first
      | (with_reducible exact ih0 _ _ _ _ _ _)
      | (with_reducible exact ih1 _ _ _ _ _ _ _ _ _)
      | (with_reducible exact qanatlaw02_head.mono _)
      | (with_reducible exact qanatref02_Change.mono _ _ _ _)
      | (with_reducible exact qanatref02_Count.mono _ _ _)
      | (with_reducible exact qanatref02_LastPos.mono _ _ _ _)
      | (with_reducible exact qanatref02_Pos.mono _ _ _ _)
      | (with_reducible exact text_LastPos.mono _ _ _ _)
      | (with_reducible exact LeO.refl _)
      | (with_reducible exact LeO.none _)
      | (with_reducible refine LeO.ite ?_ ?_)
      | (with_reducible refine LeO.bind ?_ (fun _ => ?_))
      | exact ih0 _ _ _ _ _ _
      | exact ih1 _ _ _ _ _ _ _ _ _
      | exact qanatlaw02_head.mono _
      | exact qanatref02_Change.mono _ _ _ _
      | exact qanatref02_Count.mono _ _ _
      | exact qanatref02_LastPos.mono _ _ _ _
      | exact qanatref02_Pos.mono _ _ _ _
      | exact text_LastPos.mono _ _ _ _
      | exact LeO.none _
      | refine LeO.ite ?_ ?_
      | refine LeO.bind ?_ (fun _ => ?_)
theorem qanatlaw02_TextSearches.mono : ∀ a0 a1 a2 a3 k, LeO (qanatlaw02_TextSearches.f k a0 a1 a2 a3) (qanatlaw02_TextSearches.f (k + 1) a0 a1 a2 a3) := by
  intro a0 a1 a2 a3 k
  obtain ⟨ih0, ih1⟩ := qanatlaw02_TextSearches.mono_l k
  unfold qanatlaw02_TextSearches.f
  repeat' first
      | (with_reducible exact ih0 _ _ _ _ _ _)
      | (with_reducible exact ih1 _ _ _ _ _ _ _ _ _)
      | (with_reducible exact qanatlaw02_head.mono _)
      | (with_reducible exact qanatref02_Change.mono _ _ _ _)
      | (with_reducible exact qanatref02_Count.mono _ _ _)
      | (with_reducible exact qanatref02_LastPos.mono _ _ _ _)
      | (with_reducible exact qanatref02_Pos.mono _ _ _ _)
      | (with_reducible exact text_LastPos.mono _ _ _ _)
      | (with_reducible exact LeO.refl _)
      | (with_reducible exact LeO.none _)
      | (with_reducible refine LeO.ite ?_ ?_)
      | (with_reducible refine LeO.bind ?_ (fun _ => ?_))
      | exact ih0 _ _ _ _ _ _
      | exact ih1 _ _ _ _ _ _ _ _ _
      | exact qanatlaw02_head.mono _
      | exact qanatref02_Change.mono _ _ _ _
      | exact qanatref02_Count.mono _ _ _
      | exact qanatref02_LastPos.mono _ _ _ _
      | exact qanatref02_Pos.mono _ _ _ _
      | exact text_LastPos.mono _ _ _ _
      | exact LeO.none _
      | refine LeO.ite ?_ ?_
      | refine LeO.bind ?_ (fun _ => ?_)
set_option maxHeartbeats 8000000 in
set_option maxRecDepth 100000 in
theorem qanatlaw02_TextSearches.calls (k : Nat) (a0 : ByteArray) (a1 : ByteArray) (a2 : ByteArray) (a3 : Int) (r : Bool) (w : World) (hT : TabOK w) (h : qanatlaw02_TextSearches.f k a0 a1 a2 a3 = some r) :
    Calls Tryz.prog 8 #[.string a0, .string a1, .string a2, .int .i64 a3] w fun e w' => e = .returned (.bool r) ∧ Below w.heap.size w w' := by
  have HB := Aside0.mk (Below.refl w.heap.size w)
  have H : ((qanatlaw02_head.f k).bind fun t626 => ((qanatlaw02_long.f a0).bind fun t627 => (if t627 = true then (qanatlaw02_TextSearches.j0 k a0 a1 a2 a3 t626 true) else ((qanatlaw02_long.f a1).bind fun t628 => (if t628 = true then (qanatlaw02_TextSearches.j0 k a0 a1 a2 a3 t626 true) else ((qanatlaw02_long.f a2).bind fun t629 => (qanatlaw02_TextSearches.j0 k a0 a1 a2 a3 t626 t629))))))) = some r := h
  clear h
  replace H := Option.bind_eq_some_iff.mp H
  obtain ⟨t626, A50, H⟩ := H
  replace H : ((qanatlaw02_long.f a0).bind fun t627 => (if t627 = true then (qanatlaw02_TextSearches.j0 k a0 a1 a2 a3 t626 true) else ((qanatlaw02_long.f a1).bind fun t628 => (if t628 = true then (qanatlaw02_TextSearches.j0 k a0 a1 a2 a3 t626 true) else ((qanatlaw02_long.f a2).bind fun t629 => (qanatlaw02_TextSearches.j0 k a0 a1 a2 a3 t626 t629)))))) = some r := H
  have A5 := Aside0.mk A50
  clear A50
  have HC6 := Aside0.mk H
  clear H
  go_enter Tryz.func8, Tryz.ntmps8
  go_upto_region 2 with (first | ((with_reducible refine gate_callee (f := 15) rfl ?_); refine goesL_ (some 19) rfl rfl Tryz.func15 (by kernel_rfl) rfl #[] rfl (by (try simp only [List.map_toArray, List.map_cons, List.map_nil]); first | done | rfl | (simp only [List.length_drop, List.length_take]; rfl)) ?_; (with_reducible refine (qanatlaw02_head.calls k  t626 _ (TabOK.of_below hT (by repeat (first | (with_reducible first | exact HB.out | apply below_alloc | apply pw_below_drewN | apply below_drew1) | exact HB.out))) A5.out).mono ?_); rintro e w7 ⟨rfl, hb⟩; refine ⟨_, rfl, ?_⟩; have n0_ := Aside0.mk (below_step (by repeat (first | (with_reducible first | exact HB.out | apply below_alloc | apply pw_below_drewN | apply below_drew1) | exact HB.out)) hb); clear HB; have HB := n0_; clear n0_; (try clear hb); (try clear hb2); (try clear hk); (try clear hi)))
  (try simp only [Act.put, List.setIfInBounds_toArray, List.set_cons_zero, List.set_cons_succ])
  go_cut [29] (fun v29 wc => ∃ (kq : Nat) (x29_5 : Bool), v29 = .bool x29_5 ∧ Aside0 (qanatlaw02_TextSearches.j0 kq a0 a1 a2 a3 t626 x29_5 = some r) ∧ Aside0 (kq ≤ k) ∧ Aside0 (Below w.heap.size w wc))
  case first =>
    have H := HC6.out
    clear HC6
    replace H := Option.bind_eq_some_iff.mp H
    obtain ⟨t627, A80, H⟩ := H
    replace H : (if t627 = true then (qanatlaw02_TextSearches.j0 k a0 a1 a2 a3 t626 true) else ((qanatlaw02_long.f a1).bind fun t628 => (if t628 = true then (qanatlaw02_TextSearches.j0 k a0 a1 a2 a3 t626 true) else ((qanatlaw02_long.f a2).bind fun t629 => (qanatlaw02_TextSearches.j0 k a0 a1 a2 a3 t626 t629))))) = some r := H
    have A8 := Aside0.mk A80
    clear A80
    by_cases c9 : t627 = true
    · subst c9
      have H1 : (qanatlaw02_TextSearches.j0 k a0 a1 a2 a3 t626 true) = some r := by rw [if_pos rfl] at H; exact H
      clear H
      have H := H1
      clear H1
      have H' := Aside0.mk H
      clear H
      go_wp2_with (first | ((with_reducible refine gate_callee (f := 16) rfl ?_); refine goesL_ (some 21) rfl rfl Tryz.func16 (by kernel_rfl) rfl #[.string a0] rfl (by (try simp only [List.map_toArray, List.map_cons, List.map_nil]); first | done | rfl | (simp only [List.length_drop, List.length_take]; rfl)) ?_; (with_reducible refine (qanatlaw02_long.calls a0 true _ A8.out).mono ?_); rintro e w' ⟨rfl, ⟨nd, rfl⟩⟩; refine ⟨_, rfl, ?_⟩))
      go_meet
      case rel => exact ⟨_, (true), (by first | rfl | (simp; done) | (simp [*]; done)), H', ⟨by first | omega | exact Nat.le_refl _⟩, ⟨by repeat (first | (with_reducible first | exact HB.out | apply below_alloc | apply pw_below_drewN | apply below_drew1) | exact HB.out)⟩⟩
    · replace c9 := Bool.eq_false_iff.mpr c9
      subst c9
      have H1 : ((qanatlaw02_long.f a1).bind fun t628 => (if t628 = true then (qanatlaw02_TextSearches.j0 k a0 a1 a2 a3 t626 true) else ((qanatlaw02_long.f a2).bind fun t629 => (qanatlaw02_TextSearches.j0 k a0 a1 a2 a3 t626 t629)))) = some r := by rw [if_neg (show ¬ (false = true) by decide)] at H; exact H
      clear H
      have H := H1
      clear H1
      replace H := Option.bind_eq_some_iff.mp H
      obtain ⟨t628, A100, H⟩ := H
      replace H : (if t628 = true then (qanatlaw02_TextSearches.j0 k a0 a1 a2 a3 t626 true) else ((qanatlaw02_long.f a2).bind fun t629 => (qanatlaw02_TextSearches.j0 k a0 a1 a2 a3 t626 t629))) = some r := H
      have A10 := Aside0.mk A100
      clear A100
      by_cases c11 : t628 = true
      · subst c11
        have H1 : (qanatlaw02_TextSearches.j0 k a0 a1 a2 a3 t626 true) = some r := by rw [if_pos rfl] at H; exact H
        clear H
        have H := H1
        clear H1
        have H' := Aside0.mk H
        clear H
        go_wp2_with (first | ((with_reducible refine gate_callee (f := 16) rfl ?_); refine goesL_ (some 21) rfl rfl Tryz.func16 (by kernel_rfl) rfl #[.string a0] rfl (by (try simp only [List.map_toArray, List.map_cons, List.map_nil]); first | done | rfl | (simp only [List.length_drop, List.length_take]; rfl)) ?_; (with_reducible refine (qanatlaw02_long.calls a0 false _ A8.out).mono ?_); rintro e w' ⟨rfl, ⟨nd, rfl⟩⟩; refine ⟨_, rfl, ?_⟩) | (go_at_call 16; (with_reducible refine (qanatlaw02_long.calls a1 true _ A10.out).mono ?_); rintro e w' ⟨rfl, ⟨nd, rfl⟩⟩))
        go_meet
        case rel => exact ⟨_, (true), (by first | rfl | (simp; done) | (simp [*]; done)), H', ⟨by first | omega | exact Nat.le_refl _⟩, ⟨by repeat (first | (with_reducible first | exact HB.out | apply below_alloc | apply pw_below_drewN | apply below_drew1) | exact HB.out)⟩⟩
      · replace c11 := Bool.eq_false_iff.mpr c11
        subst c11
        have H1 : ((qanatlaw02_long.f a2).bind fun t629 => (qanatlaw02_TextSearches.j0 k a0 a1 a2 a3 t626 t629)) = some r := by rw [if_neg (show ¬ (false = true) by decide)] at H; exact H
        clear H
        have H := H1
        clear H1
        replace H := Option.bind_eq_some_iff.mp H
        obtain ⟨t629, A120, H⟩ := H
        replace H : (qanatlaw02_TextSearches.j0 k a0 a1 a2 a3 t626 t629) = some r := H
        have A12 := Aside0.mk A120
        clear A120
        have H' := Aside0.mk H
        clear H
        go_wp2_with (first | ((with_reducible refine gate_callee (f := 16) rfl ?_); refine goesL_ (some 21) rfl rfl Tryz.func16 (by kernel_rfl) rfl #[.string a0] rfl (by (try simp only [List.map_toArray, List.map_cons, List.map_nil]); first | done | rfl | (simp only [List.length_drop, List.length_take]; rfl)) ?_; (with_reducible refine (qanatlaw02_long.calls a0 false _ A8.out).mono ?_); rintro e w' ⟨rfl, ⟨nd, rfl⟩⟩; refine ⟨_, rfl, ?_⟩) | (go_at_call 16; (with_reducible refine (qanatlaw02_long.calls a1 false _ A10.out).mono ?_); rintro e w' ⟨rfl, ⟨nd, rfl⟩⟩) | (go_at_call 16; (with_reducible refine (qanatlaw02_long.calls a2 t629 _ A12.out).mono ?_); rintro e w' ⟨rfl, ⟨nd, rfl⟩⟩))
        go_meet
        case rel => exact ⟨_, (t629), (by first | rfl | (simp; done) | (simp [*]; done)), H', ⟨by first | omega | exact Nat.le_refl _⟩, ⟨by repeat (first | (with_reducible first | exact HB.out | apply below_alloc | apply pw_below_drewN | apply below_drew1) | exact HB.out)⟩⟩
  case rest =>
    clear HC6
    try clear c1
    try clear p2
    try clear c8
    try clear c9
    try clear c11
    obtain ⟨kq, x29_5, rfl, HA, HJ5, HB⟩ := hcut
    cases kq with
    | zero => exact absurd HA.out (by simp [qanatlaw02_TextSearches.j0])
    | succ kj5 =>
      have H := HA.out
      clear HA
      simp only [qanatlaw02_TextSearches.j0] at H
      by_cases c13 : x29_5 = true
      · subst c13
        have H1 : (some t626) = some r := by rw [if_pos rfl] at H; exact H
        clear H
        have H := H1
        clear H1
        obtain rfl := Option.some.inj H
        go_wp2
        go_ret
        exact ⟨by first | rfl | (simp [errW_none, errW_some] <;> rfl) | (simp [*, errW_none, errW_some] <;> rfl), by repeat (first | (with_reducible first | exact HB.out | apply below_alloc | apply pw_below_drewN | apply below_drew1) | exact HB.out)⟩
      · replace c13 := Bool.eq_false_iff.mpr c13
        subst c13
        have H1 : ((text_Pos.f a0 a1 a3).bind fun bt630 => ((text_LastPos.f kj5 a0 a1 a3).bind fun bt632 => ((text_Count.f a0 a1).bind fun bt634 => ((text_Change.f a0 a1 a2).bind fun bt636 => ((qanatref02_Pos.f kj5 a0 a1 a3).bind fun bt638 => ((qanatlaw02_num.f bt630.1 bt630.2 bt638.1 bt638.2).bind fun t640 => (if t640 = true then ((qanatref02_LastPos.f kj5 a0 a1 a3).bind fun bt641 => ((qanatlaw02_num.f bt632.1 bt632.2 bt641.1 bt641.2).bind fun t643 => (qanatlaw02_TextSearches.j1 kj5 a0 a1 a2 t626 bt634.1 bt634.2 bt636.1 bt636.2 t643))) else (qanatlaw02_TextSearches.j1 kj5 a0 a1 a2 t626 bt634.1 bt634.2 bt636.1 bt636.2 false)))))))) = some r := by rw [if_neg (show ¬ (false = true) by decide)] at H; exact H
        clear H
        have H := H1
        clear H1
        replace H := Option.bind_eq_some_iff.mp H
        obtain ⟨⟨t630, t631⟩, A140, H⟩ := H
        replace H : ((text_LastPos.f kj5 a0 a1 a3).bind fun bt632 => ((text_Count.f a0 a1).bind fun bt634 => ((text_Change.f a0 a1 a2).bind fun bt636 => ((qanatref02_Pos.f kj5 a0 a1 a3).bind fun bt638 => ((qanatlaw02_num.f t630 t631 bt638.1 bt638.2).bind fun t640 => (if t640 = true then ((qanatref02_LastPos.f kj5 a0 a1 a3).bind fun bt641 => ((qanatlaw02_num.f bt632.1 bt632.2 bt641.1 bt641.2).bind fun t643 => (qanatlaw02_TextSearches.j1 kj5 a0 a1 a2 t626 bt634.1 bt634.2 bt636.1 bt636.2 t643))) else (qanatlaw02_TextSearches.j1 kj5 a0 a1 a2 t626 bt634.1 bt634.2 bt636.1 bt636.2 false))))))) = some r := H
        have A14 := Aside0.mk A140
        clear A140
        replace H := Option.bind_eq_some_iff.mp H
        obtain ⟨⟨t632, t633⟩, A150, H⟩ := H
        replace H : ((text_Count.f a0 a1).bind fun bt634 => ((text_Change.f a0 a1 a2).bind fun bt636 => ((qanatref02_Pos.f kj5 a0 a1 a3).bind fun bt638 => ((qanatlaw02_num.f t630 t631 bt638.1 bt638.2).bind fun t640 => (if t640 = true then ((qanatref02_LastPos.f kj5 a0 a1 a3).bind fun bt641 => ((qanatlaw02_num.f t632 t633 bt641.1 bt641.2).bind fun t643 => (qanatlaw02_TextSearches.j1 kj5 a0 a1 a2 t626 bt634.1 bt634.2 bt636.1 bt636.2 t643))) else (qanatlaw02_TextSearches.j1 kj5 a0 a1 a2 t626 bt634.1 bt634.2 bt636.1 bt636.2 false)))))) = some r := H
        have A15 := Aside0.mk A150
        clear A150
        replace H := Option.bind_eq_some_iff.mp H
        obtain ⟨⟨t634, t635⟩, A160, H⟩ := H
        replace H : ((text_Change.f a0 a1 a2).bind fun bt636 => ((qanatref02_Pos.f kj5 a0 a1 a3).bind fun bt638 => ((qanatlaw02_num.f t630 t631 bt638.1 bt638.2).bind fun t640 => (if t640 = true then ((qanatref02_LastPos.f kj5 a0 a1 a3).bind fun bt641 => ((qanatlaw02_num.f t632 t633 bt641.1 bt641.2).bind fun t643 => (qanatlaw02_TextSearches.j1 kj5 a0 a1 a2 t626 t634 t635 bt636.1 bt636.2 t643))) else (qanatlaw02_TextSearches.j1 kj5 a0 a1 a2 t626 t634 t635 bt636.1 bt636.2 false))))) = some r := H
        have A16 := Aside0.mk A160
        clear A160
        replace H := Option.bind_eq_some_iff.mp H
        obtain ⟨⟨t636, t637⟩, A170, H⟩ := H
        replace H : ((qanatref02_Pos.f kj5 a0 a1 a3).bind fun bt638 => ((qanatlaw02_num.f t630 t631 bt638.1 bt638.2).bind fun t640 => (if t640 = true then ((qanatref02_LastPos.f kj5 a0 a1 a3).bind fun bt641 => ((qanatlaw02_num.f t632 t633 bt641.1 bt641.2).bind fun t643 => (qanatlaw02_TextSearches.j1 kj5 a0 a1 a2 t626 t634 t635 t636 t637 t643))) else (qanatlaw02_TextSearches.j1 kj5 a0 a1 a2 t626 t634 t635 t636 t637 false)))) = some r := H
        have A17 := Aside0.mk A170
        clear A170
        have HC18 := Aside0.mk H
        clear H
        go_upto_region 8 with (first | ((with_reducible refine gate_callee (f := 57) rfl ?_); refine goesL_ (some 35) rfl rfl Tryz.func57 (by kernel_rfl) rfl #[.string a0, .string a1, .int .i64 a3] rfl (by (try simp only [List.map_toArray, List.map_cons, List.map_nil]); first | done | rfl | (simp only [List.length_drop, List.length_take]; rfl)) ?_; (with_reducible refine (text_Pos.calls a0 a1 a3 t630 t631 _ A14.out).mono ?_); rintro e w19 ⟨rfl, hb⟩; refine ⟨_, rfl, ?_⟩; have n0_ := Aside0.mk (below_step (by repeat (first | (with_reducible first | exact HB.out | apply below_alloc | apply pw_below_drewN | apply below_drew1) | exact HB.out)) hb); clear HB; have HB := n0_; clear n0_; (try clear hb); (try clear hb2); (try clear hk); (try clear hi)) | ((with_reducible refine gate_callee (f := 58) rfl ?_); refine goesL_ (some 42) rfl rfl Tryz.func58 (by kernel_rfl) rfl #[.string a0, .string a1, .int .i64 a3] rfl (by (try simp only [List.map_toArray, List.map_cons, List.map_nil]); first | done | rfl | (simp only [List.length_drop, List.length_take]; rfl)) ?_; (with_reducible refine (text_LastPos.calls kj5 a0 a1 a3 t632 t633 _ A15.out).mono ?_); rintro e w20 ⟨rfl, hb⟩; refine ⟨_, rfl, ?_⟩; have n0_ := Aside0.mk (below_step (by repeat (first | (with_reducible first | exact HB.out | apply below_alloc | apply pw_below_drewN | apply below_drew1) | exact HB.out)) hb); clear HB; have HB := n0_; clear n0_; (try clear hb); (try clear hb2); (try clear hk); (try clear hi)) | ((with_reducible refine gate_callee (f := 59) rfl ?_); refine goesL_ (some 48) rfl rfl Tryz.func59 (by kernel_rfl) rfl #[.string a0, .string a1] rfl (by (try simp only [List.map_toArray, List.map_cons, List.map_nil]); first | done | rfl | (simp only [List.length_drop, List.length_take]; rfl)) ?_; (with_reducible refine (text_Count.calls a0 a1 t634 t635 _ A16.out).mono ?_); rintro e w21 ⟨rfl, hb⟩; refine ⟨_, rfl, ?_⟩; have n0_ := Aside0.mk (below_step (by repeat (first | (with_reducible first | exact HB.out | apply below_alloc | apply pw_below_drewN | apply below_drew1) | exact HB.out)) hb); clear HB; have HB := n0_; clear n0_; (try clear hb); (try clear hb2); (try clear hk); (try clear hi)) | ((with_reducible refine gate_callee (f := 60) rfl ?_); refine goesL_ (some 55) rfl rfl Tryz.func60 (by kernel_rfl) rfl #[.string a0, .string a1, .string a2] rfl (by (try simp only [List.map_toArray, List.map_cons, List.map_nil]); first | done | rfl | (simp only [List.length_drop, List.length_take]; rfl)) ?_; (with_reducible refine (text_Change.calls a0 a1 a2 t636 t637 _ A17.out).mono ?_); rintro e w22 ⟨rfl, hb⟩; refine ⟨_, rfl, ?_⟩; have n0_ := Aside0.mk (below_step (by repeat (first | (with_reducible first | exact HB.out | apply below_alloc | apply pw_below_drewN | apply below_drew1) | exact HB.out)) hb); clear HB; have HB := n0_; clear n0_; (try clear hb); (try clear hb2); (try clear hk); (try clear hi)))
        (try simp only [Act.put, List.setIfInBounds_toArray, List.set_cons_zero, List.set_cons_succ])
        go_cut [18] (fun v18 wc => ∃ (kq : Nat) (x18_17 : Bool), v18 = .bool x18_17 ∧ Aside0 (qanatlaw02_TextSearches.j1 kq a0 a1 a2 t626 t634 t635 t636 t637 x18_17 = some r) ∧ Aside0 (kq ≤ kj5) ∧ Aside0 (Below w.heap.size w wc))
        case first =>
          have H := HC18.out
          clear HC18
          replace H := Option.bind_eq_some_iff.mp H
          obtain ⟨⟨t638, t639⟩, A230, H⟩ := H
          replace H : ((qanatlaw02_num.f t630 t631 t638 t639).bind fun t640 => (if t640 = true then ((qanatref02_LastPos.f kj5 a0 a1 a3).bind fun bt641 => ((qanatlaw02_num.f t632 t633 bt641.1 bt641.2).bind fun t643 => (qanatlaw02_TextSearches.j1 kj5 a0 a1 a2 t626 t634 t635 t636 t637 t643))) else (qanatlaw02_TextSearches.j1 kj5 a0 a1 a2 t626 t634 t635 t636 t637 false))) = some r := H
          have A23 := Aside0.mk A230
          clear A230
          replace H := Option.bind_eq_some_iff.mp H
          obtain ⟨t640, A240, H⟩ := H
          replace H : (if t640 = true then ((qanatref02_LastPos.f kj5 a0 a1 a3).bind fun bt641 => ((qanatlaw02_num.f t632 t633 bt641.1 bt641.2).bind fun t643 => (qanatlaw02_TextSearches.j1 kj5 a0 a1 a2 t626 t634 t635 t636 t637 t643))) else (qanatlaw02_TextSearches.j1 kj5 a0 a1 a2 t626 t634 t635 t636 t637 false)) = some r := H
          have A24 := Aside0.mk A240
          clear A240
          by_cases c25 : t640 = true
          · subst c25
            have H1 : ((qanatref02_LastPos.f kj5 a0 a1 a3).bind fun bt641 => ((qanatlaw02_num.f t632 t633 bt641.1 bt641.2).bind fun t643 => (qanatlaw02_TextSearches.j1 kj5 a0 a1 a2 t626 t634 t635 t636 t637 t643))) = some r := by rw [if_pos rfl] at H; exact H
            clear H
            have H := H1
            clear H1
            replace H := Option.bind_eq_some_iff.mp H
            obtain ⟨⟨t641, t642⟩, A260, H⟩ := H
            replace H : ((qanatlaw02_num.f t632 t633 t641 t642).bind fun t643 => (qanatlaw02_TextSearches.j1 kj5 a0 a1 a2 t626 t634 t635 t636 t637 t643)) = some r := H
            have A26 := Aside0.mk A260
            clear A260
            replace H := Option.bind_eq_some_iff.mp H
            obtain ⟨t643, A270, H⟩ := H
            replace H : (qanatlaw02_TextSearches.j1 kj5 a0 a1 a2 t626 t634 t635 t636 t637 t643) = some r := H
            have A27 := Aside0.mk A270
            clear A270
            have H' := Aside0.mk H
            clear H
            go_wp2_with (first | ((with_reducible refine gate_callee (f := 61) rfl ?_); refine goesL_ (some 63) rfl rfl Tryz.func61 (by kernel_rfl) rfl #[.string a0, .string a1, .int .i64 a3] rfl (by (try simp only [List.map_toArray, List.map_cons, List.map_nil]); first | done | rfl | (simp only [List.length_drop, List.length_take]; rfl)) ?_; (with_reducible refine (qanatref02_Pos.calls kj5 a0 a1 a3 t638 t639 _ A23.out).mono ?_); rintro e w28 ⟨rfl, hb⟩; refine ⟨_, rfl, ?_⟩; have n0_ := Aside0.mk (below_step (by repeat (first | (with_reducible first | exact HB.out | apply below_alloc | apply pw_below_drewN | apply below_drew1) | exact HB.out)) hb); clear HB; have HB := n0_; clear n0_; (try clear hb); (try clear hb2); (try clear hk); (try clear hi)) | ((with_reducible refine gate_callee (f := 34) rfl ?_); refine goesL_ (some 64) rfl rfl Tryz.func34 (by kernel_rfl) rfl #[.int .i64 t630, .int .i64 t631, .agg #[.int .i64 t638, .int .i64 t639]] rfl (by (try simp only [List.map_toArray, List.map_cons, List.map_nil]); first | done | rfl | (simp only [List.length_drop, List.length_take]; rfl)) ?_; (with_reducible refine (qanatlaw02_num.calls t630 t631 t638 t639 true _ A24.out).mono ?_); rintro e w29 ⟨rfl, hb⟩; refine ⟨_, rfl, ?_⟩; have n0_ := Aside0.mk (below_step (by repeat (first | (with_reducible first | exact HB.out | apply below_alloc | apply pw_below_drewN | apply below_drew1) | exact HB.out)) hb); clear HB; have HB := n0_; clear n0_; (try clear hb); (try clear hb2); (try clear hk); (try clear hi)) | (go_at_call 62; (with_reducible refine (qanatref02_LastPos.calls kj5 a0 a1 a3 t641 t642 _ A26.out).mono ?_); rintro e w30 ⟨rfl, hb⟩; have n0_ := Aside0.mk (below_step (by repeat (first | (with_reducible first | exact HB.out | apply below_alloc | apply pw_below_drewN | apply below_drew1) | exact HB.out)) hb); clear HB; have HB := n0_; clear n0_; (try clear hb); (try clear hb2); (try clear hk); (try clear hi)) | (go_at_call 34; (with_reducible refine (qanatlaw02_num.calls t632 t633 t641 t642 t643 _ A27.out).mono ?_); rintro e w31 ⟨rfl, hb⟩; have n0_ := Aside0.mk (below_step (by repeat (first | (with_reducible first | exact HB.out | apply below_alloc | apply pw_below_drewN | apply below_drew1) | exact HB.out)) hb); clear HB; have HB := n0_; clear n0_; (try clear hb); (try clear hb2); (try clear hk); (try clear hi)))
            go_meet
            case rel => exact ⟨_, (t643), (by first | rfl | (simp; done) | (simp [*]; done)), H', ⟨by have := HJ5.out; first | omega | exact Nat.le_refl _⟩, ⟨by repeat (first | (with_reducible first | exact HB.out | apply below_alloc | apply pw_below_drewN | apply below_drew1) | exact HB.out)⟩⟩
          · replace c25 := Bool.eq_false_iff.mpr c25
            subst c25
            have H1 : (qanatlaw02_TextSearches.j1 kj5 a0 a1 a2 t626 t634 t635 t636 t637 false) = some r := by rw [if_neg (show ¬ (false = true) by decide)] at H; exact H
            clear H
            have H := H1
            clear H1
            have H' := Aside0.mk H
            clear H
            go_wp2_with (first | ((with_reducible refine gate_callee (f := 61) rfl ?_); refine goesL_ (some 63) rfl rfl Tryz.func61 (by kernel_rfl) rfl #[.string a0, .string a1, .int .i64 a3] rfl (by (try simp only [List.map_toArray, List.map_cons, List.map_nil]); first | done | rfl | (simp only [List.length_drop, List.length_take]; rfl)) ?_; (with_reducible refine (qanatref02_Pos.calls kj5 a0 a1 a3 t638 t639 _ A23.out).mono ?_); rintro e w32 ⟨rfl, hb⟩; refine ⟨_, rfl, ?_⟩; have n0_ := Aside0.mk (below_step (by repeat (first | (with_reducible first | exact HB.out | apply below_alloc | apply pw_below_drewN | apply below_drew1) | exact HB.out)) hb); clear HB; have HB := n0_; clear n0_; (try clear hb); (try clear hb2); (try clear hk); (try clear hi)) | ((with_reducible refine gate_callee (f := 34) rfl ?_); refine goesL_ (some 64) rfl rfl Tryz.func34 (by kernel_rfl) rfl #[.int .i64 t630, .int .i64 t631, .agg #[.int .i64 t638, .int .i64 t639]] rfl (by (try simp only [List.map_toArray, List.map_cons, List.map_nil]); first | done | rfl | (simp only [List.length_drop, List.length_take]; rfl)) ?_; (with_reducible refine (qanatlaw02_num.calls t630 t631 t638 t639 false _ A24.out).mono ?_); rintro e w33 ⟨rfl, hb⟩; refine ⟨_, rfl, ?_⟩; have n0_ := Aside0.mk (below_step (by repeat (first | (with_reducible first | exact HB.out | apply below_alloc | apply pw_below_drewN | apply below_drew1) | exact HB.out)) hb); clear HB; have HB := n0_; clear n0_; (try clear hb); (try clear hb2); (try clear hk); (try clear hi)))
            go_meet
            case rel => exact ⟨_, (false), (by first | rfl | (simp; done) | (simp [*]; done)), H', ⟨by have := HJ5.out; first | omega | exact Nat.le_refl _⟩, ⟨by repeat (first | (with_reducible first | exact HB.out | apply below_alloc | apply pw_below_drewN | apply below_drew1) | exact HB.out)⟩⟩
        case rest =>
          clear HC18
          try clear c1
          try clear c2
          try clear p2
          try clear c3
          try clear c5
          try clear c6
          try clear c8
          try clear c9
          try clear c11
          try clear c13
          try clear c15
          try clear c16
          try clear c25
          try clear p2
          obtain ⟨kq, x18_17, rfl, HA, HJ17, HB⟩ := hcut
          cases kq with
          | zero => exact absurd HA.out (by simp [qanatlaw02_TextSearches.j1])
          | succ kj17 =>
            have H := HA.out
            clear HA
            simp only [qanatlaw02_TextSearches.j1] at H
            by_cases c34 : t626 = true
            · subst c34
              have H1 : (if x18_17 = true then ((qanatref02_Count.f kj17 a0 a1).bind fun bt644 => ((qanatlaw02_num.f t634 t635 bt644.1 bt644.2).bind fun t646 => (if t646 = true then ((qanatref02_Change.f kj17 a0 a1 a2).bind fun bt647 => ((qanatlaw02_str.f t636 t637 bt647.1 bt647.2).bind fun t649 => (some t649))) else (some false)))) else (some false)) = some r := by rw [if_pos rfl] at H; exact H
              clear H
              have H := H1
              clear H1
              by_cases c35 : x18_17 = true
              · subst c35
                have H1 : ((qanatref02_Count.f kj17 a0 a1).bind fun bt644 => ((qanatlaw02_num.f t634 t635 bt644.1 bt644.2).bind fun t646 => (if t646 = true then ((qanatref02_Change.f kj17 a0 a1 a2).bind fun bt647 => ((qanatlaw02_str.f t636 t637 bt647.1 bt647.2).bind fun t649 => (some t649))) else (some false)))) = some r := by rw [if_pos rfl] at H; exact H
                clear H
                have H := H1
                clear H1
                replace H := Option.bind_eq_some_iff.mp H
                obtain ⟨⟨t644, t645⟩, A360, H⟩ := H
                replace H : ((qanatlaw02_num.f t634 t635 t644 t645).bind fun t646 => (if t646 = true then ((qanatref02_Change.f kj17 a0 a1 a2).bind fun bt647 => ((qanatlaw02_str.f t636 t637 bt647.1 bt647.2).bind fun t649 => (some t649))) else (some false))) = some r := H
                have A36 := Aside0.mk A360
                clear A360
                replace H := Option.bind_eq_some_iff.mp H
                obtain ⟨t646, A370, H⟩ := H
                replace H : (if t646 = true then ((qanatref02_Change.f kj17 a0 a1 a2).bind fun bt647 => ((qanatlaw02_str.f t636 t637 bt647.1 bt647.2).bind fun t649 => (some t649))) else (some false)) = some r := H
                have A37 := Aside0.mk A370
                clear A370
                by_cases c38 : t646 = true
                · subst c38
                  have H1 : ((qanatref02_Change.f kj17 a0 a1 a2).bind fun bt647 => ((qanatlaw02_str.f t636 t637 bt647.1 bt647.2).bind fun t649 => (some t649))) = some r := by rw [if_pos rfl] at H; exact H
                  clear H
                  have H := H1
                  clear H1
                  replace H := Option.bind_eq_some_iff.mp H
                  obtain ⟨⟨t647, t648⟩, A390, H⟩ := H
                  replace H : ((qanatlaw02_str.f t636 t637 t647 t648).bind fun t649 => (some t649)) = some r := H
                  have A39 := Aside0.mk A390
                  clear A390
                  replace H := Option.bind_eq_some_iff.mp H
                  obtain ⟨t649, A400, H⟩ := H
                  replace H : (some t649) = some r := H
                  have A40 := Aside0.mk A400
                  clear A400
                  obtain rfl := Option.some.inj H
                  go_wp2_with (first | (go_at_call 63; (with_reducible refine (qanatref02_Count.calls kj17 a0 a1 t644 t645 _ A36.out).mono ?_); rintro e w41 ⟨rfl, hb⟩; have n0_ := Aside0.mk (below_step (by repeat (first | (with_reducible first | exact HB.out | apply below_alloc | apply pw_below_drewN | apply below_drew1) | exact HB.out)) hb); clear HB; have HB := n0_; clear n0_; (try clear hb); (try clear hb2); (try clear hk); (try clear hi)) | (go_at_call 34; (with_reducible refine (qanatlaw02_num.calls t634 t635 t644 t645 true _ A37.out).mono ?_); rintro e w42 ⟨rfl, hb⟩; have n0_ := Aside0.mk (below_step (by repeat (first | (with_reducible first | exact HB.out | apply below_alloc | apply pw_below_drewN | apply below_drew1) | exact HB.out)) hb); clear HB; have HB := n0_; clear n0_; (try clear hb); (try clear hb2); (try clear hk); (try clear hi)) | (go_at_call 64; (with_reducible refine (qanatref02_Change.calls kj17 a0 a1 a2 t647 t648 _ A39.out).mono ?_); rintro e w43 ⟨rfl, hb⟩; have n0_ := Aside0.mk (below_step (by repeat (first | (with_reducible first | exact HB.out | apply below_alloc | apply pw_below_drewN | apply below_drew1) | exact HB.out)) hb); clear HB; have HB := n0_; clear n0_; (try clear hb); (try clear hb2); (try clear hk); (try clear hi)) | (go_at_call 20; (with_reducible refine (qanatlaw02_str.calls t636 t637 t647 t648 t649 _ A40.out).mono ?_); rintro e w44 ⟨rfl, hb⟩; have n0_ := Aside0.mk (below_step (by repeat (first | (with_reducible first | exact HB.out | apply below_alloc | apply pw_below_drewN | apply below_drew1) | exact HB.out)) hb); clear HB; have HB := n0_; clear n0_; (try clear hb); (try clear hb2); (try clear hk); (try clear hi)))
                  go_ret
                  exact ⟨by first | rfl | (simp [errW_none, errW_some] <;> rfl) | (simp [*, errW_none, errW_some] <;> rfl), by repeat (first | (with_reducible first | exact HB.out | apply below_alloc | apply pw_below_drewN | apply below_drew1) | exact HB.out)⟩
                · replace c38 := Bool.eq_false_iff.mpr c38
                  subst c38
                  have H1 : (some false) = some r := by rw [if_neg (show ¬ (false = true) by decide)] at H; exact H
                  clear H
                  have H := H1
                  clear H1
                  obtain rfl := Option.some.inj H
                  go_wp2_with (first | (go_at_call 63; (with_reducible refine (qanatref02_Count.calls kj17 a0 a1 t644 t645 _ A36.out).mono ?_); rintro e w45 ⟨rfl, hb⟩; have n0_ := Aside0.mk (below_step (by repeat (first | (with_reducible first | exact HB.out | apply below_alloc | apply pw_below_drewN | apply below_drew1) | exact HB.out)) hb); clear HB; have HB := n0_; clear n0_; (try clear hb); (try clear hb2); (try clear hk); (try clear hi)) | (go_at_call 34; (with_reducible refine (qanatlaw02_num.calls t634 t635 t644 t645 false _ A37.out).mono ?_); rintro e w46 ⟨rfl, hb⟩; have n0_ := Aside0.mk (below_step (by repeat (first | (with_reducible first | exact HB.out | apply below_alloc | apply pw_below_drewN | apply below_drew1) | exact HB.out)) hb); clear HB; have HB := n0_; clear n0_; (try clear hb); (try clear hb2); (try clear hk); (try clear hi)))
                  go_ret
                  exact ⟨by first | rfl | (simp [errW_none, errW_some] <;> rfl) | (simp [*, errW_none, errW_some] <;> rfl), by repeat (first | (with_reducible first | exact HB.out | apply below_alloc | apply pw_below_drewN | apply below_drew1) | exact HB.out)⟩
              · replace c35 := Bool.eq_false_iff.mpr c35
                subst c35
                have H1 : (some false) = some r := by rw [if_neg (show ¬ (false = true) by decide)] at H; exact H
                clear H
                have H := H1
                clear H1
                obtain rfl := Option.some.inj H
                go_wp2
                go_ret
                exact ⟨by first | rfl | (simp [errW_none, errW_some] <;> rfl) | (simp [*, errW_none, errW_some] <;> rfl), by repeat (first | (with_reducible first | exact HB.out | apply below_alloc | apply pw_below_drewN | apply below_drew1) | exact HB.out)⟩
            · replace c34 := Bool.eq_false_iff.mpr c34
              subst c34
              have H1 : (some false) = some r := by rw [if_neg (show ¬ (false = true) by decide)] at H; exact H
              clear H
              have H := H1
              clear H1
              obtain rfl := Option.some.inj H
              go_wp2
              go_ret
              exact ⟨by first | rfl | (simp [errW_none, errW_some] <;> rfl) | (simp [*, errW_none, errW_some] <;> rfl), by repeat (first | (with_reducible first | exact HB.out | apply below_alloc | apply pw_below_drewN | apply below_drew1) | exact HB.out)⟩

/-- THE ONE PURE STATEMENT of qanatlaw02_TextSearches: yours. -/
def qanatlaw02_TextSearches.Pure : Prop := ∀ (a0 : ByteArray) (a1 : ByteArray) (a2 : ByteArray) (a3 : Int), a0.size ≤ 140737488351232 → a1.size ≤ 140737488351232 → a2.size ≤ 140737488351232 → (Lit.int .i64 a3).wf = true → ∃ k, qanatlaw02_TextSearches.f k a0 a1 a2 a3 = some true
theorem qanatlaw02_TextSearches.walk (P : qanatlaw02_TextSearches.Pure) (a0 : ByteArray) (a1 : ByteArray) (a2 : ByteArray) (a3 : Int) (w : World) (hT : TabOK w) (w0 : a0.size ≤ 140737488351232) (w1 : a1.size ≤ 140737488351232) (w2 : a2.size ≤ 140737488351232) (w3 : (Lit.int .i64 a3).wf = true) :
    Calls Tryz.prog 8 #[.string a0, .string a1, .string a2, .int .i64 a3] w fun e w' => e = .returned (.bool true) ∧ Below w.heap.size w w' := by
  obtain ⟨k, h⟩ := P a0 a1 a2 a3 w0 w1 w2 w3
  refine (qanatlaw02_TextSearches.calls k a0 a1 a2 a3 true w hT h).mono ?_
  rintro e w' ⟨rfl, hd⟩
  exact ⟨rfl, hd⟩

end Go.Proofs.YtlekfhnlhdmekaaGreatDoor.T

/- The examples that each law checks first are as they should be. And the reference's out is made. -/
namespace Go.Proofs.YtlekfhnlhdmekaaGreatDoor.T
set_option linter.unusedSimpArgs false
set_option linter.unusedVariables false
open Go.RowKit Go.Proofs.YtlekfhnlhdmekaaGreatDoorW.PrintWords Go.Proofs.YtlekfhnlhdmekaaGreatDoorW.PrintLast Go.Proofs.YtlekfhnlhdmekaaGreatDoorW.PrintMore
theorem head_60 : qanatlaw02_head.f 60 = some true := by kernel_rfl
theorem head_ok : ∀ d, qanatlaw02_head.f (60 + d) = some true
  | 0 => head_60
  | d + 1 => qanatlaw02_head.mono (60 + d) _ (head_ok d)
theorem strOfNums_size (L : List Int) : (strOfNums L).size = L.length := by
  rw [← data_length]
  simp [strOfNums]
theorem bytesOf_str (L : List Int) (h : ∀ x ∈ L, 0 ≤ x ∧ x < 256) : bytesOf (strOfNums L) = L := by
  unfold bytesOf strOfNums
  simp only [List.map_map]
  conv => rhs; rw [← List.map_id L]
  apply List.map_congr_left
  intro x hx
  obtain ⟨h0, h1⟩ := h x hx
  simp only [Function.comp_apply, id_eq, UInt8.toNat_ofNat']
  omega
theorem strOfNums_bytes (s : ByteArray) : strOfNums (bytesOf s) = s := by
  have e : ((bytesOf s).map fun n : Int => UInt8.ofNat n.toNat) = s.data.toList := by
    unfold bytesOf
    rw [List.map_map]
    conv => rhs; rw [← List.map_id s.data.toList]
    apply List.map_congr_left
    intro x hx
    simp
  unfold strOfNums
  rw [e]
theorem made_eq (s : ByteArray) : text_made.f s = some (if s.size > 1000 then (⟨#[]⟩, 3) else if vld s = true then (s, 0) else (⟨#[]⟩, 8)) := by
  unfold text_made.f text_Valid.f
  by_cases h : s.size > 1000
  · rw [if_pos (by omega), if_pos h]
  · rw [if_neg (by omega), if_neg h]
    simp only [Option.bind_some]
    split <;> rfl
theorem made_out (L : List Int) (h : ∀ x ∈ L, 0 ≤ x ∧ x < 256) : text_made.f (strOfNums L) = qanatref02_out.f L := by
  rw [made_eq, qanatref02_out.f, strOfNums_size]
  by_cases hl : L.length > 1000
  · rw [if_pos hl, if_pos hl]
  · rw [if_neg hl, if_neg hl]
    have e : vld (strOfNums L) = L.all goodI := by
      unfold vld
      rw [strOfNums_size, bytesOf_str L h, decide_eq_true (show L.length ≤ 1000 by omega), Bool.true_and]
    rw [e]
theorem u8_rng (z : Int) : 0 ≤ IntKind.u8.wrap z ∧ IntKind.u8.wrap z < 256 := by
  simp only [IntKind.wrap, IntKind.bits, IntKind.signed]
  simp
  omega
end Go.Proofs.YtlekfhnlhdmekaaGreatDoor.T

/- Small laws that the pure laws share. -/
namespace Go.Proofs.YtlekfhnlhdmekaaGreatDoor.T
set_option linter.unusedSimpArgs false
set_option linter.unusedVariables false
open Go.RowKit Go.Proofs.YtlekfhnlhdmekaaGreatDoorW.PrintWords Go.Proofs.YtlekfhnlhdmekaaGreatDoorW.PrintLast Go.Proofs.YtlekfhnlhdmekaaGreatDoorW.PrintMore
namespace B
theorem str_eq (s : ByteArray) (e : Int) : qanatlaw02_str.f s e s e = some true := by
  unfold qanatlaw02_str.f
  rw [if_pos rfl]
  simp
theorem num_eq (n e : Int) : qanatlaw02_num.f n e n e = some true := by
  unfold qanatlaw02_num.f
  rw [if_pos rfl]
  simp
theorem i64 {x : Int} (h : (Lit.int .i64 x).wf = true) : -9223372036854775808 ≤ x ∧ x ≤ 9223372036854775807 := by
  simp [Lit.wf, IntKind.min, IntKind.max, IntKind.bits, IntKind.signed] at h
  omega
theorem size {s : ByteArray} (h : vld s = true) : s.size ≤ 1000 := by
  simp [vld] at h; exact h.1
theorem all {s : ByteArray} (h : vld s = true) : ∀ x ∈ bytesOf s, goodI x = true := by
  simp only [vld, Bool.and_eq_true, List.all_eq_true] at h
  exact h.2
theorem mk {s : ByteArray} (h1 : s.size ≤ 1000) (h2 : ∀ x ∈ bytesOf s, goodI x = true) : vld s = true := by
  simp only [vld, Bool.and_eq_true, List.all_eq_true, decide_eq_true_eq]
  exact ⟨h1, h2⟩
theorem good (x : Int) : goodI x = true ↔ 32 ≤ x ∧ x ≤ 126 := by simp [goodI]
theorem valid1 (s : ByteArray) : text_valid.f [s] = some (if vld s = true then 0 else 1) := by
  unfold text_valid.f
  by_cases h : vld s = true <;> simp [h]
theorem valid2 (s t : ByteArray) : text_valid.f [s, t] = some (if vld s = true ∧ vld t = true then 0 else 1) := by
  unfold text_valid.f
  by_cases h : vld s = true <;> by_cases h' : vld t = true <;> simp [h, h']
theorem valid3 (s t u : ByteArray) : text_valid.f [s, t, u] = some (if vld s = true ∧ vld t = true ∧ vld u = true then 0 else 1) := by
  unfold text_valid.f
  by_cases h : vld s = true <;> by_cases h' : vld t = true <;> by_cases h'' : vld u = true <;> simp [h, h', h'']
theorem pads1 (p : Int) : text_pads.f [p] = some (if goodI p = true then 0 else 1) := by
  unfold text_pads.f
  by_cases h : goodI p = true <;> simp [h]
theorem least1 (n x : Int) : text_least.f n [x] = some (if n ≤ x then 0 else 1) := by
  unfold text_least.f
  by_cases h : n ≤ x <;> simp [h]
theorem first2 (b c : Prop) [Decidable b] [Decidable c] : text_first.f [if b then 0 else 1, if c then 0 else 1] = some (if b ∧ c then 0 else 1) := by
  by_cases h1 : b <;> by_cases h2 : c <;> simp [h1, h2] <;> rfl
theorem first3 (b c d : Prop) [Decidable b] [Decidable c] [Decidable d] : text_first.f [if b then 0 else 1, if c then 0 else 1, if d then 0 else 1] = some (if b ∧ c ∧ d then 0 else 1) := by
  by_cases h1 : b <;> by_cases h2 : c <;> by_cases h3 : d <;> simp [h1, h2, h3] <;> rfl
theorem first4 (b c d e : Prop) [Decidable b] [Decidable c] [Decidable d] [Decidable e] : text_first.f [if b then 0 else 1, if c then 0 else 1, if d then 0 else 1, if e then 0 else 1] = some (if b ∧ c ∧ d ∧ e then 0 else 1) := by
  by_cases h1 : b <;> by_cases h2 : c <;> by_cases h3 : d <;> by_cases h4 : e <;> simp [h1, h2, h3, h4] <;> rfl
theorem whole (n lo : Int) : qanatref02_whole.f n lo false = some (decide (lo ≤ n)) := by
  unfold qanatref02_whole.f
  by_cases h : lo ≤ n
  · rw [if_pos (by omega)]; simp [h]
  · rw [if_neg (by omega)]; simp [h]
theorem wholeM (n : Int) : qanatref02_whole.f n 0 true = some (decide (-1 ≤ n)) := by
  unfold qanatref02_whole.f
  by_cases h : 0 ≤ n
  · rw [if_pos (by omega)]; simp; omega
  · rw [if_neg (by omega), if_pos rfl]
    by_cases e : n = -1
    · subst e; rfl
    · rw [show (n == -1) = false from beq_eq_false_iff_ne.mpr e, show decide (-1 ≤ n) = false from decide_eq_false (by omega)]
theorem toL (s : ByteArray) : s.toList = s.data.toList := Lib.toList_data s
theorem ext {a b : ByteArray} (h : a.data.toList = b.data.toList) : a = b := by
  apply ByteArray.ext
  exact Array.toList_inj.1 h
theorem sz (s : ByteArray) : s.size = s.data.toList.length := (data_length s).symm
theorem extract (s : ByteArray) (i j : Nat) : (s.extract i j).data.toList = (s.data.toList.drop i).take (j - i) := by
  rw [ByteArray.data_extract, Array.toList_extract, List.extract_eq_take_drop]
theorem append (a b : ByteArray) : (a ++ b).data.toList = a.data.toList ++ b.data.toList := by
  rw [ByteArray.data_append, Array.toList_append]
theorem vldA {a b : ByteArray} (ha : ∀ x ∈ bytesOf a, goodI x = true) (hb : ∀ x ∈ bytesOf b, goodI x = true) (h : (a ++ b).size ≤ 1000) : vld (a ++ b) = true := by
  refine mk h (fun x hx => ?_)
  unfold bytesOf at hx
  rw [append, List.map_append] at hx
  exact (List.mem_append.1 hx).elim (ha x) (hb x)
theorem vldE {a : ByteArray} (i j : Nat) (h : vld a = true) : vld (a.extract i j) = true := by
  refine mk ?_ (fun x hx => ?_)
  · have := size h; rw [ByteArray.size_extract]; omega
  · refine all h x ?_
    unfold bytesOf at hx ⊢
    rw [extract] at hx
    obtain ⟨b, hb, rfl⟩ := List.mem_map.1 hx
    exact List.mem_map.2 ⟨b, List.mem_of_mem_drop (List.mem_of_mem_take hb), rfl⟩
theorem made (s : ByteArray) (h : vld s = true) : text_made.f s = some (s, 0) := by
  rw [made_eq, if_neg (by have := size h; omega), if_pos h]
end B
end Go.Proofs.YtlekfhnlhdmekaaGreatDoor.T

/- Where a string stands in another one: plain laws on the program's find, Count, Change and LastPos. -/
namespace Go.Proofs.YtlekfhnlhdmekaaGreatDoor.T
set_option linter.unusedSimpArgs false
set_option linter.unusedVariables false
open Go.RowKit Go.Proofs.YtlekfhnlhdmekaaGreatDoorW.PrintWords Go.Proofs.YtlekfhnlhdmekaaGreatDoorW.PrintLast Go.Proofs.YtlekfhnlhdmekaaGreatDoorW.PrintMore
namespace Oc
/-- a stands in s at i. -/
def st (a s : ByteArray) (i : Nat) : Prop := i + a.size ≤ s.size ∧ (s.extract i (i + a.size)).toList = a.toList
theorem fnd_hit (a s : ByteArray) (i : Nat) (hp : 0 < a.size) (h : st a s i) : fnd a s i = (i : Int) := by rw [fnd, dif_pos ⟨h.1, hp⟩, if_pos h.2]
theorem fnd_miss (a s : ByteArray) (i : Nat) (hp : 0 < a.size) (h1 : i + a.size ≤ s.size) (h : ¬ st a s i) : fnd a s i = fnd a s (i + 1) := by
  rw [fnd, dif_pos ⟨h1, hp⟩, if_neg (fun h2 => h ⟨h1, h2⟩)]
theorem fnd_out (a s : ByteArray) (i : Nat) (h1 : ¬ (i + a.size ≤ s.size ∧ 0 < a.size)) : fnd a s i = -1 := by rw [fnd, dif_neg h1]
/-- What fnd finds is the first place. -/
theorem fnd_spec (a s : ByteArray) (i : Nat) (hp : 0 < a.size) : (fnd a s i = -1 ∧ ∀ j, i ≤ j → ¬ st a s j) ∨ (∃ q : Nat, fnd a s i = (q : Int) ∧ i ≤ q ∧ st a s q ∧ ∀ j, i ≤ j → j < q → ¬ st a s j) := by
  by_cases h1 : i + a.size ≤ s.size
  · by_cases h : st a s i
    · exact .inr ⟨i, fnd_hit a s i hp h, Nat.le_refl _, h, fun j h2 h3 => by omega⟩
    · rw [fnd_miss a s i hp h1 h]
      rcases fnd_spec a s (i + 1) hp with ⟨h2, h3⟩ | ⟨q, h2, h3, h4, h5⟩
      · refine .inl ⟨h2, fun j hj => ?_⟩
        by_cases e : i = j
        · subst e; exact h
        · exact h3 j (by omega)
      · refine .inr ⟨q, h2, by omega, h4, fun j hj hq => ?_⟩
        by_cases e : i = j
        · subst e; exact h
        · exact h5 j (by omega) hq
  · exact .inl ⟨fnd_out a s i (fun h => h1 h.1), fun j hj h => h1 (by have := h.1; omega)⟩
termination_by s.size - i
theorem find_eq (a s : ByteArray) (n : Int) (ha : a.size ≤ 100000) (hs : s.size ≤ 100000) (h0 : 0 ≤ n) : text_find.f a s n = some (fnd a s n.toNat) := by
  unfold text_find.f
  rw [if_pos ⟨ha, hs, h0⟩]
  by_cases he : a.size = 0
  · rw [if_pos he, fnd_out a s _ (by omega)]
  · rw [if_neg he]
    by_cases hc : n ≤ (s.size : Int)
    · rw [if_pos hc]
    · rw [if_neg hc, fnd_out a s s.size (by omega), fnd_out a s n.toNat (by omega)]
theorem isP (a s : ByteArray) (i : Nat) (hp : 0 < a.size) : Lib.occAt s.data.toList a.data.toList i = true ↔ st a s i := by
  unfold Lib.occAt st
  rw [List.isPrefixOf_iff_prefix, List.prefix_iff_eq_take, B.toL, B.toL, B.extract, show i + a.size - i = a.size by omega, ← B.sz a]
  constructor
  · intro h
    refine ⟨?_, h.symm⟩
    have := congrArg List.length h
    rw [List.length_take, List.length_drop, ← B.sz, ← B.sz] at this
    omega
  · intro h; exact h.2.symm
theorem pos_eq (a s : ByteArray) (n : Int) (ha : a.size ≤ 1200) (hs : s.size ≤ 1200) (hn : n ≤ 9223372036854775807) : text_Pos.f a s n = some (if (vld a = true ∧ vld s = true) ∧ 1 ≤ n then (fnd a s (n - 1).toNat + 1, 0) else (0, 1)) := by
  unfold text_Pos.f
  simp only [B.valid2, B.least1, Option.bind_some, B.first2]
  by_cases h : (vld a = true ∧ vld s = true) ∧ 1 ≤ n
  · have h1 := h.2
    have hg := fnd_ge a s (n - 1).toNat
    have hl := fnd_lo a s (n - 1).toNat
    rw [if_pos h, if_pos rfl, if_pos h, wrap64_id _ (by omega) (by omega), find_eq a s _ (by omega) (by omega) (by omega)]
    simp only [Option.bind_some]
    rw [wrap64_id _ (by omega) (by
      by_cases h0 : 0 ≤ fnd a s (n - 1).toNat
      · have := hl h0; omega
      · omega)]
  · rw [if_neg h, if_neg (by decide), if_neg h]
theorem empty_eq (a : ByteArray) : a.toList = [] ↔ a.size = 0 := by
  rw [B.toL, B.sz]
  exact ⟨fun h => by rw [h]; rfl, fun h => List.eq_nil_of_length_eq_zero h⟩
/-- The string up to a start that may be missing. -/
def upto (s : ByteArray) (n : Int) : ByteArray := if n = -1 then s else s.extract 0 (mn n s.size).toNat
theorem upto_size (s : ByteArray) (n : Int) : (upto s n).size ≤ s.size := by
  unfold upto
  split
  · exact Nat.le_refl _
  · rw [ByteArray.size_extract]; omega
theorem lastpos_eq (a s : ByteArray) (n : Int) (ha : a.size ≤ 1200) (hs : s.size ≤ 1200) (k : Nat) : text_LastPos.f (k + 1) a s n = some (if (vld a = true ∧ vld s = true) ∧ (n = -1 ∨ 1 ≤ n) then ((if a.size = 0 then 0 else Lib.lastIndex (upto s n).data.toList a.data.toList + 1), 0) else (0, 1)) := by
  have hj : ∀ q : Bool, q = true → text_LastPos.j0 (k + 1) a s n q = some (0, 1) := fun q hq => by rw [text_LastPos.j0, if_pos hq]
  unfold text_LastPos.f
  simp only [B.valid2, B.least1, Option.bind_some, B.first2]
  have hli : ∀ t : ByteArray, t.size ≤ 1200 → wrap64 (Lib.lastIndex t.data.toList a.data.toList + 1) = Lib.lastIndex t.data.toList a.data.toList + 1 := by
    intro t ht
    have hb : -1 ≤ Lib.lastIndex t.data.toList a.data.toList ∧ Lib.lastIndex t.data.toList a.data.toList ≤ 100000 := by
      unfold Lib.lastIndex
      split
      · rcases Lib.lastOcc_spec t.data.toList a.data.toList (t.data.toList.length - a.data.toList.length + 1) with ⟨e, _⟩ | ⟨i, hi, e, _⟩
        · rw [e]; decide
        · rw [← B.sz] at hi; rw [e]; omega
      · decide
    exact wrap64_id _ (by omega) (by omega)
  by_cases h : (vld a = true ∧ vld s = true) ∧ -1 ≤ n
  · rw [if_pos h, if_pos rfl]
    by_cases h0 : n = 0
    · rw [if_neg (by omega), hj _ (by rw [h0]; rfl)]
    · rw [if_pos ⟨h.1, by omega⟩, show (n == 0) = false from beq_eq_false_iff_ne.mpr h0, text_LastPos.j0, if_neg (by decide)]
      have hu := upto_size s n
      by_cases hm : n = -1
      · rw [if_pos hm]
        by_cases he : a.size = 0
        · rw [if_pos ((empty_eq a).2 he), if_pos he]
        · rw [if_neg (fun h => he ((empty_eq a).1 h)), if_neg he]
          unfold strings_LastIndex.f
          rw [if_pos (by omega)]
          simp only [Option.bind_some]
          rw [hli s hs]
          unfold upto
          rw [if_pos hm]
      · have e1 : 0 ≤ mn n (s.size : Int) := by unfold mn; split <;> omega
        have e2 : mn n (s.size : Int) ≤ (s.size : Int) := by unfold mn; split <;> omega
        rw [if_neg hm, if_pos e1, if_pos e2]
        by_cases he : a.size = 0
        · rw [if_pos ((empty_eq a).2 he), if_pos he]
        · rw [if_neg (fun h => he ((empty_eq a).1 h)), if_neg he]
          have eu : upto s n = s.extract 0 (mn n (s.size : Int)).toNat := by unfold upto; rw [if_neg hm]
          rw [← eu]
          unfold strings_LastIndex.f
          rw [if_pos (by omega)]
          simp only [Option.bind_some]
          rw [hli _ (by omega)]
  · rw [if_neg h, if_neg (by decide), if_neg (fun h2 => h ⟨h2.1, by omega⟩), hj _ rfl]
theorem count_eq (a s : ByteArray) (ha : a.size ≤ 1200) (hs : s.size ≤ 1200) : text_Count.f a s = some (if vld a = true ∧ vld s = true then (((occ a s 0).length : Int), 0) else (0, 1)) := by
  unfold text_Count.f
  rw [if_pos ⟨by omega, by omega⟩]
  split <;> rfl
/-- What Change makes from an offset on. -/
def rest (a s w : ByteArray) (e : Nat) : List UInt8 := (chgGo s.data.toList w.data.toList a.size e (occ a s e)).1 ++ s.data.toList.drop (chgGo s.data.toList w.data.toList a.size e (occ a s e)).2
theorem rest_out (a s w : ByteArray) (e : Nat) (h : ¬ 0 ≤ fnd a s e) : rest a s w e = s.data.toList.drop e := by
  unfold rest
  rw [occ, dif_neg h]
  simp [chgGo]
theorem rest_hit (a s w : ByteArray) (e q : Nat) (h : fnd a s e = (q : Int)) : rest a s w e = (s.data.toList.drop e).take (q - e) ++ w.data.toList ++ rest a s w (q + a.size) := by
  have e1 : occ a s e = (q : Int) :: occ a s (q + a.size) := by rw [occ, dif_pos (by omega), h]; simp
  unfold rest
  rw [e1]
  simp only [chgGo, Int.toNat_natCast, List.append_assoc]
theorem change_eq (a s w : ByteArray) (ha : a.size ≤ 1200) (hs : s.size ≤ 1200) (hw : w.size ≤ 1200) : text_Change.f a s w = if vld a = true ∧ vld s = true ∧ vld w = true then text_made.f ⟨(rest a s w 0).toArray⟩ else some (⟨#[]⟩, 1) := by
  unfold text_Change.f
  rw [if_pos ⟨by omega, by omega, by omega⟩]
  rfl
end Oc
end Go.Proofs.YtlekfhnlhdmekaaGreatDoor.T

/- The law TextSearches: what the program and the reference compute is the same. -/
namespace Go.Proofs.YtlekfhnlhdmekaaGreatDoor.T
set_option linter.unusedSimpArgs false
set_option linter.unusedVariables false
open Go.RowKit Go.Proofs.YtlekfhnlhdmekaaGreatDoorW.PrintWords Go.Proofs.YtlekfhnlhdmekaaGreatDoorW.PrintLast Go.Proofs.YtlekfhnlhdmekaaGreatDoorW.PrintMore
namespace Se
open Oc
theorem at_yes (a s : ByteArray) (j : Nat) (ha : a.size ≤ 1200) (hs : s.size ≤ 1200) (hj : j ≤ 10000) (h : st a s j) : qanatref02_at.f a s (j : Int) = some true := by
  unfold qanatref02_at.f
  rw [wrap64_id _ (by omega) (by omega), if_pos (by have := h.1; omega), if_pos (by omega), if_pos (by omega)]
  rw [show ((j : Int) + (a.size : Int)).toNat = j + a.size by omega, Int.toNat_natCast, h.2]
  simp
theorem at_no (a s : ByteArray) (j : Nat) (ha : a.size ≤ 1200) (hs : s.size ≤ 1200) (hj : j ≤ 10000) (h : ¬ st a s j) : qanatref02_at.f a s (j : Int) = some false := by
  unfold qanatref02_at.f
  rw [wrap64_id _ (by omega) (by omega)]
  by_cases h1 : j + a.size ≤ s.size
  · rw [if_pos (by omega), if_pos (by omega), if_pos (by omega), show ((j : Int) + (a.size : Int)).toNat = j + a.size by omega, Int.toNat_natCast]
    have : ¬ (s.extract j (j + a.size)).toList = a.toList := fun h2 => h ⟨h1, h2⟩
    simpa using this
  · rw [if_neg (by omega)]
theorem find_l0 (a s : ByteArray) (ha : a.size ≤ 1200) (hs : s.size ≤ 1200) : ∀ (d i k : Nat), s.size - i = d → 2 * d + 4 ≤ k → (i : Int) ≤ 9223372036854775807 → qanatref02_find.l0 k a s (i : Int) = some (fnd a s i)
  | d, i, k, hd, hk, hi => by
    obtain ⟨k, rfl⟩ : ∃ k', k = k' + 2 := ⟨k - 2, by omega⟩
    rw [qanatref02_find.l0, wrap64_id _ (by omega) (by omega)]
    by_cases h1 : (i : Int) ≤ (s.size : Int) - (a.size : Int)
    · rw [if_pos h1, qanatref02_find.j1]
      by_cases hp : 0 < a.size
      · rw [decide_eq_true (show (a.size : Int) > 0 by omega), if_pos rfl]
        by_cases h : st a s i
        · rw [at_yes a s i ha hs (by omega) h, fnd_hit a s i hp h]
          simp only [Option.bind_some, if_true]
        · rw [at_no a s i ha hs (by omega) h, fnd_miss a s i hp (by omega) h]
          simp only [Option.bind_some]
          rw [if_neg (by decide), wrap64_id _ (by omega) (by omega), show ((i : Int) + 1) = ((i + 1 : Nat) : Int) by omega]
          exact find_l0 a s ha hs (d - 1) (i + 1) k (by omega) (by omega) (by omega)
      · rw [decide_eq_false (show ¬ (a.size : Int) > 0 by omega), if_neg (by decide), fnd_out a s i (by omega)]
    · rw [if_neg h1, qanatref02_find.j1, if_neg (by decide), fnd_out a s i (by omega)]
  termination_by d => d
  decreasing_by all_goals omega
theorem rfind (a s : ByteArray) (ha : a.size ≤ 1200) (hs : s.size ≤ 1200) (i k : Nat) (hk : 2500 ≤ k) (hi : (i : Int) ≤ 9223372036854775807) : qanatref02_find.f k a s (i : Int) = some (fnd a s i) := by
  unfold qanatref02_find.f
  exact find_l0 a s ha hs (s.size - i) i k rfl (by omega) hi
theorem pos_agree (a s : ByteArray) (n : Int) (ha : a.size ≤ 1200) (hs : s.size ≤ 1200) (hn : n ≤ 9223372036854775807) (k : Nat) (hk : 2500 ≤ k) : ∃ v e, text_Pos.f a s n = some (v, e) ∧ qanatref02_Pos.f k a s n = some (v, e) := by
  rw [pos_eq a s n ha hs hn]
  unfold qanatref02_Pos.f qanatref02_Valid.f
  simp only [Option.bind_some, B.whole]
  by_cases h : (vld a = true ∧ vld s = true) ∧ 1 ≤ n
  · have h1 := h.2
    obtain ⟨m, hm⟩ : ∃ m : Nat, n - 1 = (m : Int) := ⟨(n - 1).toNat, by omega⟩
    have hg := fnd_ge a s m
    have hl := fnd_lo a s m
    rw [if_pos h, if_pos h.1.1, if_pos h.1.2, if_pos (decide_eq_true h.2), wrap64_id _ (by omega) (by omega), hm, rfind a s ha hs m k hk (by omega)]
    simp only [Option.bind_some, Int.toNat_natCast]
    rw [wrap64_id _ (by omega) (by
      by_cases h0 : 0 ≤ fnd a s m
      · have := hl h0; omega
      · omega)]
    exact ⟨_, _, rfl, rfl⟩
  · rw [if_neg h]
    refine ⟨_, _, rfl, ?_⟩
    by_cases h1 : vld a = true
    · rw [if_pos h1]
      by_cases h2 : vld s = true
      · rw [if_pos h2, if_neg (by simp; exact Int.not_le.1 fun h3 => h ⟨⟨h1, h2⟩, h3⟩)]
      · rw [if_neg h2]
    · rw [if_neg h1]
theorem last_l0 (a t : ByteArray) (ha : a.size ≤ 1200) (ht : t.size ≤ 1200) (hp : 0 < a.size) : ∀ (c k : Nat), c + a.size ≤ t.size + 1 → 2 * c + 3 ≤ k → qanatref02_LastPos.l0 k a t ((c : Int) - 1) = some (Lib.lastOcc t.data.toList a.data.toList c + 1, 0)
  | 0, k, hc, hk => by
    obtain ⟨k, rfl⟩ : ∃ k', k = k' + 2 := ⟨k - 2, by omega⟩
    rw [qanatref02_LastPos.l0, if_neg (by omega), qanatref02_LastPos.j4, if_neg (by decide)]
    rfl
  | c + 1, k, hc, hk => by
    obtain ⟨k, rfl⟩ : ∃ k', k = k' + 2 := ⟨k - 2, by omega⟩
    rw [show (((c + 1 : Nat) : Int) - 1) = (c : Int) by omega, qanatref02_LastPos.l0, if_pos (by omega), qanatref02_LastPos.j4, decide_eq_true (show (a.size : Int) > 0 by omega), if_pos rfl]
    by_cases h : st a t c
    · rw [at_yes a t c ha ht (by omega) h, Lib.lastOcc_hit _ _ c ((isP a t c hp).2 h)]
      simp only [Option.bind_some, if_true]
      rw [wrap64_id _ (by omega) (by omega)]
    · have hf : Lib.occAt t.data.toList a.data.toList c = false := by
        cases hq : Lib.occAt t.data.toList a.data.toList c with
        | false => rfl
        | true => exact absurd ((isP a t c hp).1 hq) h
      rw [at_no a t c ha ht (by omega) h, Lib.lastOcc_miss _ _ c hf]
      simp only [Option.bind_some]
      rw [if_neg (by decide), wrap64_id _ (by omega) (by omega)]
      exact last_l0 a t ha ht hp c k (by omega) (by omega)
theorem last_j2 (a t : ByteArray) (ha : a.size ≤ 1200) (ht : t.size ≤ 1200) (k : Nat) (hk : 2600 ≤ k) : qanatref02_LastPos.j2 k a t = some (if a.size = 0 then 0 else Lib.lastIndex t.data.toList a.data.toList + 1, 0) := by
  obtain ⟨k, rfl⟩ : ∃ k', k = k' + 3 := ⟨k - 3, by omega⟩
  rw [qanatref02_LastPos.j2, wrap64_id _ (by omega) (by omega)]
  by_cases hp : a.size = 0
  · rw [if_pos hp, qanatref02_LastPos.l0]
    have e : decide ((a.size : Int) > 0) = false := decide_eq_false (by omega)
    rw [e]
    split <;> rw [qanatref02_LastPos.j4, if_neg (by decide)]
  · rw [if_neg hp]
    unfold Lib.lastIndex
    rw [← B.sz, ← B.sz]
    by_cases hc : a.size ≤ t.size
    · rw [if_pos hc]
      have := last_l0 a t ha ht (by omega) (t.size - a.size + 1) (k + 2) (by omega) (by omega)
      rw [show (((t.size - a.size + 1 : Nat) : Int) - 1) = (t.size : Int) - (a.size : Int) by omega] at this
      exact this
    · rw [if_neg hc, qanatref02_LastPos.l0, if_neg (by omega), qanatref02_LastPos.j4, if_neg (by decide)]
      rfl
theorem whole_m (n : Int) : qanatref02_whole.f n 1 true = some (decide (n = -1 ∨ 1 ≤ n)) := by
  unfold qanatref02_whole.f
  by_cases h : 1 ≤ n
  · rw [if_pos (by omega)]; simp [h]
  · rw [if_neg (by omega), if_pos rfl]
    by_cases e : n = -1
    · subst e; rfl
    · rw [show (n == -1) = false from beq_eq_false_iff_ne.mpr e, show decide (n = -1 ∨ 1 ≤ n) = false from decide_eq_false (by omega)]
theorem lastpos_agree (a s : ByteArray) (n : Int) (ha : a.size ≤ 1200) (hs : s.size ≤ 1200) (k : Nat) (hk : 2700 ≤ k) : ∃ v e, text_LastPos.f k a s n = some (v, e) ∧ qanatref02_LastPos.f k a s n = some (v, e) := by
  obtain ⟨k, rfl⟩ : ∃ k', k = k' + 2 := ⟨k - 2, by omega⟩
  rw [lastpos_eq a s n ha hs (k + 1)]
  have hj : ∀ q : Bool, q = true → qanatref02_LastPos.j0 (k + 2) a s n q = some (0, 1) := fun q hq => by rw [qanatref02_LastPos.j0, if_pos hq]
  unfold qanatref02_LastPos.f qanatref02_Valid.f
  simp only [Option.bind_some, whole_m]
  by_cases h : (vld a = true ∧ vld s = true) ∧ (n = -1 ∨ 1 ≤ n)
  · have hu := upto_size s n
    refine ⟨_, _, by rw [if_pos h], ?_⟩
    rw [if_pos h.1.1, if_pos h.1.2, decide_eq_true h.2, Bool.not_true, qanatref02_LastPos.j0, if_neg (show ¬ (false = true) by decide)]
    by_cases hm : n = -1
    · rw [if_pos hm, qanatref02_LastPos.j1, if_neg (by decide), last_j2 a s ha hs k (by omega)]
      unfold upto
      rw [if_pos hm]
    · rw [if_neg hm, qanatref02_LastPos.j1]
      have h1 : 1 ≤ n := by have := h.2; omega
      by_cases hc : n < (s.size : Int)
      · have eu : upto s n = s.extract 0 n.toNat := by unfold upto; rw [if_neg hm]; congr 2; unfold mn; split <;> omega
        rw [decide_eq_true hc, if_pos rfl, if_pos (by omega), if_pos (by omega), ← eu, last_j2 a _ ha (by omega) k (by omega)]
      · have eu : upto s n = s := by
          unfold upto
          rw [if_neg hm]
          have : (mn n (s.size : Int)).toNat = s.size := by unfold mn; split <;> omega
          rw [this]
          apply B.ext
          rw [B.extract, List.drop_zero, Nat.sub_zero, B.sz, List.take_length]
        rw [decide_eq_false hc, if_neg (by decide), eu, last_j2 a s ha hs k (by omega)]
  · refine ⟨_, _, by rw [if_neg h], ?_⟩
    by_cases h1 : vld a = true
    · rw [if_pos h1]
      by_cases h2 : vld s = true
      · rw [if_pos h2, hj _ (by rw [decide_eq_false (fun h3 => h ⟨⟨h1, h2⟩, h3⟩)]; rfl)]
      · rw [if_neg h2, hj _ rfl]
    · rw [if_neg h1, hj _ rfl]
theorem count_l0 (a s : ByteArray) (ha : a.size ≤ 1200) (hs : s.size ≤ 1200) : ∀ (d e k : Nat) (c : Int), s.size - e = d → d + 2600 ≤ k → e ≤ 2400 → 0 ≤ c → c ≤ 100000 - d → qanatref02_Count.l0 k a s c (fnd a s e) = some (c + (occ a s e).length, 0)
  | d, e, k, c, hd, hk, he, hc, hc2 => by
    obtain ⟨k, rfl⟩ : ∃ k', k = k' + 1 := ⟨k - 1, by omega⟩
    rw [qanatref02_Count.l0]
    by_cases h : 0 ≤ fnd a s e
    · have hl := fnd_lo a s e h
      obtain ⟨q, hq⟩ := Int.eq_ofNat_of_zero_le h
      have eo : occ a s e = (q : Int) :: occ a s (q + a.size) := by rw [occ, dif_pos h, hq]; simp
      rw [if_pos (by omega), eo, hq, wrap64_id _ (by omega) (by omega), wrap64_id _ (by omega) (by omega), show ((q : Int) + (a.size : Int)) = ((q + a.size : Nat) : Int) by omega, rfind a s ha hs _ k (by omega) (by omega)]
      simp only [Option.bind_some, List.length_cons]
      rw [count_l0 a s ha hs (s.size - (q + a.size)) (q + a.size) k (c + 1) rfl (by omega) (by omega) (by omega) (by omega)]
      congr 2
      omega
    · have eo : occ a s e = [] := by rw [occ, dif_neg h]
      rw [if_neg (by omega), eo]
      simp
  termination_by d => d
  decreasing_by omega
theorem count_agree (a s : ByteArray) (ha : a.size ≤ 1200) (hs : s.size ≤ 1200) (k : Nat) (hk : 4000 ≤ k) : ∃ v e, text_Count.f a s = some (v, e) ∧ qanatref02_Count.f k a s = some (v, e) := by
  obtain ⟨k, rfl⟩ : ∃ k', k = k' + 1 := ⟨k - 1, by omega⟩
  rw [count_eq a s ha hs]
  have hj : ∀ q : Bool, q = true → qanatref02_Count.j0 (k + 1) a s q = some (0, 1) := fun q hq => by rw [qanatref02_Count.j0, if_pos hq]
  unfold qanatref02_Count.f qanatref02_Valid.f
  simp only [Option.bind_some]
  by_cases h : vld a = true ∧ vld s = true
  · refine ⟨_, _, by rw [if_pos h], ?_⟩
    rw [if_pos h.1, h.2, Bool.not_true, qanatref02_Count.j0, if_neg (show ¬ (false = true) by decide), show (0 : Int) = ((0 : Nat) : Int) from rfl, rfind a s ha hs 0 k (by omega) (by omega)]
    simp only [Option.bind_some]
    rw [count_l0 a s ha hs s.size 0 k _ (by omega) (by omega) (by omega) (by omega) (by omega)]
    simp
  · refine ⟨_, _, by rw [if_neg h], ?_⟩
    by_cases h1 : vld a = true
    · rw [if_pos h1, hj _ (by
        cases h2 : vld s with
        | false => rfl
        | true => exact absurd ⟨h1, h2⟩ h)]
    · rw [if_neg h1, hj _ rfl]
/-- Bytes as numbers. -/
def nm (l : List UInt8) : List Int := l.map fun b => (b.toNat : Int)
theorem nm_bytes (s : ByteArray) : bytesOf s = nm s.data.toList := rfl
theorem nm_app (a b : List UInt8) : nm (a ++ b) = nm a ++ nm b := List.map_append
theorem out_big (L : List Int) (h : L.length > 1000) : qanatref02_out.f L = some (⟨#[]⟩, 3) := by unfold qanatref02_out.f; rw [if_pos h]
theorem out_some (L : List Int) : ∃ v e, qanatref02_out.f L = some (v, e) := by unfold qanatref02_out.f; exact ⟨_, _, rfl⟩
theorem bind_out (L : List Int) : ((qanatref02_out.f L).bind fun bt => some (bt.1, bt.2)) = qanatref02_out.f L := by
  obtain ⟨v, e, h⟩ := out_some L
  rw [h]; rfl
theorem tail_bytes (s : ByteArray) (e : Nat) : bytesOf (s.extract e s.size) = nm (s.data.toList.drop e) := by
  rw [nm_bytes, B.extract, List.take_of_length_le (by rw [List.length_drop, ← B.sz]; exact Nat.le_refl _)]
theorem change_l0 (a s w : ByteArray) (ha : a.size ≤ 1200) (hs : s.size ≤ 1200) (hw : w.size ≤ 1200) : ∀ (d e k : Nat) (L : List Int), s.size - e = d → d + 2600 ≤ k → e ≤ s.size → L.length ≤ 5000 → qanatref02_Change.l0 k a s w L (e : Int) (fnd a s e) = qanatref02_out.f (L ++ nm (rest a s w e))
  | d, e, k, L, hd, hk, he, hL => by
    obtain ⟨k, rfl⟩ : ∃ k', k = k' + 1 := ⟨k - 1, by omega⟩
    rw [qanatref02_Change.l0]
    have z1 : (s.extract e s.size).size ≤ 1200 := by rw [ByteArray.size_extract]; omega
    have fin : (if 0 ≤ (e : Int) then (if (e : Int) ≤ (s.size : Int) then (if L.length + (s.extract (e : Int).toNat s.size).size < 140737488355328 then ((qanatref02_out.f (L ++ bytesOf (s.extract (e : Int).toNat s.size))).bind fun bt619 => (some (bt619.1, bt619.2))) else (none)) else (none)) else (none)) = qanatref02_out.f (L ++ nm (s.data.toList.drop e)) := by
      rw [if_pos (by omega), if_pos (by omega), Int.toNat_natCast, if_pos (by omega), bind_out, tail_bytes]
    by_cases h : 0 ≤ fnd a s e
    · have hl := fnd_lo a s e h
      obtain ⟨q, hq⟩ := Int.eq_ofNat_of_zero_le h
      rw [if_pos (by omega)]
      by_cases hc : (L.length : Int) ≤ 1000
      · have z2 : (s.extract e q).size ≤ 1200 := by rw [ByteArray.size_extract]; omega
        have eb : bytesOf (s.extract e q) = nm ((s.data.toList.drop e).take (q - e)) := by rw [nm_bytes, B.extract]
        have lb : (nm ((s.data.toList.drop e).take (q - e))).length ≤ 1200 := by rw [← eb, bytesOf_length]; exact z2
        rw [if_pos hc, hq, if_pos (by omega), if_pos (by omega), if_pos (by omega)]
        simp only [Int.toNat_natCast, Option.bind_some]
        rw [if_pos (by omega), wrap64_id _ (by omega) (by omega), show ((q : Int) + (a.size : Int)) = ((q + a.size : Nat) : Int) by omega, eb]
        simp only [List.length_append]
        rw [if_pos (by omega), rfind a s ha hs _ k (by omega) (by omega)]
        simp only [Option.bind_some]
        rw [change_l0 a s w ha hs hw (s.size - (q + a.size)) (q + a.size) k _ rfl (by omega) (by omega) (by simp only [List.length_append, nm_bytes, bytesOf_length] at *; rw [← nm_bytes, bytesOf_length]; omega), rest_hit a s w e q hq, nm_app, nm_app, nm_bytes]
        simp only [List.append_assoc]
      · rw [if_neg hc, fin, out_big _ (by rw [List.length_append]; omega), out_big _ (by rw [List.length_append]; omega)]
    · rw [if_neg (by omega), fin, rest_out a s w e h]
  termination_by d => d
  decreasing_by omega
theorem change_agree (a s w : ByteArray) (ha : a.size ≤ 1200) (hs : s.size ≤ 1200) (hw : w.size ≤ 1200) (k : Nat) (hk : 4000 ≤ k) : ∃ v e, text_Change.f a s w = some (v, e) ∧ qanatref02_Change.f k a s w = some (v, e) := by
  obtain ⟨k, rfl⟩ : ∃ k', k = k' + 1 := ⟨k - 1, by omega⟩
  rw [change_eq a s w ha hs hw]
  have hj : ∀ q : Bool, q = true → qanatref02_Change.j0 (k + 1) a s w q = some (⟨#[]⟩, 1) := fun q hq => by rw [qanatref02_Change.j0, if_pos hq]
  unfold qanatref02_Change.f qanatref02_Valid.f
  simp only [Option.bind_some]
  by_cases h : vld a = true ∧ vld s = true ∧ vld w = true
  · have hm : text_made.f ⟨(rest a s w 0).toArray⟩ = qanatref02_out.f (nm (rest a s w 0)) := by
      have h1 := made_out (bytesOf ⟨(rest a s w 0).toArray⟩) (bo_range _)
      rw [strOfNums_bytes] at h1
      exact h1
    rw [if_pos h, hm, if_pos h.1, if_pos h.2.1, h.2.2, Bool.not_true, qanatref02_Change.j0, if_neg (show ¬ (false = true) by decide)]
    have e0 : qanatref02_find.f k a s 0 = some (fnd a s 0) := rfind a s ha hs 0 k (by omega) (by omega)
    rw [e0]
    simp only [Option.bind_some]
    have := change_l0 a s w ha hs hw s.size 0 k [] (by omega) (by omega) (by omega) (by simp)
    rw [show ((0 : Nat) : Int) = 0 from rfl] at this
    rw [this, List.nil_append]
    obtain ⟨v, e, ho⟩ := out_some (nm (rest a s w 0))
    rw [ho]
    exact ⟨_, _, rfl, rfl⟩
  · rw [if_neg h]
    refine ⟨_, _, rfl, ?_⟩
    by_cases h1 : vld a = true
    · rw [if_pos h1]
      by_cases h2 : vld s = true
      · rw [if_pos h2, hj _ (by
          cases h3 : vld w with
          | false => rfl
          | true => exact absurd ⟨h1, h2, h3⟩ h)]
      · rw [if_neg h2, hj _ rfl]
    · rw [if_neg h1, hj _ rfl]
end Se
theorem searches_pure : qanatlaw02_TextSearches.Pure := by
  intro a s w n _ _ _ w1
  have hn := B.i64 w1
  refine ⟨60 + 4942, ?_⟩
  unfold qanatlaw02_TextSearches.f
  rw [head_ok 4942]
  simp only [Option.bind_some, qanatlaw02_long.f]
  by_cases h0 : (a.size : Int) > 1200
  · rw [if_pos (decide_eq_true h0)]
    simp [qanatlaw02_TextSearches.j0]
  · rw [if_neg (by simp; omega)]
    by_cases h1 : (s.size : Int) > 1200
    · rw [if_pos (decide_eq_true h1)]
      simp [qanatlaw02_TextSearches.j0]
    · rw [if_neg (by simp; omega)]
      by_cases h2 : (w.size : Int) > 1200
      · rw [decide_eq_true h2]
        simp [qanatlaw02_TextSearches.j0]
      · rw [decide_eq_false h2, show 60 + 4942 = 5000 + 2 from rfl, qanatlaw02_TextSearches.j0, if_neg (by decide)]
        obtain ⟨v1, e1, a1, b1⟩ := Se.pos_agree a s n (by omega) (by omega) hn.2 5001 (by omega)
        obtain ⟨v2, e2, a2, b2⟩ := Se.lastpos_agree a s n (by omega) (by omega) 5001 (by omega)
        obtain ⟨v3, e3, a3, b3⟩ := Se.count_agree a s (by omega) (by omega) 5000 (by omega)
        obtain ⟨v4, e4, a4, b4⟩ := Se.change_agree a s w (by omega) (by omega) (by omega) 5000 (by omega)
        rw [show (5000 : Nat) + 1 = 5001 from rfl]
        simp only [a1, a2, a3, a4, b1, b2, Option.bind_some, B.num_eq, if_true]
        rw [show (5001 : Nat) = 5000 + 1 from rfl, qanatlaw02_TextSearches.j1]
        simp only [b3, b4, Option.bind_some, B.num_eq, B.str_eq, if_true]
end Go.Proofs.YtlekfhnlhdmekaaGreatDoor.T
