/- Part 6 of the proof of TextParts: the functions that it calls return what their plain descriptions say. -/
import Derived.Test.YtlekfhnlhdmekaaGreatDoorCTextParts2
import Derived.Test.YtlekfhnlhdmekaaGreatDoorCTextParts5
import Derived.Test.YtlekfhnlhdmekaaGreatDoorCTextParts3
import Derived.Deep.AppendSrc
import Derived.Deep.MidRow
import Derived.Test.YtlekfhnlhdmekaaGreatDoorCTextParts4

-- Written by a program of this session (mp.py over the kit's print.py), out of the translation.
namespace Go.Proofs.YtlekfhnlhdmekaaGreatDoor.T
set_option linter.unusedSimpArgs false
open Go.RowKit Go.Proofs.YtlekfhnlhdmekaaGreatDoorW.PrintWords Go.Proofs.YtlekfhnlhdmekaaGreatDoorW.PrintLast Go.Proofs.YtlekfhnlhdmekaaGreatDoorW.PrintMore
attribute [local go_sem] max2_int min2_int max_two min_two max_three min_three max_four min_four   -- for this text's walks alone
set_option linter.unusedVariables false
set_option linter.unusedSimpArgs false

/-! ### qanatref02_DelStr: function 54 -/
def qanatref02_DelStr.j0 : Nat → ByteArray → Int → Int → Bool → Option (ByteArray × Int)
  | 0, _, _, _, _ => none
  | k + 1, x0, x1, x2, x19 => if x19 = true then (some ((⟨#[]⟩ : ByteArray), 1)) else (if x1 > (x0.size : Int) then (some (x0, 0)) else (if x2 = (-1) then (if 0 ≤ (wrap64 (x1 - 1)) then (if (wrap64 (x1 - 1)) ≤ (x0.size : Int) then (some (x0.extract 0 ((wrap64 (x1 - 1)) : Int).toNat, 0)) else (none)) else (none)) else (if x2 > (wrap64 ((x0.size : Int) - x1)) then (if 0 ≤ (wrap64 (x1 - 1)) then (if (wrap64 (x1 - 1)) ≤ (x0.size : Int) then (some (x0.extract 0 ((wrap64 (x1 - 1)) : Int).toNat, 0)) else (none)) else (none)) else (if 0 ≤ (wrap64 (x1 - 1)) then (if (wrap64 (x1 - 1)) ≤ (x0.size : Int) then (if 0 ≤ (wrap64 ((wrap64 (x1 - 1)) + x2)) then (if (wrap64 ((wrap64 (x1 - 1)) + x2)) ≤ (x0.size : Int) then (if (x0.extract 0 ((wrap64 (x1 - 1)) : Int).toNat).size + (x0.extract ((wrap64 ((wrap64 (x1 - 1)) + x2)) : Int).toNat x0.size).size ≤ 9223372036854775807 then (some ((x0.extract 0 ((wrap64 (x1 - 1)) : Int).toNat) ++ (x0.extract ((wrap64 ((wrap64 (x1 - 1)) + x2)) : Int).toNat x0.size), 0)) else (none)) else (none)) else (none)) else (none)) else (none)))))
def qanatref02_DelStr.f (k : Nat) (a0 : ByteArray) (a1 : Int) (a2 : Int) : Option (ByteArray × Int) := (qanatref02_Valid.f a0).bind fun t549 => (if t549 = true then ((qanatref02_whole.f a1 1 false).bind fun t550 => (if t550 = true then ((qanatref02_whole.f a2 0 true).bind fun t551 => (qanatref02_DelStr.j0 k a0 a1 a2 (!t551))) else (qanatref02_DelStr.j0 k a0 a1 a2 true))) else (qanatref02_DelStr.j0 k a0 a1 a2 true))
theorem qanatref02_DelStr.mono_l : ∀ k, (∀ y0 y1 y2 y3, LeO (qanatref02_DelStr.j0 k y0 y1 y2 y3) (qanatref02_DelStr.j0 (k + 1) y0 y1 y2 y3))
  | 0 => fun _ _ _ _ r h => by simp [qanatref02_DelStr.j0] at h
  | k + 1 => by
    have ih0 := qanatref02_DelStr.mono_l k
    · intro y0 y1 y2 y3
      unfold qanatref02_DelStr.j0
      repeat' first
      | (with_reducible exact ih0 _ _ _ _)
      | (with_reducible exact LeO.refl _)
      | (with_reducible exact LeO.none _)
      | (with_reducible refine LeO.ite ?_ ?_)
      | (with_reducible refine LeO.bind ?_ (fun _ => ?_))
      | exact ih0 _ _ _ _
      | exact LeO.none _
      | refine LeO.ite ?_ ?_
      | refine LeO.bind ?_ (fun _ => ?_)
theorem qanatref02_DelStr.mono : ∀ a0 a1 a2 k, LeO (qanatref02_DelStr.f k a0 a1 a2) (qanatref02_DelStr.f (k + 1) a0 a1 a2) := by
  intro a0 a1 a2 k
  have ih0 := qanatref02_DelStr.mono_l k
  unfold qanatref02_DelStr.f
  repeat' first
      | (with_reducible exact ih0 _ _ _ _)
      | (with_reducible exact LeO.refl _)
      | (with_reducible exact LeO.none _)
      | (with_reducible refine LeO.ite ?_ ?_)
      | (with_reducible refine LeO.bind ?_ (fun _ => ?_))
      | exact ih0 _ _ _ _
      | exact LeO.none _
      | refine LeO.ite ?_ ?_
      | refine LeO.bind ?_ (fun _ => ?_)
def qanatref02_DelStr.T7 : Bool × List (List Nat × List Nat) := (true, [([], []), ([], []), ([1], [1]), ([0, 2], [0, 2]), ([], []), ([], []), ([5], [5]), ([], []), ([6, 7], [6, 7]), ([4, 8], [4, 8]), ([3, 9], [3, 9]), ([10], [10]), ([11, 0, 1, 2, 3, 4, 5, 6, 7, 8, 9, 10, 11], [11])])
def qanatref02_DelStr.B7 : List Nat := [0, 0, 2, 7, 0, 0, 32, 0, 224, 496, 1023, 2047, 4095]
theorem qanatref02_DelStr.tab7 : rtab .any (opsOf Tryz.f54 7) = qanatref02_DelStr.T7 := by kernel_rfl
theorem qanatref02_DelStr.bits7 : waitsOk qanatref02_DelStr.T7.2 qanatref02_DelStr.B7 = true := by kernel_rfl
set_option maxHeartbeats 8000000 in
set_option maxRecDepth 100000 in
theorem qanatref02_DelStr.calls (k : Nat) (a0 : ByteArray) (a1 : Int) (a2 : Int) (r1 : ByteArray) (r2 : Int) (w : World) (h : qanatref02_DelStr.f k a0 a1 a2 = some (r1, r2)) :
    Calls Tryz.prog 54 #[.string a0, .int .i64 a1, .int .i64 a2] w fun e w' => e = .returned (.agg #[.string r1, .int .i64 r2]) ∧ Below w.heap.size w w' := by
  have hu29 := Tryz.underlying29
  have HB := Aside0.mk (Below.refl w.heap.size w)
  have H : ((qanatref02_Valid.f a0).bind fun t549 => (if t549 = true then ((qanatref02_whole.f a1 1 false).bind fun t550 => (if t550 = true then ((qanatref02_whole.f a2 0 true).bind fun t551 => (qanatref02_DelStr.j0 k a0 a1 a2 (!t551))) else (qanatref02_DelStr.j0 k a0 a1 a2 true))) else (qanatref02_DelStr.j0 k a0 a1 a2 true))) = some (r1, r2) := h
  clear h
  have HC4 := Aside0.mk H
  clear H
  go_enter Tryz.func54, Tryz.ntmps54
  go_upto_region 1 with (first | ((with_reducible refine gate_dst (N := 6) rfl ?_); (try (refine gate_guard (by rfl) ?_; dsimp only)); refine box_event ?hg (N := 6) ?hd (cs := #[.string (⟨#[]⟩ : ByteArray), .int .i64 0]) (t := 29) ?hr ?_; (case hd => rfl); (case hg => rfl); (case hr => first | (go_simp; done) | (go_simp; rfl)); intro gb548 hg w5 hbox hb; have n0_ := Aside0.mk (below_step (by repeat (first | (with_reducible first | exact HB.out | apply below_alloc | apply pw_below_drewN | apply below_drew1) | exact HB.out)) hb); have n1_ := Aside0.mk (hbox); have n2_ := Aside0.mk ((by rw [hg]; exact (below_size (by repeat (first | (with_reducible first | exact HB.out | apply below_alloc | apply pw_below_drewN | apply below_drew1) | exact HB.out))) : w.heap.size ≤ gb548)); have n3_ := Aside0.mk ((by rw [hg]; exact (below_size (by repeat (first | (with_reducible first | exact HB.out | apply below_alloc | apply pw_below_drewN | apply below_drew1) | exact HB.out))) : w.heap.size ≤ gb548)); clear HB; have HB := n0_; have BK548 := n1_; have GW548 := n2_; have GE548 := n3_; clear n0_ n1_ n2_ n3_; clear hb hbox hg))
  (try simp only [Act.put, List.setIfInBounds_toArray, List.set_cons_zero, List.set_cons_succ])
  go_cut [19] (fun v19 wc => ∃ (kq : Nat) (x19_3 : Bool), v19 = .bool x19_3 ∧ Aside0 (qanatref02_DelStr.j0 kq a0 a1 a2 x19_3 = some (r1, r2)) ∧ Aside0 (kq ≤ k) ∧ Aside0 (wc.heap[gb548]? = some (.cells #[.string (⟨#[]⟩ : ByteArray), .int .i64 0] 29 (0, 0))) ∧ Aside0 (Below w.heap.size w wc))
  case first =>
    have H := HC4.out
    clear HC4
    replace H := Option.bind_eq_some_iff.mp H
    obtain ⟨t549, A60, H⟩ := H
    replace H : (if t549 = true then ((qanatref02_whole.f a1 1 false).bind fun t550 => (if t550 = true then ((qanatref02_whole.f a2 0 true).bind fun t551 => (qanatref02_DelStr.j0 k a0 a1 a2 (!t551))) else (qanatref02_DelStr.j0 k a0 a1 a2 true))) else (qanatref02_DelStr.j0 k a0 a1 a2 true)) = some (r1, r2) := H
    have A6 := Aside0.mk A60
    clear A60
    by_cases c7 : t549 = true
    · subst c7
      have H1 : ((qanatref02_whole.f a1 1 false).bind fun t550 => (if t550 = true then ((qanatref02_whole.f a2 0 true).bind fun t551 => (qanatref02_DelStr.j0 k a0 a1 a2 (!t551))) else (qanatref02_DelStr.j0 k a0 a1 a2 true))) = some (r1, r2) := by rw [if_pos rfl] at H; exact H
      clear H
      have H := H1
      clear H1
      replace H := Option.bind_eq_some_iff.mp H
      obtain ⟨t550, A80, H⟩ := H
      replace H : (if t550 = true then ((qanatref02_whole.f a2 0 true).bind fun t551 => (qanatref02_DelStr.j0 k a0 a1 a2 (!t551))) else (qanatref02_DelStr.j0 k a0 a1 a2 true)) = some (r1, r2) := H
      have A8 := Aside0.mk A80
      clear A80
      by_cases c9 : t550 = true
      · subst c9
        have H1 : ((qanatref02_whole.f a2 0 true).bind fun t551 => (qanatref02_DelStr.j0 k a0 a1 a2 (!t551))) = some (r1, r2) := by rw [if_pos rfl] at H; exact H
        clear H
        have H := H1
        clear H1
        replace H := Option.bind_eq_some_iff.mp H
        obtain ⟨t551, A100, H⟩ := H
        replace H : (qanatref02_DelStr.j0 k a0 a1 a2 (!t551)) = some (r1, r2) := H
        have A10 := Aside0.mk A100
        clear A100
        have H' := Aside0.mk H
        clear H
        go_wp2_with (first | ((with_reducible refine gate_callee (f := 89) rfl ?_); refine goesL_ (some 8) rfl rfl Tryz.func89 (by kernel_rfl) rfl #[.string a0] rfl (by (try simp only [List.map_toArray, List.map_cons, List.map_nil]); first | done | rfl | (simp only [List.length_drop, List.length_take]; rfl)) ?_; (with_reducible refine (qanatref02_Valid.calls a0 true _ A6.out).mono ?_); rintro e w' ⟨rfl, ⟨nd, rfl⟩⟩; refine ⟨_, rfl, ?_⟩) | (go_at_call 102; (with_reducible refine (qanatref02_whole.calls a1 1 false true _ A8.out).mono ?_); rintro e w' ⟨rfl, ⟨nd, rfl⟩⟩) | (go_at_call 102; (with_reducible refine (qanatref02_whole.calls a2 0 true t551 _ A10.out).mono ?_); rintro e w' ⟨rfl, ⟨nd, rfl⟩⟩))
        go_meet
        case rel => exact ⟨_, (!t551), (by first | rfl | (simp; done) | (simp [*]; done)), H', ⟨by first | omega | exact Nat.le_refl _⟩, ⟨by (with_reducible repeat (first | refine blk_drewN ?_ _ | refine blk_drew ?_ | refine blk_alloc ?_ _)); exact BK548.out⟩, ⟨by repeat (first | (with_reducible first | exact HB.out | apply below_alloc | apply pw_below_drewN | apply below_drew1 | refine below_set ?_ GE548.out) | exact HB.out)⟩⟩
      · replace c9 := Bool.eq_false_iff.mpr c9
        subst c9
        have H1 : (qanatref02_DelStr.j0 k a0 a1 a2 true) = some (r1, r2) := by rw [if_neg (show ¬ (false = true) by decide)] at H; exact H
        clear H
        have H := H1
        clear H1
        have H' := Aside0.mk H
        clear H
        go_wp2_with (first | ((with_reducible refine gate_callee (f := 89) rfl ?_); refine goesL_ (some 8) rfl rfl Tryz.func89 (by kernel_rfl) rfl #[.string a0] rfl (by (try simp only [List.map_toArray, List.map_cons, List.map_nil]); first | done | rfl | (simp only [List.length_drop, List.length_take]; rfl)) ?_; (with_reducible refine (qanatref02_Valid.calls a0 true _ A6.out).mono ?_); rintro e w' ⟨rfl, ⟨nd, rfl⟩⟩; refine ⟨_, rfl, ?_⟩) | (go_at_call 102; (with_reducible refine (qanatref02_whole.calls a1 1 false false _ A8.out).mono ?_); rintro e w' ⟨rfl, ⟨nd, rfl⟩⟩))
        go_meet
        case rel => exact ⟨_, (true), (by first | rfl | (simp; done) | (simp [*]; done)), H', ⟨by first | omega | exact Nat.le_refl _⟩, ⟨by (with_reducible repeat (first | refine blk_drewN ?_ _ | refine blk_drew ?_ | refine blk_alloc ?_ _)); exact BK548.out⟩, ⟨by repeat (first | (with_reducible first | exact HB.out | apply below_alloc | apply pw_below_drewN | apply below_drew1 | refine below_set ?_ GE548.out) | exact HB.out)⟩⟩
    · replace c7 := Bool.eq_false_iff.mpr c7
      subst c7
      have H1 : (qanatref02_DelStr.j0 k a0 a1 a2 true) = some (r1, r2) := by rw [if_neg (show ¬ (false = true) by decide)] at H; exact H
      clear H
      have H := H1
      clear H1
      have H' := Aside0.mk H
      clear H
      go_wp2_with (first | ((with_reducible refine gate_callee (f := 89) rfl ?_); refine goesL_ (some 8) rfl rfl Tryz.func89 (by kernel_rfl) rfl #[.string a0] rfl (by (try simp only [List.map_toArray, List.map_cons, List.map_nil]); first | done | rfl | (simp only [List.length_drop, List.length_take]; rfl)) ?_; (with_reducible refine (qanatref02_Valid.calls a0 false _ A6.out).mono ?_); rintro e w' ⟨rfl, ⟨nd, rfl⟩⟩; refine ⟨_, rfl, ?_⟩))
      go_meet
      case rel => exact ⟨_, (true), (by first | rfl | (simp; done) | (simp [*]; done)), H', ⟨by first | omega | exact Nat.le_refl _⟩, ⟨by (with_reducible repeat (first | refine blk_drewN ?_ _ | refine blk_drew ?_ | refine blk_alloc ?_ _)); exact BK548.out⟩, ⟨by repeat (first | (with_reducible first | exact HB.out | apply below_alloc | apply pw_below_drewN | apply below_drew1 | refine below_set ?_ GE548.out) | exact HB.out)⟩⟩
  case rest =>
    clear HC4
    try clear p2
    try clear c5
    try clear c7
    try clear c8
    try clear c9
    obtain ⟨kq, x19_3, rfl, HA, HJ3, BK548, HB⟩ := hcut
    cases kq with
    | zero => exact absurd HA.out (by simp [qanatref02_DelStr.j0])
    | succ kj3 =>
      have H := HA.out
      clear HA
      simp only [qanatref02_DelStr.j0] at H
      by_cases c11 : x19_3 = true
      · subst c11
        have H1 : (some ((⟨#[]⟩ : ByteArray), 1)) = some (r1, r2) := by rw [if_pos rfl] at H; exact H
        clear H
        have H := H1
        clear H1
        simp only [Option.some.injEq, Prod.mk.injEq] at H
        obtain ⟨rfl, rfl⟩ := H
        have hcz12_0 : wc.cell? ⟨gb548, 0, none⟩ = some (.string (⟨#[]⟩ : ByteArray)) := (blk_cell BK548.out 0).trans rfl
        have hcz12_1 : wc.cell? ⟨gb548, 1, none⟩ = some (.int .i64 0) := (blk_cell BK548.out 1).trans rfl
        have hfz12_0 := blk_frozen BK548.out 0
        have hfz12_1 := blk_frozen BK548.out 1
        go_wp2
        refine bodyPost_ret (results_cell_row rfl _ _ gb548 29 #[.string (⟨#[]⟩ : ByteArray), .int .i64 1] (0, 0) _ rfl (by (with_reducible repeat (first | refine blk_drewN ?_ _ | refine blk_drew ?_ | refine blk_alloc ?_ _)); refine blk_put (cs := #[.string (⟨#[]⟩ : ByteArray), .int .i64 0]) ?_ 1 _ rfl; (with_reducible repeat (first | refine blk_drewN ?_ _ | refine blk_drew ?_ | refine blk_alloc ?_ _)); refine blk_put (cs := #[.string (⟨#[]⟩ : ByteArray), .int .i64 0]) ?_ 0 _ rfl; (with_reducible repeat (first | refine blk_drewN ?_ _ | refine blk_drew ?_ | refine blk_alloc ?_ _)); exact BK548.out) Tryz.underlying29 rfl (by kernel_rfl)) rfl ?_
        exact ⟨by first | rfl | (simp [errW_none, errW_some] <;> rfl) | (simp [*, errW_none, errW_some] <;> rfl), by repeat (first | (with_reducible first | exact HB.out | apply below_alloc | apply pw_below_drewN | apply below_drew1 | refine below_set ?_ GE548.out) | exact HB.out)⟩
      · replace c11 := Bool.eq_false_iff.mpr c11
        subst c11
        have H1 : (if a1 > (a0.size : Int) then (some (a0, 0)) else (if a2 = (-1) then (if 0 ≤ (wrap64 (a1 - 1)) then (if (wrap64 (a1 - 1)) ≤ (a0.size : Int) then (some (a0.extract 0 ((wrap64 (a1 - 1)) : Int).toNat, 0)) else (none)) else (none)) else (if a2 > (wrap64 ((a0.size : Int) - a1)) then (if 0 ≤ (wrap64 (a1 - 1)) then (if (wrap64 (a1 - 1)) ≤ (a0.size : Int) then (some (a0.extract 0 ((wrap64 (a1 - 1)) : Int).toNat, 0)) else (none)) else (none)) else (if 0 ≤ (wrap64 (a1 - 1)) then (if (wrap64 (a1 - 1)) ≤ (a0.size : Int) then (if 0 ≤ (wrap64 ((wrap64 (a1 - 1)) + a2)) then (if (wrap64 ((wrap64 (a1 - 1)) + a2)) ≤ (a0.size : Int) then (if (a0.extract 0 ((wrap64 (a1 - 1)) : Int).toNat).size + (a0.extract ((wrap64 ((wrap64 (a1 - 1)) + a2)) : Int).toNat a0.size).size ≤ 9223372036854775807 then (some ((a0.extract 0 ((wrap64 (a1 - 1)) : Int).toNat) ++ (a0.extract ((wrap64 ((wrap64 (a1 - 1)) + a2)) : Int).toNat a0.size), 0)) else (none)) else (none)) else (none)) else (none)) else (none))))) = some (r1, r2) := by rw [if_neg (show ¬ (false = true) by decide)] at H; exact H
        clear H
        have H := H1
        clear H1
        by_cases c13 : a1 > (a0.size : Int)
        · rw [if_pos c13] at H
          have c13b0 : decide ((a0.size : Int) < a1) = true := decide_eq_true c13
          clear c13
          simp only [Option.some.injEq, Prod.mk.injEq] at H
          obtain ⟨rfl, rfl⟩ := H
          have hcz14_0 : wc.cell? ⟨gb548, 0, none⟩ = some (.string (⟨#[]⟩ : ByteArray)) := (blk_cell BK548.out 0).trans rfl
          have hcz14_1 : wc.cell? ⟨gb548, 1, none⟩ = some (.int .i64 0) := (blk_cell BK548.out 1).trans rfl
          have hfz14_0 := blk_frozen BK548.out 0
          have hfz14_1 := blk_frozen BK548.out 1
          go_wp2
          refine bodyPost_ret (results_cell_row rfl _ _ gb548 29 #[.string a0, .int .i64 0] (0, 0) _ rfl (by (with_reducible repeat (first | refine blk_drewN ?_ _ | refine blk_drew ?_ | refine blk_alloc ?_ _)); refine blk_put (cs := #[.string a0, .int .i64 0]) ?_ 1 _ rfl; (with_reducible repeat (first | refine blk_drewN ?_ _ | refine blk_drew ?_ | refine blk_alloc ?_ _)); refine blk_put (cs := #[.string (⟨#[]⟩ : ByteArray), .int .i64 0]) ?_ 0 _ rfl; (with_reducible repeat (first | refine blk_drewN ?_ _ | refine blk_drew ?_ | refine blk_alloc ?_ _)); exact BK548.out) Tryz.underlying29 rfl (by kernel_rfl)) rfl ?_
          exact ⟨by first | rfl | (simp [errW_none, errW_some] <;> rfl) | (simp [*, errW_none, errW_some] <;> rfl), by repeat (first | (with_reducible first | exact HB.out | apply below_alloc | apply pw_below_drewN | apply below_drew1 | refine below_set ?_ GE548.out) | exact HB.out)⟩
        · rw [if_neg c13] at H
          have c13b0 : decide ((a0.size : Int) < a1) = false := decide_eq_false c13
          clear c13
          by_cases c15 : a2 = (-1)
          · rw [if_pos c15] at H
            have c15b0 : (a2 == (-1)) = true := beq_iff_eq.mpr c15
            have c15b1 : (a2 != (-1)) = false := bne_eq_false_iff_eq.mpr c15
            clear c15
            obtain ⟨ji16, hji16⟩ : ∃ j_ : Int, (wrap64 (a1 - 1)) = j_ := ⟨_, rfl⟩
            replace H : (if 0 ≤ (ji16) then (if (ji16) ≤ (a0.size : Int) then (some (a0.extract 0 ((ji16) : Int).toNat, 0)) else (none)) else (none)) = some (r1, r2) := by first | (rw [hji16] at H; exact H) | (simp only [hji16] at H ⊢; exact H)
            have hji16w : (IntKind.i64.wrap (a1 - 1)) = ji16 := (i64_w _).trans hji16
            by_cases c17 : 0 ≤ (ji16)
            · rw [if_pos c17] at H
              have c17b0 := eq_true c17
              have c17b1 : decide (0 ≤ (ji16)) = true := decide_eq_true c17
              clear c17
              by_cases c18 : (ji16) ≤ (a0.size : Int)
              · rw [if_pos c18] at H
                have c18b0 := eq_true c18
                have c18b1 : decide ((ji16) ≤ (a0.size : Int)) = true := decide_eq_true c18
                clear c18
                simp only [Option.some.injEq, Prod.mk.injEq] at H
                obtain ⟨rfl, rfl⟩ := H
                have hcz19_0 : wc.cell? ⟨gb548, 0, none⟩ = some (.string (⟨#[]⟩ : ByteArray)) := (blk_cell BK548.out 0).trans rfl
                have hcz19_1 : wc.cell? ⟨gb548, 1, none⟩ = some (.int .i64 0) := (blk_cell BK548.out 1).trans rfl
                have hfz19_0 := blk_frozen BK548.out 0
                have hfz19_1 := blk_frozen BK548.out 1
                go_wp2
                refine bodyPost_ret (results_cell_row rfl _ _ gb548 29 #[.string (a0.extract 0 ((ji16) : Int).toNat), .int .i64 0] (0, 0) _ rfl (by (with_reducible repeat (first | refine blk_drewN ?_ _ | refine blk_drew ?_ | refine blk_alloc ?_ _)); refine blk_put (cs := #[.string (a0.extract 0 ((ji16) : Int).toNat), .int .i64 0]) ?_ 1 _ rfl; (with_reducible repeat (first | refine blk_drewN ?_ _ | refine blk_drew ?_ | refine blk_alloc ?_ _)); refine blk_put (cs := #[.string (⟨#[]⟩ : ByteArray), .int .i64 0]) ?_ 0 _ rfl; (with_reducible repeat (first | refine blk_drewN ?_ _ | refine blk_drew ?_ | refine blk_alloc ?_ _)); exact BK548.out) Tryz.underlying29 rfl (by kernel_rfl)) rfl ?_
                exact ⟨by first | rfl | (simp [errW_none, errW_some] <;> rfl) | (simp only [← hji16]; first | rfl | (simp [errW_none, errW_some] <;> rfl)) | (simp [*, errW_none, errW_some] <;> rfl), by repeat (first | (with_reducible first | exact HB.out | apply below_alloc | apply pw_below_drewN | apply below_drew1 | refine below_set ?_ GE548.out) | exact HB.out)⟩
              · rw [if_neg c18] at H
                exact absurd H (by simp)
            · rw [if_neg c17] at H
              exact absurd H (by simp)
          · rw [if_neg c15] at H
            have c15b0 : (a2 == (-1)) = false := beq_eq_false_iff_ne.mpr c15
            have c15b1 : (a2 != (-1)) = true := bne_iff_ne.mpr c15
            by_cases c20 : a2 > (wrap64 ((a0.size : Int) - a1))
            · rw [if_pos c20] at H
              have c20b0 : decide ((wrap64 ((a0.size : Int) - a1)) < a2) = true := decide_eq_true c20
              clear c20
              obtain ⟨ji21, hji21⟩ : ∃ j_ : Int, (wrap64 (a1 - 1)) = j_ := ⟨_, rfl⟩
              replace H : (if 0 ≤ (ji21) then (if (ji21) ≤ (a0.size : Int) then (some (a0.extract 0 ((ji21) : Int).toNat, 0)) else (none)) else (none)) = some (r1, r2) := by first | (rw [hji21] at H; exact H) | (simp only [hji21] at H ⊢; exact H)
              have hji21w : (IntKind.i64.wrap (a1 - 1)) = ji21 := (i64_w _).trans hji21
              by_cases c22 : 0 ≤ (ji21)
              · rw [if_pos c22] at H
                have c22b0 := eq_true c22
                have c22b1 : decide (0 ≤ (ji21)) = true := decide_eq_true c22
                clear c22
                by_cases c23 : (ji21) ≤ (a0.size : Int)
                · rw [if_pos c23] at H
                  have c23b0 := eq_true c23
                  have c23b1 : decide ((ji21) ≤ (a0.size : Int)) = true := decide_eq_true c23
                  clear c23
                  simp only [Option.some.injEq, Prod.mk.injEq] at H
                  obtain ⟨rfl, rfl⟩ := H
                  have hcz24_0 : wc.cell? ⟨gb548, 0, none⟩ = some (.string (⟨#[]⟩ : ByteArray)) := (blk_cell BK548.out 0).trans rfl
                  have hcz24_1 : wc.cell? ⟨gb548, 1, none⟩ = some (.int .i64 0) := (blk_cell BK548.out 1).trans rfl
                  have hfz24_0 := blk_frozen BK548.out 0
                  have hfz24_1 := blk_frozen BK548.out 1
                  go_wp2
                  refine bodyPost_ret (results_cell_row rfl _ _ gb548 29 #[.string (a0.extract 0 ((ji21) : Int).toNat), .int .i64 0] (0, 0) _ rfl (by (with_reducible repeat (first | refine blk_drewN ?_ _ | refine blk_drew ?_ | refine blk_alloc ?_ _)); refine blk_put (cs := #[.string (a0.extract 0 ((ji21) : Int).toNat), .int .i64 0]) ?_ 1 _ rfl; (with_reducible repeat (first | refine blk_drewN ?_ _ | refine blk_drew ?_ | refine blk_alloc ?_ _)); refine blk_put (cs := #[.string (⟨#[]⟩ : ByteArray), .int .i64 0]) ?_ 0 _ rfl; (with_reducible repeat (first | refine blk_drewN ?_ _ | refine blk_drew ?_ | refine blk_alloc ?_ _)); exact BK548.out) Tryz.underlying29 rfl (by kernel_rfl)) rfl ?_
                  exact ⟨by first | rfl | (simp [errW_none, errW_some] <;> rfl) | (simp only [← hji21]; first | rfl | (simp [errW_none, errW_some] <;> rfl)) | (simp [*, errW_none, errW_some] <;> rfl), by repeat (first | (with_reducible first | exact HB.out | apply below_alloc | apply pw_below_drewN | apply below_drew1 | refine below_set ?_ GE548.out) | exact HB.out)⟩
                · rw [if_neg c23] at H
                  exact absurd H (by simp)
              · rw [if_neg c22] at H
                exact absurd H (by simp)
            · rw [if_neg c20] at H
              have c20b0 : decide ((wrap64 ((a0.size : Int) - a1)) < a2) = false := decide_eq_false c20
              clear c20
              obtain ⟨ji25, hji25⟩ : ∃ j_ : Int, (wrap64 (a1 - 1)) = j_ := ⟨_, rfl⟩
              replace H : (if 0 ≤ (ji25) then (if (ji25) ≤ (a0.size : Int) then (if 0 ≤ (wrap64 ((ji25) + a2)) then (if (wrap64 ((ji25) + a2)) ≤ (a0.size : Int) then (if (a0.extract 0 ((ji25) : Int).toNat).size + (a0.extract ((wrap64 ((ji25) + a2)) : Int).toNat a0.size).size ≤ 9223372036854775807 then (some ((a0.extract 0 ((ji25) : Int).toNat) ++ (a0.extract ((wrap64 ((ji25) + a2)) : Int).toNat a0.size), 0)) else (none)) else (none)) else (none)) else (none)) else (none)) = some (r1, r2) := by first | (rw [hji25] at H; exact H) | (simp only [hji25] at H ⊢; exact H)
              have hji25w : (IntKind.i64.wrap (a1 - 1)) = ji25 := (i64_w _).trans hji25
              by_cases c26 : 0 ≤ (ji25)
              · rw [if_pos c26] at H
                have c26b0 := eq_true c26
                have c26b1 : decide (0 ≤ (ji25)) = true := decide_eq_true c26
                clear c26
                by_cases c27 : (ji25) ≤ (a0.size : Int)
                · rw [if_pos c27] at H
                  have c27b0 := eq_true c27
                  have c27b1 : decide ((ji25) ≤ (a0.size : Int)) = true := decide_eq_true c27
                  clear c27
                  obtain ⟨ji28, hji28⟩ : ∃ j_ : Int, (wrap64 ((ji25) + a2)) = j_ := ⟨_, rfl⟩
                  replace H : (if 0 ≤ (ji28) then (if (ji28) ≤ (a0.size : Int) then (if (a0.extract 0 ((ji25) : Int).toNat).size + (a0.extract ((ji28) : Int).toNat a0.size).size ≤ 9223372036854775807 then (some ((a0.extract 0 ((ji25) : Int).toNat) ++ (a0.extract ((ji28) : Int).toNat a0.size), 0)) else (none)) else (none)) else (none)) = some (r1, r2) := by first | (rw [hji28] at H; exact H) | (simp only [hji28] at H ⊢; exact H)
                  have hji28w : (IntKind.i64.wrap ((ji25) + a2)) = ji28 := (i64_w _).trans hji28
                  by_cases c29 : 0 ≤ (ji28)
                  · rw [if_pos c29] at H
                    have c29b0 := eq_true c29
                    have c29b1 : decide (0 ≤ (ji28)) = true := decide_eq_true c29
                    clear c29
                    by_cases c30 : (ji28) ≤ (a0.size : Int)
                    · rw [if_pos c30] at H
                      have c30b0 := eq_true c30
                      have c30b1 : decide ((ji28) ≤ (a0.size : Int)) = true := decide_eq_true c30
                      clear c30
                      by_cases c31 : (a0.extract 0 ((ji25) : Int).toNat).size + (a0.extract ((ji28) : Int).toNat a0.size).size ≤ 9223372036854775807
                      · rw [if_pos c31] at H
                        have c31b0 := eq_true c31
                        have c31b1 : decide ((a0.extract 0 ((ji25) : Int).toNat).size + (a0.extract ((ji28) : Int).toNat a0.size).size ≤ 9223372036854775807) = true := decide_eq_true c31
                        try have c31b2 : (9223372036854775807 < (a0.extract 0 ((ji25) : Int).toNat).size + (a0.extract ((ji28) : Int).toNat a0.size).size) = False := eq_false (Nat.not_lt.2 c31)
                        try have c31b3 : (9223372036854775807 < ji25.toNat + (a0.size - ji28.toNat)) = False := eq_false (by have q_ := c31; have p_ : ji25 ≤ (a0.size : Int) := of_decide_eq_true (by assumption); simp only [ByteArray.size_extract] at q_; omega)
                        simp only [Option.some.injEq, Prod.mk.injEq] at H
                        obtain ⟨rfl, rfl⟩ := H
                        try go_wp2
                        have n0_ := Aside0.mk (blk_drew BK548.out)
                        have n1_ := Aside0.mk (below_drew1 HB.out)
                        clear BK548
                        clear HB
                        have BK548 := n0_
                        have HB := n1_
                        clear n0_ n1_
                        refine start_ (n := 13) (S := fun w' => True) (ds := []) #[false, false, false, false, false, false, false, false, false, false, false, false, false] (by kernel_rfl) rfl rfl trivial (fun hHeld => ?_); refine with_tabW qanatref02_DelStr.tab7 qanatref02_DelStr.bits7 (fun HT_ HW_ => ?_)
                        generalize wc.drew = w32 at BK548 HB hHeld ⊢
                        refine pure_ (i := 0) (N := some 42) (v := ?_) (a' := ?_) #[true, false, false, false, false, false, false, false, false, false, false, false, false] rfl rfl (any_of HT_.out (by kernel_rfl)) (fun _ _ _ h => h) (Or.inl ⟨by rfl, ?_⟩) ?_ ?_
                        rotate_left
                        · intro w'
                          go_simp
                          with_reducible rfl
                        rotate_left
                        · simp only [Act.put, List.setIfInBounds_toArray, List.set_cons_zero, List.set_cons_succ, i64_w, i32_w]
                          rfl
                        refine pure_ (i := 1) (N := some 43) (v := ?_) (a' := ?_) #[true, true, false, false, false, false, false, false, false, false, false, false, false] rfl rfl (any_of HT_.out (by kernel_rfl)) (fun _ _ _ h => h) (Or.inl ⟨by rfl, ?_⟩) ?_ ?_
                        rotate_left
                        · intro w'
                          go_simp
                          with_reducible rfl
                        rotate_left
                        · simp only [Act.put, List.setIfInBounds_toArray, List.set_cons_zero, List.set_cons_succ, i64_w, i32_w]
                          rfl
                        refine pure_ (i := 2) (N := some 44) (v := ?_) (a' := ?_) #[true, true, true, false, false, false, false, false, false, false, false, false, false] rfl rfl (any_of HT_.out (by kernel_rfl)) (fun _ _ _ h => h) (Or.inl ⟨by rfl, ?_⟩) ?_ ?_
                        rotate_left
                        · intro w'
                          go_simp
                          with_reducible rfl
                        rotate_left
                        · simp only [Act.put, List.setIfInBounds_toArray, List.set_cons_zero, List.set_cons_succ, i64_w, i32_w]
                          rfl
                        refine pure_ (i := 3) (N := some 45) (v := ?_) (a' := ?_) #[true, true, true, true, false, false, false, false, false, false, false, false, false] rfl rfl (any_of HT_.out (by kernel_rfl)) (fun _ _ _ h => h) (Or.inl ⟨by rfl, ?_⟩) ?_ ?_
                        rotate_left
                        · intro w'
                          go_simp
                          with_reducible rfl
                        rotate_left
                        · simp only [Act.put, List.setIfInBounds_toArray, List.set_cons_zero, List.set_cons_succ, i64_w, i32_w]
                          rfl
                        refine pure_ (i := 4) (N := some 46) (v := ?_) (a' := ?_) #[true, true, true, true, true, false, false, false, false, false, false, false, false] rfl rfl (any_of HT_.out (by kernel_rfl)) (fun _ _ _ h => h) (Or.inl ⟨by rfl, ?_⟩) ?_ ?_
                        rotate_left
                        · intro w'
                          go_simp
                          with_reducible rfl
                        rotate_left
                        · simp only [Act.put, List.setIfInBounds_toArray, List.set_cons_zero, List.set_cons_succ, i64_w, i32_w]
                          rfl
                        refine pure_ (i := 5) (N := some 47) (v := ?_) (a' := ?_) #[true, true, true, true, true, true, false, false, false, false, false, false, false] rfl rfl (any_of HT_.out (by kernel_rfl)) (fun _ _ _ h => h) (Or.inl ⟨by rfl, ?_⟩) ?_ ?_
                        rotate_left
                        · intro w'
                          go_simp
                          with_reducible rfl
                        rotate_left
                        · simp only [Act.put, List.setIfInBounds_toArray, List.set_cons_zero, List.set_cons_succ, i64_w, i32_w]
                          rfl
                        refine pure_ (i := 6) (N := some 48) (v := ?_) (a' := ?_) #[true, true, true, true, true, true, true, false, false, false, false, false, false] rfl rfl (any_of HT_.out (by kernel_rfl)) (fun _ _ _ h => h) (Or.inl ⟨by rfl, ?_⟩) ?_ ?_
                        rotate_left
                        · intro w'
                          go_simp
                          with_reducible rfl
                        rotate_left
                        · simp only [Act.put, List.setIfInBounds_toArray, List.set_cons_zero, List.set_cons_succ, i64_w, i32_w]
                          rfl
                        refine pure_ (i := 7) (N := some 49) (v := ?_) (a' := ?_) #[true, true, true, true, true, true, true, true, false, false, false, false, false] rfl rfl (any_of HT_.out (by kernel_rfl)) (fun _ _ _ h => h) (Or.inl ⟨by rfl, ?_⟩) ?_ ?_
                        rotate_left
                        · intro w'
                          go_simp
                          with_reducible rfl
                        rotate_left
                        · simp only [Act.put, List.setIfInBounds_toArray, List.set_cons_zero, List.set_cons_succ, i64_w, i32_w]
                          rfl
                        refine pure_ (i := 8) (N := some 50) (v := ?_) (a' := ?_) #[true, true, true, true, true, true, true, true, true, false, false, false, false] rfl rfl (any_of HT_.out (by kernel_rfl)) (fun _ _ _ h => h) (Or.inl ⟨by rfl, ?_⟩) ?_ ?_
                        rotate_left
                        · intro w'
                          go_simp
                          with_reducible rfl
                        rotate_left
                        · simp only [Act.put, List.setIfInBounds_toArray, List.set_cons_zero, List.set_cons_succ, i64_w, i32_w]
                          rfl
                        refine pure_ (i := 9) (N := some 51) (v := ?_) (a' := ?_) #[true, true, true, true, true, true, true, true, true, true, false, false, false] rfl rfl (any_of HT_.out (by kernel_rfl)) (fun _ _ _ h => h) (Or.inl ⟨by rfl, ?_⟩) ?_ ?_
                        rotate_left
                        · intro w'
                          go_simp
                          with_reducible rfl
                        rotate_left
                        · simp only [Act.put, List.setIfInBounds_toArray, List.set_cons_zero, List.set_cons_succ, i64_w, i32_w]
                          rfl
                        refine pure_ (i := 10) (N := some 52) (v := ?_) (a' := ?_) #[true, true, true, true, true, true, true, true, true, true, true, false, false] rfl rfl (any_of HT_.out (by kernel_rfl)) (fun _ _ _ h => h) (Or.inl ⟨by rfl, ?_⟩) ?_ ?_
                        rotate_left
                        · intro w'
                          go_simp
                          with_reducible rfl
                        rotate_left
                        · simp only [Act.put, List.setIfInBounds_toArray, List.set_cons_zero, List.set_cons_succ, i64_w, i32_w]
                          rfl
                        refine pure_ (i := 11) (N := some 53) (v := ?_) (a' := ?_) #[true, true, true, true, true, true, true, true, true, true, true, true, false] rfl rfl (any_of HT_.out (by kernel_rfl)) (fun _ _ _ h => h) (Or.inl ⟨by rfl, ?_⟩) ?_ ?_
                        rotate_left
                        · intro w'
                          go_simp
                          with_reducible rfl
                        rotate_left
                        · simp only [Act.put, List.setIfInBounds_toArray, List.set_cons_zero, List.set_cons_succ, i64_w, i32_w]
                          rfl
                        refine one_ (i := 12) (N := none) #[true, true, true, true, true, true, true, true, true, true, true, true, true] rfl rfl (one_of HT_.out (by kernel_rfl)) (by decide) (fun K hK => ?_)
                        have hs33 : w32.cell? ⟨gb548, 0, none⟩ = some (.string (⟨#[]⟩ : ByteArray)) := (blk_cell BK548.out 0).trans rfl
                        have hfs33 := blk_frozen BK548.out 0
                        have hs34 : w32.cell? ⟨gb548, 1, none⟩ = some (.int .i64 0) := (blk_cell BK548.out 1).trans rfl
                        have hfs34 := blk_frozen BK548.out 1
                        refine skip_ (w1 := ?_) (by rfl) rfl ?_ ?_
                        rotate_left
                        · go_simp
                          rfl
                        refine hK.out _ _ trivial (fun hHeld => ?_)
                        clear hK K
                        refine done_ (done_of HT_.out (by kernel_rfl)) ?_
                        try go_wp2
                        refine bodyPost_ret (results_cell_row rfl _ _ gb548 29 #[.string ((a0.extract 0 ((ji25) : Int).toNat) ++ (a0.extract ((ji28) : Int).toNat a0.size)), .int .i64 0] (0, 0) _ rfl (by (with_reducible repeat (first | refine blk_drewN ?_ _ | refine blk_drew ?_ | refine blk_alloc ?_ _)); refine blk_put (cs := #[.string ((a0.extract 0 ((ji25) : Int).toNat) ++ (a0.extract ((ji28) : Int).toNat a0.size)), .int .i64 0]) ?_ 1 _ rfl; (with_reducible repeat (first | refine blk_drewN ?_ _ | refine blk_drew ?_ | refine blk_alloc ?_ _)); refine blk_put (cs := #[.string (⟨#[]⟩ : ByteArray), .int .i64 0]) ?_ 0 _ rfl; (with_reducible repeat (first | refine blk_drewN ?_ _ | refine blk_drew ?_ | refine blk_alloc ?_ _)); exact BK548.out) Tryz.underlying29 rfl (by kernel_rfl)) rfl ?_
                        exact ⟨by first | rfl | (simp [errW_none, errW_some] <;> rfl) | (simp only [← hji25, ← hji28]; first | rfl | (simp [errW_none, errW_some] <;> rfl)) | (simp [*, errW_none, errW_some] <;> rfl), by repeat (first | (with_reducible first | exact HB.out | apply below_alloc | apply pw_below_drewN | apply below_drew1 | refine below_set ?_ GE548.out) | exact HB.out)⟩
                      · rw [if_neg c31] at H
                        exact absurd H (by simp)
                    · rw [if_neg c30] at H
                      exact absurd H (by simp)
                  · rw [if_neg c29] at H
                    exact absurd H (by simp)
                · rw [if_neg c27] at H
                  exact absurd H (by simp)
              · rw [if_neg c26] at H
                exact absurd H (by simp)

end Go.Proofs.YtlekfhnlhdmekaaGreatDoor.T

/- A slice of bytes that the call itself made, known by its cells (what a conversion of a string made, too), and append onto it. -/
namespace Go.Proofs.YtlekfhnlhdmekaaGreatDoor.T
set_option linter.unusedSimpArgs false
set_option linter.unusedVariables false
open Go.RowKit Go.Proofs.YtlekfhnlhdmekaaGreatDoorW.PrintWords Go.Proofs.YtlekfhnlhdmekaaGreatDoorW.PrintLast Go.Proofs.YtlekfhnlhdmekaaGreatDoorW.PrintMore

/-- v is a slice of the bytes xs in a block from base on all of whose cells up to the capacity can be written; or nil. -/
def OwnM (base : Nat) (v : Value) (xs : List Int) (W : World) : Prop :=
  (v = .slice none 0 0 ∧ xs = []) ∨ ∃ g cap, v = .slice (some ⟨g, 0, none⟩) xs.length cap ∧ base ≤ g ∧ g < W.heap.size ∧ xs.length ≤ cap ∧ cap ≤ 9223372036854775807 ∧
    (∀ j, j < xs.length → W.cell? ⟨g, j, none⟩ = some (.int .u8 (xs.getD j 0))) ∧ ∀ j, j < cap → (W.cell? ⟨g, j, none⟩).isSome = true ∧ W.frozen? ⟨g, j, none⟩ = false
theorem OwnM.nil (base : Nat) (W : World) : OwnM base (.slice none 0 0) [] W := .inl ⟨rfl, rfl⟩
theorem OwnM.slice {base : Nat} {v : Value} {xs : List Int} {W : World} (h : OwnM base v xs W) : ∃ A c, v = .slice A xs.length c ∧ xs.length ≤ c := by
  rcases h with ⟨rfl, rfl⟩ | ⟨g, cap, rfl, _, _, h, _⟩
  · exact ⟨_, _, rfl, Nat.le_refl _⟩
  · exact ⟨_, _, rfl, h⟩
theorem OwnM.C {base : Nat} {A : Option Addr} {c : Nat} {xs : List Int} {W : World} (h : OwnM base (.slice A xs.length c) xs W) : Kd.C (Kd.int .u8) W A xs.length xs := by
  refine Kd.C_of_reads (d := (0 : Int)) (h1 := fun _ => rfl) ?_
  rcases h with ⟨h1, rfl⟩ | ⟨g, cap, h1, _, _, h2, h3, h4, _⟩
  · simp at h1
    obtain ⟨rfl, _⟩ := h1
    exact ⟨rfl, by decide, fun h => absurd h (by simp)⟩
  · simp at h1
    obtain ⟨rfl, rfl⟩ := h1
    exact ⟨rfl, by omega, fun _ => ⟨_, rfl, fun j hj => by rw [add_plain]; exact h4 j hj⟩⟩
theorem OwnM.mono {base base' : Nat} {v : Value} {xs : List Int} {W : World} (h : OwnM base v xs W) (hb : base' ≤ base) : OwnM base' v xs W :=
  h.imp id fun ⟨g, cap, h1, h2, h3⟩ => ⟨g, cap, h1, Nat.le_trans hb h2, h3⟩
theorem OwnM.below {base B : Nat} {v : Value} {xs : List Int} {W W' : World} (h : OwnM base v xs W) (hB : W.heap.size ≤ B) (hb : Below B W W') : OwnM base v xs W' := by
  rcases h with h | ⟨g, cap, h1, h2, h3, h4, h5, h6, h7⟩
  · exact .inl h
  · refine .inr ⟨g, cap, h1, h2, by have := hb.size; omega, h4, h5, fun j hj => ?_, fun j hj => ?_⟩
    · exact (hb.cell (p := ⟨g, j, none⟩) (by show g < B; omega)).trans (h6 j hj)
    · rw [hb.cell (p := ⟨g, j, none⟩) (by show g < B; omega), hb.frozen (p := ⟨g, j, none⟩) (by show g < B; omega)]
      exact h7 j hj
theorem OwnM.alloc {base : Nat} {v : Value} {xs : List Int} {W : World} (h : OwnM base v xs W) (o : Obj) : OwnM base v xs (W.alloc o) := h.below (Nat.le_refl _) (below_alloc (Below.refl _ _) o)
theorem OwnM.drewN {base : Nat} {v : Value} {xs : List Int} {W : World} (h : OwnM base v xs W) (n : Nat) : OwnM base v xs (W.drewN n) := h
theorem OwnM.conv {base : Nat} (W : World) (s : ByteArray) (hb : base ≤ W.heap.size) (hs : s.size ≤ 100000) : OwnM base (.slice (some ⟨W.heap.size, 0, none⟩) s.size (grownCap W s.size 0 5)) (bytesOf s) (Lib.bytesWorld W 5 s) := by
  have hB := Buf.new W s
  have hg : s.size ≤ grownCap W s.size 0 5 := grownCap_ge W s.size 0 5
  have hm : grownCap W s.size 0 5 ≤ maxLen := grownCap_le_maxLen W s.size 0 5 (by unfold maxLen; omega)
  unfold maxLen at hm
  have hz : (Lib.bytesCells W 5 s).size = grownCap W s.size 0 5 := by
    simp only [Lib.bytesCells, Array.size_append, Array.size_map, Array.size_replicate]
    have : s.data.size = s.size := rfl
    omega
  refine .inr ⟨W.heap.size, _, by rw [bytesOf_length], hb, by rw [Lib.bytesWorld_size]; omega, by rw [bytesOf_length]; exact hg, by omega, fun j hj => hB.cell j hj, fun j hj => ?_⟩
  have hn := Lib.bytesWorld_at_new W 5 s
  rw [hz] at hn
  constructor
  · simp only [World.cell?, hn]
    rw [Array.getElem?_eq_getElem (by rw [hz]; exact hj)]
    rfl
  · simp only [World.frozen?, hn]
    have : ¬ grownCap W s.size 0 5 ≤ j := by omega
    simp [this]
theorem below_setCells {B b : Nat} (hB : B ≤ b) : ∀ (vs : List Value) (o : Nat) (W W' : World), Below B W W' → Below B W (W'.setCells b o vs)
  | [], _, _, _, h => h
  | v :: vs, o, W, W', h => below_setCells hB vs (o + 1) W _ (h.setCell (p := ⟨b, o, none⟩) hB v)
theorem encs_u8_get (xs : List Int) (j : Nat) (hj : j < xs.length) : (xs.map (Value.int .u8))[j]? = some (.int .u8 (xs.getD j 0)) := by
  simp [List.getD_eq_getElem?_getD, List.getElem?_eq_getElem hj]
theorem getD_app (xs ys : List Int) (j : Nat) : (xs ++ ys).getD j 0 = if j < xs.length then xs.getD j 0 else ys.getD (j - xs.length) 0 := by
  simp only [List.getD_eq_getElem?_getD]
  by_cases h : j < xs.length
  · rw [if_pos h, List.getElem?_append_left h]
  · rw [if_neg h, List.getElem?_append_right (by omega)]

theorem run_append_M {P : Program} (W : World) (t tx ty e : TypeId) (i : TypeInfo) (ht : P.underlying t = some (.slice e)) (hi : P.info? e = some i) (hz : i.zero = some (.int .u8 0)) (h1 : i.size = 1) (h2 : i.bytes = 1)
    (base : Nat) (v : Value) (xs : List Int) (h : OwnM base v xs W) (x : Value) (news : List Int) (hs : Src P 1 tx x news.length (news.map (Value.int .u8)) W) (hl : xs.length + news.length ≤ 1000000000) (hb : base ≤ W.heap.size) :
    ∃ v' w', (Builtin.append_ #[t, tx] ty #[v, x]).run P W = .ok v' w' ∧ OwnM base v' (xs ++ news) w' ∧ Below base W w' := by
  have grow : ∀ (ao : Option Addr) (cap : Nat), v = .slice ao xs.length cap → cap < xs.length + news.length → (Builtin.firstCells 1 xs.length (.slice ao xs.length cap)).run P W.drew = .ok (xs.map (Value.int .u8)).toArray W.drew →
      ∃ v' w', (Builtin.append_ #[t, tx] ty #[v, x]).run P W = .ok v' w' ∧ OwnM base v' (xs ++ news) w' ∧ Below base W w' := by
    intro ao cap hv hg hold
    have hge := grownCap_ge W (xs.length + news.length) cap e
    have hcm := grownCap_le_maxLen W (xs.length + news.length) cap e (by unfold maxLen; omega)
    unfold maxLen at hcm
    have hr := run_append_grow_src (P := P) W t tx ty e i (.int .u8 0) ht hi hz ao xs.length cap (xs.map (Value.int .u8)) (by rw [h1]; exact hold) x news.length (news.map (Value.int .u8)) (by rw [h1]; exact hs) hg (by omega) (by rw [h2]; exact growslice_fits hg (by omega))
    rw [hv]
    have hsz : (((xs.map (Value.int .u8)) ++ (news.map (Value.int .u8))).toArray ++ Builtin.zeroCells (Value.int .u8 0).cells (grownCap W (xs.length + news.length) cap e - (xs.length + news.length))).size = grownCap W (xs.length + news.length) cap e := by
      have hz1 : (Value.int IntKind.u8 0).cells.size = 1 := rfl
      simp only [Array.size_append, List.size_toArray, size_zeroCells, hz1, List.length_append, List.length_map]
      omega
    have hn := heap_alloc_new W.drew (.cells (((xs.map (Value.int .u8)) ++ (news.map (Value.int .u8))).toArray ++ Builtin.zeroCells (Value.int .u8 0).cells (grownCap W (xs.length + news.length) cap e - (xs.length + news.length))) e)
    refine ⟨_, _, hr, .inr ⟨W.heap.size, _, by rw [List.length_append], hb, ?_, by rw [List.length_append]; omega, by omega, fun j hj => ?_, fun j hj => ?_⟩, (below_drew (Below.refl base W)).alloc hb _⟩
    · rw [World.size_alloc]; exact Nat.lt_succ_self _
    · rw [List.length_append] at hj
      have hn' : (W.drew.alloc (.cells (((xs.map (Value.int .u8)) ++ (news.map (Value.int .u8))).toArray ++ Builtin.zeroCells (Value.int .u8 0).cells (grownCap W (xs.length + news.length) cap e - (xs.length + news.length))) e)).heap[W.heap.size]? = _ := hn
      simp only [World.cell?, hn']
      rw [Array.getElem?_append_left (by simp; omega), List.getElem?_toArray, ← List.map_append, encs_u8_get _ j (by rw [List.length_append]; exact hj)]
      rfl
    · have hn' : (W.drew.alloc (.cells (((xs.map (Value.int .u8)) ++ (news.map (Value.int .u8))).toArray ++ Builtin.zeroCells (Value.int .u8 0).cells (grownCap W (xs.length + news.length) cap e - (xs.length + news.length))) e)).heap[W.heap.size]? = _ := hn
      constructor
      · simp only [World.cell?, hn']
        rw [Array.getElem?_eq_getElem (by rw [hsz]; exact hj)]
        rfl
      · simp only [World.frozen?, hn']
        simp
  rcases h with ⟨rfl, rfl⟩ | ⟨g, cap, rfl, h3, h4, h5, h6, h7, h8⟩
  · by_cases h0 : news.length = 0
    · obtain rfl := List.length_eq_zero_iff.1 h0
      refine ⟨.slice none 0 0, W, ?_, .inl ⟨rfl, rfl⟩, Below.refl _ _⟩
      have hc := hs.cells
      have hl := hs.len
      simp only [List.length_nil, List.map_nil] at hc hl
      rcases hs.kind with ⟨e', hk⟩ | hk <;> simp [Builtin.append_, run_underlying ht, run_underlying hk, sizeOf, typeInfo, hi, h1, hl, hc]
    · exact grow none 0 rfl (by simp; omega) (by simpa using run_firstCells_none W.drew 1 0 0 0)
  · by_cases hroom : xs.length + news.length ≤ cap
    · have hr := run_append_room_src (P := P) W t tx ty e i ht hi g 0 xs.length cap x news.length (news.map (Value.int .u8)) (by rw [h1]; exact hs) hroom
        (fun j hj => by rw [h1]; exact (h8 _ (by simp at hj; omega)).1) (fun j hj => by rw [h1]; exact (h8 _ (by simp at hj; omega)).2)
      rw [h1] at hr
      simp only [Nat.zero_add, Nat.mul_one] at hr
      refine ⟨_, _, hr, .inr ⟨g, cap, by rw [List.length_append], h3, ?_, by rw [List.length_append]; exact hroom, h6, fun j hj => ?_, fun j hj => ?_⟩, below_setCells h3 _ _ _ _ (Below.refl _ _)⟩
      · exact Nat.lt_of_lt_of_le h4 (below_setCells (B := base) h3 (news.map (Value.int .u8)) xs.length W W (Below.refl _ _)).size
      · rw [List.length_append] at hj
        rw [getD_app]
        by_cases hjx : j < xs.length
        · rw [if_pos hjx, World.cell?_setCells_out g _ _ _ _ (fun _ _ => .inl hjx)]
          exact h7 j hjx
        · rw [if_neg hjx]
          have := World.cell?_setCells_in g (news.map (Value.int .u8)) xs.length W (fun j' hj' => (h8 _ (by simp at hj'; omega)).1) (j - xs.length) (by simp; omega)
          rw [show xs.length + (j - xs.length) = j by omega] at this
          rw [this]
          simp [List.getD_eq_getElem?_getD, List.getElem?_eq_getElem (show j - xs.length < news.length by omega)]
      · rw [World.frozen?_setCells]
        exact ⟨World.isSome_setCells g _ _ _ _ (h8 j hj).1, (h8 j hj).2⟩
    · refine grow (some ⟨g, 0, none⟩) cap rfl (by omega) ?_
      refine run_firstCells_some W.drew 1 xs.length ⟨g, 0, none⟩ xs.length cap (xs.map (Value.int .u8)) (by simp) (fun j u hu => ?_)
      have hj : j < xs.length := by have := (List.getElem?_eq_some_iff.1 hu).1; simpa using this
      rw [encs_u8_get xs j hj] at hu
      cases hu
      rw [add_plain]
      exact h7 j hj

/-- append onto such a slice, for the walk. -/
theorem wpList_append_M {P : Program} {w0 W : World} {ops : Array Oper} {rest : List Oper} {o : Oper} {a : Act} {Q : Exit → Act → World → Prop} (hgd : o.guard = none) (sl x : Operand) (t tx e : TypeId)
    (ho : o.op = .call { callee := .builtin .append, args := #[sl, x], argTypes := #[t, tx] })
    (ht : P.underlying t = some (.slice e)) (hinfo : (P.info? e).map (fun i => (i.zero, i.size, i.bytes)) = some (some (.int .u8 0), 1, 1))
    (base : Nat) (v : Value) (xs : List Int) (hs : a.eval sl = v) (h : OwnM base v xs W) (xv : Value) (hx : a.eval x = xv) (news : List Int) (hsrc : Src P 1 tx xv news.length (news.map (Value.int .u8)) W)
    (hl : xs.length + news.length ≤ 1000000000) (hb : base ≤ W.heap.size) (HB : Below base w0 W)
    (hK : ∀ v' w', OwnM base v' (xs ++ news) w' → Below base w0 w' → wpList P ops Q rest (a.put o.dst v') w') : wpList P ops Q (o :: rest) a W := by
  refine wpList_plain hgd fun K hK' => ?_
  obtain ⟨i, hi, hz, h1, h2⟩ := info_parts hinfo
  obtain ⟨v', w', hr, ho', hb'⟩ := run_append_M (P := P) W t tx o.type e i ht hi hz h1 h2 base v xs h xv news hsrc hl hb
  unfold Oper.wp execOp
  simp only [ho, resolve, invoke, builtin, Sem.run_bind, Sem.run_pure, Result.andThen_ok, List.map_toArray, List.map_cons, List.map_nil, hs, hx, hr]
  exact hK' _ _ (hK v' w' ho' (HB.trans hb'))
theorem src_bytes {P : Program} {tx : TypeId} (W : World) (hk : P.underlying tx = some .string) (s : ByteArray) : Src P 1 tx (.string s) (bytesOf s).length ((bytesOf s).map (Value.int .u8)) W := by
  have h := Src.ofString (P := P) W hk s
  have e : Go.byteCells s = (bytesOf s).map (Value.int .u8) := by simp [Go.byteCells, bytesOf, Function.comp_def]
  rw [e, ← bytesOf_length] at h
  exact h
theorem src_own {P : Program} {tx e : TypeId} {base : Nat} {v : Value} {xs : List Int} {W : World} (hk : P.underlying tx = some (.slice e)) (h : OwnM base v xs W) : Src P 1 tx v xs.length (xs.map (Value.int .u8)) W := by
  rcases h with ⟨rfl, rfl⟩ | ⟨g, cap, rfl, h3, h4, h5, h6, h7, h8⟩
  · exact Src.ofNil W hk 0
  · refine Src.ofSlice W hk _ _ _ _ (by simp) (fun j u hu => ?_) (fun u hu => ?_)
    · have hj : j < xs.length := by have := (List.getElem?_eq_some_iff.1 hu).1; simpa using this
      rw [encs_u8_get xs j hj] at hu
      cases hu
      rw [add_plain]
      exact h7 j hj
    · obtain ⟨z, _, rfl⟩ := List.mem_map.1 hu
      rfl
theorem src_one {P : Program} {tx e : TypeId} (W : World) (hk : P.underlying tx = some (.slice e)) (x : Int) (t : TypeId) : Src P 1 tx (.slice (some ⟨W.heap.size, 0, none⟩) 1 1) [x].length ([x].map (Value.int .u8)) (W.alloc (.cells #[.int .u8 x] t)) := by
  refine Src.ofSlice _ hk _ _ _ _ (by simp) (fun j u hu => ?_) (fun u hu => ?_)
  · have hj : j < 1 := by have := (List.getElem?_eq_some_iff.1 hu).1; simpa using this
    obtain rfl : j = 0 := by omega
    simp at hu
    subst hu
    rw [add_plain]
    exact (blk_cell (heap_alloc_new W _) 0).trans rfl
  · simp at hu; subst hu; rfl
end Go.Proofs.YtlekfhnlhdmekaaGreatDoor.T

/- The reference's pads and fit: what they make of a slice of bytes that the call itself made, and of a string. -/
namespace Go.Proofs.YtlekfhnlhdmekaaGreatDoor.T
set_option linter.unusedSimpArgs false
set_option linter.unusedVariables false
open Go.RowKit Go.Proofs.YtlekfhnlhdmekaaGreatDoorW.PrintWords Go.Proofs.YtlekfhnlhdmekaaGreatDoorW.PrintLast Go.Proofs.YtlekfhnlhdmekaaGreatDoorW.PrintMore
attribute [local go_sem] max2_int min2_int max_two min_two max_three min_three max_four min_four

theorem rep_snoc (xs : List Int) (k : Nat) (p : Int) : xs ++ List.replicate k p ++ [p] = xs ++ List.replicate (k + 1) p := by
  rw [List.append_assoc, List.replicate_succ']
set_option maxRecDepth 100000 in
set_option maxHeartbeats 1000000 in
theorem padsM (w0 w : World) (v : Value) (xs : List Int) (n p : Int) (hB : Below w0.heap.size w0 w) (ho : OwnM w0.heap.size v xs w) (hl : xs.length ≤ 100000) (hn : n ≤ 100000) :
    Calls Tryz.prog 130 #[v, .int .i64 n, .int .u8 p] w fun e w' => ∃ v' : Value, e = .returned v' ∧ OwnM w0.heap.size v' (xs ++ List.replicate n.toNat p) w' ∧ Below w0.heap.size w0 w' := by
  have HB := Aside0.mk hB
  have HO := Aside0.mk ho
  have HS0 := Aside0.mk hB.size
  clear hB ho
  go_enter Tryz.func130, Tryz.ntmps130
  go_wp2
  go_loopg [0, 7] n.toNat (fun gg s0 s7 wr => ∃ kk : Nat, n.toNat - kk ≤ gg ∧ kk ≤ n.toNat ∧ s7 = .int .i64 kk ∧ Aside0 (OwnM w0.heap.size s0 (xs ++ List.replicate kk p) wr) ∧ Aside0 (Below w0.heap.size w0 wr))
  case atStart => exact ⟨0, by omega, by omega, rfl, ⟨by simpa using HO.out⟩, HB⟩
  case round =>
    clear HB HO
    obtain ⟨kk, hg, hk, rfl, HO, HB⟩ := hrel
    by_cases hlt : (kk : Int) < n
    · have d1 : decide ((kk : Int) < n) = true := decide_eq_true hlt
      have hkk : (kk : Int) ≤ 100000 := by omega
      have hlen : (xs ++ List.replicate kk p).length ≤ 200000 := by rw [List.length_append, List.length_replicate]; omega
      have HLEN := Aside0.mk hlen
      clear hlen
      have HSNOC := Aside0.mk (rep_snoc xs kk p)
      generalize xs ++ List.replicate kk p = ys at HO HLEN HSNOC
      go_wp2_with (at_builtin; refine wpList_append_M (w0 := w0) rfl (.tmp 13) (.tmp 15) 83 83 5 rfl Tryz.underlying83 info5 w0.heap.size _ ys rfl (HO.out.alloc _) _ rfl [p] (src_one wr Tryz.underlying83 p 5) (by have := HLEN.out; simp; omega) (by have := HB.out.size; simp; omega) (below_alloc HB.out _) ?_; intro v1 w1 ho1 hb1; have HO1 := Aside0.mk ho1; have HB1 := Aside0.mk hb1; clear ho1 hb1)
      go_roundg (n.toNat - (kk + 1))
      case measure => omega
      case rel => exact ⟨kk + 1, by omega, by omega, by go_num, ⟨by rw [← HSNOC.out]; exact HO1.out⟩, HB1⟩
    · have d1 : decide ((kk : Int) < n) = false := decide_eq_false hlt
      obtain rfl : n.toNat = kk := by omega
      go_wp2
      go_ret
      exact ⟨_, rfl, HO.out, HB.out⟩

/-- A string fitted to a length, of which no more than 1001 bytes are made. -/
def fitL (s : ByteArray) (n p : Int) : List Int := if n ≤ s.size then (bytesOf s).take n.toNat else bytesOf s ++ List.replicate ((if n < 1001 then n else 1001) - s.size).toNat p
theorem fitL_length (s : ByteArray) (n p : Int) : (fitL s n p).length ≤ s.size + 1001 := by
  unfold fitL
  split
  · rw [List.length_take, bytesOf_length]; omega
  · rw [List.length_append, List.length_replicate, bytesOf_length]; split <;> omega
theorem bytesOf_extract (s : ByteArray) (i j : Nat) : bytesOf (s.extract i j) = ((bytesOf s).drop i).take (j - i) := by
  unfold bytesOf
  rw [ByteArray.data_extract, Array.toList_extract, List.extract_eq_take_drop, List.map_take, List.map_drop]
set_option maxRecDepth 100000 in
set_option maxHeartbeats 1000000 in
theorem fitM (s : ByteArray) (n p : Int) (w0 w : World) (hs : s.size ≤ 100000) (hn : 0 ≤ n) (hn2 : n ≤ 9223372036854775807) (hB : Below w0.heap.size w0 w) :
    Calls Tryz.prog 104 #[.string s, .int .i64 n, .int .u8 p] w fun e w' => ∃ v' : Value, e = .returned v' ∧ OwnM w0.heap.size v' (fitL s n p) w' ∧ Below w0.heap.size w0 w' := by
  obtain ⟨m, rfl⟩ := Int.eq_ofNat_of_zero_le hn
  have HB := Aside0.mk hB
  clear hB hn
  by_cases h : (m : Int) ≤ s.size
  · have hm : m ≤ s.size := by omega
    have d1 : decide (m ≤ s.size) = true := decide_eq_true hm
    have HR : Aside0 (fitL s m p = bytesOf (s.extract 0 m)) := ⟨by unfold fitL; rw [if_pos h, bytesOf_extract]; simp⟩
    have hz : (s.extract 0 m).size = m := by rw [ByteArray.size_extract]; omega
    have kb := print_bytes (P := Tryz.prog) 9 83 5 Tryz.underlying9 Tryz.underlying83 Tryz.underlying5 (s.extract 0 m) w
    have HC := Aside0.mk (OwnM.conv (base := w0.heap.size) w (s.extract 0 m) HB.out.size (by rw [hz]; omega))
    have HBC := Aside0.mk (bytes_below HB.out HB.out.size 5 (s.extract 0 m))
    rw [hz] at kb HC
    clear h hz
    go_enter Tryz.func104, Tryz.ntmps104
    go_wp2
    go_ret
    exact ⟨_, rfl, by rw [HR.out]; exact HC.out, HBC.out⟩
  · have hm : ¬ m ≤ s.size := by omega
    have d1 : decide (m ≤ s.size) = false := decide_eq_false hm
    obtain ⟨d, hd⟩ : ∃ d : Int, (if (m : Int) < 1001 then (m : Int) else 1001) - (s.size : Int) = d := ⟨_, rfl⟩
    have hd2 : d ≤ 100000 := by rw [← hd]; split <;> omega
    have HR : Aside0 (fitL s m p = bytesOf s ++ List.replicate d.toNat p) := ⟨by unfold fitL; rw [if_neg h, hd]⟩
    have kb := print_bytes (P := Tryz.prog) 9 83 5 Tryz.underlying9 Tryz.underlying83 Tryz.underlying5 s w
    have HBC := Aside0.mk (bytes_below HB.out HB.out.size 5 s)
    have HP := Lib.hid (padsM w0 (Lib.bytesWorld w 5 s) (.slice (some ⟨w.heap.size, 0, none⟩) s.size (grownCap w s.size 0 5)) (bytesOf s) d p HBC.out (OwnM.conv w s HB.out.size hs) (by rw [bytesOf_length]; exact hs) hd2)
    clear HBC
    by_cases hc : 1001 < m
    · rw [if_neg (by omega)] at hd
      have d2 : decide (1001 < m) = true := decide_eq_true hc
      have hd3 : IntKind.i64.wrap ((1001 : Int) - (s.size : Int)) = d := by rw [i64_w]; unfold wrap64; omega
      clear hd
      go_enter Tryz.func104, Tryz.ntmps104
      go_wp2_with (go_at_call 130; with_reducible refine HP.out.mono ?_; rintro e w1 ⟨v1, rfl, ho1, hb1⟩; have HO1 := Aside0.mk ho1; have HB1 := Aside0.mk hb1; clear ho1 hb1)
      go_ret
      exact ⟨_, rfl, by rw [HR.out]; exact HO1.out, HB1.out⟩
    · have hd' : (m : Int) - (s.size : Int) = d := by rw [← hd]; split <;> omega
      have d2 : decide (1001 < m) = false := decide_eq_false hc
      have hd3 : IntKind.i64.wrap ((m : Int) - (s.size : Int)) = d := by rw [i64_w]; unfold wrap64; omega
      clear hd hd'
      go_enter Tryz.func104, Tryz.ntmps104
      go_wp2_with (go_at_call 130; with_reducible refine HP.out.mono ?_; rintro e w1 ⟨v1, rfl, ho1, hb1⟩; have HO1 := Aside0.mk ho1; have HB1 := Aside0.mk hb1; clear ho1 hb1)
      go_ret
      exact ⟨_, rfl, by rw [HR.out]; exact HO1.out, HB1.out⟩
end Go.Proofs.YtlekfhnlhdmekaaGreatDoor.T

/- The reference's Substr, Insert and Overlay return what qanatref02_Substr.f and so on say. -/
namespace Go.Proofs.YtlekfhnlhdmekaaGreatDoor.T
set_option linter.unusedSimpArgs false
set_option linter.unusedVariables false
open Go.RowKit Go.Proofs.YtlekfhnlhdmekaaGreatDoorW.PrintWords Go.Proofs.YtlekfhnlhdmekaaGreatDoorW.PrintLast Go.Proofs.YtlekfhnlhdmekaaGreatDoorW.PrintMore
attribute [local go_sem] max2_int min2_int max_two min_two max_three min_three max_four min_four

theorem wh_no (n lo : Int) (W : World) : Calls Tryz.prog 102 #[.int .i64 n, .int .i64 lo, .bool false] W fun e w' => e = .returned (.bool (decide (lo ≤ n))) ∧ Drawn0 W w' :=
  qanatref02_whole.calls n lo false _ W (by
    unfold qanatref02_whole.f
    by_cases h : lo ≤ n
    · rw [if_pos (by omega)]; simp [h]
    · rw [if_neg (by omega)]; simp [h])
theorem wh_yes (n : Int) (W : World) : Calls Tryz.prog 102 #[.int .i64 n, .int .i64 0, .bool true] W fun e w' => e = .returned (.bool (decide (-1 ≤ n))) ∧ Drawn0 W w' :=
  qanatref02_whole.calls n 0 true _ W (by
    unfold qanatref02_whole.f
    by_cases h : 0 ≤ n
    · rw [if_pos (by omega)]; simp; omega
    · rw [if_neg (by omega), if_pos rfl]
      by_cases e : n = -1
      · subst e; rfl
      · rw [show (n == -1) = false from beq_eq_false_iff_ne.mpr e, show decide (-1 ≤ n) = false from decide_eq_false (by omega)])
theorem out_M (W : World) (A : Option Addr) (c : Nat) (l : List Int) (r1 : ByteArray) (r2 : Int) (base : Nat) (ho : OwnM base (.slice A l.length c) l W) (h : qanatref02_out.f l = some (r1, r2)) :
    Calls Tryz.prog 90 #[.slice A l.length c] W fun e w' => e = .returned (.agg #[.string r1, .int .i64 r2]) ∧ Below W.heap.size W w' :=
  qanatref02_out.calls A c l r1 r2 W ho.C (by obtain ⟨A', c', h1, h2⟩ := ho.slice; cases h1; exact h2) h
theorem vld_size' {s : ByteArray} (h : vld s = true) : s.size ≤ 1000 := by
  simp [vld] at h; exact h.1
/-! What is known where the result's block is the first that the call made. -/
theorem res_block {w W : World} {o : Obj} (h : Below (w.heap.size + 1) (w.alloc o) W) : W.heap[w.heap.size]? = some o := (h.block _ (Nat.lt_succ_self _)).trans (heap_alloc_new w o)
theorem res_below {w W : World} {o : Obj} (h : Below (w.heap.size + 1) (w.alloc o) W) : Below w.heap.size w W := (below_alloc (Below.refl _ _) o).trans (h.mono (Nat.le_succ _))
theorem res_size {w W : World} {o : Obj} (h : Below (w.heap.size + 1) (w.alloc o) W) : w.heap.size + 1 ≤ W.heap.size := by have := h.size; rwa [World.size_alloc] at this
theorem res_step {w W W' : World} {o : Obj} (h : Below (w.heap.size + 1) (w.alloc o) W) (hb : Below W.heap.size W W') : Below (w.heap.size + 1) (w.alloc o) W' := h.trans (hb.mono (res_size h))

def qanatref02_Substr.f (a0 : ByteArray) (a1 a2 a3 : Int) : Option (ByteArray × Int) :=
  if a0.size ≤ 2000 ∧ a1 ≤ 9223372036854775807 ∧ a2 ≤ 9223372036854775807 then
    (if (vld a0 && decide (1 ≤ a1) && decide (-1 ≤ a2) && goodI a3) = true then
      (if a2 = -1 then some (if a1 ≤ a0.size then a0.extract (a1 - 1).toNat a0.size else ⟨#[]⟩, 0) else qanatref02_out.f (fitL (if a1 ≤ a0.size then a0.extract (a1 - 1).toNat a0.size else ⟨#[]⟩) a2 a3))
    else some (⟨#[]⟩, 1))
  else none
set_option maxRecDepth 100000 in
set_option maxHeartbeats 8000000 in
theorem qanatref02_Substr.calls (a0 : ByteArray) (a1 a2 a3 : Int) (r1 : ByteArray) (r2 : Int) (w : World) (h : qanatref02_Substr.f a0 a1 a2 a3 = some (r1, r2)) :
    Calls Tryz.prog 53 #[.string a0, .int .i64 a1, .int .i64 a2, .int .u8 a3] w fun e w' => e = .returned (.agg #[.string r1, .int .i64 r2]) ∧ Below w.heap.size w w' := by
  have hu29 := Tryz.underlying29
  unfold qanatref02_Substr.f at h
  by_cases hb : a0.size ≤ 2000 ∧ a1 ≤ 9223372036854775807 ∧ a2 ≤ 9223372036854775807
  · rw [if_pos hb] at h
    obtain ⟨hz0, hz1, hz2⟩ := hb
    have hC0 := fun W => qanatref02_Valid.calls a0 (vld a0) W rfl
    have hC1 := fun W => wh_no a1 1 W
    have hC2 := fun W => wh_yes a2 W
    have hC3 := fun W => qanatref02_Pad.calls a3 (goodI a3) W rfl
    have hF0 := @vld_size' a0
    have hF1 := of_decide_eq_true (p := 1 ≤ a1)
    have hF2 := of_decide_eq_true (p := -1 ≤ a2)
    have hF3 : goodI a3 = true → True := fun _ => trivial
    generalize vld a0 = b0 at hC0 hF0 h
    generalize decide (1 ≤ a1) = b1 at hC1 hF1 h
    generalize decide (-1 ≤ a2) = b2 at hC2 hF2 h
    generalize goodI a3 = b3 at hC3 hF3 h
    have HC0 := Lib.hid hC0
    have HC1 := Lib.hid hC1
    have HC2 := Lib.hid hC2
    have HC3 := Lib.hid hC3
    clear hC0 hC1 hC2 hC3
    cases b0 with
    | false =>
      obtain ⟨rfl, rfl⟩ : (⟨#[]⟩ : ByteArray) = r1 ∧ 1 = r2 := by simpa using h
      clear h hF0 hF1 hF2 hF3
      go_enter Tryz.func53, Tryz.ntmps53
      go_wp2_with (first | (go_at_call 89; with_reducible refine (HC0.out _).mono ?_; rintro e v0 ⟨rfl, ⟨⟨d0, rfl⟩⟩⟩) | (go_at_call 102; with_reducible refine (HC1.out _).mono ?_; rintro e v1 ⟨rfl, ⟨⟨d1, rfl⟩⟩⟩) | (go_at_call 102; with_reducible refine (HC2.out _).mono ?_; rintro e v2 ⟨rfl, ⟨⟨d2, rfl⟩⟩⟩) | (go_at_call 98; with_reducible refine (HC3.out _).mono ?_; rintro e v3 ⟨rfl, ⟨⟨d3, rfl⟩⟩⟩))
      refine bodyPost_ret (results_cell_row rfl _ _ w.heap.size 29 #[.string ⟨#[]⟩, .int .i64 1] (0, 0) _ rfl (blk_put (cs := #[.string ⟨#[]⟩, .int .i64 0]) (blk_put (cs := #[.string ⟨#[]⟩, .int .i64 0]) (res_block (o := (.cells #[.string ⟨#[]⟩, .int .i64 0] 29)) (by repeat (first | exact Below.refl _ _ | apply pw_below_drewN))) 0 _ rfl) 1 _ rfl) Tryz.underlying29 rfl (by kernel_rfl)) rfl ?_
      exact ⟨rfl, below_set (below_set (res_below (o := (.cells #[.string ⟨#[]⟩, .int .i64 0] 29)) (by repeat (first | exact Below.refl _ _ | apply pw_below_drewN))) (Nat.le_refl _)) (Nat.le_refl _)⟩
    | true =>
    cases b1 with
    | false =>
      obtain ⟨rfl, rfl⟩ : (⟨#[]⟩ : ByteArray) = r1 ∧ 1 = r2 := by simpa using h
      clear h hF0 hF1 hF2 hF3
      go_enter Tryz.func53, Tryz.ntmps53
      go_wp2_with (first | (go_at_call 89; with_reducible refine (HC0.out _).mono ?_; rintro e v0 ⟨rfl, ⟨⟨d0, rfl⟩⟩⟩) | (go_at_call 102; with_reducible refine (HC1.out _).mono ?_; rintro e v1 ⟨rfl, ⟨⟨d1, rfl⟩⟩⟩) | (go_at_call 102; with_reducible refine (HC2.out _).mono ?_; rintro e v2 ⟨rfl, ⟨⟨d2, rfl⟩⟩⟩) | (go_at_call 98; with_reducible refine (HC3.out _).mono ?_; rintro e v3 ⟨rfl, ⟨⟨d3, rfl⟩⟩⟩))
      refine bodyPost_ret (results_cell_row rfl _ _ w.heap.size 29 #[.string ⟨#[]⟩, .int .i64 1] (0, 0) _ rfl (blk_put (cs := #[.string ⟨#[]⟩, .int .i64 0]) (blk_put (cs := #[.string ⟨#[]⟩, .int .i64 0]) (res_block (o := (.cells #[.string ⟨#[]⟩, .int .i64 0] 29)) (by repeat (first | exact Below.refl _ _ | apply pw_below_drewN))) 0 _ rfl) 1 _ rfl) Tryz.underlying29 rfl (by kernel_rfl)) rfl ?_
      exact ⟨rfl, below_set (below_set (res_below (o := (.cells #[.string ⟨#[]⟩, .int .i64 0] 29)) (by repeat (first | exact Below.refl _ _ | apply pw_below_drewN))) (Nat.le_refl _)) (Nat.le_refl _)⟩
    | true =>
    cases b2 with
    | false =>
      obtain ⟨rfl, rfl⟩ : (⟨#[]⟩ : ByteArray) = r1 ∧ 1 = r2 := by simpa using h
      clear h hF0 hF1 hF2 hF3
      go_enter Tryz.func53, Tryz.ntmps53
      go_wp2_with (first | (go_at_call 89; with_reducible refine (HC0.out _).mono ?_; rintro e v0 ⟨rfl, ⟨⟨d0, rfl⟩⟩⟩) | (go_at_call 102; with_reducible refine (HC1.out _).mono ?_; rintro e v1 ⟨rfl, ⟨⟨d1, rfl⟩⟩⟩) | (go_at_call 102; with_reducible refine (HC2.out _).mono ?_; rintro e v2 ⟨rfl, ⟨⟨d2, rfl⟩⟩⟩) | (go_at_call 98; with_reducible refine (HC3.out _).mono ?_; rintro e v3 ⟨rfl, ⟨⟨d3, rfl⟩⟩⟩))
      refine bodyPost_ret (results_cell_row rfl _ _ w.heap.size 29 #[.string ⟨#[]⟩, .int .i64 1] (0, 0) _ rfl (blk_put (cs := #[.string ⟨#[]⟩, .int .i64 0]) (blk_put (cs := #[.string ⟨#[]⟩, .int .i64 0]) (res_block (o := (.cells #[.string ⟨#[]⟩, .int .i64 0] 29)) (by repeat (first | exact Below.refl _ _ | apply pw_below_drewN))) 0 _ rfl) 1 _ rfl) Tryz.underlying29 rfl (by kernel_rfl)) rfl ?_
      exact ⟨rfl, below_set (below_set (res_below (o := (.cells #[.string ⟨#[]⟩, .int .i64 0] 29)) (by repeat (first | exact Below.refl _ _ | apply pw_below_drewN))) (Nat.le_refl _)) (Nat.le_refl _)⟩
    | true =>
    cases b3 with
    | false =>
      obtain ⟨rfl, rfl⟩ : (⟨#[]⟩ : ByteArray) = r1 ∧ 1 = r2 := by simpa using h
      clear h hF0 hF1 hF2 hF3
      go_enter Tryz.func53, Tryz.ntmps53
      go_wp2_with (first | (go_at_call 89; with_reducible refine (HC0.out _).mono ?_; rintro e v0 ⟨rfl, ⟨⟨d0, rfl⟩⟩⟩) | (go_at_call 102; with_reducible refine (HC1.out _).mono ?_; rintro e v1 ⟨rfl, ⟨⟨d1, rfl⟩⟩⟩) | (go_at_call 102; with_reducible refine (HC2.out _).mono ?_; rintro e v2 ⟨rfl, ⟨⟨d2, rfl⟩⟩⟩) | (go_at_call 98; with_reducible refine (HC3.out _).mono ?_; rintro e v3 ⟨rfl, ⟨⟨d3, rfl⟩⟩⟩))
      refine bodyPost_ret (results_cell_row rfl _ _ w.heap.size 29 #[.string ⟨#[]⟩, .int .i64 1] (0, 0) _ rfl (blk_put (cs := #[.string ⟨#[]⟩, .int .i64 0]) (blk_put (cs := #[.string ⟨#[]⟩, .int .i64 0]) (res_block (o := (.cells #[.string ⟨#[]⟩, .int .i64 0] 29)) (by repeat (first | exact Below.refl _ _ | apply pw_below_drewN))) 0 _ rfl) 1 _ rfl) Tryz.underlying29 rfl (by kernel_rfl)) rfl ?_
      exact ⟨rfl, below_set (below_set (res_below (o := (.cells #[.string ⟨#[]⟩, .int .i64 0] 29)) (by repeat (first | exact Below.refl _ _ | apply pw_below_drewN))) (Nat.le_refl _)) (Nat.le_refl _)⟩
    | true =>
      have hs0 := hF0 rfl
      have hs1 := hF1 rfl
      have hs2 := hF2 rfl
      clear hF0 hF1 hF2 hF3
      obtain ⟨m, hm⟩ : ∃ m : Nat, a1 = (m : Int) + 1 := ⟨(a1 - 1).toNat, by omega⟩
      have g1 : IntKind.i64.wrap (a1 - 1) = (m : Int) := (i64_w _).trans (by unfold wrap64; omega)
      have g2 : a1 - 1 = (m : Int) := by omega
      have g3 : (a1 - 1).toNat = m := by omega
      rw [g3] at h
      simp only [Bool.and_self, if_true] at h
      clear g3
      by_cases hl : a1 ≤ a0.size
      · rw [if_pos hl] at h
        have hl2 : (m : Int) ≤ a0.size := by omega
        have hrz : (a0.extract m a0.size).size ≤ 2000 := by rw [ByteArray.size_extract]; omega
        by_cases h2 : a2 = -1
        · rw [if_pos h2] at h
          subst h2
          obtain ⟨rfl, rfl⟩ : (a0.extract m a0.size) = r1 ∧ 0 = r2 := by simpa using h
          clear h hrz hm
          go_enter Tryz.func53, Tryz.ntmps53
          go_wp2_with (first | (go_at_call 89; with_reducible refine (HC0.out _).mono ?_; rintro e v0 ⟨rfl, ⟨⟨d0, rfl⟩⟩⟩) | (go_at_call 102; with_reducible refine (HC1.out _).mono ?_; rintro e v1 ⟨rfl, ⟨⟨d1, rfl⟩⟩⟩) | (go_at_call 102; with_reducible refine (HC2.out _).mono ?_; rintro e v2 ⟨rfl, ⟨⟨d2, rfl⟩⟩⟩) | (go_at_call 98; with_reducible refine (HC3.out _).mono ?_; rintro e v3 ⟨rfl, ⟨⟨d3, rfl⟩⟩⟩))
          refine bodyPost_ret (results_cell_row rfl _ _ w.heap.size 29 #[.string (a0.extract m a0.size), .int .i64 0] (0, 0) _ rfl (blk_put (cs := #[.string (a0.extract m a0.size), .int .i64 0]) (blk_put (cs := #[.string ⟨#[]⟩, .int .i64 0]) (res_block (o := (.cells #[.string ⟨#[]⟩, .int .i64 0] 29)) (by repeat (first | exact Below.refl _ _ | apply pw_below_drewN))) 0 _ rfl) 1 _ rfl) Tryz.underlying29 rfl (by kernel_rfl)) rfl ?_
          exact ⟨rfl, below_set (below_set (res_below (o := (.cells #[.string ⟨#[]⟩, .int .i64 0] 29)) (by repeat (first | exact Below.refl _ _ | apply pw_below_drewN))) (Nat.le_refl _)) (Nat.le_refl _)⟩
        · rw [if_neg h2] at h
          have e2 : (a2 == -1) = false := beq_eq_false_iff_ne.mpr h2
          have HX := Lib.hid (fun (W : World) => fitM (a0.extract m a0.size) a2 a3 W W (by omega) (by omega) (by omega) (Below.refl _ _))
          have HOUT := Lib.hid (fun (W : World) (A : Option Addr) (c : Nat) (ho : OwnM (w.heap.size + 1) (.slice A (fitL (a0.extract m a0.size) a2 a3).length c) (fitL (a0.extract m a0.size) a2 a3) W) => out_M W A c (fitL (a0.extract m a0.size) a2 a3) r1 r2 _ ho h)
          clear h hrz h2 hm
          generalize fitL (a0.extract m a0.size) a2 a3 = x at HX HOUT
          go_enter Tryz.func53, Tryz.ntmps53
          go_wp2_with (first | (go_at_call 89; with_reducible refine (HC0.out _).mono ?_; rintro e v0 ⟨rfl, ⟨⟨d0, rfl⟩⟩⟩) | (go_at_call 102; with_reducible refine (HC1.out _).mono ?_; rintro e v1 ⟨rfl, ⟨⟨d1, rfl⟩⟩⟩) | (go_at_call 102; with_reducible refine (HC2.out _).mono ?_; rintro e v2 ⟨rfl, ⟨⟨d2, rfl⟩⟩⟩) | (go_at_call 98; with_reducible refine (HC3.out _).mono ?_; rintro e v3 ⟨rfl, ⟨⟨d3, rfl⟩⟩⟩) | (go_at_call 104; with_reducible refine (HX.out _).mono ?_; rintro e w4 ⟨v4, rfl, ho4, hb4⟩; obtain ⟨A4, c4, rfl, hc4⟩ := ho4.slice; have HO4 := Aside0.mk ho4; have HS4 := Aside0.mk hb4; have HR4 := Aside0.mk (show Below (w.heap.size + 1) (w.alloc (.cells #[.string ⟨#[]⟩, .int .i64 0] 29)) w4 from res_step (by repeat (first | exact Below.refl _ _ | apply pw_below_drewN)) hb4); clear ho4 hb4) | (go_at_call 90; with_reducible refine (HOUT.out _ _ _ (HO4.out.mono (by simp))).mono ?_; rintro e w5 ⟨rfl, hb5⟩; have HR5 := Aside0.mk (res_step HR4.out hb5); clear hb5; have hk0 : w5.cell? ⟨w.heap.size, 0, none⟩ = some (.string ⟨#[]⟩) := (blk_cell (res_block HR5.out) 0).trans rfl; have hk1 : w5.cell? ⟨w.heap.size, 1, none⟩ = some (.int .i64 0) := (blk_cell (res_block HR5.out) 1).trans rfl; have hf0 := blk_frozen (res_block HR5.out) 0; have hf1 := blk_frozen (res_block HR5.out) 1))
          refine bodyPost_ret (results_cell_row rfl _ _ w.heap.size 29 #[.string r1, .int .i64 r2] (0, 0) _ rfl (blk_put (cs := #[.string r1, .int .i64 0]) (blk_put (cs := #[.string ⟨#[]⟩, .int .i64 0]) (res_block (o := (.cells #[.string ⟨#[]⟩, .int .i64 0] 29)) HR5.out) 0 _ rfl) 1 _ rfl) Tryz.underlying29 rfl (by kernel_rfl)) rfl ?_
          exact ⟨rfl, below_set (below_set (res_below (o := (.cells #[.string ⟨#[]⟩, .int .i64 0] 29)) HR5.out) (Nat.le_refl _)) (Nat.le_refl _)⟩
      · rw [if_neg hl] at h
        have hrz : (⟨#[]⟩ : ByteArray).size ≤ 2000 := by decide
        by_cases h2 : a2 = -1
        · rw [if_pos h2] at h
          subst h2
          obtain ⟨rfl, rfl⟩ : (⟨#[]⟩ : ByteArray) = r1 ∧ 0 = r2 := by simpa using h
          clear h hrz hm
          go_enter Tryz.func53, Tryz.ntmps53
          go_wp2_with (first | (go_at_call 89; with_reducible refine (HC0.out _).mono ?_; rintro e v0 ⟨rfl, ⟨⟨d0, rfl⟩⟩⟩) | (go_at_call 102; with_reducible refine (HC1.out _).mono ?_; rintro e v1 ⟨rfl, ⟨⟨d1, rfl⟩⟩⟩) | (go_at_call 102; with_reducible refine (HC2.out _).mono ?_; rintro e v2 ⟨rfl, ⟨⟨d2, rfl⟩⟩⟩) | (go_at_call 98; with_reducible refine (HC3.out _).mono ?_; rintro e v3 ⟨rfl, ⟨⟨d3, rfl⟩⟩⟩))
          refine bodyPost_ret (results_cell_row rfl _ _ w.heap.size 29 #[.string (⟨#[]⟩ : ByteArray), .int .i64 0] (0, 0) _ rfl (blk_put (cs := #[.string (⟨#[]⟩ : ByteArray), .int .i64 0]) (blk_put (cs := #[.string ⟨#[]⟩, .int .i64 0]) (res_block (o := (.cells #[.string ⟨#[]⟩, .int .i64 0] 29)) (by repeat (first | exact Below.refl _ _ | apply pw_below_drewN))) 0 _ rfl) 1 _ rfl) Tryz.underlying29 rfl (by kernel_rfl)) rfl ?_
          exact ⟨rfl, below_set (below_set (res_below (o := (.cells #[.string ⟨#[]⟩, .int .i64 0] 29)) (by repeat (first | exact Below.refl _ _ | apply pw_below_drewN))) (Nat.le_refl _)) (Nat.le_refl _)⟩
        · rw [if_neg h2] at h
          have e2 : (a2 == -1) = false := beq_eq_false_iff_ne.mpr h2
          have HX := Lib.hid (fun (W : World) => fitM (⟨#[]⟩ : ByteArray) a2 a3 W W (by omega) (by omega) (by omega) (Below.refl _ _))
          have HOUT := Lib.hid (fun (W : World) (A : Option Addr) (c : Nat) (ho : OwnM (w.heap.size + 1) (.slice A (fitL (⟨#[]⟩ : ByteArray) a2 a3).length c) (fitL (⟨#[]⟩ : ByteArray) a2 a3) W) => out_M W A c (fitL (⟨#[]⟩ : ByteArray) a2 a3) r1 r2 _ ho h)
          clear h hrz h2 hm
          generalize fitL (⟨#[]⟩ : ByteArray) a2 a3 = x at HX HOUT
          go_enter Tryz.func53, Tryz.ntmps53
          go_wp2_with (first | (go_at_call 89; with_reducible refine (HC0.out _).mono ?_; rintro e v0 ⟨rfl, ⟨⟨d0, rfl⟩⟩⟩) | (go_at_call 102; with_reducible refine (HC1.out _).mono ?_; rintro e v1 ⟨rfl, ⟨⟨d1, rfl⟩⟩⟩) | (go_at_call 102; with_reducible refine (HC2.out _).mono ?_; rintro e v2 ⟨rfl, ⟨⟨d2, rfl⟩⟩⟩) | (go_at_call 98; with_reducible refine (HC3.out _).mono ?_; rintro e v3 ⟨rfl, ⟨⟨d3, rfl⟩⟩⟩) | (go_at_call 104; with_reducible refine (HX.out _).mono ?_; rintro e w4 ⟨v4, rfl, ho4, hb4⟩; obtain ⟨A4, c4, rfl, hc4⟩ := ho4.slice; have HO4 := Aside0.mk ho4; have HS4 := Aside0.mk hb4; have HR4 := Aside0.mk (show Below (w.heap.size + 1) (w.alloc (.cells #[.string ⟨#[]⟩, .int .i64 0] 29)) w4 from res_step (by repeat (first | exact Below.refl _ _ | apply pw_below_drewN)) hb4); clear ho4 hb4) | (go_at_call 90; with_reducible refine (HOUT.out _ _ _ (HO4.out.mono (by simp))).mono ?_; rintro e w5 ⟨rfl, hb5⟩; have HR5 := Aside0.mk (res_step HR4.out hb5); clear hb5; have hk0 : w5.cell? ⟨w.heap.size, 0, none⟩ = some (.string ⟨#[]⟩) := (blk_cell (res_block HR5.out) 0).trans rfl; have hk1 : w5.cell? ⟨w.heap.size, 1, none⟩ = some (.int .i64 0) := (blk_cell (res_block HR5.out) 1).trans rfl; have hf0 := blk_frozen (res_block HR5.out) 0; have hf1 := blk_frozen (res_block HR5.out) 1))
          refine bodyPost_ret (results_cell_row rfl _ _ w.heap.size 29 #[.string r1, .int .i64 r2] (0, 0) _ rfl (blk_put (cs := #[.string r1, .int .i64 0]) (blk_put (cs := #[.string ⟨#[]⟩, .int .i64 0]) (res_block (o := (.cells #[.string ⟨#[]⟩, .int .i64 0] 29)) HR5.out) 0 _ rfl) 1 _ rfl) Tryz.underlying29 rfl (by kernel_rfl)) rfl ?_
          exact ⟨rfl, below_set (below_set (res_below (o := (.cells #[.string ⟨#[]⟩, .int .i64 0] 29)) HR5.out) (Nat.le_refl _)) (Nat.le_refl _)⟩
  · rw [if_neg hb] at h
    cases h
/-- The list that the reference's Insert makes, the second length being L. -/
def insertL (a0 a1 : ByteArray) (a2 L a4 : Int) : List Int := fitL a1 (a2) a4 ++ fitL a0 L a4 ++ (if a2 < a1.size then (bytesOf a1).drop a2.toNat else [])
def qanatref02_Insert.f (a0 a1 : ByteArray) (a2 a3 a4 : Int) : Option (ByteArray × Int) :=
  if a0.size ≤ 2000 ∧ a1.size ≤ 2000 ∧ a2 ≤ 9223372036854775807 ∧ a3 ≤ 9223372036854775807 then
    (if (vld a0 && vld a1 && decide (0 ≤ a2) && decide (-1 ≤ a3) && goodI a4) = true then
      (if a2 > 1000 ∨ (if a3 = -1 then (a0.size : Int) else a3) > 1000 then some (⟨#[]⟩, 3) else qanatref02_out.f (insertL a0 a1 a2 (if a3 = -1 then (a0.size : Int) else a3) a4))
    else some (⟨#[]⟩, 1))
  else none
set_option maxRecDepth 100000 in
set_option maxHeartbeats 8000000 in
theorem qanatref02_Insert.calls (a0 a1 : ByteArray) (a2 a3 a4 : Int) (r1 : ByteArray) (r2 : Int) (w : World) (h : qanatref02_Insert.f a0 a1 a2 a3 a4 = some (r1, r2)) :
    Calls Tryz.prog 55 #[.string a0, .string a1, .int .i64 a2, .int .i64 a3, .int .u8 a4] w fun e w' => e = .returned (.agg #[.string r1, .int .i64 r2]) ∧ Below w.heap.size w w' := by
  have hu29 := Tryz.underlying29
  unfold qanatref02_Insert.f at h
  by_cases hb : a0.size ≤ 2000 ∧ a1.size ≤ 2000 ∧ a2 ≤ 9223372036854775807 ∧ a3 ≤ 9223372036854775807
  · rw [if_pos hb] at h
    obtain ⟨hz0, hz1, hz2, hz3⟩ := hb
    have hC0 := fun W => qanatref02_Valid.calls a0 (vld a0) W rfl
    have hC1 := fun W => qanatref02_Valid.calls a1 (vld a1) W rfl
    have hC2 := fun W => wh_no a2 0 W
    have hC3 := fun W => wh_yes a3 W
    have hC4 := fun W => qanatref02_Pad.calls a4 (goodI a4) W rfl
    have hF0 := @vld_size' a0
    have hF1 := @vld_size' a1
    have hF2 := of_decide_eq_true (p := 0 ≤ a2)
    have hF3 := of_decide_eq_true (p := -1 ≤ a3)
    have hF4 : goodI a4 = true → True := fun _ => trivial
    generalize vld a0 = b0 at hC0 hF0 h
    generalize vld a1 = b1 at hC1 hF1 h
    generalize decide (0 ≤ a2) = b2 at hC2 hF2 h
    generalize decide (-1 ≤ a3) = b3 at hC3 hF3 h
    generalize goodI a4 = b4 at hC4 hF4 h
    have HC0 := Lib.hid hC0
    have HC1 := Lib.hid hC1
    have HC2 := Lib.hid hC2
    have HC3 := Lib.hid hC3
    have HC4 := Lib.hid hC4
    clear hC0 hC1 hC2 hC3 hC4
    cases b0 with
    | false =>
      obtain ⟨rfl, rfl⟩ : (⟨#[]⟩ : ByteArray) = r1 ∧ 1 = r2 := by simpa using h
      clear h hF0 hF1 hF2 hF3 hF4
      go_enter Tryz.func55, Tryz.ntmps55
      go_wp2_with (first | (go_at_call 89; with_reducible refine (HC0.out _).mono ?_; rintro e v0 ⟨rfl, ⟨⟨d0, rfl⟩⟩⟩) | (go_at_call 89; with_reducible refine (HC1.out _).mono ?_; rintro e v1 ⟨rfl, ⟨⟨d1, rfl⟩⟩⟩) | (go_at_call 102; with_reducible refine (HC2.out _).mono ?_; rintro e v2 ⟨rfl, ⟨⟨d2, rfl⟩⟩⟩) | (go_at_call 102; with_reducible refine (HC3.out _).mono ?_; rintro e v3 ⟨rfl, ⟨⟨d3, rfl⟩⟩⟩) | (go_at_call 98; with_reducible refine (HC4.out _).mono ?_; rintro e v4 ⟨rfl, ⟨⟨d4, rfl⟩⟩⟩))
      refine bodyPost_ret (results_cell_row rfl _ _ w.heap.size 29 #[.string ⟨#[]⟩, .int .i64 1] (0, 0) _ rfl (blk_put (cs := #[.string ⟨#[]⟩, .int .i64 0]) (blk_put (cs := #[.string ⟨#[]⟩, .int .i64 0]) (res_block (o := (.cells #[.string ⟨#[]⟩, .int .i64 0] 29)) (by repeat (first | exact Below.refl _ _ | apply pw_below_drewN))) 0 _ rfl) 1 _ rfl) Tryz.underlying29 rfl (by kernel_rfl)) rfl ?_
      exact ⟨rfl, below_set (below_set (res_below (o := (.cells #[.string ⟨#[]⟩, .int .i64 0] 29)) (by repeat (first | exact Below.refl _ _ | apply pw_below_drewN))) (Nat.le_refl _)) (Nat.le_refl _)⟩
    | true =>
    cases b1 with
    | false =>
      obtain ⟨rfl, rfl⟩ : (⟨#[]⟩ : ByteArray) = r1 ∧ 1 = r2 := by simpa using h
      clear h hF0 hF1 hF2 hF3 hF4
      go_enter Tryz.func55, Tryz.ntmps55
      go_wp2_with (first | (go_at_call 89; with_reducible refine (HC0.out _).mono ?_; rintro e v0 ⟨rfl, ⟨⟨d0, rfl⟩⟩⟩) | (go_at_call 89; with_reducible refine (HC1.out _).mono ?_; rintro e v1 ⟨rfl, ⟨⟨d1, rfl⟩⟩⟩) | (go_at_call 102; with_reducible refine (HC2.out _).mono ?_; rintro e v2 ⟨rfl, ⟨⟨d2, rfl⟩⟩⟩) | (go_at_call 102; with_reducible refine (HC3.out _).mono ?_; rintro e v3 ⟨rfl, ⟨⟨d3, rfl⟩⟩⟩) | (go_at_call 98; with_reducible refine (HC4.out _).mono ?_; rintro e v4 ⟨rfl, ⟨⟨d4, rfl⟩⟩⟩))
      refine bodyPost_ret (results_cell_row rfl _ _ w.heap.size 29 #[.string ⟨#[]⟩, .int .i64 1] (0, 0) _ rfl (blk_put (cs := #[.string ⟨#[]⟩, .int .i64 0]) (blk_put (cs := #[.string ⟨#[]⟩, .int .i64 0]) (res_block (o := (.cells #[.string ⟨#[]⟩, .int .i64 0] 29)) (by repeat (first | exact Below.refl _ _ | apply pw_below_drewN))) 0 _ rfl) 1 _ rfl) Tryz.underlying29 rfl (by kernel_rfl)) rfl ?_
      exact ⟨rfl, below_set (below_set (res_below (o := (.cells #[.string ⟨#[]⟩, .int .i64 0] 29)) (by repeat (first | exact Below.refl _ _ | apply pw_below_drewN))) (Nat.le_refl _)) (Nat.le_refl _)⟩
    | true =>
    cases b2 with
    | false =>
      obtain ⟨rfl, rfl⟩ : (⟨#[]⟩ : ByteArray) = r1 ∧ 1 = r2 := by simpa using h
      clear h hF0 hF1 hF2 hF3 hF4
      go_enter Tryz.func55, Tryz.ntmps55
      go_wp2_with (first | (go_at_call 89; with_reducible refine (HC0.out _).mono ?_; rintro e v0 ⟨rfl, ⟨⟨d0, rfl⟩⟩⟩) | (go_at_call 89; with_reducible refine (HC1.out _).mono ?_; rintro e v1 ⟨rfl, ⟨⟨d1, rfl⟩⟩⟩) | (go_at_call 102; with_reducible refine (HC2.out _).mono ?_; rintro e v2 ⟨rfl, ⟨⟨d2, rfl⟩⟩⟩) | (go_at_call 102; with_reducible refine (HC3.out _).mono ?_; rintro e v3 ⟨rfl, ⟨⟨d3, rfl⟩⟩⟩) | (go_at_call 98; with_reducible refine (HC4.out _).mono ?_; rintro e v4 ⟨rfl, ⟨⟨d4, rfl⟩⟩⟩))
      refine bodyPost_ret (results_cell_row rfl _ _ w.heap.size 29 #[.string ⟨#[]⟩, .int .i64 1] (0, 0) _ rfl (blk_put (cs := #[.string ⟨#[]⟩, .int .i64 0]) (blk_put (cs := #[.string ⟨#[]⟩, .int .i64 0]) (res_block (o := (.cells #[.string ⟨#[]⟩, .int .i64 0] 29)) (by repeat (first | exact Below.refl _ _ | apply pw_below_drewN))) 0 _ rfl) 1 _ rfl) Tryz.underlying29 rfl (by kernel_rfl)) rfl ?_
      exact ⟨rfl, below_set (below_set (res_below (o := (.cells #[.string ⟨#[]⟩, .int .i64 0] 29)) (by repeat (first | exact Below.refl _ _ | apply pw_below_drewN))) (Nat.le_refl _)) (Nat.le_refl _)⟩
    | true =>
    cases b3 with
    | false =>
      obtain ⟨rfl, rfl⟩ : (⟨#[]⟩ : ByteArray) = r1 ∧ 1 = r2 := by simpa using h
      clear h hF0 hF1 hF2 hF3 hF4
      go_enter Tryz.func55, Tryz.ntmps55
      go_wp2_with (first | (go_at_call 89; with_reducible refine (HC0.out _).mono ?_; rintro e v0 ⟨rfl, ⟨⟨d0, rfl⟩⟩⟩) | (go_at_call 89; with_reducible refine (HC1.out _).mono ?_; rintro e v1 ⟨rfl, ⟨⟨d1, rfl⟩⟩⟩) | (go_at_call 102; with_reducible refine (HC2.out _).mono ?_; rintro e v2 ⟨rfl, ⟨⟨d2, rfl⟩⟩⟩) | (go_at_call 102; with_reducible refine (HC3.out _).mono ?_; rintro e v3 ⟨rfl, ⟨⟨d3, rfl⟩⟩⟩) | (go_at_call 98; with_reducible refine (HC4.out _).mono ?_; rintro e v4 ⟨rfl, ⟨⟨d4, rfl⟩⟩⟩))
      refine bodyPost_ret (results_cell_row rfl _ _ w.heap.size 29 #[.string ⟨#[]⟩, .int .i64 1] (0, 0) _ rfl (blk_put (cs := #[.string ⟨#[]⟩, .int .i64 0]) (blk_put (cs := #[.string ⟨#[]⟩, .int .i64 0]) (res_block (o := (.cells #[.string ⟨#[]⟩, .int .i64 0] 29)) (by repeat (first | exact Below.refl _ _ | apply pw_below_drewN))) 0 _ rfl) 1 _ rfl) Tryz.underlying29 rfl (by kernel_rfl)) rfl ?_
      exact ⟨rfl, below_set (below_set (res_below (o := (.cells #[.string ⟨#[]⟩, .int .i64 0] 29)) (by repeat (first | exact Below.refl _ _ | apply pw_below_drewN))) (Nat.le_refl _)) (Nat.le_refl _)⟩
    | true =>
    cases b4 with
    | false =>
      obtain ⟨rfl, rfl⟩ : (⟨#[]⟩ : ByteArray) = r1 ∧ 1 = r2 := by simpa using h
      clear h hF0 hF1 hF2 hF3 hF4
      go_enter Tryz.func55, Tryz.ntmps55
      go_wp2_with (first | (go_at_call 89; with_reducible refine (HC0.out _).mono ?_; rintro e v0 ⟨rfl, ⟨⟨d0, rfl⟩⟩⟩) | (go_at_call 89; with_reducible refine (HC1.out _).mono ?_; rintro e v1 ⟨rfl, ⟨⟨d1, rfl⟩⟩⟩) | (go_at_call 102; with_reducible refine (HC2.out _).mono ?_; rintro e v2 ⟨rfl, ⟨⟨d2, rfl⟩⟩⟩) | (go_at_call 102; with_reducible refine (HC3.out _).mono ?_; rintro e v3 ⟨rfl, ⟨⟨d3, rfl⟩⟩⟩) | (go_at_call 98; with_reducible refine (HC4.out _).mono ?_; rintro e v4 ⟨rfl, ⟨⟨d4, rfl⟩⟩⟩))
      refine bodyPost_ret (results_cell_row rfl _ _ w.heap.size 29 #[.string ⟨#[]⟩, .int .i64 1] (0, 0) _ rfl (blk_put (cs := #[.string ⟨#[]⟩, .int .i64 0]) (blk_put (cs := #[.string ⟨#[]⟩, .int .i64 0]) (res_block (o := (.cells #[.string ⟨#[]⟩, .int .i64 0] 29)) (by repeat (first | exact Below.refl _ _ | apply pw_below_drewN))) 0 _ rfl) 1 _ rfl) Tryz.underlying29 rfl (by kernel_rfl)) rfl ?_
      exact ⟨rfl, below_set (below_set (res_below (o := (.cells #[.string ⟨#[]⟩, .int .i64 0] 29)) (by repeat (first | exact Below.refl _ _ | apply pw_below_drewN))) (Nat.le_refl _)) (Nat.le_refl _)⟩
    | true =>
      have hs0 := hF0 rfl
      have hs1 := hF1 rfl
      have hs2 := hF2 rfl
      have hs3 := hF3 rfl
      clear hF0 hF1 hF2 hF3 hF4
      simp only [Bool.and_self, if_true] at h
      obtain ⟨m, rfl⟩ := Int.eq_ofNat_of_zero_le hs2
      by_cases h3 : a3 = -1
      · subst h3
        simp only [if_true] at h
        by_cases h5 : (m : Int) > 1000
        · rw [if_pos (.inl (by omega))] at h
          obtain ⟨rfl, rfl⟩ : (⟨#[]⟩ : ByteArray) = r1 ∧ 3 = r2 := by simpa using h
          clear h
          go_enter Tryz.func55, Tryz.ntmps55
          go_wp2_with (first | (go_at_call 89; with_reducible refine (HC0.out _).mono ?_; rintro e v0 ⟨rfl, ⟨⟨d0, rfl⟩⟩⟩) | (go_at_call 89; with_reducible refine (HC1.out _).mono ?_; rintro e v1 ⟨rfl, ⟨⟨d1, rfl⟩⟩⟩) | (go_at_call 102; with_reducible refine (HC2.out _).mono ?_; rintro e v2 ⟨rfl, ⟨⟨d2, rfl⟩⟩⟩) | (go_at_call 102; with_reducible refine (HC3.out _).mono ?_; rintro e v3 ⟨rfl, ⟨⟨d3, rfl⟩⟩⟩) | (go_at_call 98; with_reducible refine (HC4.out _).mono ?_; rintro e v4 ⟨rfl, ⟨⟨d4, rfl⟩⟩⟩))
          refine bodyPost_ret (results_cell_row rfl _ _ w.heap.size 29 #[.string ⟨#[]⟩, .int .i64 3] (0, 0) _ rfl (blk_put (cs := #[.string ⟨#[]⟩, .int .i64 0]) (blk_put (cs := #[.string ⟨#[]⟩, .int .i64 0]) (res_block (o := (.cells #[.string ⟨#[]⟩, .int .i64 0] 29)) (by repeat (first | exact Below.refl _ _ | apply pw_below_drewN))) 0 _ rfl) 1 _ rfl) Tryz.underlying29 rfl (by kernel_rfl)) rfl ?_
          exact ⟨rfl, below_set (below_set (res_below (o := (.cells #[.string ⟨#[]⟩, .int .i64 0] 29)) (by repeat (first | exact Below.refl _ _ | apply pw_below_drewN))) (Nat.le_refl _)) (Nat.le_refl _)⟩
        · rw [if_neg (by omega)] at h
          have HX := Lib.hid (fun (W : World) => fitM a1 (m : Int) a4 W W (by omega) (by omega) (by omega) (Below.refl _ _))
          have HY := Lib.hid (fun (W : World) => fitM a0 (a0.size : Int) a4 W W (by omega) (by omega) (by omega) (Below.refl _ _))
          have hlx := fitL_length a1 (m : Int) a4
          have hly := fitL_length a0 (a0.size : Int) a4
          unfold insertL at h
          rw [Int.toNat_natCast] at h
          generalize fitL a1 (m : Int) a4 = x at HX hlx h
          generalize fitL a0 (a0.size : Int) a4 = y at HY hly h
          obtain ⟨z, hz⟩ : ∃ z, x ++ y = z := ⟨_, rfl⟩
          rw [hz] at h
          have hlz : z.length ≤ 5000 := by rw [← hz, List.length_append]; omega
          have HZ6 := Aside0.mk hz
          have HLX := Aside0.mk hlx
          have HLY := Aside0.mk hly
          have HLZ := Aside0.mk hlz
          clear hz hlx hly hlz
          by_cases h7 : (m : Int) < a1.size
          · rw [if_pos h7] at h
            obtain ⟨t, ht⟩ : ∃ t, z ++ (bytesOf a1).drop m = t := ⟨_, rfl⟩
            rw [ht] at h
            have HT : Aside0 (z ++ bytesOf (a1.extract m a1.size) = t) := ⟨by rw [bytesOf_extract, List.take_of_length_le (by rw [List.length_drop, bytesOf_length]; exact Nat.le_refl _)]; exact ht⟩
            have HLE : Aside0 ((bytesOf (a1.extract m a1.size)).length ≤ 2000) := ⟨by rw [bytesOf_length, ByteArray.size_extract]; omega⟩
            have HOUT := Lib.hid (fun (W : World) (A : Option Addr) (c : Nat) (ho : OwnM (w.heap.size + 1) (.slice A t.length c) t W) => out_M W A c t r1 r2 _ ho h)
            clear ht h
            go_enter Tryz.func55, Tryz.ntmps55
            go_wp2_with (first | (go_at_call 89; with_reducible refine (HC0.out _).mono ?_; rintro e v0 ⟨rfl, ⟨⟨d0, rfl⟩⟩⟩) | (go_at_call 89; with_reducible refine (HC1.out _).mono ?_; rintro e v1 ⟨rfl, ⟨⟨d1, rfl⟩⟩⟩) | (go_at_call 102; with_reducible refine (HC2.out _).mono ?_; rintro e v2 ⟨rfl, ⟨⟨d2, rfl⟩⟩⟩) | (go_at_call 102; with_reducible refine (HC3.out _).mono ?_; rintro e v3 ⟨rfl, ⟨⟨d3, rfl⟩⟩⟩) | (go_at_call 98; with_reducible refine (HC4.out _).mono ?_; rintro e v4 ⟨rfl, ⟨⟨d4, rfl⟩⟩⟩) | (go_at_call 104; with_reducible refine (HX.out _).mono ?_; rintro e w4 ⟨v4, rfl, ho4, hb4⟩; obtain ⟨A4, c4, rfl, hc4⟩ := ho4.slice; have HO4 := Aside0.mk ho4; have HS4 := Aside0.mk hb4; have HR4 := Aside0.mk (show Below (w.heap.size + 1) (w.alloc (.cells #[.string ⟨#[]⟩, .int .i64 0] 29)) w4 from res_step (by repeat (first | exact Below.refl _ _ | apply pw_below_drewN)) hb4); clear ho4 hb4) | (go_at_call 104; with_reducible refine (HY.out _).mono ?_; rintro e w5 ⟨v5, rfl, ho5, hb5⟩; obtain ⟨A5, c5, rfl, hc5⟩ := ho5.slice; have HB5x := Aside0.mk hb5; have HO5 := Aside0.mk ho5; have HS5 := Aside0.mk hb5; have HR5 := Aside0.mk (show Below (w.heap.size + 1) (w.alloc (.cells #[.string ⟨#[]⟩, .int .i64 0] 29)) w5 from res_step HR4.out hb5); have HO45 := Aside0.mk (HO4.out.below (Nat.le_refl _) HB5x.out); clear ho5 hb5) | (at_builtin; refine wpList_append_M (w0 := w.alloc (.cells #[.string ⟨#[]⟩, .int .i64 0] 29)) rfl (.tmp 50) (.tmp 54) 83 83 5 rfl Tryz.underlying83 info5 (w.heap.size + 1) _ x rfl (HO45.out.mono (by simp)) _ rfl y (src_own Tryz.underlying83 HO5.out) (by have := HLX.out; have := HLY.out; omega) (res_size HR5.out) HR5.out ?_; intro v6 w6 ho6 hr6; rw [HZ6.out] at ho6; obtain ⟨A6, c6, rfl, hc6⟩ := ho6.slice; have HO6 := Aside0.mk ho6; have HR6 := Aside0.mk hr6; clear ho6 hr6) | (at_builtin; refine wpList_append_M (w0 := w.alloc (.cells #[.string ⟨#[]⟩, .int .i64 0] 29)) rfl (.tmp 60) (.tmp 63) 83 9 5 rfl Tryz.underlying83 info5 (w.heap.size + 1) _ z rfl HO6.out _ rfl (bytesOf (a1.extract m a1.size)) (src_bytes _ Tryz.underlying9 _) (by have := HLZ.out; have := HLE.out; omega) (res_size HR6.out) HR6.out ?_; intro v7 w7 ho7 hr7; rw [HT.out] at ho7; obtain ⟨A7, c7, rfl, hc7⟩ := ho7.slice; have HO7 := Aside0.mk ho7; have HR7 := Aside0.mk hr7; clear ho7 hr7) | (go_at_call 90; with_reducible refine (HOUT.out _ _ _ HO7.out).mono ?_; rintro e w8 ⟨rfl, hb8⟩; have HR8 := Aside0.mk (res_step HR7.out hb8); clear hb8; have hk0 : w8.cell? ⟨w.heap.size, 0, none⟩ = some (.string ⟨#[]⟩) := (blk_cell (res_block HR8.out) 0).trans rfl; have hk1 : w8.cell? ⟨w.heap.size, 1, none⟩ = some (.int .i64 0) := (blk_cell (res_block HR8.out) 1).trans rfl; have hf0 := blk_frozen (res_block HR8.out) 0; have hf1 := blk_frozen (res_block HR8.out) 1))
            refine bodyPost_ret (results_cell_row rfl _ _ w.heap.size 29 #[.string r1, .int .i64 r2] (0, 0) _ rfl (blk_put (cs := #[.string r1, .int .i64 0]) (blk_put (cs := #[.string ⟨#[]⟩, .int .i64 0]) (res_block (o := (.cells #[.string ⟨#[]⟩, .int .i64 0] 29)) HR8.out) 0 _ rfl) 1 _ rfl) Tryz.underlying29 rfl (by kernel_rfl)) rfl ?_
            exact ⟨rfl, below_set (below_set (res_below (o := (.cells #[.string ⟨#[]⟩, .int .i64 0] 29)) HR8.out) (Nat.le_refl _)) (Nat.le_refl _)⟩
          · rw [if_neg h7, List.append_nil] at h
            have HOUT := Lib.hid (fun (W : World) (A : Option Addr) (c : Nat) (ho : OwnM (w.heap.size + 1) (.slice A z.length c) z W) => out_M W A c z r1 r2 _ ho h)
            clear h
            go_enter Tryz.func55, Tryz.ntmps55
            go_wp2_with (first | (go_at_call 89; with_reducible refine (HC0.out _).mono ?_; rintro e v0 ⟨rfl, ⟨⟨d0, rfl⟩⟩⟩) | (go_at_call 89; with_reducible refine (HC1.out _).mono ?_; rintro e v1 ⟨rfl, ⟨⟨d1, rfl⟩⟩⟩) | (go_at_call 102; with_reducible refine (HC2.out _).mono ?_; rintro e v2 ⟨rfl, ⟨⟨d2, rfl⟩⟩⟩) | (go_at_call 102; with_reducible refine (HC3.out _).mono ?_; rintro e v3 ⟨rfl, ⟨⟨d3, rfl⟩⟩⟩) | (go_at_call 98; with_reducible refine (HC4.out _).mono ?_; rintro e v4 ⟨rfl, ⟨⟨d4, rfl⟩⟩⟩) | (go_at_call 104; with_reducible refine (HX.out _).mono ?_; rintro e w4 ⟨v4, rfl, ho4, hb4⟩; obtain ⟨A4, c4, rfl, hc4⟩ := ho4.slice; have HO4 := Aside0.mk ho4; have HS4 := Aside0.mk hb4; have HR4 := Aside0.mk (show Below (w.heap.size + 1) (w.alloc (.cells #[.string ⟨#[]⟩, .int .i64 0] 29)) w4 from res_step (by repeat (first | exact Below.refl _ _ | apply pw_below_drewN)) hb4); clear ho4 hb4) | (go_at_call 104; with_reducible refine (HY.out _).mono ?_; rintro e w5 ⟨v5, rfl, ho5, hb5⟩; obtain ⟨A5, c5, rfl, hc5⟩ := ho5.slice; have HB5x := Aside0.mk hb5; have HO5 := Aside0.mk ho5; have HS5 := Aside0.mk hb5; have HR5 := Aside0.mk (show Below (w.heap.size + 1) (w.alloc (.cells #[.string ⟨#[]⟩, .int .i64 0] 29)) w5 from res_step HR4.out hb5); have HO45 := Aside0.mk (HO4.out.below (Nat.le_refl _) HB5x.out); clear ho5 hb5) | (at_builtin; refine wpList_append_M (w0 := w.alloc (.cells #[.string ⟨#[]⟩, .int .i64 0] 29)) rfl (.tmp 50) (.tmp 54) 83 83 5 rfl Tryz.underlying83 info5 (w.heap.size + 1) _ x rfl (HO45.out.mono (by simp)) _ rfl y (src_own Tryz.underlying83 HO5.out) (by have := HLX.out; have := HLY.out; omega) (res_size HR5.out) HR5.out ?_; intro v6 w6 ho6 hr6; rw [HZ6.out] at ho6; obtain ⟨A6, c6, rfl, hc6⟩ := ho6.slice; have HO6 := Aside0.mk ho6; have HR6 := Aside0.mk hr6; clear ho6 hr6) | (go_at_call 90; with_reducible refine (HOUT.out _ _ _ HO6.out).mono ?_; rintro e w8 ⟨rfl, hb8⟩; have HR8 := Aside0.mk (res_step HR6.out hb8); clear hb8; have hk0 : w8.cell? ⟨w.heap.size, 0, none⟩ = some (.string ⟨#[]⟩) := (blk_cell (res_block HR8.out) 0).trans rfl; have hk1 : w8.cell? ⟨w.heap.size, 1, none⟩ = some (.int .i64 0) := (blk_cell (res_block HR8.out) 1).trans rfl; have hf0 := blk_frozen (res_block HR8.out) 0; have hf1 := blk_frozen (res_block HR8.out) 1))
            refine bodyPost_ret (results_cell_row rfl _ _ w.heap.size 29 #[.string r1, .int .i64 r2] (0, 0) _ rfl (blk_put (cs := #[.string r1, .int .i64 0]) (blk_put (cs := #[.string ⟨#[]⟩, .int .i64 0]) (res_block (o := (.cells #[.string ⟨#[]⟩, .int .i64 0] 29)) HR8.out) 0 _ rfl) 1 _ rfl) Tryz.underlying29 rfl (by kernel_rfl)) rfl ?_
            exact ⟨rfl, below_set (below_set (res_below (o := (.cells #[.string ⟨#[]⟩, .int .i64 0] 29)) HR8.out) (Nat.le_refl _)) (Nat.le_refl _)⟩
      · have e3 : (a3 == -1) = false := beq_eq_false_iff_ne.mpr h3
        rw [if_neg h3] at h
        by_cases h5 : (m : Int) > 1000
        · rw [if_pos (.inl (by omega))] at h
          obtain ⟨rfl, rfl⟩ : (⟨#[]⟩ : ByteArray) = r1 ∧ 3 = r2 := by simpa using h
          clear h
          go_enter Tryz.func55, Tryz.ntmps55
          go_wp2_with (first | (go_at_call 89; with_reducible refine (HC0.out _).mono ?_; rintro e v0 ⟨rfl, ⟨⟨d0, rfl⟩⟩⟩) | (go_at_call 89; with_reducible refine (HC1.out _).mono ?_; rintro e v1 ⟨rfl, ⟨⟨d1, rfl⟩⟩⟩) | (go_at_call 102; with_reducible refine (HC2.out _).mono ?_; rintro e v2 ⟨rfl, ⟨⟨d2, rfl⟩⟩⟩) | (go_at_call 102; with_reducible refine (HC3.out _).mono ?_; rintro e v3 ⟨rfl, ⟨⟨d3, rfl⟩⟩⟩) | (go_at_call 98; with_reducible refine (HC4.out _).mono ?_; rintro e v4 ⟨rfl, ⟨⟨d4, rfl⟩⟩⟩))
          refine bodyPost_ret (results_cell_row rfl _ _ w.heap.size 29 #[.string ⟨#[]⟩, .int .i64 3] (0, 0) _ rfl (blk_put (cs := #[.string ⟨#[]⟩, .int .i64 0]) (blk_put (cs := #[.string ⟨#[]⟩, .int .i64 0]) (res_block (o := (.cells #[.string ⟨#[]⟩, .int .i64 0] 29)) (by repeat (first | exact Below.refl _ _ | apply pw_below_drewN))) 0 _ rfl) 1 _ rfl) Tryz.underlying29 rfl (by kernel_rfl)) rfl ?_
          exact ⟨rfl, below_set (below_set (res_below (o := (.cells #[.string ⟨#[]⟩, .int .i64 0] 29)) (by repeat (first | exact Below.refl _ _ | apply pw_below_drewN))) (Nat.le_refl _)) (Nat.le_refl _)⟩
        · by_cases h6 : a3 > 1000
          · rw [if_pos (.inr h6)] at h
            obtain ⟨rfl, rfl⟩ : (⟨#[]⟩ : ByteArray) = r1 ∧ 3 = r2 := by simpa using h
            clear h
            go_enter Tryz.func55, Tryz.ntmps55
            go_wp2_with (first | (go_at_call 89; with_reducible refine (HC0.out _).mono ?_; rintro e v0 ⟨rfl, ⟨⟨d0, rfl⟩⟩⟩) | (go_at_call 89; with_reducible refine (HC1.out _).mono ?_; rintro e v1 ⟨rfl, ⟨⟨d1, rfl⟩⟩⟩) | (go_at_call 102; with_reducible refine (HC2.out _).mono ?_; rintro e v2 ⟨rfl, ⟨⟨d2, rfl⟩⟩⟩) | (go_at_call 102; with_reducible refine (HC3.out _).mono ?_; rintro e v3 ⟨rfl, ⟨⟨d3, rfl⟩⟩⟩) | (go_at_call 98; with_reducible refine (HC4.out _).mono ?_; rintro e v4 ⟨rfl, ⟨⟨d4, rfl⟩⟩⟩))
            refine bodyPost_ret (results_cell_row rfl _ _ w.heap.size 29 #[.string ⟨#[]⟩, .int .i64 3] (0, 0) _ rfl (blk_put (cs := #[.string ⟨#[]⟩, .int .i64 0]) (blk_put (cs := #[.string ⟨#[]⟩, .int .i64 0]) (res_block (o := (.cells #[.string ⟨#[]⟩, .int .i64 0] 29)) (by repeat (first | exact Below.refl _ _ | apply pw_below_drewN))) 0 _ rfl) 1 _ rfl) Tryz.underlying29 rfl (by kernel_rfl)) rfl ?_
            exact ⟨rfl, below_set (below_set (res_below (o := (.cells #[.string ⟨#[]⟩, .int .i64 0] 29)) (by repeat (first | exact Below.refl _ _ | apply pw_below_drewN))) (Nat.le_refl _)) (Nat.le_refl _)⟩
          · rw [if_neg (by omega)] at h
            have HX := Lib.hid (fun (W : World) => fitM a1 (m : Int) a4 W W (by omega) (by omega) (by omega) (Below.refl _ _))
            have HY := Lib.hid (fun (W : World) => fitM a0 a3 a4 W W (by omega) (by omega) (by omega) (Below.refl _ _))
            have hlx := fitL_length a1 (m : Int) a4
            have hly := fitL_length a0 a3 a4
            unfold insertL at h
            rw [Int.toNat_natCast] at h
            generalize fitL a1 (m : Int) a4 = x at HX hlx h
            generalize fitL a0 a3 a4 = y at HY hly h
            obtain ⟨z, hz⟩ : ∃ z, x ++ y = z := ⟨_, rfl⟩
            rw [hz] at h
            have hlz : z.length ≤ 5000 := by rw [← hz, List.length_append]; omega
            have HZ6 := Aside0.mk hz
            have HLX := Aside0.mk hlx
            have HLY := Aside0.mk hly
            have HLZ := Aside0.mk hlz
            clear hz hlx hly hlz
            by_cases h7 : (m : Int) < a1.size
            · rw [if_pos h7] at h
              obtain ⟨t, ht⟩ : ∃ t, z ++ (bytesOf a1).drop m = t := ⟨_, rfl⟩
              rw [ht] at h
              have HT : Aside0 (z ++ bytesOf (a1.extract m a1.size) = t) := ⟨by rw [bytesOf_extract, List.take_of_length_le (by rw [List.length_drop, bytesOf_length]; exact Nat.le_refl _)]; exact ht⟩
              have HLE : Aside0 ((bytesOf (a1.extract m a1.size)).length ≤ 2000) := ⟨by rw [bytesOf_length, ByteArray.size_extract]; omega⟩
              have HOUT := Lib.hid (fun (W : World) (A : Option Addr) (c : Nat) (ho : OwnM (w.heap.size + 1) (.slice A t.length c) t W) => out_M W A c t r1 r2 _ ho h)
              clear ht h
              go_enter Tryz.func55, Tryz.ntmps55
              go_wp2_with (first | (go_at_call 89; with_reducible refine (HC0.out _).mono ?_; rintro e v0 ⟨rfl, ⟨⟨d0, rfl⟩⟩⟩) | (go_at_call 89; with_reducible refine (HC1.out _).mono ?_; rintro e v1 ⟨rfl, ⟨⟨d1, rfl⟩⟩⟩) | (go_at_call 102; with_reducible refine (HC2.out _).mono ?_; rintro e v2 ⟨rfl, ⟨⟨d2, rfl⟩⟩⟩) | (go_at_call 102; with_reducible refine (HC3.out _).mono ?_; rintro e v3 ⟨rfl, ⟨⟨d3, rfl⟩⟩⟩) | (go_at_call 98; with_reducible refine (HC4.out _).mono ?_; rintro e v4 ⟨rfl, ⟨⟨d4, rfl⟩⟩⟩) | (go_at_call 104; with_reducible refine (HX.out _).mono ?_; rintro e w4 ⟨v4, rfl, ho4, hb4⟩; obtain ⟨A4, c4, rfl, hc4⟩ := ho4.slice; have HO4 := Aside0.mk ho4; have HS4 := Aside0.mk hb4; have HR4 := Aside0.mk (show Below (w.heap.size + 1) (w.alloc (.cells #[.string ⟨#[]⟩, .int .i64 0] 29)) w4 from res_step (by repeat (first | exact Below.refl _ _ | apply pw_below_drewN)) hb4); clear ho4 hb4) | (go_at_call 104; with_reducible refine (HY.out _).mono ?_; rintro e w5 ⟨v5, rfl, ho5, hb5⟩; obtain ⟨A5, c5, rfl, hc5⟩ := ho5.slice; have HB5x := Aside0.mk hb5; have HO5 := Aside0.mk ho5; have HS5 := Aside0.mk hb5; have HR5 := Aside0.mk (show Below (w.heap.size + 1) (w.alloc (.cells #[.string ⟨#[]⟩, .int .i64 0] 29)) w5 from res_step HR4.out hb5); have HO45 := Aside0.mk (HO4.out.below (Nat.le_refl _) HB5x.out); clear ho5 hb5) | (at_builtin; refine wpList_append_M (w0 := w.alloc (.cells #[.string ⟨#[]⟩, .int .i64 0] 29)) rfl (.tmp 50) (.tmp 54) 83 83 5 rfl Tryz.underlying83 info5 (w.heap.size + 1) _ x rfl (HO45.out.mono (by simp)) _ rfl y (src_own Tryz.underlying83 HO5.out) (by have := HLX.out; have := HLY.out; omega) (res_size HR5.out) HR5.out ?_; intro v6 w6 ho6 hr6; rw [HZ6.out] at ho6; obtain ⟨A6, c6, rfl, hc6⟩ := ho6.slice; have HO6 := Aside0.mk ho6; have HR6 := Aside0.mk hr6; clear ho6 hr6) | (at_builtin; refine wpList_append_M (w0 := w.alloc (.cells #[.string ⟨#[]⟩, .int .i64 0] 29)) rfl (.tmp 60) (.tmp 63) 83 9 5 rfl Tryz.underlying83 info5 (w.heap.size + 1) _ z rfl HO6.out _ rfl (bytesOf (a1.extract m a1.size)) (src_bytes _ Tryz.underlying9 _) (by have := HLZ.out; have := HLE.out; omega) (res_size HR6.out) HR6.out ?_; intro v7 w7 ho7 hr7; rw [HT.out] at ho7; obtain ⟨A7, c7, rfl, hc7⟩ := ho7.slice; have HO7 := Aside0.mk ho7; have HR7 := Aside0.mk hr7; clear ho7 hr7) | (go_at_call 90; with_reducible refine (HOUT.out _ _ _ HO7.out).mono ?_; rintro e w8 ⟨rfl, hb8⟩; have HR8 := Aside0.mk (res_step HR7.out hb8); clear hb8; have hk0 : w8.cell? ⟨w.heap.size, 0, none⟩ = some (.string ⟨#[]⟩) := (blk_cell (res_block HR8.out) 0).trans rfl; have hk1 : w8.cell? ⟨w.heap.size, 1, none⟩ = some (.int .i64 0) := (blk_cell (res_block HR8.out) 1).trans rfl; have hf0 := blk_frozen (res_block HR8.out) 0; have hf1 := blk_frozen (res_block HR8.out) 1))
              refine bodyPost_ret (results_cell_row rfl _ _ w.heap.size 29 #[.string r1, .int .i64 r2] (0, 0) _ rfl (blk_put (cs := #[.string r1, .int .i64 0]) (blk_put (cs := #[.string ⟨#[]⟩, .int .i64 0]) (res_block (o := (.cells #[.string ⟨#[]⟩, .int .i64 0] 29)) HR8.out) 0 _ rfl) 1 _ rfl) Tryz.underlying29 rfl (by kernel_rfl)) rfl ?_
              exact ⟨rfl, below_set (below_set (res_below (o := (.cells #[.string ⟨#[]⟩, .int .i64 0] 29)) HR8.out) (Nat.le_refl _)) (Nat.le_refl _)⟩
            · rw [if_neg h7, List.append_nil] at h
              have HOUT := Lib.hid (fun (W : World) (A : Option Addr) (c : Nat) (ho : OwnM (w.heap.size + 1) (.slice A z.length c) z W) => out_M W A c z r1 r2 _ ho h)
              clear h
              go_enter Tryz.func55, Tryz.ntmps55
              go_wp2_with (first | (go_at_call 89; with_reducible refine (HC0.out _).mono ?_; rintro e v0 ⟨rfl, ⟨⟨d0, rfl⟩⟩⟩) | (go_at_call 89; with_reducible refine (HC1.out _).mono ?_; rintro e v1 ⟨rfl, ⟨⟨d1, rfl⟩⟩⟩) | (go_at_call 102; with_reducible refine (HC2.out _).mono ?_; rintro e v2 ⟨rfl, ⟨⟨d2, rfl⟩⟩⟩) | (go_at_call 102; with_reducible refine (HC3.out _).mono ?_; rintro e v3 ⟨rfl, ⟨⟨d3, rfl⟩⟩⟩) | (go_at_call 98; with_reducible refine (HC4.out _).mono ?_; rintro e v4 ⟨rfl, ⟨⟨d4, rfl⟩⟩⟩) | (go_at_call 104; with_reducible refine (HX.out _).mono ?_; rintro e w4 ⟨v4, rfl, ho4, hb4⟩; obtain ⟨A4, c4, rfl, hc4⟩ := ho4.slice; have HO4 := Aside0.mk ho4; have HS4 := Aside0.mk hb4; have HR4 := Aside0.mk (show Below (w.heap.size + 1) (w.alloc (.cells #[.string ⟨#[]⟩, .int .i64 0] 29)) w4 from res_step (by repeat (first | exact Below.refl _ _ | apply pw_below_drewN)) hb4); clear ho4 hb4) | (go_at_call 104; with_reducible refine (HY.out _).mono ?_; rintro e w5 ⟨v5, rfl, ho5, hb5⟩; obtain ⟨A5, c5, rfl, hc5⟩ := ho5.slice; have HB5x := Aside0.mk hb5; have HO5 := Aside0.mk ho5; have HS5 := Aside0.mk hb5; have HR5 := Aside0.mk (show Below (w.heap.size + 1) (w.alloc (.cells #[.string ⟨#[]⟩, .int .i64 0] 29)) w5 from res_step HR4.out hb5); have HO45 := Aside0.mk (HO4.out.below (Nat.le_refl _) HB5x.out); clear ho5 hb5) | (at_builtin; refine wpList_append_M (w0 := w.alloc (.cells #[.string ⟨#[]⟩, .int .i64 0] 29)) rfl (.tmp 50) (.tmp 54) 83 83 5 rfl Tryz.underlying83 info5 (w.heap.size + 1) _ x rfl (HO45.out.mono (by simp)) _ rfl y (src_own Tryz.underlying83 HO5.out) (by have := HLX.out; have := HLY.out; omega) (res_size HR5.out) HR5.out ?_; intro v6 w6 ho6 hr6; rw [HZ6.out] at ho6; obtain ⟨A6, c6, rfl, hc6⟩ := ho6.slice; have HO6 := Aside0.mk ho6; have HR6 := Aside0.mk hr6; clear ho6 hr6) | (go_at_call 90; with_reducible refine (HOUT.out _ _ _ HO6.out).mono ?_; rintro e w8 ⟨rfl, hb8⟩; have HR8 := Aside0.mk (res_step HR6.out hb8); clear hb8; have hk0 : w8.cell? ⟨w.heap.size, 0, none⟩ = some (.string ⟨#[]⟩) := (blk_cell (res_block HR8.out) 0).trans rfl; have hk1 : w8.cell? ⟨w.heap.size, 1, none⟩ = some (.int .i64 0) := (blk_cell (res_block HR8.out) 1).trans rfl; have hf0 := blk_frozen (res_block HR8.out) 0; have hf1 := blk_frozen (res_block HR8.out) 1))
              refine bodyPost_ret (results_cell_row rfl _ _ w.heap.size 29 #[.string r1, .int .i64 r2] (0, 0) _ rfl (blk_put (cs := #[.string r1, .int .i64 0]) (blk_put (cs := #[.string ⟨#[]⟩, .int .i64 0]) (res_block (o := (.cells #[.string ⟨#[]⟩, .int .i64 0] 29)) HR8.out) 0 _ rfl) 1 _ rfl) Tryz.underlying29 rfl (by kernel_rfl)) rfl ?_
              exact ⟨rfl, below_set (below_set (res_below (o := (.cells #[.string ⟨#[]⟩, .int .i64 0] 29)) HR8.out) (Nat.le_refl _)) (Nat.le_refl _)⟩
  · rw [if_neg hb] at h
    cases h
/-- The list that the reference's Overlay makes, the second length being L. -/
def overlayL (a0 a1 : ByteArray) (a2 L a4 : Int) : List Int := fitL a1 (a2 - 1) a4 ++ fitL a0 L a4 ++ (if (fitL a1 (a2 - 1) a4 ++ fitL a0 L a4).length < a1.size then (bytesOf a1).drop (fitL a1 (a2 - 1) a4 ++ fitL a0 L a4).length else [])
def qanatref02_Overlay.f (a0 a1 : ByteArray) (a2 a3 a4 : Int) : Option (ByteArray × Int) :=
  if a0.size ≤ 2000 ∧ a1.size ≤ 2000 ∧ a2 ≤ 9223372036854775807 ∧ a3 ≤ 9223372036854775807 then
    (if (vld a0 && vld a1 && decide (1 ≤ a2) && decide (-1 ≤ a3) && goodI a4) = true then
      (if a2 - 1 > 1000 ∨ (if a3 = -1 then (a0.size : Int) else a3) > 1000 then some (⟨#[]⟩, 3) else qanatref02_out.f (overlayL a0 a1 a2 (if a3 = -1 then (a0.size : Int) else a3) a4))
    else some (⟨#[]⟩, 1))
  else none
set_option maxRecDepth 100000 in
set_option maxHeartbeats 8000000 in
theorem qanatref02_Overlay.calls (a0 a1 : ByteArray) (a2 a3 a4 : Int) (r1 : ByteArray) (r2 : Int) (w : World) (h : qanatref02_Overlay.f a0 a1 a2 a3 a4 = some (r1, r2)) :
    Calls Tryz.prog 56 #[.string a0, .string a1, .int .i64 a2, .int .i64 a3, .int .u8 a4] w fun e w' => e = .returned (.agg #[.string r1, .int .i64 r2]) ∧ Below w.heap.size w w' := by
  have hu29 := Tryz.underlying29
  unfold qanatref02_Overlay.f at h
  by_cases hb : a0.size ≤ 2000 ∧ a1.size ≤ 2000 ∧ a2 ≤ 9223372036854775807 ∧ a3 ≤ 9223372036854775807
  · rw [if_pos hb] at h
    obtain ⟨hz0, hz1, hz2, hz3⟩ := hb
    have hC0 := fun W => qanatref02_Valid.calls a0 (vld a0) W rfl
    have hC1 := fun W => qanatref02_Valid.calls a1 (vld a1) W rfl
    have hC2 := fun W => wh_no a2 1 W
    have hC3 := fun W => wh_yes a3 W
    have hC4 := fun W => qanatref02_Pad.calls a4 (goodI a4) W rfl
    have hF0 := @vld_size' a0
    have hF1 := @vld_size' a1
    have hF2 := of_decide_eq_true (p := 1 ≤ a2)
    have hF3 := of_decide_eq_true (p := -1 ≤ a3)
    have hF4 : goodI a4 = true → True := fun _ => trivial
    generalize vld a0 = b0 at hC0 hF0 h
    generalize vld a1 = b1 at hC1 hF1 h
    generalize decide (1 ≤ a2) = b2 at hC2 hF2 h
    generalize decide (-1 ≤ a3) = b3 at hC3 hF3 h
    generalize goodI a4 = b4 at hC4 hF4 h
    have HC0 := Lib.hid hC0
    have HC1 := Lib.hid hC1
    have HC2 := Lib.hid hC2
    have HC3 := Lib.hid hC3
    have HC4 := Lib.hid hC4
    clear hC0 hC1 hC2 hC3 hC4
    cases b0 with
    | false =>
      obtain ⟨rfl, rfl⟩ : (⟨#[]⟩ : ByteArray) = r1 ∧ 1 = r2 := by simpa using h
      clear h hF0 hF1 hF2 hF3 hF4
      go_enter Tryz.func56, Tryz.ntmps56
      go_wp2_with (first | (go_at_call 89; with_reducible refine (HC0.out _).mono ?_; rintro e v0 ⟨rfl, ⟨⟨d0, rfl⟩⟩⟩) | (go_at_call 89; with_reducible refine (HC1.out _).mono ?_; rintro e v1 ⟨rfl, ⟨⟨d1, rfl⟩⟩⟩) | (go_at_call 102; with_reducible refine (HC2.out _).mono ?_; rintro e v2 ⟨rfl, ⟨⟨d2, rfl⟩⟩⟩) | (go_at_call 102; with_reducible refine (HC3.out _).mono ?_; rintro e v3 ⟨rfl, ⟨⟨d3, rfl⟩⟩⟩) | (go_at_call 98; with_reducible refine (HC4.out _).mono ?_; rintro e v4 ⟨rfl, ⟨⟨d4, rfl⟩⟩⟩))
      refine bodyPost_ret (results_cell_row rfl _ _ w.heap.size 29 #[.string ⟨#[]⟩, .int .i64 1] (0, 0) _ rfl (blk_put (cs := #[.string ⟨#[]⟩, .int .i64 0]) (blk_put (cs := #[.string ⟨#[]⟩, .int .i64 0]) (res_block (o := (.cells #[.string ⟨#[]⟩, .int .i64 0] 29)) (by repeat (first | exact Below.refl _ _ | apply pw_below_drewN))) 0 _ rfl) 1 _ rfl) Tryz.underlying29 rfl (by kernel_rfl)) rfl ?_
      exact ⟨rfl, below_set (below_set (res_below (o := (.cells #[.string ⟨#[]⟩, .int .i64 0] 29)) (by repeat (first | exact Below.refl _ _ | apply pw_below_drewN))) (Nat.le_refl _)) (Nat.le_refl _)⟩
    | true =>
    cases b1 with
    | false =>
      obtain ⟨rfl, rfl⟩ : (⟨#[]⟩ : ByteArray) = r1 ∧ 1 = r2 := by simpa using h
      clear h hF0 hF1 hF2 hF3 hF4
      go_enter Tryz.func56, Tryz.ntmps56
      go_wp2_with (first | (go_at_call 89; with_reducible refine (HC0.out _).mono ?_; rintro e v0 ⟨rfl, ⟨⟨d0, rfl⟩⟩⟩) | (go_at_call 89; with_reducible refine (HC1.out _).mono ?_; rintro e v1 ⟨rfl, ⟨⟨d1, rfl⟩⟩⟩) | (go_at_call 102; with_reducible refine (HC2.out _).mono ?_; rintro e v2 ⟨rfl, ⟨⟨d2, rfl⟩⟩⟩) | (go_at_call 102; with_reducible refine (HC3.out _).mono ?_; rintro e v3 ⟨rfl, ⟨⟨d3, rfl⟩⟩⟩) | (go_at_call 98; with_reducible refine (HC4.out _).mono ?_; rintro e v4 ⟨rfl, ⟨⟨d4, rfl⟩⟩⟩))
      refine bodyPost_ret (results_cell_row rfl _ _ w.heap.size 29 #[.string ⟨#[]⟩, .int .i64 1] (0, 0) _ rfl (blk_put (cs := #[.string ⟨#[]⟩, .int .i64 0]) (blk_put (cs := #[.string ⟨#[]⟩, .int .i64 0]) (res_block (o := (.cells #[.string ⟨#[]⟩, .int .i64 0] 29)) (by repeat (first | exact Below.refl _ _ | apply pw_below_drewN))) 0 _ rfl) 1 _ rfl) Tryz.underlying29 rfl (by kernel_rfl)) rfl ?_
      exact ⟨rfl, below_set (below_set (res_below (o := (.cells #[.string ⟨#[]⟩, .int .i64 0] 29)) (by repeat (first | exact Below.refl _ _ | apply pw_below_drewN))) (Nat.le_refl _)) (Nat.le_refl _)⟩
    | true =>
    cases b2 with
    | false =>
      obtain ⟨rfl, rfl⟩ : (⟨#[]⟩ : ByteArray) = r1 ∧ 1 = r2 := by simpa using h
      clear h hF0 hF1 hF2 hF3 hF4
      go_enter Tryz.func56, Tryz.ntmps56
      go_wp2_with (first | (go_at_call 89; with_reducible refine (HC0.out _).mono ?_; rintro e v0 ⟨rfl, ⟨⟨d0, rfl⟩⟩⟩) | (go_at_call 89; with_reducible refine (HC1.out _).mono ?_; rintro e v1 ⟨rfl, ⟨⟨d1, rfl⟩⟩⟩) | (go_at_call 102; with_reducible refine (HC2.out _).mono ?_; rintro e v2 ⟨rfl, ⟨⟨d2, rfl⟩⟩⟩) | (go_at_call 102; with_reducible refine (HC3.out _).mono ?_; rintro e v3 ⟨rfl, ⟨⟨d3, rfl⟩⟩⟩) | (go_at_call 98; with_reducible refine (HC4.out _).mono ?_; rintro e v4 ⟨rfl, ⟨⟨d4, rfl⟩⟩⟩))
      refine bodyPost_ret (results_cell_row rfl _ _ w.heap.size 29 #[.string ⟨#[]⟩, .int .i64 1] (0, 0) _ rfl (blk_put (cs := #[.string ⟨#[]⟩, .int .i64 0]) (blk_put (cs := #[.string ⟨#[]⟩, .int .i64 0]) (res_block (o := (.cells #[.string ⟨#[]⟩, .int .i64 0] 29)) (by repeat (first | exact Below.refl _ _ | apply pw_below_drewN))) 0 _ rfl) 1 _ rfl) Tryz.underlying29 rfl (by kernel_rfl)) rfl ?_
      exact ⟨rfl, below_set (below_set (res_below (o := (.cells #[.string ⟨#[]⟩, .int .i64 0] 29)) (by repeat (first | exact Below.refl _ _ | apply pw_below_drewN))) (Nat.le_refl _)) (Nat.le_refl _)⟩
    | true =>
    cases b3 with
    | false =>
      obtain ⟨rfl, rfl⟩ : (⟨#[]⟩ : ByteArray) = r1 ∧ 1 = r2 := by simpa using h
      clear h hF0 hF1 hF2 hF3 hF4
      go_enter Tryz.func56, Tryz.ntmps56
      go_wp2_with (first | (go_at_call 89; with_reducible refine (HC0.out _).mono ?_; rintro e v0 ⟨rfl, ⟨⟨d0, rfl⟩⟩⟩) | (go_at_call 89; with_reducible refine (HC1.out _).mono ?_; rintro e v1 ⟨rfl, ⟨⟨d1, rfl⟩⟩⟩) | (go_at_call 102; with_reducible refine (HC2.out _).mono ?_; rintro e v2 ⟨rfl, ⟨⟨d2, rfl⟩⟩⟩) | (go_at_call 102; with_reducible refine (HC3.out _).mono ?_; rintro e v3 ⟨rfl, ⟨⟨d3, rfl⟩⟩⟩) | (go_at_call 98; with_reducible refine (HC4.out _).mono ?_; rintro e v4 ⟨rfl, ⟨⟨d4, rfl⟩⟩⟩))
      refine bodyPost_ret (results_cell_row rfl _ _ w.heap.size 29 #[.string ⟨#[]⟩, .int .i64 1] (0, 0) _ rfl (blk_put (cs := #[.string ⟨#[]⟩, .int .i64 0]) (blk_put (cs := #[.string ⟨#[]⟩, .int .i64 0]) (res_block (o := (.cells #[.string ⟨#[]⟩, .int .i64 0] 29)) (by repeat (first | exact Below.refl _ _ | apply pw_below_drewN))) 0 _ rfl) 1 _ rfl) Tryz.underlying29 rfl (by kernel_rfl)) rfl ?_
      exact ⟨rfl, below_set (below_set (res_below (o := (.cells #[.string ⟨#[]⟩, .int .i64 0] 29)) (by repeat (first | exact Below.refl _ _ | apply pw_below_drewN))) (Nat.le_refl _)) (Nat.le_refl _)⟩
    | true =>
    cases b4 with
    | false =>
      obtain ⟨rfl, rfl⟩ : (⟨#[]⟩ : ByteArray) = r1 ∧ 1 = r2 := by simpa using h
      clear h hF0 hF1 hF2 hF3 hF4
      go_enter Tryz.func56, Tryz.ntmps56
      go_wp2_with (first | (go_at_call 89; with_reducible refine (HC0.out _).mono ?_; rintro e v0 ⟨rfl, ⟨⟨d0, rfl⟩⟩⟩) | (go_at_call 89; with_reducible refine (HC1.out _).mono ?_; rintro e v1 ⟨rfl, ⟨⟨d1, rfl⟩⟩⟩) | (go_at_call 102; with_reducible refine (HC2.out _).mono ?_; rintro e v2 ⟨rfl, ⟨⟨d2, rfl⟩⟩⟩) | (go_at_call 102; with_reducible refine (HC3.out _).mono ?_; rintro e v3 ⟨rfl, ⟨⟨d3, rfl⟩⟩⟩) | (go_at_call 98; with_reducible refine (HC4.out _).mono ?_; rintro e v4 ⟨rfl, ⟨⟨d4, rfl⟩⟩⟩))
      refine bodyPost_ret (results_cell_row rfl _ _ w.heap.size 29 #[.string ⟨#[]⟩, .int .i64 1] (0, 0) _ rfl (blk_put (cs := #[.string ⟨#[]⟩, .int .i64 0]) (blk_put (cs := #[.string ⟨#[]⟩, .int .i64 0]) (res_block (o := (.cells #[.string ⟨#[]⟩, .int .i64 0] 29)) (by repeat (first | exact Below.refl _ _ | apply pw_below_drewN))) 0 _ rfl) 1 _ rfl) Tryz.underlying29 rfl (by kernel_rfl)) rfl ?_
      exact ⟨rfl, below_set (below_set (res_below (o := (.cells #[.string ⟨#[]⟩, .int .i64 0] 29)) (by repeat (first | exact Below.refl _ _ | apply pw_below_drewN))) (Nat.le_refl _)) (Nat.le_refl _)⟩
    | true =>
      have hs0 := hF0 rfl
      have hs1 := hF1 rfl
      have hs2 := hF2 rfl
      have hs3 := hF3 rfl
      clear hF0 hF1 hF2 hF3 hF4
      simp only [Bool.and_self, if_true] at h
      obtain ⟨m, hm⟩ : ∃ m : Nat, a2 = (m : Int) + 1 := ⟨(a2 - 1).toNat, by omega⟩
      have g1 : IntKind.i64.wrap (a2 - 1) = (m : Int) := (i64_w _).trans (by unfold wrap64; omega)
      have g2 : a2 - 1 = (m : Int) := by omega
      rw [g2] at h
      clear hm
      by_cases h3 : a3 = -1
      · subst h3
        simp only [if_true] at h
        by_cases h5 : (m : Int) > 1000
        · rw [if_pos (.inl (by omega))] at h
          obtain ⟨rfl, rfl⟩ : (⟨#[]⟩ : ByteArray) = r1 ∧ 3 = r2 := by simpa using h
          clear h
          go_enter Tryz.func56, Tryz.ntmps56
          go_wp2_with (first | (go_at_call 89; with_reducible refine (HC0.out _).mono ?_; rintro e v0 ⟨rfl, ⟨⟨d0, rfl⟩⟩⟩) | (go_at_call 89; with_reducible refine (HC1.out _).mono ?_; rintro e v1 ⟨rfl, ⟨⟨d1, rfl⟩⟩⟩) | (go_at_call 102; with_reducible refine (HC2.out _).mono ?_; rintro e v2 ⟨rfl, ⟨⟨d2, rfl⟩⟩⟩) | (go_at_call 102; with_reducible refine (HC3.out _).mono ?_; rintro e v3 ⟨rfl, ⟨⟨d3, rfl⟩⟩⟩) | (go_at_call 98; with_reducible refine (HC4.out _).mono ?_; rintro e v4 ⟨rfl, ⟨⟨d4, rfl⟩⟩⟩))
          refine bodyPost_ret (results_cell_row rfl _ _ w.heap.size 29 #[.string ⟨#[]⟩, .int .i64 3] (0, 0) _ rfl (blk_put (cs := #[.string ⟨#[]⟩, .int .i64 0]) (blk_put (cs := #[.string ⟨#[]⟩, .int .i64 0]) (res_block (o := (.cells #[.string ⟨#[]⟩, .int .i64 0] 29)) (by repeat (first | exact Below.refl _ _ | apply pw_below_drewN))) 0 _ rfl) 1 _ rfl) Tryz.underlying29 rfl (by kernel_rfl)) rfl ?_
          exact ⟨rfl, below_set (below_set (res_below (o := (.cells #[.string ⟨#[]⟩, .int .i64 0] 29)) (by repeat (first | exact Below.refl _ _ | apply pw_below_drewN))) (Nat.le_refl _)) (Nat.le_refl _)⟩
        · rw [if_neg (by omega)] at h
          have HX := Lib.hid (fun (W : World) => fitM a1 (m : Int) a4 W W (by omega) (by omega) (by omega) (Below.refl _ _))
          have HY := Lib.hid (fun (W : World) => fitM a0 (a0.size : Int) a4 W W (by omega) (by omega) (by omega) (Below.refl _ _))
          have hlx := fitL_length a1 (m : Int) a4
          have hly := fitL_length a0 (a0.size : Int) a4
          unfold overlayL at h
          rw [g2] at h
          generalize fitL a1 (m : Int) a4 = x at HX hlx h
          generalize fitL a0 (a0.size : Int) a4 = y at HY hly h
          obtain ⟨z, hz⟩ : ∃ z, x ++ y = z := ⟨_, rfl⟩
          rw [hz] at h
          have hlz : z.length ≤ 5000 := by rw [← hz, List.length_append]; omega
          have HZ6 := Aside0.mk hz
          have HLX := Aside0.mk hlx
          have HLY := Aside0.mk hly
          have HLZ := Aside0.mk hlz
          clear hz hlx hly hlz
          by_cases h7 : z.length < a1.size
          · rw [if_pos h7] at h
            obtain ⟨t, ht⟩ : ∃ t, z ++ (bytesOf a1).drop z.length = t := ⟨_, rfl⟩
            rw [ht] at h
            have HT : Aside0 (z ++ bytesOf (a1.extract z.length a1.size) = t) := ⟨by rw [bytesOf_extract, List.take_of_length_le (by rw [List.length_drop, bytesOf_length]; exact Nat.le_refl _)]; exact ht⟩
            have HLE : Aside0 ((bytesOf (a1.extract z.length a1.size)).length ≤ 2000) := ⟨by rw [bytesOf_length, ByteArray.size_extract]; omega⟩
            have HOUT := Lib.hid (fun (W : World) (A : Option Addr) (c : Nat) (ho : OwnM (w.heap.size + 1) (.slice A t.length c) t W) => out_M W A c t r1 r2 _ ho h)
            clear ht h
            go_enter Tryz.func56, Tryz.ntmps56
            go_wp2_with (first | (go_at_call 89; with_reducible refine (HC0.out _).mono ?_; rintro e v0 ⟨rfl, ⟨⟨d0, rfl⟩⟩⟩) | (go_at_call 89; with_reducible refine (HC1.out _).mono ?_; rintro e v1 ⟨rfl, ⟨⟨d1, rfl⟩⟩⟩) | (go_at_call 102; with_reducible refine (HC2.out _).mono ?_; rintro e v2 ⟨rfl, ⟨⟨d2, rfl⟩⟩⟩) | (go_at_call 102; with_reducible refine (HC3.out _).mono ?_; rintro e v3 ⟨rfl, ⟨⟨d3, rfl⟩⟩⟩) | (go_at_call 98; with_reducible refine (HC4.out _).mono ?_; rintro e v4 ⟨rfl, ⟨⟨d4, rfl⟩⟩⟩) | (go_at_call 104; with_reducible refine (HX.out _).mono ?_; rintro e w4 ⟨v4, rfl, ho4, hb4⟩; obtain ⟨A4, c4, rfl, hc4⟩ := ho4.slice; have HO4 := Aside0.mk ho4; have HS4 := Aside0.mk hb4; have HR4 := Aside0.mk (show Below (w.heap.size + 1) (w.alloc (.cells #[.string ⟨#[]⟩, .int .i64 0] 29)) w4 from res_step (by repeat (first | exact Below.refl _ _ | apply pw_below_drewN)) hb4); clear ho4 hb4) | (go_at_call 104; with_reducible refine (HY.out _).mono ?_; rintro e w5 ⟨v5, rfl, ho5, hb5⟩; obtain ⟨A5, c5, rfl, hc5⟩ := ho5.slice; have HB5x := Aside0.mk hb5; have HO5 := Aside0.mk ho5; have HS5 := Aside0.mk hb5; have HR5 := Aside0.mk (show Below (w.heap.size + 1) (w.alloc (.cells #[.string ⟨#[]⟩, .int .i64 0] 29)) w5 from res_step HR4.out hb5); have HO45 := Aside0.mk (HO4.out.below (Nat.le_refl _) HB5x.out); clear ho5 hb5) | (at_builtin; refine wpList_append_M (w0 := w.alloc (.cells #[.string ⟨#[]⟩, .int .i64 0] 29)) rfl (.tmp 52) (.tmp 56) 83 83 5 rfl Tryz.underlying83 info5 (w.heap.size + 1) _ x rfl (HO45.out.mono (by simp)) _ rfl y (src_own Tryz.underlying83 HO5.out) (by have := HLX.out; have := HLY.out; omega) (res_size HR5.out) HR5.out ?_; intro v6 w6 ho6 hr6; rw [HZ6.out] at ho6; obtain ⟨A6, c6, rfl, hc6⟩ := ho6.slice; have HO6 := Aside0.mk ho6; have HR6 := Aside0.mk hr6; clear ho6 hr6) | (at_builtin; refine wpList_append_M (w0 := w.alloc (.cells #[.string ⟨#[]⟩, .int .i64 0] 29)) rfl (.tmp 63) (.tmp 67) 83 9 5 rfl Tryz.underlying83 info5 (w.heap.size + 1) _ z rfl HO6.out _ rfl (bytesOf (a1.extract z.length a1.size)) (src_bytes _ Tryz.underlying9 _) (by have := HLZ.out; have := HLE.out; omega) (res_size HR6.out) HR6.out ?_; intro v7 w7 ho7 hr7; rw [HT.out] at ho7; obtain ⟨A7, c7, rfl, hc7⟩ := ho7.slice; have HO7 := Aside0.mk ho7; have HR7 := Aside0.mk hr7; clear ho7 hr7) | (go_at_call 90; with_reducible refine (HOUT.out _ _ _ HO7.out).mono ?_; rintro e w8 ⟨rfl, hb8⟩; have HR8 := Aside0.mk (res_step HR7.out hb8); clear hb8; have hk0 : w8.cell? ⟨w.heap.size, 0, none⟩ = some (.string ⟨#[]⟩) := (blk_cell (res_block HR8.out) 0).trans rfl; have hk1 : w8.cell? ⟨w.heap.size, 1, none⟩ = some (.int .i64 0) := (blk_cell (res_block HR8.out) 1).trans rfl; have hf0 := blk_frozen (res_block HR8.out) 0; have hf1 := blk_frozen (res_block HR8.out) 1))
            refine bodyPost_ret (results_cell_row rfl _ _ w.heap.size 29 #[.string r1, .int .i64 r2] (0, 0) _ rfl (blk_put (cs := #[.string r1, .int .i64 0]) (blk_put (cs := #[.string ⟨#[]⟩, .int .i64 0]) (res_block (o := (.cells #[.string ⟨#[]⟩, .int .i64 0] 29)) HR8.out) 0 _ rfl) 1 _ rfl) Tryz.underlying29 rfl (by kernel_rfl)) rfl ?_
            exact ⟨rfl, below_set (below_set (res_below (o := (.cells #[.string ⟨#[]⟩, .int .i64 0] 29)) HR8.out) (Nat.le_refl _)) (Nat.le_refl _)⟩
          · rw [if_neg h7, List.append_nil] at h
            have HOUT := Lib.hid (fun (W : World) (A : Option Addr) (c : Nat) (ho : OwnM (w.heap.size + 1) (.slice A z.length c) z W) => out_M W A c z r1 r2 _ ho h)
            clear h
            go_enter Tryz.func56, Tryz.ntmps56
            go_wp2_with (first | (go_at_call 89; with_reducible refine (HC0.out _).mono ?_; rintro e v0 ⟨rfl, ⟨⟨d0, rfl⟩⟩⟩) | (go_at_call 89; with_reducible refine (HC1.out _).mono ?_; rintro e v1 ⟨rfl, ⟨⟨d1, rfl⟩⟩⟩) | (go_at_call 102; with_reducible refine (HC2.out _).mono ?_; rintro e v2 ⟨rfl, ⟨⟨d2, rfl⟩⟩⟩) | (go_at_call 102; with_reducible refine (HC3.out _).mono ?_; rintro e v3 ⟨rfl, ⟨⟨d3, rfl⟩⟩⟩) | (go_at_call 98; with_reducible refine (HC4.out _).mono ?_; rintro e v4 ⟨rfl, ⟨⟨d4, rfl⟩⟩⟩) | (go_at_call 104; with_reducible refine (HX.out _).mono ?_; rintro e w4 ⟨v4, rfl, ho4, hb4⟩; obtain ⟨A4, c4, rfl, hc4⟩ := ho4.slice; have HO4 := Aside0.mk ho4; have HS4 := Aside0.mk hb4; have HR4 := Aside0.mk (show Below (w.heap.size + 1) (w.alloc (.cells #[.string ⟨#[]⟩, .int .i64 0] 29)) w4 from res_step (by repeat (first | exact Below.refl _ _ | apply pw_below_drewN)) hb4); clear ho4 hb4) | (go_at_call 104; with_reducible refine (HY.out _).mono ?_; rintro e w5 ⟨v5, rfl, ho5, hb5⟩; obtain ⟨A5, c5, rfl, hc5⟩ := ho5.slice; have HB5x := Aside0.mk hb5; have HO5 := Aside0.mk ho5; have HS5 := Aside0.mk hb5; have HR5 := Aside0.mk (show Below (w.heap.size + 1) (w.alloc (.cells #[.string ⟨#[]⟩, .int .i64 0] 29)) w5 from res_step HR4.out hb5); have HO45 := Aside0.mk (HO4.out.below (Nat.le_refl _) HB5x.out); clear ho5 hb5) | (at_builtin; refine wpList_append_M (w0 := w.alloc (.cells #[.string ⟨#[]⟩, .int .i64 0] 29)) rfl (.tmp 52) (.tmp 56) 83 83 5 rfl Tryz.underlying83 info5 (w.heap.size + 1) _ x rfl (HO45.out.mono (by simp)) _ rfl y (src_own Tryz.underlying83 HO5.out) (by have := HLX.out; have := HLY.out; omega) (res_size HR5.out) HR5.out ?_; intro v6 w6 ho6 hr6; rw [HZ6.out] at ho6; obtain ⟨A6, c6, rfl, hc6⟩ := ho6.slice; have HO6 := Aside0.mk ho6; have HR6 := Aside0.mk hr6; clear ho6 hr6) | (go_at_call 90; with_reducible refine (HOUT.out _ _ _ HO6.out).mono ?_; rintro e w8 ⟨rfl, hb8⟩; have HR8 := Aside0.mk (res_step HR6.out hb8); clear hb8; have hk0 : w8.cell? ⟨w.heap.size, 0, none⟩ = some (.string ⟨#[]⟩) := (blk_cell (res_block HR8.out) 0).trans rfl; have hk1 : w8.cell? ⟨w.heap.size, 1, none⟩ = some (.int .i64 0) := (blk_cell (res_block HR8.out) 1).trans rfl; have hf0 := blk_frozen (res_block HR8.out) 0; have hf1 := blk_frozen (res_block HR8.out) 1))
            refine bodyPost_ret (results_cell_row rfl _ _ w.heap.size 29 #[.string r1, .int .i64 r2] (0, 0) _ rfl (blk_put (cs := #[.string r1, .int .i64 0]) (blk_put (cs := #[.string ⟨#[]⟩, .int .i64 0]) (res_block (o := (.cells #[.string ⟨#[]⟩, .int .i64 0] 29)) HR8.out) 0 _ rfl) 1 _ rfl) Tryz.underlying29 rfl (by kernel_rfl)) rfl ?_
            exact ⟨rfl, below_set (below_set (res_below (o := (.cells #[.string ⟨#[]⟩, .int .i64 0] 29)) HR8.out) (Nat.le_refl _)) (Nat.le_refl _)⟩
      · have e3 : (a3 == -1) = false := beq_eq_false_iff_ne.mpr h3
        rw [if_neg h3] at h
        by_cases h5 : (m : Int) > 1000
        · rw [if_pos (.inl (by omega))] at h
          obtain ⟨rfl, rfl⟩ : (⟨#[]⟩ : ByteArray) = r1 ∧ 3 = r2 := by simpa using h
          clear h
          go_enter Tryz.func56, Tryz.ntmps56
          go_wp2_with (first | (go_at_call 89; with_reducible refine (HC0.out _).mono ?_; rintro e v0 ⟨rfl, ⟨⟨d0, rfl⟩⟩⟩) | (go_at_call 89; with_reducible refine (HC1.out _).mono ?_; rintro e v1 ⟨rfl, ⟨⟨d1, rfl⟩⟩⟩) | (go_at_call 102; with_reducible refine (HC2.out _).mono ?_; rintro e v2 ⟨rfl, ⟨⟨d2, rfl⟩⟩⟩) | (go_at_call 102; with_reducible refine (HC3.out _).mono ?_; rintro e v3 ⟨rfl, ⟨⟨d3, rfl⟩⟩⟩) | (go_at_call 98; with_reducible refine (HC4.out _).mono ?_; rintro e v4 ⟨rfl, ⟨⟨d4, rfl⟩⟩⟩))
          refine bodyPost_ret (results_cell_row rfl _ _ w.heap.size 29 #[.string ⟨#[]⟩, .int .i64 3] (0, 0) _ rfl (blk_put (cs := #[.string ⟨#[]⟩, .int .i64 0]) (blk_put (cs := #[.string ⟨#[]⟩, .int .i64 0]) (res_block (o := (.cells #[.string ⟨#[]⟩, .int .i64 0] 29)) (by repeat (first | exact Below.refl _ _ | apply pw_below_drewN))) 0 _ rfl) 1 _ rfl) Tryz.underlying29 rfl (by kernel_rfl)) rfl ?_
          exact ⟨rfl, below_set (below_set (res_below (o := (.cells #[.string ⟨#[]⟩, .int .i64 0] 29)) (by repeat (first | exact Below.refl _ _ | apply pw_below_drewN))) (Nat.le_refl _)) (Nat.le_refl _)⟩
        · by_cases h6 : a3 > 1000
          · rw [if_pos (.inr h6)] at h
            obtain ⟨rfl, rfl⟩ : (⟨#[]⟩ : ByteArray) = r1 ∧ 3 = r2 := by simpa using h
            clear h
            go_enter Tryz.func56, Tryz.ntmps56
            go_wp2_with (first | (go_at_call 89; with_reducible refine (HC0.out _).mono ?_; rintro e v0 ⟨rfl, ⟨⟨d0, rfl⟩⟩⟩) | (go_at_call 89; with_reducible refine (HC1.out _).mono ?_; rintro e v1 ⟨rfl, ⟨⟨d1, rfl⟩⟩⟩) | (go_at_call 102; with_reducible refine (HC2.out _).mono ?_; rintro e v2 ⟨rfl, ⟨⟨d2, rfl⟩⟩⟩) | (go_at_call 102; with_reducible refine (HC3.out _).mono ?_; rintro e v3 ⟨rfl, ⟨⟨d3, rfl⟩⟩⟩) | (go_at_call 98; with_reducible refine (HC4.out _).mono ?_; rintro e v4 ⟨rfl, ⟨⟨d4, rfl⟩⟩⟩))
            refine bodyPost_ret (results_cell_row rfl _ _ w.heap.size 29 #[.string ⟨#[]⟩, .int .i64 3] (0, 0) _ rfl (blk_put (cs := #[.string ⟨#[]⟩, .int .i64 0]) (blk_put (cs := #[.string ⟨#[]⟩, .int .i64 0]) (res_block (o := (.cells #[.string ⟨#[]⟩, .int .i64 0] 29)) (by repeat (first | exact Below.refl _ _ | apply pw_below_drewN))) 0 _ rfl) 1 _ rfl) Tryz.underlying29 rfl (by kernel_rfl)) rfl ?_
            exact ⟨rfl, below_set (below_set (res_below (o := (.cells #[.string ⟨#[]⟩, .int .i64 0] 29)) (by repeat (first | exact Below.refl _ _ | apply pw_below_drewN))) (Nat.le_refl _)) (Nat.le_refl _)⟩
          · rw [if_neg (by omega)] at h
            have HX := Lib.hid (fun (W : World) => fitM a1 (m : Int) a4 W W (by omega) (by omega) (by omega) (Below.refl _ _))
            have HY := Lib.hid (fun (W : World) => fitM a0 a3 a4 W W (by omega) (by omega) (by omega) (Below.refl _ _))
            have hlx := fitL_length a1 (m : Int) a4
            have hly := fitL_length a0 a3 a4
            unfold overlayL at h
            rw [g2] at h
            generalize fitL a1 (m : Int) a4 = x at HX hlx h
            generalize fitL a0 a3 a4 = y at HY hly h
            obtain ⟨z, hz⟩ : ∃ z, x ++ y = z := ⟨_, rfl⟩
            rw [hz] at h
            have hlz : z.length ≤ 5000 := by rw [← hz, List.length_append]; omega
            have HZ6 := Aside0.mk hz
            have HLX := Aside0.mk hlx
            have HLY := Aside0.mk hly
            have HLZ := Aside0.mk hlz
            clear hz hlx hly hlz
            by_cases h7 : z.length < a1.size
            · rw [if_pos h7] at h
              obtain ⟨t, ht⟩ : ∃ t, z ++ (bytesOf a1).drop z.length = t := ⟨_, rfl⟩
              rw [ht] at h
              have HT : Aside0 (z ++ bytesOf (a1.extract z.length a1.size) = t) := ⟨by rw [bytesOf_extract, List.take_of_length_le (by rw [List.length_drop, bytesOf_length]; exact Nat.le_refl _)]; exact ht⟩
              have HLE : Aside0 ((bytesOf (a1.extract z.length a1.size)).length ≤ 2000) := ⟨by rw [bytesOf_length, ByteArray.size_extract]; omega⟩
              have HOUT := Lib.hid (fun (W : World) (A : Option Addr) (c : Nat) (ho : OwnM (w.heap.size + 1) (.slice A t.length c) t W) => out_M W A c t r1 r2 _ ho h)
              clear ht h
              go_enter Tryz.func56, Tryz.ntmps56
              go_wp2_with (first | (go_at_call 89; with_reducible refine (HC0.out _).mono ?_; rintro e v0 ⟨rfl, ⟨⟨d0, rfl⟩⟩⟩) | (go_at_call 89; with_reducible refine (HC1.out _).mono ?_; rintro e v1 ⟨rfl, ⟨⟨d1, rfl⟩⟩⟩) | (go_at_call 102; with_reducible refine (HC2.out _).mono ?_; rintro e v2 ⟨rfl, ⟨⟨d2, rfl⟩⟩⟩) | (go_at_call 102; with_reducible refine (HC3.out _).mono ?_; rintro e v3 ⟨rfl, ⟨⟨d3, rfl⟩⟩⟩) | (go_at_call 98; with_reducible refine (HC4.out _).mono ?_; rintro e v4 ⟨rfl, ⟨⟨d4, rfl⟩⟩⟩) | (go_at_call 104; with_reducible refine (HX.out _).mono ?_; rintro e w4 ⟨v4, rfl, ho4, hb4⟩; obtain ⟨A4, c4, rfl, hc4⟩ := ho4.slice; have HO4 := Aside0.mk ho4; have HS4 := Aside0.mk hb4; have HR4 := Aside0.mk (show Below (w.heap.size + 1) (w.alloc (.cells #[.string ⟨#[]⟩, .int .i64 0] 29)) w4 from res_step (by repeat (first | exact Below.refl _ _ | apply pw_below_drewN)) hb4); clear ho4 hb4) | (go_at_call 104; with_reducible refine (HY.out _).mono ?_; rintro e w5 ⟨v5, rfl, ho5, hb5⟩; obtain ⟨A5, c5, rfl, hc5⟩ := ho5.slice; have HB5x := Aside0.mk hb5; have HO5 := Aside0.mk ho5; have HS5 := Aside0.mk hb5; have HR5 := Aside0.mk (show Below (w.heap.size + 1) (w.alloc (.cells #[.string ⟨#[]⟩, .int .i64 0] 29)) w5 from res_step HR4.out hb5); have HO45 := Aside0.mk (HO4.out.below (Nat.le_refl _) HB5x.out); clear ho5 hb5) | (at_builtin; refine wpList_append_M (w0 := w.alloc (.cells #[.string ⟨#[]⟩, .int .i64 0] 29)) rfl (.tmp 52) (.tmp 56) 83 83 5 rfl Tryz.underlying83 info5 (w.heap.size + 1) _ x rfl (HO45.out.mono (by simp)) _ rfl y (src_own Tryz.underlying83 HO5.out) (by have := HLX.out; have := HLY.out; omega) (res_size HR5.out) HR5.out ?_; intro v6 w6 ho6 hr6; rw [HZ6.out] at ho6; obtain ⟨A6, c6, rfl, hc6⟩ := ho6.slice; have HO6 := Aside0.mk ho6; have HR6 := Aside0.mk hr6; clear ho6 hr6) | (at_builtin; refine wpList_append_M (w0 := w.alloc (.cells #[.string ⟨#[]⟩, .int .i64 0] 29)) rfl (.tmp 63) (.tmp 67) 83 9 5 rfl Tryz.underlying83 info5 (w.heap.size + 1) _ z rfl HO6.out _ rfl (bytesOf (a1.extract z.length a1.size)) (src_bytes _ Tryz.underlying9 _) (by have := HLZ.out; have := HLE.out; omega) (res_size HR6.out) HR6.out ?_; intro v7 w7 ho7 hr7; rw [HT.out] at ho7; obtain ⟨A7, c7, rfl, hc7⟩ := ho7.slice; have HO7 := Aside0.mk ho7; have HR7 := Aside0.mk hr7; clear ho7 hr7) | (go_at_call 90; with_reducible refine (HOUT.out _ _ _ HO7.out).mono ?_; rintro e w8 ⟨rfl, hb8⟩; have HR8 := Aside0.mk (res_step HR7.out hb8); clear hb8; have hk0 : w8.cell? ⟨w.heap.size, 0, none⟩ = some (.string ⟨#[]⟩) := (blk_cell (res_block HR8.out) 0).trans rfl; have hk1 : w8.cell? ⟨w.heap.size, 1, none⟩ = some (.int .i64 0) := (blk_cell (res_block HR8.out) 1).trans rfl; have hf0 := blk_frozen (res_block HR8.out) 0; have hf1 := blk_frozen (res_block HR8.out) 1))
              refine bodyPost_ret (results_cell_row rfl _ _ w.heap.size 29 #[.string r1, .int .i64 r2] (0, 0) _ rfl (blk_put (cs := #[.string r1, .int .i64 0]) (blk_put (cs := #[.string ⟨#[]⟩, .int .i64 0]) (res_block (o := (.cells #[.string ⟨#[]⟩, .int .i64 0] 29)) HR8.out) 0 _ rfl) 1 _ rfl) Tryz.underlying29 rfl (by kernel_rfl)) rfl ?_
              exact ⟨rfl, below_set (below_set (res_below (o := (.cells #[.string ⟨#[]⟩, .int .i64 0] 29)) HR8.out) (Nat.le_refl _)) (Nat.le_refl _)⟩
            · rw [if_neg h7, List.append_nil] at h
              have HOUT := Lib.hid (fun (W : World) (A : Option Addr) (c : Nat) (ho : OwnM (w.heap.size + 1) (.slice A z.length c) z W) => out_M W A c z r1 r2 _ ho h)
              clear h
              go_enter Tryz.func56, Tryz.ntmps56
              go_wp2_with (first | (go_at_call 89; with_reducible refine (HC0.out _).mono ?_; rintro e v0 ⟨rfl, ⟨⟨d0, rfl⟩⟩⟩) | (go_at_call 89; with_reducible refine (HC1.out _).mono ?_; rintro e v1 ⟨rfl, ⟨⟨d1, rfl⟩⟩⟩) | (go_at_call 102; with_reducible refine (HC2.out _).mono ?_; rintro e v2 ⟨rfl, ⟨⟨d2, rfl⟩⟩⟩) | (go_at_call 102; with_reducible refine (HC3.out _).mono ?_; rintro e v3 ⟨rfl, ⟨⟨d3, rfl⟩⟩⟩) | (go_at_call 98; with_reducible refine (HC4.out _).mono ?_; rintro e v4 ⟨rfl, ⟨⟨d4, rfl⟩⟩⟩) | (go_at_call 104; with_reducible refine (HX.out _).mono ?_; rintro e w4 ⟨v4, rfl, ho4, hb4⟩; obtain ⟨A4, c4, rfl, hc4⟩ := ho4.slice; have HO4 := Aside0.mk ho4; have HS4 := Aside0.mk hb4; have HR4 := Aside0.mk (show Below (w.heap.size + 1) (w.alloc (.cells #[.string ⟨#[]⟩, .int .i64 0] 29)) w4 from res_step (by repeat (first | exact Below.refl _ _ | apply pw_below_drewN)) hb4); clear ho4 hb4) | (go_at_call 104; with_reducible refine (HY.out _).mono ?_; rintro e w5 ⟨v5, rfl, ho5, hb5⟩; obtain ⟨A5, c5, rfl, hc5⟩ := ho5.slice; have HB5x := Aside0.mk hb5; have HO5 := Aside0.mk ho5; have HS5 := Aside0.mk hb5; have HR5 := Aside0.mk (show Below (w.heap.size + 1) (w.alloc (.cells #[.string ⟨#[]⟩, .int .i64 0] 29)) w5 from res_step HR4.out hb5); have HO45 := Aside0.mk (HO4.out.below (Nat.le_refl _) HB5x.out); clear ho5 hb5) | (at_builtin; refine wpList_append_M (w0 := w.alloc (.cells #[.string ⟨#[]⟩, .int .i64 0] 29)) rfl (.tmp 52) (.tmp 56) 83 83 5 rfl Tryz.underlying83 info5 (w.heap.size + 1) _ x rfl (HO45.out.mono (by simp)) _ rfl y (src_own Tryz.underlying83 HO5.out) (by have := HLX.out; have := HLY.out; omega) (res_size HR5.out) HR5.out ?_; intro v6 w6 ho6 hr6; rw [HZ6.out] at ho6; obtain ⟨A6, c6, rfl, hc6⟩ := ho6.slice; have HO6 := Aside0.mk ho6; have HR6 := Aside0.mk hr6; clear ho6 hr6) | (go_at_call 90; with_reducible refine (HOUT.out _ _ _ HO6.out).mono ?_; rintro e w8 ⟨rfl, hb8⟩; have HR8 := Aside0.mk (res_step HR6.out hb8); clear hb8; have hk0 : w8.cell? ⟨w.heap.size, 0, none⟩ = some (.string ⟨#[]⟩) := (blk_cell (res_block HR8.out) 0).trans rfl; have hk1 : w8.cell? ⟨w.heap.size, 1, none⟩ = some (.int .i64 0) := (blk_cell (res_block HR8.out) 1).trans rfl; have hf0 := blk_frozen (res_block HR8.out) 0; have hf1 := blk_frozen (res_block HR8.out) 1))
              refine bodyPost_ret (results_cell_row rfl _ _ w.heap.size 29 #[.string r1, .int .i64 r2] (0, 0) _ rfl (blk_put (cs := #[.string r1, .int .i64 0]) (blk_put (cs := #[.string ⟨#[]⟩, .int .i64 0]) (res_block (o := (.cells #[.string ⟨#[]⟩, .int .i64 0] 29)) HR8.out) 0 _ rfl) 1 _ rfl) Tryz.underlying29 rfl (by kernel_rfl)) rfl ?_
              exact ⟨rfl, below_set (below_set (res_below (o := (.cells #[.string ⟨#[]⟩, .int .i64 0] 29)) HR8.out) (Nat.le_refl _)) (Nat.le_refl _)⟩
  · rw [if_neg hb] at h
    cases h
end Go.Proofs.YtlekfhnlhdmekaaGreatDoor.T

-- Written by a program of this session (mp.py over the kit's print.py), out of the translation.
namespace Go.Proofs.YtlekfhnlhdmekaaGreatDoor.T
set_option linter.unusedSimpArgs false
open Go.RowKit Go.Proofs.YtlekfhnlhdmekaaGreatDoorW.PrintWords Go.Proofs.YtlekfhnlhdmekaaGreatDoorW.PrintLast Go.Proofs.YtlekfhnlhdmekaaGreatDoorW.PrintMore
attribute [local go_sem] max2_int min2_int max_two min_two max_three min_three max_four min_four   -- for this text's walks alone
set_option linter.unusedVariables false
set_option linter.unusedSimpArgs false

/-! ### qanatlaw02_TextParts: function 7 -/
mutual
def qanatlaw02_TextParts.j0 : Nat → ByteArray → ByteArray → Int → Int → Int → Bool → Bool → Option (Bool)
  | 0, _, _, _, _, _, _, _ => none
  | k + 1, x0, x1, x2, x3, x4, x11, x27 => if x27 = true then (some x11) else ((text_Substr.f x1 x2 x3 x4).bind fun bt555 => ((text_DelStr.f x1 x2 x3).bind fun bt557 => ((text_Insert.f x0 x1 x2 x3 x4).bind fun bt559 => ((text_Overlay.f x0 x1 x2 x3 x4).bind fun bt561 => ((qanatref02_Substr.f x1 x2 x3 x4).bind fun bt563 => ((qanatlaw02_str.f bt555.1 bt555.2 bt563.1 bt563.2).bind fun t565 => (if t565 = true then ((qanatref02_DelStr.f k x1 x2 x3).bind fun bt566 => ((qanatlaw02_str.f bt557.1 bt557.2 bt566.1 bt566.2).bind fun t568 => (qanatlaw02_TextParts.j1 k x0 x1 x2 x3 x4 x11 bt559.1 bt559.2 bt561.1 bt561.2 t568))) else (qanatlaw02_TextParts.j1 k x0 x1 x2 x3 x4 x11 bt559.1 bt559.2 bt561.1 bt561.2 false))))))))
def qanatlaw02_TextParts.j1 : Nat → ByteArray → ByteArray → Int → Int → Int → Bool → ByteArray → Int → ByteArray → Int → Bool → Option (Bool)
  | 0, _, _, _, _, _, _, _, _, _, _, _ => none
  | k + 1, x0, x1, x2, x3, x4, x11, x16, x17, x18, x19, x20 => if x11 = true then (if x20 = true then ((qanatref02_Insert.f x0 x1 x2 x3 x4).bind fun bt569 => ((qanatlaw02_str.f x16 x17 bt569.1 bt569.2).bind fun t571 => (if t571 = true then ((qanatref02_Overlay.f x0 x1 x2 x3 x4).bind fun bt572 => ((qanatlaw02_str.f x18 x19 bt572.1 bt572.2).bind fun t574 => (some t574))) else (some false)))) else (some false)) else (some false)
end
def qanatlaw02_TextParts.f (k : Nat) (a0 : ByteArray) (a1 : ByteArray) (a2 : Int) (a3 : Int) (a4 : Int) : Option (Bool) := (qanatlaw02_head.f k).bind fun t552 => ((qanatlaw02_long.f a0).bind fun t553 => (if t553 = true then (qanatlaw02_TextParts.j0 k a0 a1 a2 a3 a4 t552 true) else ((qanatlaw02_long.f a1).bind fun t554 => (qanatlaw02_TextParts.j0 k a0 a1 a2 a3 a4 t552 t554))))
theorem qanatlaw02_TextParts.mono_l : ∀ k, (∀ y0 y1 y2 y3 y4 y5 y6, LeO (qanatlaw02_TextParts.j0 k y0 y1 y2 y3 y4 y5 y6) (qanatlaw02_TextParts.j0 (k + 1) y0 y1 y2 y3 y4 y5 y6)) ∧ (∀ y0 y1 y2 y3 y4 y5 y6 y7 y8 y9 y10, LeO (qanatlaw02_TextParts.j1 k y0 y1 y2 y3 y4 y5 y6 y7 y8 y9 y10) (qanatlaw02_TextParts.j1 (k + 1) y0 y1 y2 y3 y4 y5 y6 y7 y8 y9 y10))
  | 0 => ⟨fun _ _ _ _ _ _ _ r h => by simp [qanatlaw02_TextParts.j0] at h, fun _ _ _ _ _ _ _ _ _ _ _ r h => by simp [qanatlaw02_TextParts.j1] at h⟩
  | k + 1 => by
    obtain ⟨ih0, ih1⟩ := qanatlaw02_TextParts.mono_l k
    refine ⟨?_, ?_⟩
    · intro y0 y1 y2 y3 y4 y5 y6
      unfold qanatlaw02_TextParts.j0
      repeat' first
      | (with_reducible exact ih0 _ _ _ _ _ _ _)
      | (with_reducible exact ih1 _ _ _ _ _ _ _ _ _ _ _)
      | (with_reducible exact qanatlaw02_head.mono _)
      | (with_reducible exact qanatref02_DelStr.mono _ _ _ _)
      | (with_reducible exact LeO.refl _)
      | (with_reducible exact LeO.none _)
      | (with_reducible refine LeO.ite ?_ ?_)
      | (with_reducible refine LeO.bind ?_ (fun _ => ?_))
      | exact ih0 _ _ _ _ _ _ _
      | exact ih1 _ _ _ _ _ _ _ _ _ _ _
      | exact qanatlaw02_head.mono _
      | exact qanatref02_DelStr.mono _ _ _ _
      | exact LeO.none _
      | refine LeO.ite ?_ ?_
      | refine LeO.bind ?_ (fun _ => ?_)
    · intro y0 y1 y2 y3 y4 y5 y6 y7 y8 y9 y10
      unfold qanatlaw02_TextParts.j1
      repeat' first
      | (with_reducible exact ih0 _ _ _ _ _ _ _)
      | (with_reducible exact ih1 _ _ _ _ _ _ _ _ _ _ _)
      | (with_reducible exact qanatlaw02_head.mono _)
      | (with_reducible exact qanatref02_DelStr.mono _ _ _ _)
      | (with_reducible exact LeO.refl _)
      | (with_reducible exact LeO.none _)
      | (with_reducible refine LeO.ite ?_ ?_)
      | (with_reducible refine LeO.bind ?_ (fun _ => ?_))
      | exact ih0 _ _ _ _ _ _ _
      | exact ih1 _ _ _ _ _ _ _ _ _ _ _
      | exact qanatlaw02_head.mono _
      | exact qanatref02_DelStr.mono _ _ _ _
      | exact LeO.none _
      | refine LeO.ite ?_ ?_
      | refine LeO.bind ?_ (fun _ => ?_)
theorem qanatlaw02_TextParts.mono : ∀ a0 a1 a2 a3 a4 k, LeO (qanatlaw02_TextParts.f k a0 a1 a2 a3 a4) (qanatlaw02_TextParts.f (k + 1) a0 a1 a2 a3 a4) := by
  intro a0 a1 a2 a3 a4 k
  obtain ⟨ih0, ih1⟩ := qanatlaw02_TextParts.mono_l k
  unfold qanatlaw02_TextParts.f
  repeat' first
      | (with_reducible exact ih0 _ _ _ _ _ _ _)
      | (with_reducible exact ih1 _ _ _ _ _ _ _ _ _ _ _)
      | (with_reducible exact qanatlaw02_head.mono _)
      | (with_reducible exact qanatref02_DelStr.mono _ _ _ _)
      | (with_reducible exact LeO.refl _)
      | (with_reducible exact LeO.none _)
      | (with_reducible refine LeO.ite ?_ ?_)
      | (with_reducible refine LeO.bind ?_ (fun _ => ?_))
      | exact ih0 _ _ _ _ _ _ _
      | exact ih1 _ _ _ _ _ _ _ _ _ _ _
      | exact qanatlaw02_head.mono _
      | exact qanatref02_DelStr.mono _ _ _ _
      | exact LeO.none _
      | refine LeO.ite ?_ ?_
      | refine LeO.bind ?_ (fun _ => ?_)
set_option maxHeartbeats 8000000 in
set_option maxRecDepth 100000 in
theorem qanatlaw02_TextParts.calls (k : Nat) (a0 : ByteArray) (a1 : ByteArray) (a2 : Int) (a3 : Int) (a4 : Int) (r : Bool) (w : World) (hT : TabOK w) (h : qanatlaw02_TextParts.f k a0 a1 a2 a3 a4 = some r) :
    Calls Tryz.prog 7 #[.string a0, .string a1, .int .i64 a2, .int .i64 a3, .int .u8 a4] w fun e w' => e = .returned (.bool r) ∧ Below w.heap.size w w' := by
  have HB := Aside0.mk (Below.refl w.heap.size w)
  have H : ((qanatlaw02_head.f k).bind fun t552 => ((qanatlaw02_long.f a0).bind fun t553 => (if t553 = true then (qanatlaw02_TextParts.j0 k a0 a1 a2 a3 a4 t552 true) else ((qanatlaw02_long.f a1).bind fun t554 => (qanatlaw02_TextParts.j0 k a0 a1 a2 a3 a4 t552 t554))))) = some r := h
  clear h
  replace H := Option.bind_eq_some_iff.mp H
  obtain ⟨t552, A60, H⟩ := H
  replace H : ((qanatlaw02_long.f a0).bind fun t553 => (if t553 = true then (qanatlaw02_TextParts.j0 k a0 a1 a2 a3 a4 t552 true) else ((qanatlaw02_long.f a1).bind fun t554 => (qanatlaw02_TextParts.j0 k a0 a1 a2 a3 a4 t552 t554)))) = some r := H
  have A6 := Aside0.mk A60
  clear A60
  have HC7 := Aside0.mk H
  clear H
  go_enter Tryz.func7, Tryz.ntmps7
  go_upto_region 2 with (first | ((with_reducible refine gate_callee (f := 15) rfl ?_); refine goesL_ (some 21) rfl rfl Tryz.func15 (by kernel_rfl) rfl #[] rfl (by (try simp only [List.map_toArray, List.map_cons, List.map_nil]); first | done | rfl | (simp only [List.length_drop, List.length_take]; rfl)) ?_; (with_reducible refine (qanatlaw02_head.calls k  t552 _ (TabOK.of_below hT (by repeat (first | (with_reducible first | exact HB.out | apply below_alloc | apply pw_below_drewN | apply below_drew1) | exact HB.out))) A6.out).mono ?_); rintro e w8 ⟨rfl, hb⟩; refine ⟨_, rfl, ?_⟩; have n0_ := Aside0.mk (below_step (by repeat (first | (with_reducible first | exact HB.out | apply below_alloc | apply pw_below_drewN | apply below_drew1) | exact HB.out)) hb); clear HB; have HB := n0_; clear n0_; (try clear hb); (try clear hb2); (try clear hk); (try clear hi)))
  (try simp only [Act.put, List.setIfInBounds_toArray, List.set_cons_zero, List.set_cons_succ])
  go_cut [27] (fun v27 wc => ∃ (kq : Nat) (x27_6 : Bool), v27 = .bool x27_6 ∧ Aside0 (qanatlaw02_TextParts.j0 kq a0 a1 a2 a3 a4 t552 x27_6 = some r) ∧ Aside0 (kq ≤ k) ∧ Aside0 (Below w.heap.size w wc))
  case first =>
    have H := HC7.out
    clear HC7
    replace H := Option.bind_eq_some_iff.mp H
    obtain ⟨t553, A90, H⟩ := H
    replace H : (if t553 = true then (qanatlaw02_TextParts.j0 k a0 a1 a2 a3 a4 t552 true) else ((qanatlaw02_long.f a1).bind fun t554 => (qanatlaw02_TextParts.j0 k a0 a1 a2 a3 a4 t552 t554))) = some r := H
    have A9 := Aside0.mk A90
    clear A90
    by_cases c10 : t553 = true
    · subst c10
      have H1 : (qanatlaw02_TextParts.j0 k a0 a1 a2 a3 a4 t552 true) = some r := by rw [if_pos rfl] at H; exact H
      clear H
      have H := H1
      clear H1
      have H' := Aside0.mk H
      clear H
      go_wp2_with (first | ((with_reducible refine gate_callee (f := 16) rfl ?_); refine goesL_ (some 23) rfl rfl Tryz.func16 (by kernel_rfl) rfl #[.string a0] rfl (by (try simp only [List.map_toArray, List.map_cons, List.map_nil]); first | done | rfl | (simp only [List.length_drop, List.length_take]; rfl)) ?_; (with_reducible refine (qanatlaw02_long.calls a0 true _ A9.out).mono ?_); rintro e w' ⟨rfl, ⟨nd, rfl⟩⟩; refine ⟨_, rfl, ?_⟩))
      go_meet
      case rel => exact ⟨_, (true), (by first | rfl | (simp; done) | (simp [*]; done)), H', ⟨by first | omega | exact Nat.le_refl _⟩, ⟨by repeat (first | (with_reducible first | exact HB.out | apply below_alloc | apply pw_below_drewN | apply below_drew1) | exact HB.out)⟩⟩
    · replace c10 := Bool.eq_false_iff.mpr c10
      subst c10
      have H1 : ((qanatlaw02_long.f a1).bind fun t554 => (qanatlaw02_TextParts.j0 k a0 a1 a2 a3 a4 t552 t554)) = some r := by rw [if_neg (show ¬ (false = true) by decide)] at H; exact H
      clear H
      have H := H1
      clear H1
      replace H := Option.bind_eq_some_iff.mp H
      obtain ⟨t554, A110, H⟩ := H
      replace H : (qanatlaw02_TextParts.j0 k a0 a1 a2 a3 a4 t552 t554) = some r := H
      have A11 := Aside0.mk A110
      clear A110
      have H' := Aside0.mk H
      clear H
      go_wp2_with (first | ((with_reducible refine gate_callee (f := 16) rfl ?_); refine goesL_ (some 23) rfl rfl Tryz.func16 (by kernel_rfl) rfl #[.string a0] rfl (by (try simp only [List.map_toArray, List.map_cons, List.map_nil]); first | done | rfl | (simp only [List.length_drop, List.length_take]; rfl)) ?_; (with_reducible refine (qanatlaw02_long.calls a0 false _ A9.out).mono ?_); rintro e w' ⟨rfl, ⟨nd, rfl⟩⟩; refine ⟨_, rfl, ?_⟩) | (go_at_call 16; (with_reducible refine (qanatlaw02_long.calls a1 t554 _ A11.out).mono ?_); rintro e w' ⟨rfl, ⟨nd, rfl⟩⟩))
      go_meet
      case rel => exact ⟨_, (t554), (by first | rfl | (simp; done) | (simp [*]; done)), H', ⟨by first | omega | exact Nat.le_refl _⟩, ⟨by repeat (first | (with_reducible first | exact HB.out | apply below_alloc | apply pw_below_drewN | apply below_drew1) | exact HB.out)⟩⟩
  case rest =>
    clear HC7
    try clear c1
    try clear p2
    try clear c7
    try clear c10
    obtain ⟨kq, x27_6, rfl, HA, HJ6, HB⟩ := hcut
    cases kq with
    | zero => exact absurd HA.out (by simp [qanatlaw02_TextParts.j0])
    | succ kj6 =>
      have H := HA.out
      clear HA
      simp only [qanatlaw02_TextParts.j0] at H
      by_cases c12 : x27_6 = true
      · subst c12
        have H1 : (some t552) = some r := by rw [if_pos rfl] at H; exact H
        clear H
        have H := H1
        clear H1
        obtain rfl := Option.some.inj H
        go_wp2
        go_ret
        exact ⟨by first | rfl | (simp [errW_none, errW_some] <;> rfl) | (simp [*, errW_none, errW_some] <;> rfl), by repeat (first | (with_reducible first | exact HB.out | apply below_alloc | apply pw_below_drewN | apply below_drew1) | exact HB.out)⟩
      · replace c12 := Bool.eq_false_iff.mpr c12
        subst c12
        have H1 : ((text_Substr.f a1 a2 a3 a4).bind fun bt555 => ((text_DelStr.f a1 a2 a3).bind fun bt557 => ((text_Insert.f a0 a1 a2 a3 a4).bind fun bt559 => ((text_Overlay.f a0 a1 a2 a3 a4).bind fun bt561 => ((qanatref02_Substr.f a1 a2 a3 a4).bind fun bt563 => ((qanatlaw02_str.f bt555.1 bt555.2 bt563.1 bt563.2).bind fun t565 => (if t565 = true then ((qanatref02_DelStr.f kj6 a1 a2 a3).bind fun bt566 => ((qanatlaw02_str.f bt557.1 bt557.2 bt566.1 bt566.2).bind fun t568 => (qanatlaw02_TextParts.j1 kj6 a0 a1 a2 a3 a4 t552 bt559.1 bt559.2 bt561.1 bt561.2 t568))) else (qanatlaw02_TextParts.j1 kj6 a0 a1 a2 a3 a4 t552 bt559.1 bt559.2 bt561.1 bt561.2 false)))))))) = some r := by rw [if_neg (show ¬ (false = true) by decide)] at H; exact H
        clear H
        have H := H1
        clear H1
        replace H := Option.bind_eq_some_iff.mp H
        obtain ⟨⟨t555, t556⟩, A130, H⟩ := H
        replace H : ((text_DelStr.f a1 a2 a3).bind fun bt557 => ((text_Insert.f a0 a1 a2 a3 a4).bind fun bt559 => ((text_Overlay.f a0 a1 a2 a3 a4).bind fun bt561 => ((qanatref02_Substr.f a1 a2 a3 a4).bind fun bt563 => ((qanatlaw02_str.f t555 t556 bt563.1 bt563.2).bind fun t565 => (if t565 = true then ((qanatref02_DelStr.f kj6 a1 a2 a3).bind fun bt566 => ((qanatlaw02_str.f bt557.1 bt557.2 bt566.1 bt566.2).bind fun t568 => (qanatlaw02_TextParts.j1 kj6 a0 a1 a2 a3 a4 t552 bt559.1 bt559.2 bt561.1 bt561.2 t568))) else (qanatlaw02_TextParts.j1 kj6 a0 a1 a2 a3 a4 t552 bt559.1 bt559.2 bt561.1 bt561.2 false))))))) = some r := H
        have A13 := Aside0.mk A130
        clear A130
        replace H := Option.bind_eq_some_iff.mp H
        obtain ⟨⟨t557, t558⟩, A140, H⟩ := H
        replace H : ((text_Insert.f a0 a1 a2 a3 a4).bind fun bt559 => ((text_Overlay.f a0 a1 a2 a3 a4).bind fun bt561 => ((qanatref02_Substr.f a1 a2 a3 a4).bind fun bt563 => ((qanatlaw02_str.f t555 t556 bt563.1 bt563.2).bind fun t565 => (if t565 = true then ((qanatref02_DelStr.f kj6 a1 a2 a3).bind fun bt566 => ((qanatlaw02_str.f t557 t558 bt566.1 bt566.2).bind fun t568 => (qanatlaw02_TextParts.j1 kj6 a0 a1 a2 a3 a4 t552 bt559.1 bt559.2 bt561.1 bt561.2 t568))) else (qanatlaw02_TextParts.j1 kj6 a0 a1 a2 a3 a4 t552 bt559.1 bt559.2 bt561.1 bt561.2 false)))))) = some r := H
        have A14 := Aside0.mk A140
        clear A140
        replace H := Option.bind_eq_some_iff.mp H
        obtain ⟨⟨t559, t560⟩, A150, H⟩ := H
        replace H : ((text_Overlay.f a0 a1 a2 a3 a4).bind fun bt561 => ((qanatref02_Substr.f a1 a2 a3 a4).bind fun bt563 => ((qanatlaw02_str.f t555 t556 bt563.1 bt563.2).bind fun t565 => (if t565 = true then ((qanatref02_DelStr.f kj6 a1 a2 a3).bind fun bt566 => ((qanatlaw02_str.f t557 t558 bt566.1 bt566.2).bind fun t568 => (qanatlaw02_TextParts.j1 kj6 a0 a1 a2 a3 a4 t552 t559 t560 bt561.1 bt561.2 t568))) else (qanatlaw02_TextParts.j1 kj6 a0 a1 a2 a3 a4 t552 t559 t560 bt561.1 bt561.2 false))))) = some r := H
        have A15 := Aside0.mk A150
        clear A150
        replace H := Option.bind_eq_some_iff.mp H
        obtain ⟨⟨t561, t562⟩, A160, H⟩ := H
        replace H : ((qanatref02_Substr.f a1 a2 a3 a4).bind fun bt563 => ((qanatlaw02_str.f t555 t556 bt563.1 bt563.2).bind fun t565 => (if t565 = true then ((qanatref02_DelStr.f kj6 a1 a2 a3).bind fun bt566 => ((qanatlaw02_str.f t557 t558 bt566.1 bt566.2).bind fun t568 => (qanatlaw02_TextParts.j1 kj6 a0 a1 a2 a3 a4 t552 t559 t560 t561 t562 t568))) else (qanatlaw02_TextParts.j1 kj6 a0 a1 a2 a3 a4 t552 t559 t560 t561 t562 false)))) = some r := H
        have A16 := Aside0.mk A160
        clear A160
        have HC17 := Aside0.mk H
        clear H
        go_upto_region 8 with (first | ((with_reducible refine gate_callee (f := 49) rfl ?_); refine goesL_ (some 34) rfl rfl Tryz.func49 (by kernel_rfl) rfl #[.string a1, .int .i64 a2, .int .i64 a3, .int .u8 a4] rfl (by (try simp only [List.map_toArray, List.map_cons, List.map_nil]); first | done | rfl | (simp only [List.length_drop, List.length_take]; rfl)) ?_; (with_reducible refine (text_Substr.calls a1 a2 a3 a4 t555 t556 _ A13.out).mono ?_); rintro e w18 ⟨rfl, hb⟩; refine ⟨_, rfl, ?_⟩; have n0_ := Aside0.mk (below_step (by repeat (first | (with_reducible first | exact HB.out | apply below_alloc | apply pw_below_drewN | apply below_drew1) | exact HB.out)) hb); clear HB; have HB := n0_; clear n0_; (try clear hb); (try clear hb2); (try clear hk); (try clear hi)) | ((with_reducible refine gate_callee (f := 50) rfl ?_); refine goesL_ (some 41) rfl rfl Tryz.func50 (by kernel_rfl) rfl #[.string a1, .int .i64 a2, .int .i64 a3] rfl (by (try simp only [List.map_toArray, List.map_cons, List.map_nil]); first | done | rfl | (simp only [List.length_drop, List.length_take]; rfl)) ?_; (with_reducible refine (text_DelStr.calls a1 a2 a3 t557 t558 _ A14.out).mono ?_); rintro e w19 ⟨rfl, hb⟩; refine ⟨_, rfl, ?_⟩; have n0_ := Aside0.mk (below_step (by repeat (first | (with_reducible first | exact HB.out | apply below_alloc | apply pw_below_drewN | apply below_drew1) | exact HB.out)) hb); clear HB; have HB := n0_; clear n0_; (try clear hb); (try clear hb2); (try clear hk); (try clear hi)) | ((with_reducible refine gate_callee (f := 51) rfl ?_); refine goesL_ (some 50) rfl rfl Tryz.func51 (by kernel_rfl) rfl #[.string a0, .string a1, .int .i64 a2, .int .i64 a3, .int .u8 a4] rfl (by (try simp only [List.map_toArray, List.map_cons, List.map_nil]); first | done | rfl | (simp only [List.length_drop, List.length_take]; rfl)) ?_; (with_reducible refine (text_Insert.calls a0 a1 a2 a3 a4 t559 t560 _ A15.out).mono ?_); rintro e w20 ⟨rfl, hb⟩; refine ⟨_, rfl, ?_⟩; have n0_ := Aside0.mk (below_step (by repeat (first | (with_reducible first | exact HB.out | apply below_alloc | apply pw_below_drewN | apply below_drew1) | exact HB.out)) hb); clear HB; have HB := n0_; clear n0_; (try clear hb); (try clear hb2); (try clear hk); (try clear hi)) | ((with_reducible refine gate_callee (f := 52) rfl ?_); refine goesL_ (some 59) rfl rfl Tryz.func52 (by kernel_rfl) rfl #[.string a0, .string a1, .int .i64 a2, .int .i64 a3, .int .u8 a4] rfl (by (try simp only [List.map_toArray, List.map_cons, List.map_nil]); first | done | rfl | (simp only [List.length_drop, List.length_take]; rfl)) ?_; (with_reducible refine (text_Overlay.calls a0 a1 a2 a3 a4 t561 t562 _ A16.out).mono ?_); rintro e w21 ⟨rfl, hb⟩; refine ⟨_, rfl, ?_⟩; have n0_ := Aside0.mk (below_step (by repeat (first | (with_reducible first | exact HB.out | apply below_alloc | apply pw_below_drewN | apply below_drew1) | exact HB.out)) hb); clear HB; have HB := n0_; clear n0_; (try clear hb); (try clear hb2); (try clear hk); (try clear hi)))
        (try simp only [Act.put, List.setIfInBounds_toArray, List.set_cons_zero, List.set_cons_succ])
        go_cut [20] (fun v20 wc => ∃ (kq : Nat) (x20_16 : Bool), v20 = .bool x20_16 ∧ Aside0 (qanatlaw02_TextParts.j1 kq a0 a1 a2 a3 a4 t552 t559 t560 t561 t562 x20_16 = some r) ∧ Aside0 (kq ≤ kj6) ∧ Aside0 (Below w.heap.size w wc))
        case first =>
          have H := HC17.out
          clear HC17
          replace H := Option.bind_eq_some_iff.mp H
          obtain ⟨⟨t563, t564⟩, A220, H⟩ := H
          replace H : ((qanatlaw02_str.f t555 t556 t563 t564).bind fun t565 => (if t565 = true then ((qanatref02_DelStr.f kj6 a1 a2 a3).bind fun bt566 => ((qanatlaw02_str.f t557 t558 bt566.1 bt566.2).bind fun t568 => (qanatlaw02_TextParts.j1 kj6 a0 a1 a2 a3 a4 t552 t559 t560 t561 t562 t568))) else (qanatlaw02_TextParts.j1 kj6 a0 a1 a2 a3 a4 t552 t559 t560 t561 t562 false))) = some r := H
          have A22 := Aside0.mk A220
          clear A220
          replace H := Option.bind_eq_some_iff.mp H
          obtain ⟨t565, A230, H⟩ := H
          replace H : (if t565 = true then ((qanatref02_DelStr.f kj6 a1 a2 a3).bind fun bt566 => ((qanatlaw02_str.f t557 t558 bt566.1 bt566.2).bind fun t568 => (qanatlaw02_TextParts.j1 kj6 a0 a1 a2 a3 a4 t552 t559 t560 t561 t562 t568))) else (qanatlaw02_TextParts.j1 kj6 a0 a1 a2 a3 a4 t552 t559 t560 t561 t562 false)) = some r := H
          have A23 := Aside0.mk A230
          clear A230
          by_cases c24 : t565 = true
          · subst c24
            have H1 : ((qanatref02_DelStr.f kj6 a1 a2 a3).bind fun bt566 => ((qanatlaw02_str.f t557 t558 bt566.1 bt566.2).bind fun t568 => (qanatlaw02_TextParts.j1 kj6 a0 a1 a2 a3 a4 t552 t559 t560 t561 t562 t568))) = some r := by rw [if_pos rfl] at H; exact H
            clear H
            have H := H1
            clear H1
            replace H := Option.bind_eq_some_iff.mp H
            obtain ⟨⟨t566, t567⟩, A250, H⟩ := H
            replace H : ((qanatlaw02_str.f t557 t558 t566 t567).bind fun t568 => (qanatlaw02_TextParts.j1 kj6 a0 a1 a2 a3 a4 t552 t559 t560 t561 t562 t568)) = some r := H
            have A25 := Aside0.mk A250
            clear A250
            replace H := Option.bind_eq_some_iff.mp H
            obtain ⟨t568, A260, H⟩ := H
            replace H : (qanatlaw02_TextParts.j1 kj6 a0 a1 a2 a3 a4 t552 t559 t560 t561 t562 t568) = some r := H
            have A26 := Aside0.mk A260
            clear A260
            have H' := Aside0.mk H
            clear H
            go_wp2_with (first | ((with_reducible refine gate_callee (f := 53) rfl ?_); refine goesL_ (some 68) rfl rfl Tryz.func53 (by kernel_rfl) rfl #[.string a1, .int .i64 a2, .int .i64 a3, .int .u8 a4] rfl (by (try simp only [List.map_toArray, List.map_cons, List.map_nil]); first | done | rfl | (simp only [List.length_drop, List.length_take]; rfl)) ?_; (with_reducible refine (qanatref02_Substr.calls a1 a2 a3 a4 t563 t564 _ A22.out).mono ?_); rintro e w27 ⟨rfl, hb⟩; refine ⟨_, rfl, ?_⟩; have n0_ := Aside0.mk (below_step (by repeat (first | (with_reducible first | exact HB.out | apply below_alloc | apply pw_below_drewN | apply below_drew1) | exact HB.out)) hb); clear HB; have HB := n0_; clear n0_; (try clear hb); (try clear hb2); (try clear hk); (try clear hi)) | ((with_reducible refine gate_callee (f := 20) rfl ?_); refine goesL_ (some 69) rfl rfl Tryz.func20 (by kernel_rfl) rfl #[.string t555, .int .i64 t556, .agg #[.string t563, .int .i64 t564]] rfl (by (try simp only [List.map_toArray, List.map_cons, List.map_nil]); first | done | rfl | (simp only [List.length_drop, List.length_take]; rfl)) ?_; (with_reducible refine (qanatlaw02_str.calls t555 t556 t563 t564 true _ A23.out).mono ?_); rintro e w28 ⟨rfl, hb⟩; refine ⟨_, rfl, ?_⟩; have n0_ := Aside0.mk (below_step (by repeat (first | (with_reducible first | exact HB.out | apply below_alloc | apply pw_below_drewN | apply below_drew1) | exact HB.out)) hb); clear HB; have HB := n0_; clear n0_; (try clear hb); (try clear hb2); (try clear hk); (try clear hi)) | (go_at_call 54; (with_reducible refine (qanatref02_DelStr.calls kj6 a1 a2 a3 t566 t567 _ A25.out).mono ?_); rintro e w29 ⟨rfl, hb⟩; have n0_ := Aside0.mk (below_step (by repeat (first | (with_reducible first | exact HB.out | apply below_alloc | apply pw_below_drewN | apply below_drew1) | exact HB.out)) hb); clear HB; have HB := n0_; clear n0_; (try clear hb); (try clear hb2); (try clear hk); (try clear hi)) | (go_at_call 20; (with_reducible refine (qanatlaw02_str.calls t557 t558 t566 t567 t568 _ A26.out).mono ?_); rintro e w30 ⟨rfl, hb⟩; have n0_ := Aside0.mk (below_step (by repeat (first | (with_reducible first | exact HB.out | apply below_alloc | apply pw_below_drewN | apply below_drew1) | exact HB.out)) hb); clear HB; have HB := n0_; clear n0_; (try clear hb); (try clear hb2); (try clear hk); (try clear hi)))
            go_meet
            case rel => exact ⟨_, (t568), (by first | rfl | (simp; done) | (simp [*]; done)), H', ⟨by have := HJ6.out; first | omega | exact Nat.le_refl _⟩, ⟨by repeat (first | (with_reducible first | exact HB.out | apply below_alloc | apply pw_below_drewN | apply below_drew1) | exact HB.out)⟩⟩
          · replace c24 := Bool.eq_false_iff.mpr c24
            subst c24
            have H1 : (qanatlaw02_TextParts.j1 kj6 a0 a1 a2 a3 a4 t552 t559 t560 t561 t562 false) = some r := by rw [if_neg (show ¬ (false = true) by decide)] at H; exact H
            clear H
            have H := H1
            clear H1
            have H' := Aside0.mk H
            clear H
            go_wp2_with (first | ((with_reducible refine gate_callee (f := 53) rfl ?_); refine goesL_ (some 68) rfl rfl Tryz.func53 (by kernel_rfl) rfl #[.string a1, .int .i64 a2, .int .i64 a3, .int .u8 a4] rfl (by (try simp only [List.map_toArray, List.map_cons, List.map_nil]); first | done | rfl | (simp only [List.length_drop, List.length_take]; rfl)) ?_; (with_reducible refine (qanatref02_Substr.calls a1 a2 a3 a4 t563 t564 _ A22.out).mono ?_); rintro e w31 ⟨rfl, hb⟩; refine ⟨_, rfl, ?_⟩; have n0_ := Aside0.mk (below_step (by repeat (first | (with_reducible first | exact HB.out | apply below_alloc | apply pw_below_drewN | apply below_drew1) | exact HB.out)) hb); clear HB; have HB := n0_; clear n0_; (try clear hb); (try clear hb2); (try clear hk); (try clear hi)) | ((with_reducible refine gate_callee (f := 20) rfl ?_); refine goesL_ (some 69) rfl rfl Tryz.func20 (by kernel_rfl) rfl #[.string t555, .int .i64 t556, .agg #[.string t563, .int .i64 t564]] rfl (by (try simp only [List.map_toArray, List.map_cons, List.map_nil]); first | done | rfl | (simp only [List.length_drop, List.length_take]; rfl)) ?_; (with_reducible refine (qanatlaw02_str.calls t555 t556 t563 t564 false _ A23.out).mono ?_); rintro e w32 ⟨rfl, hb⟩; refine ⟨_, rfl, ?_⟩; have n0_ := Aside0.mk (below_step (by repeat (first | (with_reducible first | exact HB.out | apply below_alloc | apply pw_below_drewN | apply below_drew1) | exact HB.out)) hb); clear HB; have HB := n0_; clear n0_; (try clear hb); (try clear hb2); (try clear hk); (try clear hi)))
            go_meet
            case rel => exact ⟨_, (false), (by first | rfl | (simp; done) | (simp [*]; done)), H', ⟨by have := HJ6.out; first | omega | exact Nat.le_refl _⟩, ⟨by repeat (first | (with_reducible first | exact HB.out | apply below_alloc | apply pw_below_drewN | apply below_drew1) | exact HB.out)⟩⟩
        case rest =>
          clear HC17
          try clear c1
          try clear c2
          try clear p2
          try clear c4
          try clear c5
          try clear c7
          try clear c10
          try clear c12
          try clear c15
          try clear c16
          try clear c20
          try clear c24
          try clear p2
          obtain ⟨kq, x20_16, rfl, HA, HJ16, HB⟩ := hcut
          cases kq with
          | zero => exact absurd HA.out (by simp [qanatlaw02_TextParts.j1])
          | succ kj16 =>
            have H := HA.out
            clear HA
            simp only [qanatlaw02_TextParts.j1] at H
            by_cases c33 : t552 = true
            · subst c33
              have H1 : (if x20_16 = true then ((qanatref02_Insert.f a0 a1 a2 a3 a4).bind fun bt569 => ((qanatlaw02_str.f t559 t560 bt569.1 bt569.2).bind fun t571 => (if t571 = true then ((qanatref02_Overlay.f a0 a1 a2 a3 a4).bind fun bt572 => ((qanatlaw02_str.f t561 t562 bt572.1 bt572.2).bind fun t574 => (some t574))) else (some false)))) else (some false)) = some r := by rw [if_pos rfl] at H; exact H
              clear H
              have H := H1
              clear H1
              by_cases c34 : x20_16 = true
              · subst c34
                have H1 : ((qanatref02_Insert.f a0 a1 a2 a3 a4).bind fun bt569 => ((qanatlaw02_str.f t559 t560 bt569.1 bt569.2).bind fun t571 => (if t571 = true then ((qanatref02_Overlay.f a0 a1 a2 a3 a4).bind fun bt572 => ((qanatlaw02_str.f t561 t562 bt572.1 bt572.2).bind fun t574 => (some t574))) else (some false)))) = some r := by rw [if_pos rfl] at H; exact H
                clear H
                have H := H1
                clear H1
                replace H := Option.bind_eq_some_iff.mp H
                obtain ⟨⟨t569, t570⟩, A350, H⟩ := H
                replace H : ((qanatlaw02_str.f t559 t560 t569 t570).bind fun t571 => (if t571 = true then ((qanatref02_Overlay.f a0 a1 a2 a3 a4).bind fun bt572 => ((qanatlaw02_str.f t561 t562 bt572.1 bt572.2).bind fun t574 => (some t574))) else (some false))) = some r := H
                have A35 := Aside0.mk A350
                clear A350
                replace H := Option.bind_eq_some_iff.mp H
                obtain ⟨t571, A360, H⟩ := H
                replace H : (if t571 = true then ((qanatref02_Overlay.f a0 a1 a2 a3 a4).bind fun bt572 => ((qanatlaw02_str.f t561 t562 bt572.1 bt572.2).bind fun t574 => (some t574))) else (some false)) = some r := H
                have A36 := Aside0.mk A360
                clear A360
                by_cases c37 : t571 = true
                · subst c37
                  have H1 : ((qanatref02_Overlay.f a0 a1 a2 a3 a4).bind fun bt572 => ((qanatlaw02_str.f t561 t562 bt572.1 bt572.2).bind fun t574 => (some t574))) = some r := by rw [if_pos rfl] at H; exact H
                  clear H
                  have H := H1
                  clear H1
                  replace H := Option.bind_eq_some_iff.mp H
                  obtain ⟨⟨t572, t573⟩, A380, H⟩ := H
                  replace H : ((qanatlaw02_str.f t561 t562 t572 t573).bind fun t574 => (some t574)) = some r := H
                  have A38 := Aside0.mk A380
                  clear A380
                  replace H := Option.bind_eq_some_iff.mp H
                  obtain ⟨t574, A390, H⟩ := H
                  replace H : (some t574) = some r := H
                  have A39 := Aside0.mk A390
                  clear A390
                  obtain rfl := Option.some.inj H
                  go_wp2_with (first | (go_at_call 55; (with_reducible refine (qanatref02_Insert.calls a0 a1 a2 a3 a4 t569 t570 _ A35.out).mono ?_); rintro e w40 ⟨rfl, hb⟩; have n0_ := Aside0.mk (below_step (by repeat (first | (with_reducible first | exact HB.out | apply below_alloc | apply pw_below_drewN | apply below_drew1) | exact HB.out)) hb); clear HB; have HB := n0_; clear n0_; (try clear hb); (try clear hb2); (try clear hk); (try clear hi)) | (go_at_call 20; (with_reducible refine (qanatlaw02_str.calls t559 t560 t569 t570 true _ A36.out).mono ?_); rintro e w41 ⟨rfl, hb⟩; have n0_ := Aside0.mk (below_step (by repeat (first | (with_reducible first | exact HB.out | apply below_alloc | apply pw_below_drewN | apply below_drew1) | exact HB.out)) hb); clear HB; have HB := n0_; clear n0_; (try clear hb); (try clear hb2); (try clear hk); (try clear hi)) | (go_at_call 56; (with_reducible refine (qanatref02_Overlay.calls a0 a1 a2 a3 a4 t572 t573 _ A38.out).mono ?_); rintro e w42 ⟨rfl, hb⟩; have n0_ := Aside0.mk (below_step (by repeat (first | (with_reducible first | exact HB.out | apply below_alloc | apply pw_below_drewN | apply below_drew1) | exact HB.out)) hb); clear HB; have HB := n0_; clear n0_; (try clear hb); (try clear hb2); (try clear hk); (try clear hi)) | (go_at_call 20; (with_reducible refine (qanatlaw02_str.calls t561 t562 t572 t573 t574 _ A39.out).mono ?_); rintro e w43 ⟨rfl, hb⟩; have n0_ := Aside0.mk (below_step (by repeat (first | (with_reducible first | exact HB.out | apply below_alloc | apply pw_below_drewN | apply below_drew1) | exact HB.out)) hb); clear HB; have HB := n0_; clear n0_; (try clear hb); (try clear hb2); (try clear hk); (try clear hi)))
                  go_ret
                  exact ⟨by first | rfl | (simp [errW_none, errW_some] <;> rfl) | (simp [*, errW_none, errW_some] <;> rfl), by repeat (first | (with_reducible first | exact HB.out | apply below_alloc | apply pw_below_drewN | apply below_drew1) | exact HB.out)⟩
                · replace c37 := Bool.eq_false_iff.mpr c37
                  subst c37
                  have H1 : (some false) = some r := by rw [if_neg (show ¬ (false = true) by decide)] at H; exact H
                  clear H
                  have H := H1
                  clear H1
                  obtain rfl := Option.some.inj H
                  go_wp2_with (first | (go_at_call 55; (with_reducible refine (qanatref02_Insert.calls a0 a1 a2 a3 a4 t569 t570 _ A35.out).mono ?_); rintro e w44 ⟨rfl, hb⟩; have n0_ := Aside0.mk (below_step (by repeat (first | (with_reducible first | exact HB.out | apply below_alloc | apply pw_below_drewN | apply below_drew1) | exact HB.out)) hb); clear HB; have HB := n0_; clear n0_; (try clear hb); (try clear hb2); (try clear hk); (try clear hi)) | (go_at_call 20; (with_reducible refine (qanatlaw02_str.calls t559 t560 t569 t570 false _ A36.out).mono ?_); rintro e w45 ⟨rfl, hb⟩; have n0_ := Aside0.mk (below_step (by repeat (first | (with_reducible first | exact HB.out | apply below_alloc | apply pw_below_drewN | apply below_drew1) | exact HB.out)) hb); clear HB; have HB := n0_; clear n0_; (try clear hb); (try clear hb2); (try clear hk); (try clear hi)))
                  go_ret
                  exact ⟨by first | rfl | (simp [errW_none, errW_some] <;> rfl) | (simp [*, errW_none, errW_some] <;> rfl), by repeat (first | (with_reducible first | exact HB.out | apply below_alloc | apply pw_below_drewN | apply below_drew1) | exact HB.out)⟩
              · replace c34 := Bool.eq_false_iff.mpr c34
                subst c34
                have H1 : (some false) = some r := by rw [if_neg (show ¬ (false = true) by decide)] at H; exact H
                clear H
                have H := H1
                clear H1
                obtain rfl := Option.some.inj H
                go_wp2
                go_ret
                exact ⟨by first | rfl | (simp [errW_none, errW_some] <;> rfl) | (simp [*, errW_none, errW_some] <;> rfl), by repeat (first | (with_reducible first | exact HB.out | apply below_alloc | apply pw_below_drewN | apply below_drew1) | exact HB.out)⟩
            · replace c33 := Bool.eq_false_iff.mpr c33
              subst c33
              have H1 : (some false) = some r := by rw [if_neg (show ¬ (false = true) by decide)] at H; exact H
              clear H
              have H := H1
              clear H1
              obtain rfl := Option.some.inj H
              go_wp2
              go_ret
              exact ⟨by first | rfl | (simp [errW_none, errW_some] <;> rfl) | (simp [*, errW_none, errW_some] <;> rfl), by repeat (first | (with_reducible first | exact HB.out | apply below_alloc | apply pw_below_drewN | apply below_drew1) | exact HB.out)⟩

/-- THE ONE PURE STATEMENT of qanatlaw02_TextParts: yours. -/
def qanatlaw02_TextParts.Pure : Prop := ∀ (a0 : ByteArray) (a1 : ByteArray) (a2 : Int) (a3 : Int) (a4 : Int), a0.size ≤ 140737488351232 → a1.size ≤ 140737488351232 → (Lit.int .i64 a2).wf = true → (Lit.int .i64 a3).wf = true → (Lit.int .u8 a4).wf = true → ∃ k, qanatlaw02_TextParts.f k a0 a1 a2 a3 a4 = some true
theorem qanatlaw02_TextParts.walk (P : qanatlaw02_TextParts.Pure) (a0 : ByteArray) (a1 : ByteArray) (a2 : Int) (a3 : Int) (a4 : Int) (w : World) (hT : TabOK w) (w0 : a0.size ≤ 140737488351232) (w1 : a1.size ≤ 140737488351232) (w2 : (Lit.int .i64 a2).wf = true) (w3 : (Lit.int .i64 a3).wf = true) (w4 : (Lit.int .u8 a4).wf = true) :
    Calls Tryz.prog 7 #[.string a0, .string a1, .int .i64 a2, .int .i64 a3, .int .u8 a4] w fun e w' => e = .returned (.bool true) ∧ Below w.heap.size w w' := by
  obtain ⟨k, h⟩ := P a0 a1 a2 a3 a4 w0 w1 w2 w3 w4
  refine (qanatlaw02_TextParts.calls k a0 a1 a2 a3 a4 true w hT h).mono ?_
  rintro e w' ⟨rfl, hd⟩
  exact ⟨rfl, hd⟩

end Go.Proofs.YtlekfhnlhdmekaaGreatDoor.T

/- The examples that each law checks first are as they should be. And the reference's out is made. -/
namespace Go.Proofs.YtlekfhnlhdmekaaGreatDoor.T
set_option linter.unusedSimpArgs false
set_option linter.unusedVariables false
open Go.RowKit Go.Proofs.YtlekfhnlhdmekaaGreatDoorW.PrintWords Go.Proofs.YtlekfhnlhdmekaaGreatDoorW.PrintLast Go.Proofs.YtlekfhnlhdmekaaGreatDoorW.PrintMore
theorem head_60 : qanatlaw02_head.f 60 = some true := by kernel_rfl
theorem head_ok : ∀ d, qanatlaw02_head.f (60 + d) = some true
  | 0 => head_60
  | d + 1 => qanatlaw02_head.mono (60 + d) _ (head_ok d)
theorem strOfNums_size (L : List Int) : (strOfNums L).size = L.length := by
  rw [← data_length]
  simp [strOfNums]
theorem bytesOf_str (L : List Int) (h : ∀ x ∈ L, 0 ≤ x ∧ x < 256) : bytesOf (strOfNums L) = L := by
  unfold bytesOf strOfNums
  simp only [List.map_map]
  conv => rhs; rw [← List.map_id L]
  apply List.map_congr_left
  intro x hx
  obtain ⟨h0, h1⟩ := h x hx
  simp only [Function.comp_apply, id_eq, UInt8.toNat_ofNat']
  omega
theorem strOfNums_bytes (s : ByteArray) : strOfNums (bytesOf s) = s := by
  have e : ((bytesOf s).map fun n : Int => UInt8.ofNat n.toNat) = s.data.toList := by
    unfold bytesOf
    rw [List.map_map]
    conv => rhs; rw [← List.map_id s.data.toList]
    apply List.map_congr_left
    intro x hx
    simp
  unfold strOfNums
  rw [e]
theorem made_eq (s : ByteArray) : text_made.f s = some (if s.size > 1000 then (⟨#[]⟩, 3) else if vld s = true then (s, 0) else (⟨#[]⟩, 8)) := by
  unfold text_made.f text_Valid.f
  by_cases h : s.size > 1000
  · rw [if_pos (by omega), if_pos h]
  · rw [if_neg (by omega), if_neg h]
    simp only [Option.bind_some]
    split <;> rfl
theorem made_out (L : List Int) (h : ∀ x ∈ L, 0 ≤ x ∧ x < 256) : text_made.f (strOfNums L) = qanatref02_out.f L := by
  rw [made_eq, qanatref02_out.f, strOfNums_size]
  by_cases hl : L.length > 1000
  · rw [if_pos hl, if_pos hl]
  · rw [if_neg hl, if_neg hl]
    have e : vld (strOfNums L) = L.all goodI := by
      unfold vld
      rw [strOfNums_size, bytesOf_str L h, decide_eq_true (show L.length ≤ 1000 by omega), Bool.true_and]
    rw [e]
theorem u8_rng (z : Int) : 0 ≤ IntKind.u8.wrap z ∧ IntKind.u8.wrap z < 256 := by
  simp only [IntKind.wrap, IntKind.bits, IntKind.signed]
  simp
  omega
end Go.Proofs.YtlekfhnlhdmekaaGreatDoor.T

-- Written by a program of this session (mp.py over the kit's print.py), out of the translation.
namespace Go.Proofs.YtlekfhnlhdmekaaGreatDoor.T
set_option linter.unusedSimpArgs false
open Go.RowKit Go.Proofs.YtlekfhnlhdmekaaGreatDoorW.PrintWords Go.Proofs.YtlekfhnlhdmekaaGreatDoorW.PrintLast Go.Proofs.YtlekfhnlhdmekaaGreatDoorW.PrintMore
attribute [local go_sem] max2_int min2_int max_two min_two max_three min_three max_four min_four   -- for this text's walks alone
set_option linter.unusedVariables false
set_option linter.unusedSimpArgs false

/-! ### qanatlaw02_num: function 34 -/
def qanatlaw02_num.f (a0 : Int) (a1 : Int) (a2_0 : Int) (a2_1 : Int) : Option (Bool) := if a0 = a2_0 then (some (a1 == a2_1)) else (some false)
set_option maxHeartbeats 8000000 in
set_option maxRecDepth 100000 in
theorem qanatlaw02_num.calls (a0 : Int) (a1 : Int) (a2_0 : Int) (a2_1 : Int) (r : Bool) (w : World) (h : qanatlaw02_num.f a0 a1 a2_0 a2_1 = some r) :
    Calls Tryz.prog 34 #[.int .i64 a0, .int .i64 a1, .agg #[.int .i64 a2_0, .int .i64 a2_1]] w fun e w' => e = .returned (.bool r) ∧ Below w.heap.size w w' := by
  have hu49 := Tryz.underlying49
  have HB := Aside0.mk (Below.refl w.heap.size w)
  have H : (if a0 = a2_0 then (some (a1 == a2_1)) else (some false)) = some r := h
  clear h
  by_cases c4 : a0 = a2_0
  · rw [if_pos c4] at H
    have c4b0 : (a0 == a2_0) = true := beq_iff_eq.mpr c4
    have c4b1 : (a0 != a2_0) = false := bne_eq_false_iff_eq.mpr c4
    clear c4
    obtain rfl := Option.some.inj H
    go_enter Tryz.func34, Tryz.ntmps34
    go_wp2_with (first | ((with_reducible refine gate_dst (N := 5) rfl ?_); refine box_event ?hg (N := 5) ?hd (cs := #[.int .i64 a2_0, .int .i64 a2_1]) (t := 49) ?hr ?_; (case hd => rfl); (case hg => rfl); (case hr => first | (go_simp; done) | (go_simp; rfl)); intro gb277 hg w5 hbox hb; have n0_ := Aside0.mk (below_step (by repeat (first | (with_reducible first | exact HB.out | apply below_alloc | apply pw_below_drewN | apply below_drew1) | exact HB.out)) hb); have n1_ := Aside0.mk (hbox); have n2_ := Aside0.mk ((by rw [hg]; exact (below_size (by repeat (first | (with_reducible first | exact HB.out | apply below_alloc | apply pw_below_drewN | apply below_drew1) | exact HB.out))) : w.heap.size ≤ gb277)); have n3_ := Aside0.mk ((by rw [hg]; exact (below_size (by repeat (first | (with_reducible first | exact HB.out | apply below_alloc | apply pw_below_drewN | apply below_drew1) | exact HB.out))) : w.heap.size ≤ gb277)); clear HB; have HB := n0_; have BK277 := n1_; have GW277 := n2_; have GE277 := n3_; clear n0_ n1_ n2_ n3_; clear hb hbox hg; have hcz6_0 : w5.cell? ⟨gb277, 0, none⟩ = some (.int .i64 a2_0) := (blk_cell BK277.out 0).trans rfl; have hcz6_1 : w5.cell? ⟨gb277, 1, none⟩ = some (.int .i64 a2_1) := (blk_cell BK277.out 1).trans rfl; have hfz6_0 := blk_frozen BK277.out 0; have hfz6_1 := blk_frozen BK277.out 1))
    go_ret
    exact ⟨by first | rfl | (simp [errW_none, errW_some] <;> rfl) | (simp [*, errW_none, errW_some] <;> rfl), by repeat (first | (with_reducible first | exact HB.out | apply below_alloc | apply pw_below_drewN | apply below_drew1 | refine below_set ?_ GE277.out) | exact HB.out)⟩
  · rw [if_neg c4] at H
    have c4b0 : (a0 == a2_0) = false := beq_eq_false_iff_ne.mpr c4
    have c4b1 : (a0 != a2_0) = true := bne_iff_ne.mpr c4
    obtain rfl := Option.some.inj H
    go_enter Tryz.func34, Tryz.ntmps34
    go_wp2_with (first | ((with_reducible refine gate_dst (N := 5) rfl ?_); refine box_event ?hg (N := 5) ?hd (cs := #[.int .i64 a2_0, .int .i64 a2_1]) (t := 49) ?hr ?_; (case hd => rfl); (case hg => rfl); (case hr => first | (go_simp; done) | (go_simp; rfl)); intro gb277 hg w7 hbox hb; have n0_ := Aside0.mk (below_step (by repeat (first | (with_reducible first | exact HB.out | apply below_alloc | apply pw_below_drewN | apply below_drew1) | exact HB.out)) hb); have n1_ := Aside0.mk (hbox); have n2_ := Aside0.mk ((by rw [hg]; exact (below_size (by repeat (first | (with_reducible first | exact HB.out | apply below_alloc | apply pw_below_drewN | apply below_drew1) | exact HB.out))) : w.heap.size ≤ gb277)); have n3_ := Aside0.mk ((by rw [hg]; exact (below_size (by repeat (first | (with_reducible first | exact HB.out | apply below_alloc | apply pw_below_drewN | apply below_drew1) | exact HB.out))) : w.heap.size ≤ gb277)); clear HB; have HB := n0_; have BK277 := n1_; have GW277 := n2_; have GE277 := n3_; clear n0_ n1_ n2_ n3_; clear hb hbox hg; have hcz8_0 : w7.cell? ⟨gb277, 0, none⟩ = some (.int .i64 a2_0) := (blk_cell BK277.out 0).trans rfl; have hcz8_1 : w7.cell? ⟨gb277, 1, none⟩ = some (.int .i64 a2_1) := (blk_cell BK277.out 1).trans rfl; have hfz8_0 := blk_frozen BK277.out 0; have hfz8_1 := blk_frozen BK277.out 1))
    go_ret
    exact ⟨by first | rfl | (simp [errW_none, errW_some] <;> rfl) | (simp [*, errW_none, errW_some] <;> rfl), by repeat (first | (with_reducible first | exact HB.out | apply below_alloc | apply pw_below_drewN | apply below_drew1 | refine below_set ?_ GE277.out) | exact HB.out)⟩

end Go.Proofs.YtlekfhnlhdmekaaGreatDoor.T

/- Small laws that the pure laws share. -/
namespace Go.Proofs.YtlekfhnlhdmekaaGreatDoor.T
set_option linter.unusedSimpArgs false
set_option linter.unusedVariables false
open Go.RowKit Go.Proofs.YtlekfhnlhdmekaaGreatDoorW.PrintWords Go.Proofs.YtlekfhnlhdmekaaGreatDoorW.PrintLast Go.Proofs.YtlekfhnlhdmekaaGreatDoorW.PrintMore
namespace B
theorem str_eq (s : ByteArray) (e : Int) : qanatlaw02_str.f s e s e = some true := by
  unfold qanatlaw02_str.f
  rw [if_pos rfl]
  simp
theorem num_eq (n e : Int) : qanatlaw02_num.f n e n e = some true := by
  unfold qanatlaw02_num.f
  rw [if_pos rfl]
  simp
theorem i64 {x : Int} (h : (Lit.int .i64 x).wf = true) : -9223372036854775808 ≤ x ∧ x ≤ 9223372036854775807 := by
  simp [Lit.wf, IntKind.min, IntKind.max, IntKind.bits, IntKind.signed] at h
  omega
theorem size {s : ByteArray} (h : vld s = true) : s.size ≤ 1000 := by
  simp [vld] at h; exact h.1
theorem all {s : ByteArray} (h : vld s = true) : ∀ x ∈ bytesOf s, goodI x = true := by
  simp only [vld, Bool.and_eq_true, List.all_eq_true] at h
  exact h.2
theorem mk {s : ByteArray} (h1 : s.size ≤ 1000) (h2 : ∀ x ∈ bytesOf s, goodI x = true) : vld s = true := by
  simp only [vld, Bool.and_eq_true, List.all_eq_true, decide_eq_true_eq]
  exact ⟨h1, h2⟩
theorem good (x : Int) : goodI x = true ↔ 32 ≤ x ∧ x ≤ 126 := by simp [goodI]
theorem valid1 (s : ByteArray) : text_valid.f [s] = some (if vld s = true then 0 else 1) := by
  unfold text_valid.f
  by_cases h : vld s = true <;> simp [h]
theorem valid2 (s t : ByteArray) : text_valid.f [s, t] = some (if vld s = true ∧ vld t = true then 0 else 1) := by
  unfold text_valid.f
  by_cases h : vld s = true <;> by_cases h' : vld t = true <;> simp [h, h']
theorem valid3 (s t u : ByteArray) : text_valid.f [s, t, u] = some (if vld s = true ∧ vld t = true ∧ vld u = true then 0 else 1) := by
  unfold text_valid.f
  by_cases h : vld s = true <;> by_cases h' : vld t = true <;> by_cases h'' : vld u = true <;> simp [h, h', h'']
theorem pads1 (p : Int) : text_pads.f [p] = some (if goodI p = true then 0 else 1) := by
  unfold text_pads.f
  by_cases h : goodI p = true <;> simp [h]
theorem least1 (n x : Int) : text_least.f n [x] = some (if n ≤ x then 0 else 1) := by
  unfold text_least.f
  by_cases h : n ≤ x <;> simp [h]
theorem first2 (b c : Prop) [Decidable b] [Decidable c] : text_first.f [if b then 0 else 1, if c then 0 else 1] = some (if b ∧ c then 0 else 1) := by
  by_cases h1 : b <;> by_cases h2 : c <;> simp [h1, h2] <;> rfl
theorem first3 (b c d : Prop) [Decidable b] [Decidable c] [Decidable d] : text_first.f [if b then 0 else 1, if c then 0 else 1, if d then 0 else 1] = some (if b ∧ c ∧ d then 0 else 1) := by
  by_cases h1 : b <;> by_cases h2 : c <;> by_cases h3 : d <;> simp [h1, h2, h3] <;> rfl
theorem first4 (b c d e : Prop) [Decidable b] [Decidable c] [Decidable d] [Decidable e] : text_first.f [if b then 0 else 1, if c then 0 else 1, if d then 0 else 1, if e then 0 else 1] = some (if b ∧ c ∧ d ∧ e then 0 else 1) := by
  by_cases h1 : b <;> by_cases h2 : c <;> by_cases h3 : d <;> by_cases h4 : e <;> simp [h1, h2, h3, h4] <;> rfl
theorem whole (n lo : Int) : qanatref02_whole.f n lo false = some (decide (lo ≤ n)) := by
  unfold qanatref02_whole.f
  by_cases h : lo ≤ n
  · rw [if_pos (by omega)]; simp [h]
  · rw [if_neg (by omega)]; simp [h]
theorem wholeM (n : Int) : qanatref02_whole.f n 0 true = some (decide (-1 ≤ n)) := by
  unfold qanatref02_whole.f
  by_cases h : 0 ≤ n
  · rw [if_pos (by omega)]; simp; omega
  · rw [if_neg (by omega), if_pos rfl]
    by_cases e : n = -1
    · subst e; rfl
    · rw [show (n == -1) = false from beq_eq_false_iff_ne.mpr e, show decide (-1 ≤ n) = false from decide_eq_false (by omega)]
theorem toL (s : ByteArray) : s.toList = s.data.toList := Lib.toList_data s
theorem ext {a b : ByteArray} (h : a.data.toList = b.data.toList) : a = b := by
  apply ByteArray.ext
  exact Array.toList_inj.1 h
theorem sz (s : ByteArray) : s.size = s.data.toList.length := (data_length s).symm
theorem extract (s : ByteArray) (i j : Nat) : (s.extract i j).data.toList = (s.data.toList.drop i).take (j - i) := by
  rw [ByteArray.data_extract, Array.toList_extract, List.extract_eq_take_drop]
theorem append (a b : ByteArray) : (a ++ b).data.toList = a.data.toList ++ b.data.toList := by
  rw [ByteArray.data_append, Array.toList_append]
theorem vldA {a b : ByteArray} (ha : ∀ x ∈ bytesOf a, goodI x = true) (hb : ∀ x ∈ bytesOf b, goodI x = true) (h : (a ++ b).size ≤ 1000) : vld (a ++ b) = true := by
  refine mk h (fun x hx => ?_)
  unfold bytesOf at hx
  rw [append, List.map_append] at hx
  exact (List.mem_append.1 hx).elim (ha x) (hb x)
theorem vldE {a : ByteArray} (i j : Nat) (h : vld a = true) : vld (a.extract i j) = true := by
  refine mk ?_ (fun x hx => ?_)
  · have := size h; rw [ByteArray.size_extract]; omega
  · refine all h x ?_
    unfold bytesOf at hx ⊢
    rw [extract] at hx
    obtain ⟨b, hb, rfl⟩ := List.mem_map.1 hx
    exact List.mem_map.2 ⟨b, List.mem_of_mem_drop (List.mem_of_mem_take hb), rfl⟩
theorem made (s : ByteArray) (h : vld s = true) : text_made.f s = some (s, 0) := by
  rw [made_eq, if_neg (by have := size h; omega), if_pos h]
end B
end Go.Proofs.YtlekfhnlhdmekaaGreatDoor.T

/- What text.fit makes of a valid string: its beginning, or the string and pads. -/
namespace Go.Proofs.YtlekfhnlhdmekaaGreatDoor.T
set_option linter.unusedSimpArgs false
set_option linter.unusedVariables false
open Go.RowKit Go.Proofs.YtlekfhnlhdmekaaGreatDoorW.PrintWords Go.Proofs.YtlekfhnlhdmekaaGreatDoorW.PrintLast Go.Proofs.YtlekfhnlhdmekaaGreatDoorW.PrintMore
theorem repeat_one (b : UInt8) : ∀ n, Lib.repeatL [b] n = List.replicate n b
  | 0 => rfl
  | n + 1 => by rw [Lib.repeatL, repeat_one b n]; rfl
theorem many_one (p : Int) (m : Nat) (hm : m ≤ 1000) : text_many.f (strOfNums [p]) (m : Int) = some ⟨(List.replicate m (UInt8.ofNat p.toNat)).toArray⟩ := by
  have hs : (strOfNums [p]).size = 1 := by rw [strOfNums_size]; rfl
  unfold text_many.f
  rw [if_neg (by omega), hs]
  rw [if_neg (by simp; omega)]
  unfold strings_Repeat.f
  have c : 0 ≤ (m : Int) ∧ (strOfNums [p]).size * (m : Int).toNat ≤ 100000 ∧ (m : Int) ≤ 100000 := by rw [hs]; simp; omega
  rw [if_pos c]
  simp only [Int.toNat_natCast]
  rw [show (strOfNums [p]).data.toList = [UInt8.ofNat p.toNat] by simp [strOfNums], repeat_one]
theorem fit_short (s : ByteArray) (n p : Int) (h0 : 0 ≤ n) (h1 : n ≤ s.size) : text_fit.f s n p = some (s.extract 0 n.toNat) := by
  unfold text_fit.f
  rw [if_pos h1, if_pos h0]
theorem fit_long (s : ByteArray) (m : Nat) (p : Int) (hs : s.size ≤ 1000) (h1 : s.size < m) (h2 : m - s.size ≤ 1000) :
    text_fit.f s (m : Int) p = some (s ++ ⟨(List.replicate (m - s.size) (UInt8.ofNat p.toNat)).toArray⟩) := by
  unfold text_fit.f
  rw [if_neg (by omega)]
  have e : wrap64 ((m : Int) - (s.size : Int)) = ((m - s.size : Nat) : Int) := by unfold wrap64; omega
  rw [e, many_one p (m - s.size) h2]
  simp only [Option.bind_some]
  have hz : (⟨(List.replicate (m - s.size) (UInt8.ofNat p.toNat)).toArray⟩ : ByteArray).size = m - s.size := by
    rw [← data_length]; simp
  rw [if_pos (by rw [hz]; omega)]
end Go.Proofs.YtlekfhnlhdmekaaGreatDoor.T

/- The law TextParts: what the program and the reference compute is the same. -/
namespace Go.Proofs.YtlekfhnlhdmekaaGreatDoor.T
set_option linter.unusedSimpArgs false
set_option linter.unusedVariables false
open Go.RowKit Go.Proofs.YtlekfhnlhdmekaaGreatDoorW.PrintWords Go.Proofs.YtlekfhnlhdmekaaGreatDoorW.PrintLast Go.Proofs.YtlekfhnlhdmekaaGreatDoorW.PrintMore
namespace Pt
theorem app (a b : ByteArray) : bytesOf (a ++ b) = bytesOf a ++ bytesOf b := by
  unfold bytesOf; rw [B.append, List.map_append]
theorem inj {a b : ByteArray} (h : bytesOf a = bytesOf b) : a = b := by
  rw [← strOfNums_bytes a, ← strOfNums_bytes b, h]
theorem made_out' (x : ByteArray) : text_made.f x = qanatref02_out.f (bytesOf x) := by
  have h := made_out (bytesOf x) (bo_range x)
  rwa [strOfNums_bytes] at h
theorem made_big (x : ByteArray) (h : 1000 < x.size) : text_made.f x = some (⟨#[]⟩, 3) := by rw [made_eq, if_pos h]
theorem out_some (L : List Int) : ∃ v e, qanatref02_out.f L = some (v, e) := by unfold qanatref02_out.f; exact ⟨_, _, rfl⟩
theorem many_min (p : Int) (m : Nat) : text_many.f (strOfNums [p]) (m : Int) = some ⟨(List.replicate (min 1001 m) (UInt8.ofNat p.toNat)).toArray⟩ := by
  have hs : (strOfNums [p]).size = 1 := by rw [strOfNums_size]; rfl
  have e : (if ((1000 / 1 : Nat) : Int) + 1 < (m : Int) then ((1000 / 1 : Nat) : Int) + 1 else (m : Int)) = ((min 1001 m : Nat) : Int) := by
    rw [show (1000 / 1 : Nat) = 1000 from rfl]; split <;> omega
  unfold text_many.f
  rw [if_neg (by omega), hs, e]
  unfold strings_Repeat.f
  have c : 0 ≤ ((min 1001 m : Nat) : Int) ∧ (strOfNums [p]).size * ((min 1001 m : Nat) : Int).toNat ≤ 100000 ∧ ((min 1001 m : Nat) : Int) ≤ 100000 := by rw [hs]; simp only [Int.toNat_natCast]; omega
  rw [if_pos c]
  simp only [Int.toNat_natCast]
  rw [show (strOfNums [p]).data.toList = [UInt8.ofNat p.toNat] by simp [strOfNums], repeat_one]
theorem bytes_rep (k : Nat) (p : Int) (hp : 0 ≤ p ∧ p < 256) : bytesOf ⟨(List.replicate k (UInt8.ofNat p.toNat)).toArray⟩ = List.replicate k p := by
  unfold bytesOf
  simp only [List.map_replicate, UInt8.toNat_ofNat']
  congr 1
  omega
theorem fitT (s : ByteArray) (n p : Int) (hs : s.size ≤ 1000) (h0 : 0 ≤ n) (h1 : n ≤ 9223372036854775807) (hp : 0 ≤ p ∧ p < 256) :
    ∃ x, text_fit.f s n p = some x ∧ (n ≤ 1000 → bytesOf x = fitL s n p) ∧ (1000 < n → 1000 < x.size) ∧ x.size ≤ 3000 := by
  obtain ⟨m, rfl⟩ := Int.eq_ofNat_of_zero_le h0
  by_cases h : (m : Int) ≤ s.size
  · refine ⟨_, fit_short s m p (by omega) h, fun _ => ?_, fun _ => by omega, ?_⟩
    · unfold fitL
      rw [if_pos h, bytesOf_extract]
      simp
    · rw [ByteArray.size_extract]; omega
  · have e : wrap64 ((m : Int) - (s.size : Int)) = ((m - s.size : Nat) : Int) := by unfold wrap64; omega
    have hz : (⟨(List.replicate (min 1001 (m - s.size)) (UInt8.ofNat p.toNat)).toArray⟩ : ByteArray).size = min 1001 (m - s.size) := by rw [← data_length]; simp
    refine ⟨s ++ ⟨(List.replicate (min 1001 (m - s.size)) (UInt8.ofNat p.toNat)).toArray⟩, ?_, fun h2 => ?_, fun h2 => ?_, ?_⟩
    · unfold text_fit.f
      rw [if_neg h, e, many_min]
      simp only [Option.bind_some]
      rw [if_pos (by rw [hz]; omega)]
    · unfold fitL
      rw [if_neg h, app, bytes_rep _ _ hp, if_pos (by omega), show min 1001 (m - s.size) = ((m : Int) - (s.size : Int)).toNat by omega]
    · rw [ByteArray.size_append, hz]; omega
    · rw [ByteArray.size_append, hz]; omega
theorem partT (s : ByteArray) (n p : Int) (hs : s.size ≤ 1000) (h0 : -1 ≤ n) (h1 : n ≤ 9223372036854775807) (hp : 0 ≤ p ∧ p < 256) :
    ∃ x, text_part.f s n p = some x ∧ ((if n = -1 then (s.size : Int) else n) ≤ 1000 → bytesOf x = fitL s (if n = -1 then (s.size : Int) else n) p) ∧ (1000 < (if n = -1 then (s.size : Int) else n) → 1000 < x.size) ∧ x.size ≤ 3000 := by
  unfold text_part.f
  by_cases h : n = -1
  · rw [if_pos h, if_pos h]
    refine ⟨s, rfl, fun _ => ?_, fun _ => by omega, by omega⟩
    unfold fitL
    rw [if_pos (Int.le_refl _), Int.toNat_natCast, List.take_of_length_le (by rw [bytesOf_length]; exact Nat.le_refl _)]
  · rw [if_neg h, if_neg h]
    obtain ⟨x, hx, h2⟩ := fitT s n p hs (by omega) h1 hp
    rw [hx]
    exact ⟨x, rfl, h2⟩
theorem fromT (s : ByteArray) (n : Nat) : ∃ z, text_from.f s (n : Int) = some z ∧ bytesOf z = (bytesOf s).drop n ∧ z.size = s.size - n := by
  have e : mn (n : Int) (s.size : Int) = ((min n s.size : Nat) : Int) := by unfold mn; omega
  refine ⟨s.extract (min n s.size) s.size, ?_, ?_, ?_⟩
  · unfold text_from.f
    rw [e, if_pos (by omega), if_pos (by omega), Int.toNat_natCast]
  · rw [bytesOf_extract, List.take_of_length_le (by rw [List.length_drop, bytesOf_length]; omega)]
    by_cases h : n ≤ s.size
    · rw [show min n s.size = n by omega]
    · rw [show min n s.size = s.size by omega, List.drop_eq_nil_of_le (by rw [bytesOf_length]; omega), List.drop_eq_nil_of_le (by rw [bytesOf_length]; omega)]
  · rw [ByteArray.size_extract]; omega
theorem drop_if (s : ByteArray) (n : Int) (h : 0 ≤ n) : (if n < s.size then (bytesOf s).drop n.toNat else []) = (bytesOf s).drop n.toNat := by
  split
  · rfl
  · rw [List.drop_eq_nil_of_le (by rw [bytesOf_length]; omega)]
theorem bool4 {a b c d : Prop} [Decidable b] [Decidable c] {x y : Bool} (ha : a ↔ x = true) (hd : d ↔ y = true) : ((x && decide b && decide c && y) = true) ↔ (a ∧ d ∧ b ∧ c) := by
  simp [ha, hd]; constructor <;> (intro h; simp [h])
theorem substr_agree (s : ByteArray) (n len p : Int) (hs : s.size ≤ 1200) (hn : n ≤ 9223372036854775807) (hl : len ≤ 9223372036854775807) (hp : 0 ≤ p ∧ p < 256) :
    ∃ v e, text_Substr.f s n len p = some (v, e) ∧ qanatref02_Substr.f s n len p = some (v, e) := by
  have c1 : s.size ≤ 2000 ∧ n ≤ 9223372036854775807 ∧ len ≤ 9223372036854775807 := ⟨by omega, hn, hl⟩
  unfold text_Substr.f qanatref02_Substr.f
  simp only [B.valid1, B.pads1, B.least1, Option.bind_some, B.first4]
  rw [if_pos c1]
  by_cases h : vld s = true ∧ goodI p = true ∧ 1 ≤ n ∧ -1 ≤ len
  · have h' : (vld s && decide (1 ≤ n) && decide (-1 ≤ len) && goodI p) = true := by simp [h.1, h.2.1, h.2.2.1, h.2.2.2]
    rw [if_pos h, if_pos rfl, if_pos h']
    obtain ⟨hv, hg, h1, h2⟩ := h
    have hz := B.size hv
    obtain ⟨m, hm⟩ : ∃ m : Nat, n - 1 = (m : Int) := ⟨(n - 1).toNat, by omega⟩
    rw [wrap64_id _ (by omega) (by omega), hm, Int.toNat_natCast]
    obtain ⟨z, hz1, hz2, hz3⟩ := fromT s m
    have er : (if n ≤ (s.size : Int) then s.extract m s.size else (⟨#[]⟩ : ByteArray)) = z := by
      apply inj
      rw [hz2]
      split
      · rw [bytesOf_extract, List.take_of_length_le (by rw [List.length_drop, bytesOf_length]; exact Nat.le_refl _)]
      · rw [List.drop_eq_nil_of_le (by rw [bytesOf_length]; omega)]
        rfl
    have hvz : vld z = true := B.mk (by omega) (fun x hx => B.all hv x (by rw [hz2] at hx; exact List.mem_of_mem_drop hx))
    rw [hz1, er]
    simp only [Option.bind_some]
    by_cases hl1 : len = -1
    · rw [if_pos hl1]
      unfold text_part.f
      rw [if_pos hl1]
      simp only [Option.bind_some, B.made z hvz]
      exact ⟨_, _, rfl, rfl⟩
    · rw [if_neg hl1]
      unfold text_part.f
      rw [if_neg hl1]
      obtain ⟨x, hx, hx1, hx2, hx3⟩ := fitT z len p (by omega) (by omega) hl hp
      rw [hx]
      simp only [Option.bind_some]
      by_cases hb : len ≤ 1000
      · rw [made_out', hx1 hb]
        obtain ⟨v, e, ho⟩ := out_some (fitL z len p)
        rw [ho]
        exact ⟨_, _, rfl, rfl⟩
      · rw [made_big x (hx2 (by omega))]
        refine ⟨_, _, rfl, ?_⟩
        unfold qanatref02_out.f
        rw [if_pos]
        unfold fitL
        rw [if_neg (by omega), List.length_append, List.length_replicate, bytesOf_length]
        split <;> omega
  · have h' : ¬ (vld s && decide (1 ≤ n) && decide (-1 ≤ len) && goodI p) = true := fun h2 => h (by simp at h2; exact ⟨h2.1.1.1, h2.2, h2.1.1.2, h2.1.2⟩)
    rw [if_neg h, if_neg (by decide), if_neg h']
    exact ⟨_, _, rfl, rfl⟩
theorem fitL_len (s : ByteArray) (n p : Int) (h0 : 0 ≤ n) (hn : n ≤ 1000) : ((fitL s n p).length : Int) = n := by
  unfold fitL
  split
  · rw [List.length_take, bytesOf_length]; omega
  · rw [List.length_append, List.length_replicate, bytesOf_length]; split <;> omega
theorem ins_agree (a s : ByteArray) (n len p : Int) (ha : a.size ≤ 1200) (hs : s.size ≤ 1200) (hn : n ≤ 9223372036854775807) (hl : len ≤ 9223372036854775807) (hp : 0 ≤ p ∧ p < 256) :
    ∃ v e, text_Insert.f a s n len p = some (v, e) ∧ qanatref02_Insert.f a s n len p = some (v, e) := by
  have c1 : a.size ≤ 2000 ∧ s.size ≤ 2000 ∧ n ≤ 9223372036854775807 ∧ len ≤ 9223372036854775807 := ⟨by omega, by omega, hn, hl⟩
  unfold text_Insert.f qanatref02_Insert.f
  simp only [B.valid2, B.pads1, B.least1, Option.bind_some, B.first4]
  rw [if_pos c1]
  by_cases h : (vld a = true ∧ vld s = true) ∧ goodI p = true ∧ 0 ≤ n ∧ -1 ≤ len
  · have h' : (vld a && vld s && decide (0 ≤ n) && decide (-1 ≤ len) && goodI p) = true := by simp [h.1.1, h.1.2, h.2.1, h.2.2.1, h.2.2.2]
    rw [if_pos h, if_pos rfl, if_pos h']
    obtain ⟨⟨hv, hv2⟩, hg, h1, h2⟩ := h
    have hz := B.size hv
    have hz2 := B.size hv2
    obtain ⟨m, rfl⟩ := Int.eq_ofNat_of_zero_le h1
    obtain ⟨x, hx, hx1, hx2, hx3⟩ := fitT s m p (by omega) (by omega) hn hp
    obtain ⟨y, hy, hy1, hy2, hy3⟩ := partT a len p (by omega) h2 hl hp
    obtain ⟨z, hz1, hzb, hzs⟩ := fromT s m
    rw [hx, hy, hz1]
    simp only [Option.bind_some]
    rw [if_pos (by omega), if_pos (by rw [ByteArray.size_append]; omega)]
    generalize (if len = -1 then (a.size : Int) else len) = L at hy1 hy2
    by_cases hb : (m : Int) > 1000 ∨ L > 1000
    · rw [if_pos hb, made_big _ (by
        rw [ByteArray.size_append, ByteArray.size_append]
        rcases hb with hb | hb
        · have := hx2 hb; omega
        · have := hy2 hb; omega)]
      exact ⟨_, _, rfl, rfl⟩
    · rw [if_neg hb, made_out', app, app, hx1 (by omega), hy1 (by omega), hzb]
      unfold insertL
      rw [drop_if s m (by omega), Int.toNat_natCast]
      obtain ⟨v, e, ho⟩ := out_some (fitL s (m : Int) p ++ fitL a L p ++ (bytesOf s).drop m)
      rw [ho]
      exact ⟨_, _, rfl, rfl⟩
  · have h' : ¬ (vld a && vld s && decide (0 ≤ n) && decide (-1 ≤ len) && goodI p) = true := fun h2 => h (by simp at h2; exact ⟨⟨h2.1.1.1.1, h2.1.1.1.2⟩, h2.2, h2.1.1.2, h2.1.2⟩)
    rw [if_neg h, if_neg (by decide), if_neg h']
    exact ⟨_, _, rfl, rfl⟩
theorem ovl_agree (a s : ByteArray) (n len p : Int) (ha : a.size ≤ 1200) (hs : s.size ≤ 1200) (hn : n ≤ 9223372036854775807) (hl : len ≤ 9223372036854775807) (hp : 0 ≤ p ∧ p < 256) :
    ∃ v e, text_Overlay.f a s n len p = some (v, e) ∧ qanatref02_Overlay.f a s n len p = some (v, e) := by
  have c1 : a.size ≤ 2000 ∧ s.size ≤ 2000 ∧ n ≤ 9223372036854775807 ∧ len ≤ 9223372036854775807 := ⟨by omega, by omega, hn, hl⟩
  unfold text_Overlay.f qanatref02_Overlay.f
  simp only [B.valid2, B.pads1, B.least1, Option.bind_some, B.first4]
  rw [if_pos c1]
  by_cases h : (vld a = true ∧ vld s = true) ∧ goodI p = true ∧ 1 ≤ n ∧ -1 ≤ len
  · have h' : (vld a && vld s && decide (1 ≤ n) && decide (-1 ≤ len) && goodI p) = true := by simp [h.1.1, h.1.2, h.2.1, h.2.2.1, h.2.2.2]
    rw [if_pos h, if_pos rfl, if_pos h']
    obtain ⟨⟨hv, hv2⟩, hg, h1, h2⟩ := h
    have hz := B.size hv
    have hz2 := B.size hv2
    obtain ⟨m, hm⟩ : ∃ m : Nat, n - 1 = (m : Int) := ⟨(n - 1).toNat, by omega⟩
    rw [wrap64_id _ (by omega) (by omega)]
    unfold overlayL
    rw [hm]
    obtain ⟨x, hx, hx1, hx2, hx3⟩ := fitT s m p (by omega) (by omega) (by omega) hp
    obtain ⟨y, hy, hy1, hy2, hy3⟩ := partT a len p (by omega) h2 hl hp
    obtain ⟨z, hz1, hzb, hzs⟩ := fromT s m
    obtain ⟨u, hu1, hub, hus⟩ := fromT z y.size
    rw [hx, hy, hz1]
    simp only [Option.bind_some]
    rw [hu1]
    simp only [Option.bind_some]
    rw [if_pos (by omega), if_pos (by rw [ByteArray.size_append]; omega)]
    have hL0 : 0 ≤ (if len = -1 then (a.size : Int) else len) := by split <;> omega
    generalize (if len = -1 then (a.size : Int) else len) = L at hy1 hy2 hL0
    by_cases hb : (m : Int) > 1000 ∨ L > 1000
    · rw [if_pos hb, made_big _ (by
        rw [ByteArray.size_append, ByteArray.size_append]
        rcases hb with hb | hb
        · have := hx2 hb; omega
        · have := hy2 hb; omega)]
      exact ⟨_, _, rfl, rfl⟩
    · have ey := hy1 (by omega)
      have ly : (y.size : Int) = L := by rw [← bytesOf_length, ey, fitL_len a L p hL0 (by omega)]
      have lx := fitL_len s (m : Int) p (by omega) (by omega)
      have ly2 := fitL_len a L p hL0 (by omega)
      have el : (fitL s (m : Int) p ++ fitL a L p).length = m + y.size := by rw [List.length_append]; omega
      have et : (if m + y.size < s.size then (bytesOf s).drop (m + y.size) else []) = (bytesOf s).drop (m + y.size) := by
        split
        · rfl
        · rw [List.drop_eq_nil_of_le (by rw [bytesOf_length]; omega)]
      rw [if_neg hb, made_out', app, app, hx1 (by omega), ey, hub, hzb, List.drop_drop, el, et]
      obtain ⟨v, e, ho⟩ := out_some (fitL s (m : Int) p ++ fitL a L p ++ (bytesOf s).drop (m + y.size))
      rw [ho]
      exact ⟨_, _, rfl, rfl⟩
  · have h' : ¬ (vld a && vld s && decide (1 ≤ n) && decide (-1 ≤ len) && goodI p) = true := fun h2 => h (by simp at h2; exact ⟨⟨h2.1.1.1.1, h2.1.1.1.2⟩, h2.2, h2.1.1.2, h2.1.2⟩)
    rw [if_neg h, if_neg (by decide), if_neg h']
    exact ⟨_, _, rfl, rfl⟩
theorem del_agree (s : ByteArray) (n len : Int) (hs : s.size ≤ 1200) (hn : n ≤ 9223372036854775807) (hl : len ≤ 9223372036854775807) (k : Nat) :
    ∃ v e, text_DelStr.f s n len = some (v, e) ∧ qanatref02_DelStr.f (k + 1) s n len = some (v, e) := by
  have hj : ∀ q : Bool, q = true → qanatref02_DelStr.j0 (k + 1) s n len q = some (⟨#[]⟩, 1) := fun q hq => by rw [qanatref02_DelStr.j0, if_pos hq]
  unfold text_DelStr.f qanatref02_DelStr.f qanatref02_Valid.f
  simp only [B.valid1, B.least1, Option.bind_some, B.first3, B.whole, B.wholeM]
  by_cases h : vld s = true ∧ 1 ≤ n ∧ -1 ≤ len
  · have hz := B.size h.1
    rw [if_pos h, if_pos rfl, if_pos h.1, if_pos (decide_eq_true h.2.1), decide_eq_true h.2.2, Bool.not_true, qanatref02_DelStr.j0, if_neg (show ¬ (false = true) by decide)]
    obtain ⟨hv, h1, h2⟩ := h
    by_cases hb : n > s.size
    · rw [if_pos hb, if_pos hb]
      exact ⟨_, _, rfl, rfl⟩
    · obtain ⟨m, hm⟩ : ∃ m : Nat, n - 1 = (m : Int) := ⟨(n - 1).toNat, by omega⟩
      rw [if_neg hb, if_neg hb, wrap64_id _ (by omega) (by omega), wrap64_id ((s.size : Int) - n) (by omega) (by omega), hm]
      have p1 : (0 : Int) ≤ (m : Int) := by omega
      have p2 : (m : Int) ≤ (s.size : Int) := by omega
      simp only [if_pos p1, if_pos p2]
      have z1 : (s.extract 0 m).size ≤ 1200 := by rw [ByteArray.size_extract]; omega
      have hz2 : (s.extract m s.size).size = s.size - m := by rw [ByteArray.size_extract]; omega
      simp only [Int.toNat_natCast]
      by_cases hl1 : len = -1
      · obtain ⟨z, hz1, hzb, hzs⟩ := fromT (⟨#[]⟩ : ByteArray) 0
        simp only [if_pos hl1]
        rw [show mx len 0 = ((0 : Nat) : Int) by unfold mx; split <;> omega, hz1]
        have he : s.extract 0 m ++ z = s.extract 0 m := inj (by rw [app, hzb]; simp [bytesOf])
        have h0 : z.size = 0 := by rw [hzs]; rfl
        simp only [Option.bind_some]
        rw [if_pos (by omega), he]
        exact ⟨_, _, rfl, rfl⟩
      · obtain ⟨l, rfl⟩ := Int.eq_ofNat_of_zero_le (show 0 ≤ len by omega)
        obtain ⟨z, hz1, hzb, hzs⟩ := fromT (s.extract m s.size) l
        have hd : bytesOf (s.extract m s.size) = (bytesOf s).drop m := by rw [bytesOf_extract, List.take_of_length_le (by rw [List.length_drop, bytesOf_length]; exact Nat.le_refl _)]
        rw [hd, List.drop_drop] at hzb
        simp only [if_neg hl1]
        rw [show mx (l : Int) 0 = (l : Int) by unfold mx; split <;> omega, hz1]
        simp only [Option.bind_some]
        rw [if_pos (by omega)]
        by_cases hc : (l : Int) > (s.size : Int) - n
        · have he : s.extract 0 m ++ z = s.extract 0 m := inj (by rw [app, hzb, List.drop_eq_nil_of_le (by rw [bytesOf_length]; omega), List.append_nil])
          rw [if_pos hc, he]
          exact ⟨_, _, rfl, rfl⟩
        · have he : z = s.extract (m + l) s.size := inj (by rw [hzb, bytesOf_extract, List.take_of_length_le (by rw [List.length_drop, bytesOf_length]; exact Nat.le_refl _)])
          have hz4 : (s.extract (m + l) s.size).size ≤ 1200 := by rw [ByteArray.size_extract]; omega
          rw [if_neg hc, wrap64_id _ (by omega) (by omega), show ((m : Int) + (l : Int)) = ((m + l : Nat) : Int) by omega, if_pos (by omega), if_pos (by omega)]
          simp only [Int.toNat_natCast]
          rw [if_pos (by omega), he]
          exact ⟨_, _, rfl, rfl⟩
  · rw [if_neg h, if_neg (by decide)]
    refine ⟨_, _, rfl, ?_⟩
    by_cases h1 : vld s = true
    · rw [if_pos h1]
      by_cases h2 : 1 ≤ n
      · rw [if_pos (decide_eq_true h2), hj _ (by simp; exact Int.not_le.1 fun h3 => h ⟨h1, h2, h3⟩)]
      · rw [if_neg (by simpa using h2), hj _ rfl]
    · rw [if_neg h1, hj _ rfl]
end Pt
theorem parts_pure : qanatlaw02_TextParts.Pure := by
  intro a s n len p _ _ w1 w2 w3
  have hn := B.i64 w1
  have hl := B.i64 w2
  have hp := u8_of_wf w3
  refine ⟨60 + 3, ?_⟩
  unfold qanatlaw02_TextParts.f
  rw [head_ok 3]
  simp only [Option.bind_some, qanatlaw02_long.f]
  by_cases h0 : (a.size : Int) > 1200
  · rw [if_pos (decide_eq_true h0)]
    simp [qanatlaw02_TextParts.j0]
  · rw [if_neg (by simp; omega)]
    by_cases h1 : (s.size : Int) > 1200
    · rw [decide_eq_true h1]
      simp [qanatlaw02_TextParts.j0]
    · rw [decide_eq_false h1, show 60 + 3 = 62 + 1 from rfl, qanatlaw02_TextParts.j0, if_neg (by decide)]
      obtain ⟨v1, e1, a1, b1⟩ := Pt.substr_agree s n len p (by omega) hn.2 hl.2 hp
      obtain ⟨v2, e2, a2, b2⟩ := Pt.del_agree s n len (by omega) hn.2 hl.2 61
      obtain ⟨v3, e3, a3, b3⟩ := Pt.ins_agree a s n len p (by omega) (by omega) hn.2 hl.2 hp
      obtain ⟨v4, e4, a4, b4⟩ := Pt.ovl_agree a s n len p (by omega) (by omega) hn.2 hl.2 hp
      rw [show (62 : Nat) = 61 + 1 from rfl]
      simp only [a1, a2, a3, a4, b1, b2, Option.bind_some, B.str_eq, if_true]
      rw [qanatlaw02_TextParts.j1]
      simp only [b3, b4, Option.bind_some, B.str_eq, if_true]
end Go.Proofs.YtlekfhnlhdmekaaGreatDoor.T
