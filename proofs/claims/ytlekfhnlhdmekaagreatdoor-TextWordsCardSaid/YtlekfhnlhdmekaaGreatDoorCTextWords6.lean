/- Part 6 of the proof of TextWords: the functions that it calls return what their plain descriptions say. -/
import Derived.Test.YtlekfhnlhdmekaaGreatDoorCTextWords2
import Derived.Test.YtlekfhnlhdmekaaGreatDoorCTextWords5
import Derived.Test.YtlekfhnlhdmekaaGreatDoorCTextWords4
import Derived.Test.YtlekfhnlhdmekaaGreatDoorCTextWords3

-- Written by a program of this session (mp.py over the kit's print.py), out of the translation.
namespace Go.Proofs.YtlekfhnlhdmekaaGreatDoor.T
set_option linter.unusedSimpArgs false
open Go.RowKit Go.Proofs.YtlekfhnlhdmekaaGreatDoorW.PrintWords Go.Proofs.YtlekfhnlhdmekaaGreatDoorW.PrintLast Go.Proofs.YtlekfhnlhdmekaaGreatDoorW.PrintMore
attribute [local go_sem] max2_int min2_int max_two min_two max_three min_three max_four min_four   -- for this text's walks alone
set_option linter.unusedVariables false
set_option linter.unusedSimpArgs false

/-! ### qanatref02_DelWord: function 48 -/
mutual
def qanatref02_DelWord.j0 : Nat → ByteArray → Int → Int → Bool → Option (ByteArray × Int)
  | 0, _, _, _, _ => none
  | k + 1, x0, x1, x2, x22 => if x22 = true then (some ((⟨#[]⟩ : ByteArray), 1)) else ((qanatref02_some.f k x0 x1 x2).bind fun bt444 => (if bt444.2.2 = true then (qanatref02_DelWord.l0 k x0 bt444.2.1 bt444.1 bt444.2.1) else (some (x0, 0))))
def qanatref02_DelWord.l0 : Nat → ByteArray → Int → Int → Int → Option (ByteArray × Int)
  | 0, _, _, _, _ => none
  | k + 1, x0, x9, x448000, x448001 => if x9 < (x0.size : Int) then (if 0 ≤ x9 then (if (bt x0 x9) = 32 then (qanatref02_DelWord.l0 k x0 (wrap64 (x9 + 1)) x448000 x448001) else (if 0 ≤ x448000 then (if x448000 ≤ (x0.size : Int) then (if x9 ≤ (x0.size : Int) then (if (x0.extract 0 (x448000 : Int).toNat).size + (x0.extract (x9 : Int).toNat x0.size).size ≤ 9223372036854775807 then (some ((x0.extract 0 (x448000 : Int).toNat) ++ (x0.extract (x9 : Int).toNat x0.size), 0)) else (none)) else (none)) else (none)) else (none))) else (none)) else (if 0 ≤ x448000 then (if x448000 ≤ (x0.size : Int) then (if 0 ≤ x9 then (if x9 ≤ (x0.size : Int) then (if (x0.extract 0 (x448000 : Int).toNat).size + (x0.extract (x9 : Int).toNat x0.size).size ≤ 9223372036854775807 then (some ((x0.extract 0 (x448000 : Int).toNat) ++ (x0.extract (x9 : Int).toNat x0.size), 0)) else (none)) else (none)) else (none)) else (none)) else (none))
end
def qanatref02_DelWord.f (k : Nat) (a0 : ByteArray) (a1 : Int) (a2 : Int) : Option (ByteArray × Int) := (qanatref02_Valid.f a0).bind fun t441 => (if t441 = true then ((qanatref02_whole.f a1 1 false).bind fun t442 => (if t442 = true then ((qanatref02_whole.f a2 0 true).bind fun t443 => (qanatref02_DelWord.j0 k a0 a1 a2 (!t443))) else (qanatref02_DelWord.j0 k a0 a1 a2 true))) else (qanatref02_DelWord.j0 k a0 a1 a2 true))
theorem qanatref02_DelWord.mono_l : ∀ k, (∀ y0 y1 y2 y3, LeO (qanatref02_DelWord.j0 k y0 y1 y2 y3) (qanatref02_DelWord.j0 (k + 1) y0 y1 y2 y3)) ∧ (∀ y0 y1 y2 y3, LeO (qanatref02_DelWord.l0 k y0 y1 y2 y3) (qanatref02_DelWord.l0 (k + 1) y0 y1 y2 y3))
  | 0 => ⟨fun _ _ _ _ r h => by simp [qanatref02_DelWord.j0] at h, fun _ _ _ _ r h => by simp [qanatref02_DelWord.l0] at h⟩
  | k + 1 => by
    obtain ⟨ih0, ih1⟩ := qanatref02_DelWord.mono_l k
    refine ⟨?_, ?_⟩
    · intro y0 y1 y2 y3
      unfold qanatref02_DelWord.j0
      repeat' first
      | (with_reducible exact ih0 _ _ _ _)
      | (with_reducible exact ih1 _ _ _ _)
      | (with_reducible exact qanatref02_some.mono _ _ _ _)
      | (with_reducible exact LeO.refl _)
      | (with_reducible exact LeO.none _)
      | (with_reducible refine LeO.ite ?_ ?_)
      | (with_reducible refine LeO.bind ?_ (fun _ => ?_))
      | exact ih0 _ _ _ _
      | exact ih1 _ _ _ _
      | exact qanatref02_some.mono _ _ _ _
      | exact LeO.none _
      | refine LeO.ite ?_ ?_
      | refine LeO.bind ?_ (fun _ => ?_)
    · intro y0 y1 y2 y3
      unfold qanatref02_DelWord.l0
      repeat' first
      | (with_reducible exact ih0 _ _ _ _)
      | (with_reducible exact ih1 _ _ _ _)
      | (with_reducible exact qanatref02_some.mono _ _ _ _)
      | (with_reducible exact LeO.refl _)
      | (with_reducible exact LeO.none _)
      | (with_reducible refine LeO.ite ?_ ?_)
      | (with_reducible refine LeO.bind ?_ (fun _ => ?_))
      | exact ih0 _ _ _ _
      | exact ih1 _ _ _ _
      | exact qanatref02_some.mono _ _ _ _
      | exact LeO.none _
      | refine LeO.ite ?_ ?_
      | refine LeO.bind ?_ (fun _ => ?_)
theorem qanatref02_DelWord.mono : ∀ a0 a1 a2 k, LeO (qanatref02_DelWord.f k a0 a1 a2) (qanatref02_DelWord.f (k + 1) a0 a1 a2) := by
  intro a0 a1 a2 k
  obtain ⟨ih0, ih1⟩ := qanatref02_DelWord.mono_l k
  unfold qanatref02_DelWord.f
  repeat' first
      | (with_reducible exact ih0 _ _ _ _)
      | (with_reducible exact ih1 _ _ _ _)
      | (with_reducible exact qanatref02_some.mono _ _ _ _)
      | (with_reducible exact LeO.refl _)
      | (with_reducible exact LeO.none _)
      | (with_reducible refine LeO.ite ?_ ?_)
      | (with_reducible refine LeO.bind ?_ (fun _ => ?_))
      | exact ih0 _ _ _ _
      | exact ih1 _ _ _ _
      | exact qanatref02_some.mono _ _ _ _
      | exact LeO.none _
      | refine LeO.ite ?_ ?_
      | refine LeO.bind ?_ (fun _ => ?_)
def qanatref02_DelWord.T9 : Bool × List (List Nat × List Nat) := (true, [([], []), ([], []), ([1], [1]), ([0, 2], [0, 2]), ([], []), ([], []), ([4, 5], [4, 5]), ([3, 6], [3, 6]), ([7], [7]), ([8, 0, 1, 2, 3, 4, 5, 6, 7, 8], [8])])
def qanatref02_DelWord.B9 : List Nat := [0, 0, 2, 7, 0, 0, 48, 127, 255, 511]
theorem qanatref02_DelWord.tab9 : rtab .any (opsOf Tryz.f48 9) = qanatref02_DelWord.T9 := by kernel_rfl
theorem qanatref02_DelWord.bits9 : waitsOk qanatref02_DelWord.T9.2 qanatref02_DelWord.B9 = true := by kernel_rfl
set_option maxHeartbeats 8000000 in
set_option maxRecDepth 100000 in
theorem qanatref02_DelWord.calls (k : Nat) (a0 : ByteArray) (a1 : Int) (a2 : Int) (r1 : ByteArray) (r2 : Int) (w : World) (h : qanatref02_DelWord.f k a0 a1 a2 = some (r1, r2)) :
    Calls Tryz.prog 48 #[.string a0, .int .i64 a1, .int .i64 a2] w fun e w' => e = .returned (.agg #[.string r1, .int .i64 r2]) ∧ Below w.heap.size w w' := by
  have hu29 := Tryz.underlying29
  have hu113 := Tryz.underlying113
  have HB := Aside0.mk (Below.refl w.heap.size w)
  have H : ((qanatref02_Valid.f a0).bind fun t441 => (if t441 = true then ((qanatref02_whole.f a1 1 false).bind fun t442 => (if t442 = true then ((qanatref02_whole.f a2 0 true).bind fun t443 => (qanatref02_DelWord.j0 k a0 a1 a2 (!t443))) else (qanatref02_DelWord.j0 k a0 a1 a2 true))) else (qanatref02_DelWord.j0 k a0 a1 a2 true))) = some (r1, r2) := h
  clear h
  have HC4 := Aside0.mk H
  clear H
  go_enter Tryz.func48, Tryz.ntmps48
  go_upto_region 1 with (first | ((with_reducible refine gate_dst (N := 6) rfl ?_); refine box_event ?hg (N := 6) ?hd (cs := #[.string (⟨#[]⟩ : ByteArray), .int .i64 0]) (t := 29) ?hr ?_; (case hd => rfl); (case hg => rfl); (case hr => first | (go_simp; done) | (go_simp; rfl)); intro gb440 hg w5 hbox hb; have n0_ := Aside0.mk (below_step (by repeat (first | (with_reducible first | exact HB.out | apply below_alloc | apply pw_below_drewN | apply below_drew1) | exact HB.out)) hb); have n1_ := Aside0.mk (hbox); have n2_ := Aside0.mk ((by rw [hg]; exact (below_size (by repeat (first | (with_reducible first | exact HB.out | apply below_alloc | apply pw_below_drewN | apply below_drew1) | exact HB.out))) : w.heap.size ≤ gb440)); have n3_ := Aside0.mk ((by rw [hg]; exact (below_size (by repeat (first | (with_reducible first | exact HB.out | apply below_alloc | apply pw_below_drewN | apply below_drew1) | exact HB.out))) : w.heap.size ≤ gb440)); clear HB; have HB := n0_; have BK440 := n1_; have GW440 := n2_; have GE440 := n3_; clear n0_ n1_ n2_ n3_; clear hb hbox hg))
  (try simp only [Act.put, List.setIfInBounds_toArray, List.set_cons_zero, List.set_cons_succ])
  go_cut [22] (fun v22 wc => ∃ (kq : Nat) (x22_3 : Bool), v22 = .bool x22_3 ∧ Aside0 (qanatref02_DelWord.j0 kq a0 a1 a2 x22_3 = some (r1, r2)) ∧ Aside0 (kq ≤ k) ∧ Aside0 (wc.heap[gb440]? = some (.cells #[.string (⟨#[]⟩ : ByteArray), .int .i64 0] 29 (0, 0))) ∧ Aside0 (Below w.heap.size w wc))
  case first =>
    have H := HC4.out
    clear HC4
    replace H := Option.bind_eq_some_iff.mp H
    obtain ⟨t441, A60, H⟩ := H
    replace H : (if t441 = true then ((qanatref02_whole.f a1 1 false).bind fun t442 => (if t442 = true then ((qanatref02_whole.f a2 0 true).bind fun t443 => (qanatref02_DelWord.j0 k a0 a1 a2 (!t443))) else (qanatref02_DelWord.j0 k a0 a1 a2 true))) else (qanatref02_DelWord.j0 k a0 a1 a2 true)) = some (r1, r2) := H
    have A6 := Aside0.mk A60
    clear A60
    by_cases c7 : t441 = true
    · subst c7
      have H1 : ((qanatref02_whole.f a1 1 false).bind fun t442 => (if t442 = true then ((qanatref02_whole.f a2 0 true).bind fun t443 => (qanatref02_DelWord.j0 k a0 a1 a2 (!t443))) else (qanatref02_DelWord.j0 k a0 a1 a2 true))) = some (r1, r2) := by rw [if_pos rfl] at H; exact H
      clear H
      have H := H1
      clear H1
      replace H := Option.bind_eq_some_iff.mp H
      obtain ⟨t442, A80, H⟩ := H
      replace H : (if t442 = true then ((qanatref02_whole.f a2 0 true).bind fun t443 => (qanatref02_DelWord.j0 k a0 a1 a2 (!t443))) else (qanatref02_DelWord.j0 k a0 a1 a2 true)) = some (r1, r2) := H
      have A8 := Aside0.mk A80
      clear A80
      by_cases c9 : t442 = true
      · subst c9
        have H1 : ((qanatref02_whole.f a2 0 true).bind fun t443 => (qanatref02_DelWord.j0 k a0 a1 a2 (!t443))) = some (r1, r2) := by rw [if_pos rfl] at H; exact H
        clear H
        have H := H1
        clear H1
        replace H := Option.bind_eq_some_iff.mp H
        obtain ⟨t443, A100, H⟩ := H
        replace H : (qanatref02_DelWord.j0 k a0 a1 a2 (!t443)) = some (r1, r2) := H
        have A10 := Aside0.mk A100
        clear A100
        have H' := Aside0.mk H
        clear H
        go_wp2_with (first | ((with_reducible refine gate_callee (f := 89) rfl ?_); refine goesL_ (some 11) rfl rfl Tryz.func89 (by kernel_rfl) rfl #[.string a0] rfl (by (try simp only [List.map_toArray, List.map_cons, List.map_nil]); first | done | rfl | (simp only [List.length_drop, List.length_take]; rfl)) ?_; (with_reducible refine (qanatref02_Valid.calls a0 true _ A6.out).mono ?_); rintro e w' ⟨rfl, ⟨nd, rfl⟩⟩; refine ⟨_, rfl, ?_⟩) | (go_at_call 102; (with_reducible refine (qanatref02_whole.calls a1 1 false true _ A8.out).mono ?_); rintro e w' ⟨rfl, ⟨nd, rfl⟩⟩) | (go_at_call 102; (with_reducible refine (qanatref02_whole.calls a2 0 true t443 _ A10.out).mono ?_); rintro e w' ⟨rfl, ⟨nd, rfl⟩⟩))
        go_meet
        case rel => exact ⟨_, (!t443), (by first | rfl | (simp; done) | (simp [*]; done)), H', ⟨by first | omega | exact Nat.le_refl _⟩, ⟨by (with_reducible repeat (first | refine blk_drewN ?_ _ | refine blk_drew ?_ | refine blk_alloc ?_ _)); exact BK440.out⟩, ⟨by repeat (first | (with_reducible first | exact HB.out | apply below_alloc | apply pw_below_drewN | apply below_drew1 | refine below_set ?_ GE440.out) | exact HB.out)⟩⟩
      · replace c9 := Bool.eq_false_iff.mpr c9
        subst c9
        have H1 : (qanatref02_DelWord.j0 k a0 a1 a2 true) = some (r1, r2) := by rw [if_neg (show ¬ (false = true) by decide)] at H; exact H
        clear H
        have H := H1
        clear H1
        have H' := Aside0.mk H
        clear H
        go_wp2_with (first | ((with_reducible refine gate_callee (f := 89) rfl ?_); refine goesL_ (some 11) rfl rfl Tryz.func89 (by kernel_rfl) rfl #[.string a0] rfl (by (try simp only [List.map_toArray, List.map_cons, List.map_nil]); first | done | rfl | (simp only [List.length_drop, List.length_take]; rfl)) ?_; (with_reducible refine (qanatref02_Valid.calls a0 true _ A6.out).mono ?_); rintro e w' ⟨rfl, ⟨nd, rfl⟩⟩; refine ⟨_, rfl, ?_⟩) | (go_at_call 102; (with_reducible refine (qanatref02_whole.calls a1 1 false false _ A8.out).mono ?_); rintro e w' ⟨rfl, ⟨nd, rfl⟩⟩))
        go_meet
        case rel => exact ⟨_, (true), (by first | rfl | (simp; done) | (simp [*]; done)), H', ⟨by first | omega | exact Nat.le_refl _⟩, ⟨by (with_reducible repeat (first | refine blk_drewN ?_ _ | refine blk_drew ?_ | refine blk_alloc ?_ _)); exact BK440.out⟩, ⟨by repeat (first | (with_reducible first | exact HB.out | apply below_alloc | apply pw_below_drewN | apply below_drew1 | refine below_set ?_ GE440.out) | exact HB.out)⟩⟩
    · replace c7 := Bool.eq_false_iff.mpr c7
      subst c7
      have H1 : (qanatref02_DelWord.j0 k a0 a1 a2 true) = some (r1, r2) := by rw [if_neg (show ¬ (false = true) by decide)] at H; exact H
      clear H
      have H := H1
      clear H1
      have H' := Aside0.mk H
      clear H
      go_wp2_with (first | ((with_reducible refine gate_callee (f := 89) rfl ?_); refine goesL_ (some 11) rfl rfl Tryz.func89 (by kernel_rfl) rfl #[.string a0] rfl (by (try simp only [List.map_toArray, List.map_cons, List.map_nil]); first | done | rfl | (simp only [List.length_drop, List.length_take]; rfl)) ?_; (with_reducible refine (qanatref02_Valid.calls a0 false _ A6.out).mono ?_); rintro e w' ⟨rfl, ⟨nd, rfl⟩⟩; refine ⟨_, rfl, ?_⟩))
      go_meet
      case rel => exact ⟨_, (true), (by first | rfl | (simp; done) | (simp [*]; done)), H', ⟨by first | omega | exact Nat.le_refl _⟩, ⟨by (with_reducible repeat (first | refine blk_drewN ?_ _ | refine blk_drew ?_ | refine blk_alloc ?_ _)); exact BK440.out⟩, ⟨by repeat (first | (with_reducible first | exact HB.out | apply below_alloc | apply pw_below_drewN | apply below_drew1 | refine below_set ?_ GE440.out) | exact HB.out)⟩⟩
  case rest =>
    clear HC4
    try clear p2
    try clear c4
    try clear c7
    try clear c8
    try clear c9
    obtain ⟨kq, x22_3, rfl, HA, HJ3, BK440, HB⟩ := hcut
    cases kq with
    | zero => exact absurd HA.out (by simp [qanatref02_DelWord.j0])
    | succ kj3 =>
      have H := HA.out
      clear HA
      simp only [qanatref02_DelWord.j0] at H
      by_cases c11 : x22_3 = true
      · subst c11
        have H1 : (some ((⟨#[]⟩ : ByteArray), 1)) = some (r1, r2) := by rw [if_pos rfl] at H; exact H
        clear H
        have H := H1
        clear H1
        simp only [Option.some.injEq, Prod.mk.injEq] at H
        obtain ⟨rfl, rfl⟩ := H
        have hcz12_0 : wc.cell? ⟨gb440, 0, none⟩ = some (.string (⟨#[]⟩ : ByteArray)) := (blk_cell BK440.out 0).trans rfl
        have hcz12_1 : wc.cell? ⟨gb440, 1, none⟩ = some (.int .i64 0) := (blk_cell BK440.out 1).trans rfl
        have hfz12_0 := blk_frozen BK440.out 0
        have hfz12_1 := blk_frozen BK440.out 1
        go_wp2
        refine bodyPost_ret (results_cell_row rfl _ _ gb440 29 #[.string (⟨#[]⟩ : ByteArray), .int .i64 1] (0, 0) _ rfl (by (with_reducible repeat (first | refine blk_drewN ?_ _ | refine blk_drew ?_ | refine blk_alloc ?_ _)); refine blk_put (cs := #[.string (⟨#[]⟩ : ByteArray), .int .i64 0]) ?_ 1 _ rfl; (with_reducible repeat (first | refine blk_drewN ?_ _ | refine blk_drew ?_ | refine blk_alloc ?_ _)); refine blk_put (cs := #[.string (⟨#[]⟩ : ByteArray), .int .i64 0]) ?_ 0 _ rfl; (with_reducible repeat (first | refine blk_drewN ?_ _ | refine blk_drew ?_ | refine blk_alloc ?_ _)); exact BK440.out) Tryz.underlying29 rfl (by kernel_rfl)) rfl ?_
        exact ⟨by first | rfl | (simp [errW_none, errW_some] <;> rfl) | (simp [*, errW_none, errW_some] <;> rfl), by repeat (first | (with_reducible first | exact HB.out | apply below_alloc | apply pw_below_drewN | apply below_drew1 | refine below_set ?_ GE440.out) | exact HB.out)⟩
      · replace c11 := Bool.eq_false_iff.mpr c11
        subst c11
        have H1 : ((qanatref02_some.f kj3 a0 a1 a2).bind fun bt444 => (if bt444.2.2 = true then (qanatref02_DelWord.l0 kj3 a0 bt444.2.1 bt444.1 bt444.2.1) else (some (a0, 0)))) = some (r1, r2) := by rw [if_neg (show ¬ (false = true) by decide)] at H; exact H
        clear H
        have H := H1
        clear H1
        replace H := Option.bind_eq_some_iff.mp H
        obtain ⟨⟨t444, t445, t446⟩, A130, H⟩ := H
        replace H : (if t446 = true then (qanatref02_DelWord.l0 kj3 a0 t445 t444 t445) else (some (a0, 0))) = some (r1, r2) := H
        have A13 := Aside0.mk A130
        clear A130
        by_cases c14 : t446 = true
        · subst c14
          have H1 : (qanatref02_DelWord.l0 kj3 a0 t445 t444 t445) = some (r1, r2) := by rw [if_pos rfl] at H; exact H
          clear H
          have H := H1
          clear H1
          have H' := Aside0.mk H
          clear H
          go_wp2_with (first | ((with_reducible refine gate_callee (f := 112) rfl ?_); refine goesL_ (some 28) rfl rfl Tryz.func112 (by kernel_rfl) rfl #[.string a0, .int .i64 a1, .int .i64 a2] rfl (by (try simp only [List.map_toArray, List.map_cons, List.map_nil]); first | done | rfl | (simp only [List.length_drop, List.length_take]; rfl)) ?_; (with_reducible refine (qanatref02_some.calls kj3 a0 a1 a2 t444 t445 true _ A13.out).mono ?_); rintro e w15 ⟨rfl, hb⟩; refine ⟨_, rfl, ?_⟩; have n0_ := Aside0.mk (blk_below (g := gb440) (o := .cells #[.string (⟨#[]⟩ : ByteArray), .int .i64 0] 29 (0, 0)) (by (with_reducible repeat (first | refine blk_drewN ?_ _ | refine blk_drew ?_ | refine blk_alloc ?_ _)); exact BK440.out) hb); have n1_ := Aside0.mk (below_step (by repeat (first | (with_reducible first | exact HB.out | apply below_alloc | apply pw_below_drewN | apply below_drew1 | refine below_set ?_ GE440.out) | exact HB.out)) hb); clear BK440; clear HB; have BK440 := n0_; have HB := n1_; clear n0_ n1_; (try clear hb); (try clear hb2); (try clear hk); (try clear hi)) | ((with_reducible refine gate_dst (N := 7) rfl ?_); refine box_event ?hg (N := 7) ?hd (cs := #[.int .i64 0, .int .i64 0]) (t := 113) ?hr ?_; (case hd => rfl); (case hg => rfl); (case hr => first | (go_simp; done) | (go_simp; rfl)); intro gb447 hg w16 hbox hb; have n0_ := Aside0.mk (blk_below (g := gb440) (o := .cells #[.string (⟨#[]⟩ : ByteArray), .int .i64 0] 29 (0, 0)) (by (with_reducible repeat (first | refine blk_drewN ?_ _ | refine blk_drew ?_ | refine blk_alloc ?_ _)); exact BK440.out) hb); have n1_ := Aside0.mk (below_step (by repeat (first | (with_reducible first | exact HB.out | apply below_alloc | apply pw_below_drewN | apply below_drew1 | refine below_set ?_ GE440.out) | exact HB.out)) hb); have n2_ := Aside0.mk (hbox); have n3_ := Aside0.mk ((by rw [hg]; exact (below_size (by repeat (first | (with_reducible first | exact HB.out | apply below_alloc | apply pw_below_drewN | apply below_drew1 | refine below_set ?_ GE440.out) | exact HB.out))) : w.heap.size ≤ gb447)); have n4_ := Aside0.mk ((by rw [hg]; exact (below_size (by repeat (first | (with_reducible first | exact HB.out | apply below_alloc | apply pw_below_drewN | apply below_drew1 | refine below_set ?_ GE440.out) | exact HB.out))) : w.heap.size ≤ gb447)); have n5_ := Aside0.mk ((by rw [hg]; exact Nat.ne_of_lt (blk_lt (g := gb440) (o := .cells #[.string (⟨#[]⟩ : ByteArray), .int .i64 0] 29 (0, 0)) (by (with_reducible repeat (first | refine blk_drewN ?_ _ | refine blk_drew ?_ | refine blk_alloc ?_ _)); exact BK440.out)) : gb440 ≠ gb447)); have n6_ := Aside0.mk ((by rw [hg]; exact Nat.ne_of_gt (blk_lt (g := gb440) (o := .cells #[.string (⟨#[]⟩ : ByteArray), .int .i64 0] 29 (0, 0)) (by (with_reducible repeat (first | refine blk_drewN ?_ _ | refine blk_drew ?_ | refine blk_alloc ?_ _)); exact BK440.out)) : gb447 ≠ gb440)); clear BK440; clear HB; have BK440 := n0_; have HB := n1_; have BK447 := n2_; have GW447 := n3_; have GE447 := n4_; have NB440_447 := n5_; have NB447_440 := n6_; clear n0_ n1_ n2_ n3_ n4_ n5_ n6_; clear hb hbox hg; have hnb17 := NB447_440.out; have hnc17 := NB440_447.out; have hcz18_0 : w16.cell? ⟨gb447, 0, none⟩ = some (.int .i64 0) := (blk_cell BK447.out 0).trans rfl; have hcz18_1 : w16.cell? ⟨gb447, 1, none⟩ = some (.int .i64 0) := (blk_cell BK447.out 1).trans rfl; have hfz18_0 := blk_frozen BK447.out 0; have hfz18_1 := blk_frozen BK447.out 1))
          go_loopg [9] kj3 (fun kq v9 w' => ∃ (x9_2 : Int), v9 = .int .i64 x9_2 ∧ Aside0 (qanatref02_DelWord.l0 kq a0 x9_2 t444 t445 = some (r1, r2)) ∧ Aside0 (kq ≤ kj3) ∧ Aside0 (w'.heap[gb440]? = some (.cells #[.string (⟨#[]⟩ : ByteArray), .int .i64 0] 29 (0, 0))) ∧ Aside0 (w'.heap[gb447]? = some (.cells #[.int .i64 t444, .int .i64 t445] 113 (0, 0))) ∧ Aside0 (Below w.heap.size w w'))
          case atStart => exact ⟨(t445), (by first | rfl | (simp; done) | (simp [*]; done)), H', ⟨Nat.le_refl _⟩, ⟨by (with_reducible repeat (first | refine blk_drewN ?_ _ | refine blk_drew ?_ | refine blk_alloc ?_ _)); refine blk_far ?_ NB440_447.out _; (with_reducible repeat (first | refine blk_drewN ?_ _ | refine blk_drew ?_ | refine blk_alloc ?_ _)); refine blk_far ?_ NB440_447.out _; (with_reducible repeat (first | refine blk_drewN ?_ _ | refine blk_drew ?_ | refine blk_alloc ?_ _)); exact BK440.out⟩, ⟨by (with_reducible repeat (first | refine blk_drewN ?_ _ | refine blk_drew ?_ | refine blk_alloc ?_ _)); refine blk_put (cs := #[.int .i64 t444, .int .i64 0]) ?_ 1 _ rfl; (with_reducible repeat (first | refine blk_drewN ?_ _ | refine blk_drew ?_ | refine blk_alloc ?_ _)); refine blk_put (cs := #[.int .i64 0, .int .i64 0]) ?_ 0 _ rfl; (with_reducible repeat (first | refine blk_drewN ?_ _ | refine blk_drew ?_ | refine blk_alloc ?_ _)); exact BK447.out⟩, ⟨by repeat (first | (with_reducible first | exact HB.out | apply below_alloc | apply pw_below_drewN | apply below_drew1 | refine below_set ?_ GE440.out | refine below_set ?_ GE447.out) | exact HB.out)⟩⟩
          case round =>
            clear H'
            try clear c1
            try clear p2
            try clear c4
            try clear c7
            try clear c8
            try clear c9
            try clear c11
            try clear c14
            try clear c17
            try clear hcz12_0
            try clear hcz12_1
            try clear hcz18_0
            try clear hcz18_1
            try clear hfz12_0
            try clear hfz12_1
            try clear hfz18_0
            try clear hfz18_1
            try clear p2
            obtain ⟨x9_2, rfl, HA, HK2, BK440, BK447, HB⟩ := hrel
            cases gk with
            | zero => exact absurd HA.out (by simp [qanatref02_DelWord.l0])
            | succ k2 =>
              have H := HA.out
              clear HA
              simp only [qanatref02_DelWord.l0] at H
              by_cases c19 : x9_2 < (a0.size : Int)
              · rw [if_pos c19] at H
                have c19b0 : decide (x9_2 < (a0.size : Int)) = true := decide_eq_true c19
                clear c19
                by_cases c20 : 0 ≤ x9_2
                · rw [if_pos c20] at H
                  have c20b0 : decide (0 ≤ x9_2) = true := decide_eq_true c20
                  clear c20
                  by_cases c22 : (bt a0 x9_2) = 32
                  · rw [if_pos c22] at H
                    have c22b0 : ((bt a0 x9_2) == 32) = true := beq_iff_eq.mpr c22
                    have c22b1 : ((bt a0 x9_2) != 32) = false := bne_eq_false_iff_eq.mpr c22
                    clear c22
                    have H' := Aside0.mk H
                    clear H
                    have p21 : 0 ≤ (x9_2 : Int) := of_decide_eq_true (by first | (with_reducible assumption) | assumption)
                    have q21 : x9_2 < (a0.size : Int) := of_decide_eq_true (by first | (with_reducible assumption) | assumption)
                    have hx21 := bt_at a0 x9_2
                    replace p21 := eq_true p21
                    replace q21 := eq_true q21
                    go_wp2
                    go_roundg k2
                    case measure => have := HJ3.out; have := HK2.out; omega
                    case rel => exact ⟨(wrap64 (x9_2 + 1)), (by first | rfl | (simp; done) | (simp [*]; done)), H', ⟨by have := HJ3.out; have := HK2.out; omega⟩, ⟨by (with_reducible repeat (first | refine blk_drewN ?_ _ | refine blk_drew ?_ | refine blk_alloc ?_ _)); exact BK440.out⟩, ⟨by (with_reducible repeat (first | refine blk_drewN ?_ _ | refine blk_drew ?_ | refine blk_alloc ?_ _)); exact BK447.out⟩, ⟨by repeat (first | (with_reducible first | exact HB.out | apply below_alloc | apply pw_below_drewN | apply below_drew1 | refine below_set ?_ GE440.out | refine below_set ?_ GE447.out) | exact HB.out)⟩⟩
                  · rw [if_neg c22] at H
                    have c22b0 : ((bt a0 x9_2) == 32) = false := beq_eq_false_iff_ne.mpr c22
                    have c22b1 : ((bt a0 x9_2) != 32) = true := bne_iff_ne.mpr c22
                    by_cases c23 : 0 ≤ t444
                    · rw [if_pos c23] at H
                      have c23b0 := eq_true c23
                      have c23b1 : decide (0 ≤ t444) = true := decide_eq_true c23
                      clear c23
                      by_cases c24 : t444 ≤ (a0.size : Int)
                      · rw [if_pos c24] at H
                        have c24b0 := eq_true c24
                        have c24b1 : decide (t444 ≤ (a0.size : Int)) = true := decide_eq_true c24
                        clear c24
                        have c25b0 := eq_true (of_decide_eq_true (by first | (with_reducible assumption) | assumption) : 0 ≤ x9_2)
                        by_cases c26 : x9_2 ≤ (a0.size : Int)
                        · rw [if_pos c26] at H
                          have c26b0 := eq_true c26
                          have c26b1 : decide (x9_2 ≤ (a0.size : Int)) = true := decide_eq_true c26
                          clear c26
                          by_cases c27 : (a0.extract 0 (t444 : Int).toNat).size + (a0.extract (x9_2 : Int).toNat a0.size).size ≤ 9223372036854775807
                          · rw [if_pos c27] at H
                            have c27b0 := eq_true c27
                            have c27b1 : decide ((a0.extract 0 (t444 : Int).toNat).size + (a0.extract (x9_2 : Int).toNat a0.size).size ≤ 9223372036854775807) = true := decide_eq_true c27
                            try have c27b2 : (9223372036854775807 < (a0.extract 0 (t444 : Int).toNat).size + (a0.extract (x9_2 : Int).toNat a0.size).size) = False := eq_false (Nat.not_lt.2 c27)
                            try have c27b3 : (9223372036854775807 < t444.toNat + (a0.size - x9_2.toNat)) = False := eq_false (by have q_ := c27; have p_ : t444 ≤ (a0.size : Int) := of_decide_eq_true (by assumption); simp only [ByteArray.size_extract] at q_; omega)
                            simp only [Option.some.injEq, Prod.mk.injEq] at H
                            obtain ⟨rfl, rfl⟩ := H
                            have p21 : 0 ≤ (x9_2 : Int) := of_decide_eq_true (by first | (with_reducible assumption) | assumption)
                            have q21 : x9_2 < (a0.size : Int) := of_decide_eq_true (by first | (with_reducible assumption) | assumption)
                            have hx21 := bt_at a0 x9_2
                            replace p21 := eq_true p21
                            replace q21 := eq_true q21
                            try go_wp2
                            have n0_ := Aside0.mk (blk_drew BK440.out)
                            have n1_ := Aside0.mk (blk_drew BK447.out)
                            have n2_ := Aside0.mk (below_drew1 HB.out)
                            clear BK440
                            clear BK447
                            clear HB
                            have BK440 := n0_
                            have BK447 := n1_
                            have HB := n2_
                            clear n0_ n1_ n2_
                            refine start_ (n := 10) (S := fun w' => w'.cell? ⟨gb447, 0, none⟩ = some (.int .i64 t444) ∧ w'.cell? ⟨gb447, 1, none⟩ = some (.int .i64 t445)) (ds := []) #[false, false, false, false, false, false, false, false, false, false] (by kernel_rfl) rfl rfl ⟨(blk_cell BK447.out 0).trans rfl, (blk_cell BK447.out 1).trans rfl⟩ (fun hHeld => ?_); refine with_tabW qanatref02_DelWord.tab9 qanatref02_DelWord.bits9 (fun HT_ HW_ => ?_)
                            generalize wr.drew = w28 at BK440 BK447 HB hHeld ⊢
                            refine pure_ (i := 0) (N := some 49) (v := ?_) (a' := ?_) #[true, false, false, false, false, false, false, false, false, false] rfl rfl (any_of HT_.out (by kernel_rfl)) (fun _ _ _ h => h) (Or.inl ⟨by rfl, ?_⟩) ?_ ?_
                            rotate_left
                            · intro w'
                              go_simp
                              with_reducible rfl
                            rotate_left
                            · simp only [Act.put, List.setIfInBounds_toArray, List.set_cons_zero, List.set_cons_succ, i64_w, i32_w]
                              rfl
                            refine pure_ (i := 1) (N := some 50) (v := ?_) (a' := ?_) #[true, true, false, false, false, false, false, false, false, false] rfl rfl (any_of HT_.out (by kernel_rfl)) (fun _ _ _ h => h) (Or.inl ⟨by rfl, ?_⟩) ?_ ?_
                            rotate_left
                            · intro w'
                              go_simp
                              with_reducible rfl
                            rotate_left
                            · simp only [Act.put, List.setIfInBounds_toArray, List.set_cons_zero, List.set_cons_succ, i64_w, i32_w]
                              rfl
                            refine pure_ (i := 4) (N := some 53) (v := ?_) (a' := ?_) #[true, true, false, false, true, false, false, false, false, false] rfl rfl (any_of HT_.out (by kernel_rfl)) (fun _ _ _ h => h) (Or.inl ⟨by rfl, ?_⟩) ?_ ?_
                            rotate_left
                            · intro w'
                              go_simp
                              with_reducible rfl
                            rotate_left
                            · simp only [Act.put, List.setIfInBounds_toArray, List.set_cons_zero, List.set_cons_succ, i64_w, i32_w]
                              rfl
                            refine pure_ (i := 5) (N := some 54) (v := ?_) (a' := ?_) #[true, true, false, false, true, true, false, false, false, false] rfl rfl (any_of HT_.out (by kernel_rfl)) (fun _ _ _ h => h) (Or.inl ⟨by rfl, ?_⟩) ?_ ?_
                            rotate_left
                            · intro w'
                              go_simp
                              with_reducible rfl
                            rotate_left
                            · simp only [Act.put, List.setIfInBounds_toArray, List.set_cons_zero, List.set_cons_succ, i64_w, i32_w]
                              rfl
                            refine pure_ (i := 6) (N := some 55) (v := ?_) (a' := ?_) #[true, true, false, false, true, true, true, false, false, false] rfl rfl (any_of HT_.out (by kernel_rfl)) (fun _ _ _ h => h) (Or.inl ⟨by rfl, ?_⟩) ?_ ?_
                            rotate_left
                            · intro w'
                              go_simp
                              with_reducible rfl
                            rotate_left
                            · simp only [Act.put, List.setIfInBounds_toArray, List.set_cons_zero, List.set_cons_succ, i64_w, i32_w]
                              rfl
                            refine take_ (i := 2) (N := some 51) (v := ?_) (a' := ?_) #[true, true, true, false, true, true, true, false, false, false] rfl rfl (take_ofW HT_.out HW_.out (by kernel_rfl)) (fun _ _ _ h => h) (Or.inl ⟨by rfl, ?_⟩) hHeld ?_ ?_
                            rotate_left
                            · rintro w' ⟨s0, s1⟩
                              go_simp
                              with_reducible rfl
                            rotate_left
                            · simp only [Act.put, List.setIfInBounds_toArray, List.set_cons_zero, List.set_cons_succ, i64_w, i32_w]
                              rfl
                            refine pure_ (i := 3) (N := some 52) (v := ?_) (a' := ?_) #[true, true, true, true, true, true, true, false, false, false] rfl rfl (any_of HT_.out (by kernel_rfl)) (fun _ _ _ h => h) (Or.inl ⟨by rfl, ?_⟩) ?_ ?_
                            rotate_left
                            · intro w'
                              go_simp
                              with_reducible rfl
                            rotate_left
                            · simp only [Act.put, List.setIfInBounds_toArray, List.set_cons_zero, List.set_cons_succ, i64_w, i32_w]
                              rfl
                            refine pure_ (i := 7) (N := some 56) (v := ?_) (a' := ?_) #[true, true, true, true, true, true, true, true, false, false] rfl rfl (any_of HT_.out (by kernel_rfl)) (fun _ _ _ h => h) (Or.inl ⟨by rfl, ?_⟩) ?_ ?_
                            rotate_left
                            · intro w'
                              go_simp
                              with_reducible rfl
                            rotate_left
                            · simp only [Act.put, List.setIfInBounds_toArray, List.set_cons_zero, List.set_cons_succ, i64_w, i32_w]
                              rfl
                            refine pure_ (i := 8) (N := some 57) (v := ?_) (a' := ?_) #[true, true, true, true, true, true, true, true, true, false] rfl rfl (any_of HT_.out (by kernel_rfl)) (fun _ _ _ h => h) (Or.inl ⟨by rfl, ?_⟩) ?_ ?_
                            rotate_left
                            · intro w'
                              go_simp
                              with_reducible rfl
                            rotate_left
                            · simp only [Act.put, List.setIfInBounds_toArray, List.set_cons_zero, List.set_cons_succ, i64_w, i32_w]
                              rfl
                            refine one_ (i := 9) (N := none) #[true, true, true, true, true, true, true, true, true, true] rfl rfl (one_of HT_.out (by kernel_rfl)) (by decide) (fun K hK => ?_)
                            have hs29 : w28.cell? ⟨gb440, 0, none⟩ = some (.string (⟨#[]⟩ : ByteArray)) := (blk_cell BK440.out 0).trans rfl
                            have hfs29 := blk_frozen BK440.out 0
                            have hns29_1 := NB447_440.out
                            have hms29_1 := NB440_447.out
                            have hs30 : w28.cell? ⟨gb440, 1, none⟩ = some (.int .i64 0) := (blk_cell BK440.out 1).trans rfl
                            have hfs30 := blk_frozen BK440.out 1
                            have hns30_1 := NB447_440.out
                            have hms30_1 := NB440_447.out
                            refine skip_ (w1 := ?_) (by rfl) rfl ?_ ?_
                            rotate_left
                            · go_simp
                              rfl
                            refine hK.out _ _ ⟨((cell_far (p := ⟨gb440, _, none⟩) NB447_440.out _).trans (((cell_far (p := ⟨gb440, _, none⟩) NB447_440.out _).trans (hHeld.1)))), ((cell_far (p := ⟨gb440, _, none⟩) NB447_440.out _).trans (((cell_far (p := ⟨gb440, _, none⟩) NB447_440.out _).trans (hHeld.2))))⟩ (fun hHeld => ?_)
                            clear hK K
                            refine done_ (done_of HT_.out (by kernel_rfl)) ?_
                            try go_wp2
                            refine bodyPost_ret (results_cell_row rfl _ _ gb440 29 #[.string ((a0.extract 0 (t444 : Int).toNat) ++ (a0.extract (x9_2 : Int).toNat a0.size)), .int .i64 0] (0, 0) _ rfl (by (with_reducible repeat (first | refine blk_drewN ?_ _ | refine blk_drew ?_ | refine blk_alloc ?_ _)); refine blk_put (cs := #[.string ((a0.extract 0 (t444 : Int).toNat) ++ (a0.extract (x9_2 : Int).toNat a0.size)), .int .i64 0]) ?_ 1 _ rfl; (with_reducible repeat (first | refine blk_drewN ?_ _ | refine blk_drew ?_ | refine blk_alloc ?_ _)); refine blk_put (cs := #[.string (⟨#[]⟩ : ByteArray), .int .i64 0]) ?_ 0 _ rfl; (with_reducible repeat (first | refine blk_drewN ?_ _ | refine blk_drew ?_ | refine blk_alloc ?_ _)); exact BK440.out) Tryz.underlying29 rfl (by kernel_rfl)) rfl ?_
                            exact ⟨by first | rfl | (simp [errW_none, errW_some] <;> rfl) | (simp [*, errW_none, errW_some] <;> rfl), by repeat (first | (with_reducible first | exact HB.out | apply below_alloc | apply pw_below_drewN | apply below_drew1 | refine below_set ?_ GE440.out | refine below_set ?_ GE447.out) | exact HB.out)⟩
                          · rw [if_neg c27] at H
                            exact absurd H (by simp)
                        · rw [if_neg c26] at H
                          exact absurd H (by simp)
                      · rw [if_neg c24] at H
                        exact absurd H (by simp)
                    · rw [if_neg c23] at H
                      exact absurd H (by simp)
                · rw [if_neg c20] at H
                  exact absurd H (by simp)
              · rw [if_neg c19] at H
                have c19b0 : decide (x9_2 < (a0.size : Int)) = false := decide_eq_false c19
                clear c19
                by_cases c31 : 0 ≤ t444
                · rw [if_pos c31] at H
                  have c31b0 := eq_true c31
                  have c31b1 : decide (0 ≤ t444) = true := decide_eq_true c31
                  clear c31
                  by_cases c32 : t444 ≤ (a0.size : Int)
                  · rw [if_pos c32] at H
                    have c32b0 := eq_true c32
                    have c32b1 : decide (t444 ≤ (a0.size : Int)) = true := decide_eq_true c32
                    clear c32
                    by_cases c33 : 0 ≤ x9_2
                    · rw [if_pos c33] at H
                      have c33b0 := eq_true c33
                      have c33b1 : decide (0 ≤ x9_2) = true := decide_eq_true c33
                      clear c33
                      by_cases c34 : x9_2 ≤ (a0.size : Int)
                      · rw [if_pos c34] at H
                        have c34b0 := eq_true c34
                        have c34b1 : decide (x9_2 ≤ (a0.size : Int)) = true := decide_eq_true c34
                        clear c34
                        by_cases c35 : (a0.extract 0 (t444 : Int).toNat).size + (a0.extract (x9_2 : Int).toNat a0.size).size ≤ 9223372036854775807
                        · rw [if_pos c35] at H
                          have c35b0 := eq_true c35
                          have c35b1 : decide ((a0.extract 0 (t444 : Int).toNat).size + (a0.extract (x9_2 : Int).toNat a0.size).size ≤ 9223372036854775807) = true := decide_eq_true c35
                          try have c35b2 : (9223372036854775807 < (a0.extract 0 (t444 : Int).toNat).size + (a0.extract (x9_2 : Int).toNat a0.size).size) = False := eq_false (Nat.not_lt.2 c35)
                          try have c35b3 : (9223372036854775807 < t444.toNat + (a0.size - x9_2.toNat)) = False := eq_false (by have q_ := c35; have p_ : t444 ≤ (a0.size : Int) := of_decide_eq_true (by assumption); simp only [ByteArray.size_extract] at q_; omega)
                          simp only [Option.some.injEq, Prod.mk.injEq] at H
                          obtain ⟨rfl, rfl⟩ := H
                          try go_wp2
                          have n0_ := Aside0.mk (blk_drew BK440.out)
                          have n1_ := Aside0.mk (blk_drew BK447.out)
                          have n2_ := Aside0.mk (below_drew1 HB.out)
                          clear BK440
                          clear BK447
                          clear HB
                          have BK440 := n0_
                          have BK447 := n1_
                          have HB := n2_
                          clear n0_ n1_ n2_
                          refine start_ (n := 10) (S := fun w' => w'.cell? ⟨gb447, 0, none⟩ = some (.int .i64 t444) ∧ w'.cell? ⟨gb447, 1, none⟩ = some (.int .i64 t445)) (ds := []) #[false, false, false, false, false, false, false, false, false, false] (by kernel_rfl) rfl rfl ⟨(blk_cell BK447.out 0).trans rfl, (blk_cell BK447.out 1).trans rfl⟩ (fun hHeld => ?_); refine with_tabW qanatref02_DelWord.tab9 qanatref02_DelWord.bits9 (fun HT_ HW_ => ?_)
                          generalize wr.drew = w36 at BK440 BK447 HB hHeld ⊢
                          refine pure_ (i := 0) (N := some 49) (v := ?_) (a' := ?_) #[true, false, false, false, false, false, false, false, false, false] rfl rfl (any_of HT_.out (by kernel_rfl)) (fun _ _ _ h => h) (Or.inl ⟨by rfl, ?_⟩) ?_ ?_
                          rotate_left
                          · intro w'
                            go_simp
                            with_reducible rfl
                          rotate_left
                          · simp only [Act.put, List.setIfInBounds_toArray, List.set_cons_zero, List.set_cons_succ, i64_w, i32_w]
                            rfl
                          refine pure_ (i := 1) (N := some 50) (v := ?_) (a' := ?_) #[true, true, false, false, false, false, false, false, false, false] rfl rfl (any_of HT_.out (by kernel_rfl)) (fun _ _ _ h => h) (Or.inl ⟨by rfl, ?_⟩) ?_ ?_
                          rotate_left
                          · intro w'
                            go_simp
                            with_reducible rfl
                          rotate_left
                          · simp only [Act.put, List.setIfInBounds_toArray, List.set_cons_zero, List.set_cons_succ, i64_w, i32_w]
                            rfl
                          refine pure_ (i := 4) (N := some 53) (v := ?_) (a' := ?_) #[true, true, false, false, true, false, false, false, false, false] rfl rfl (any_of HT_.out (by kernel_rfl)) (fun _ _ _ h => h) (Or.inl ⟨by rfl, ?_⟩) ?_ ?_
                          rotate_left
                          · intro w'
                            go_simp
                            with_reducible rfl
                          rotate_left
                          · simp only [Act.put, List.setIfInBounds_toArray, List.set_cons_zero, List.set_cons_succ, i64_w, i32_w]
                            rfl
                          refine pure_ (i := 5) (N := some 54) (v := ?_) (a' := ?_) #[true, true, false, false, true, true, false, false, false, false] rfl rfl (any_of HT_.out (by kernel_rfl)) (fun _ _ _ h => h) (Or.inl ⟨by rfl, ?_⟩) ?_ ?_
                          rotate_left
                          · intro w'
                            go_simp
                            with_reducible rfl
                          rotate_left
                          · simp only [Act.put, List.setIfInBounds_toArray, List.set_cons_zero, List.set_cons_succ, i64_w, i32_w]
                            rfl
                          refine pure_ (i := 6) (N := some 55) (v := ?_) (a' := ?_) #[true, true, false, false, true, true, true, false, false, false] rfl rfl (any_of HT_.out (by kernel_rfl)) (fun _ _ _ h => h) (Or.inl ⟨by rfl, ?_⟩) ?_ ?_
                          rotate_left
                          · intro w'
                            go_simp
                            with_reducible rfl
                          rotate_left
                          · simp only [Act.put, List.setIfInBounds_toArray, List.set_cons_zero, List.set_cons_succ, i64_w, i32_w]
                            rfl
                          refine take_ (i := 2) (N := some 51) (v := ?_) (a' := ?_) #[true, true, true, false, true, true, true, false, false, false] rfl rfl (take_ofW HT_.out HW_.out (by kernel_rfl)) (fun _ _ _ h => h) (Or.inl ⟨by rfl, ?_⟩) hHeld ?_ ?_
                          rotate_left
                          · rintro w' ⟨s0, s1⟩
                            go_simp
                            with_reducible rfl
                          rotate_left
                          · simp only [Act.put, List.setIfInBounds_toArray, List.set_cons_zero, List.set_cons_succ, i64_w, i32_w]
                            rfl
                          refine pure_ (i := 3) (N := some 52) (v := ?_) (a' := ?_) #[true, true, true, true, true, true, true, false, false, false] rfl rfl (any_of HT_.out (by kernel_rfl)) (fun _ _ _ h => h) (Or.inl ⟨by rfl, ?_⟩) ?_ ?_
                          rotate_left
                          · intro w'
                            go_simp
                            with_reducible rfl
                          rotate_left
                          · simp only [Act.put, List.setIfInBounds_toArray, List.set_cons_zero, List.set_cons_succ, i64_w, i32_w]
                            rfl
                          refine pure_ (i := 7) (N := some 56) (v := ?_) (a' := ?_) #[true, true, true, true, true, true, true, true, false, false] rfl rfl (any_of HT_.out (by kernel_rfl)) (fun _ _ _ h => h) (Or.inl ⟨by rfl, ?_⟩) ?_ ?_
                          rotate_left
                          · intro w'
                            go_simp
                            with_reducible rfl
                          rotate_left
                          · simp only [Act.put, List.setIfInBounds_toArray, List.set_cons_zero, List.set_cons_succ, i64_w, i32_w]
                            rfl
                          refine pure_ (i := 8) (N := some 57) (v := ?_) (a' := ?_) #[true, true, true, true, true, true, true, true, true, false] rfl rfl (any_of HT_.out (by kernel_rfl)) (fun _ _ _ h => h) (Or.inl ⟨by rfl, ?_⟩) ?_ ?_
                          rotate_left
                          · intro w'
                            go_simp
                            with_reducible rfl
                          rotate_left
                          · simp only [Act.put, List.setIfInBounds_toArray, List.set_cons_zero, List.set_cons_succ, i64_w, i32_w]
                            rfl
                          refine one_ (i := 9) (N := none) #[true, true, true, true, true, true, true, true, true, true] rfl rfl (one_of HT_.out (by kernel_rfl)) (by decide) (fun K hK => ?_)
                          have hs37 : w36.cell? ⟨gb440, 0, none⟩ = some (.string (⟨#[]⟩ : ByteArray)) := (blk_cell BK440.out 0).trans rfl
                          have hfs37 := blk_frozen BK440.out 0
                          have hns37_1 := NB447_440.out
                          have hms37_1 := NB440_447.out
                          have hs38 : w36.cell? ⟨gb440, 1, none⟩ = some (.int .i64 0) := (blk_cell BK440.out 1).trans rfl
                          have hfs38 := blk_frozen BK440.out 1
                          have hns38_1 := NB447_440.out
                          have hms38_1 := NB440_447.out
                          refine skip_ (w1 := ?_) (by rfl) rfl ?_ ?_
                          rotate_left
                          · go_simp
                            rfl
                          refine hK.out _ _ ⟨((cell_far (p := ⟨gb440, _, none⟩) NB447_440.out _).trans (((cell_far (p := ⟨gb440, _, none⟩) NB447_440.out _).trans (hHeld.1)))), ((cell_far (p := ⟨gb440, _, none⟩) NB447_440.out _).trans (((cell_far (p := ⟨gb440, _, none⟩) NB447_440.out _).trans (hHeld.2))))⟩ (fun hHeld => ?_)
                          clear hK K
                          refine done_ (done_of HT_.out (by kernel_rfl)) ?_
                          try go_wp2
                          refine bodyPost_ret (results_cell_row rfl _ _ gb440 29 #[.string ((a0.extract 0 (t444 : Int).toNat) ++ (a0.extract (x9_2 : Int).toNat a0.size)), .int .i64 0] (0, 0) _ rfl (by (with_reducible repeat (first | refine blk_drewN ?_ _ | refine blk_drew ?_ | refine blk_alloc ?_ _)); refine blk_put (cs := #[.string ((a0.extract 0 (t444 : Int).toNat) ++ (a0.extract (x9_2 : Int).toNat a0.size)), .int .i64 0]) ?_ 1 _ rfl; (with_reducible repeat (first | refine blk_drewN ?_ _ | refine blk_drew ?_ | refine blk_alloc ?_ _)); refine blk_put (cs := #[.string (⟨#[]⟩ : ByteArray), .int .i64 0]) ?_ 0 _ rfl; (with_reducible repeat (first | refine blk_drewN ?_ _ | refine blk_drew ?_ | refine blk_alloc ?_ _)); exact BK440.out) Tryz.underlying29 rfl (by kernel_rfl)) rfl ?_
                          exact ⟨by first | rfl | (simp [errW_none, errW_some] <;> rfl) | (simp [*, errW_none, errW_some] <;> rfl), by repeat (first | (with_reducible first | exact HB.out | apply below_alloc | apply pw_below_drewN | apply below_drew1 | refine below_set ?_ GE440.out | refine below_set ?_ GE447.out) | exact HB.out)⟩
                        · rw [if_neg c35] at H
                          exact absurd H (by simp)
                      · rw [if_neg c34] at H
                        exact absurd H (by simp)
                    · rw [if_neg c33] at H
                      exact absurd H (by simp)
                  · rw [if_neg c32] at H
                    exact absurd H (by simp)
                · rw [if_neg c31] at H
                  exact absurd H (by simp)
        · replace c14 := Bool.eq_false_iff.mpr c14
          subst c14
          have H1 : (some (a0, 0)) = some (r1, r2) := by rw [if_neg (show ¬ (false = true) by decide)] at H; exact H
          clear H
          have H := H1
          clear H1
          simp only [Option.some.injEq, Prod.mk.injEq] at H
          obtain ⟨rfl, rfl⟩ := H
          go_wp2_with (first | ((with_reducible refine gate_callee (f := 112) rfl ?_); refine goesL_ (some 28) rfl rfl Tryz.func112 (by kernel_rfl) rfl #[.string a0, .int .i64 a1, .int .i64 a2] rfl (by (try simp only [List.map_toArray, List.map_cons, List.map_nil]); first | done | rfl | (simp only [List.length_drop, List.length_take]; rfl)) ?_; (with_reducible refine (qanatref02_some.calls kj3 a0 a1 a2 t444 t445 false _ A13.out).mono ?_); rintro e w39 ⟨rfl, hb⟩; refine ⟨_, rfl, ?_⟩; have n0_ := Aside0.mk (blk_below (g := gb440) (o := .cells #[.string (⟨#[]⟩ : ByteArray), .int .i64 0] 29 (0, 0)) (by (with_reducible repeat (first | refine blk_drewN ?_ _ | refine blk_drew ?_ | refine blk_alloc ?_ _)); exact BK440.out) hb); have n1_ := Aside0.mk (below_step (by repeat (first | (with_reducible first | exact HB.out | apply below_alloc | apply pw_below_drewN | apply below_drew1 | refine below_set ?_ GE440.out) | exact HB.out)) hb); clear BK440; clear HB; have BK440 := n0_; have HB := n1_; clear n0_ n1_; (try clear hb); (try clear hb2); (try clear hk); (try clear hi)) | ((with_reducible refine gate_dst (N := 7) rfl ?_); refine box_event ?hg (N := 7) ?hd (cs := #[.int .i64 0, .int .i64 0]) (t := 113) ?hr ?_; (case hd => rfl); (case hg => rfl); (case hr => first | (go_simp; done) | (go_simp; rfl)); intro gb447 hg w40 hbox hb; have n0_ := Aside0.mk (blk_below (g := gb440) (o := .cells #[.string (⟨#[]⟩ : ByteArray), .int .i64 0] 29 (0, 0)) (by (with_reducible repeat (first | refine blk_drewN ?_ _ | refine blk_drew ?_ | refine blk_alloc ?_ _)); exact BK440.out) hb); have n1_ := Aside0.mk (below_step (by repeat (first | (with_reducible first | exact HB.out | apply below_alloc | apply pw_below_drewN | apply below_drew1 | refine below_set ?_ GE440.out) | exact HB.out)) hb); have n2_ := Aside0.mk (hbox); have n3_ := Aside0.mk ((by rw [hg]; exact (below_size (by repeat (first | (with_reducible first | exact HB.out | apply below_alloc | apply pw_below_drewN | apply below_drew1 | refine below_set ?_ GE440.out) | exact HB.out))) : w.heap.size ≤ gb447)); have n4_ := Aside0.mk ((by rw [hg]; exact (below_size (by repeat (first | (with_reducible first | exact HB.out | apply below_alloc | apply pw_below_drewN | apply below_drew1 | refine below_set ?_ GE440.out) | exact HB.out))) : w.heap.size ≤ gb447)); have n5_ := Aside0.mk ((by rw [hg]; exact Nat.ne_of_lt (blk_lt (g := gb440) (o := .cells #[.string (⟨#[]⟩ : ByteArray), .int .i64 0] 29 (0, 0)) (by (with_reducible repeat (first | refine blk_drewN ?_ _ | refine blk_drew ?_ | refine blk_alloc ?_ _)); exact BK440.out)) : gb440 ≠ gb447)); have n6_ := Aside0.mk ((by rw [hg]; exact Nat.ne_of_gt (blk_lt (g := gb440) (o := .cells #[.string (⟨#[]⟩ : ByteArray), .int .i64 0] 29 (0, 0)) (by (with_reducible repeat (first | refine blk_drewN ?_ _ | refine blk_drew ?_ | refine blk_alloc ?_ _)); exact BK440.out)) : gb447 ≠ gb440)); clear BK440; clear HB; have BK440 := n0_; have HB := n1_; have BK447 := n2_; have GW447 := n3_; have GE447 := n4_; have NB440_447 := n5_; have NB447_440 := n6_; clear n0_ n1_ n2_ n3_ n4_ n5_ n6_; clear hb hbox hg; have hnb41 := NB447_440.out; have hnc41 := NB440_447.out; have hcz42_0 : w40.cell? ⟨gb447, 0, none⟩ = some (.int .i64 0) := (blk_cell BK447.out 0).trans rfl; have hcz42_1 : w40.cell? ⟨gb447, 1, none⟩ = some (.int .i64 0) := (blk_cell BK447.out 1).trans rfl; have hfz42_0 := blk_frozen BK447.out 0; have hfz42_1 := blk_frozen BK447.out 1; have hcz43_0 : w40.cell? ⟨gb440, 0, none⟩ = some (.string (⟨#[]⟩ : ByteArray)) := (blk_cell BK440.out 0).trans rfl; have hcz43_1 : w40.cell? ⟨gb440, 1, none⟩ = some (.int .i64 0) := (blk_cell BK440.out 1).trans rfl; have hfz43_0 := blk_frozen BK440.out 0; have hfz43_1 := blk_frozen BK440.out 1))
          refine bodyPost_ret (results_cell_row rfl _ _ gb440 29 #[.string a0, .int .i64 0] (0, 0) _ rfl (by (with_reducible repeat (first | refine blk_drewN ?_ _ | refine blk_drew ?_ | refine blk_alloc ?_ _)); refine blk_put (cs := #[.string a0, .int .i64 0]) ?_ 1 _ rfl; (with_reducible repeat (first | refine blk_drewN ?_ _ | refine blk_drew ?_ | refine blk_alloc ?_ _)); refine blk_put (cs := #[.string (⟨#[]⟩ : ByteArray), .int .i64 0]) ?_ 0 _ rfl; (with_reducible repeat (first | refine blk_drewN ?_ _ | refine blk_drew ?_ | refine blk_alloc ?_ _)); refine blk_far ?_ NB440_447.out _; (with_reducible repeat (first | refine blk_drewN ?_ _ | refine blk_drew ?_ | refine blk_alloc ?_ _)); refine blk_far ?_ NB440_447.out _; (with_reducible repeat (first | refine blk_drewN ?_ _ | refine blk_drew ?_ | refine blk_alloc ?_ _)); exact BK440.out) Tryz.underlying29 rfl (by kernel_rfl)) rfl ?_
          exact ⟨by first | rfl | (simp [errW_none, errW_some] <;> rfl) | (simp [*, errW_none, errW_some] <;> rfl), by repeat (first | (with_reducible first | exact HB.out | apply below_alloc | apply pw_below_drewN | apply below_drew1 | refine below_set ?_ GE440.out | refine below_set ?_ GE447.out) | exact HB.out)⟩

end Go.Proofs.YtlekfhnlhdmekaaGreatDoor.T

-- Written by a program of this session (mp.py over the kit's print.py), out of the translation.
namespace Go.Proofs.YtlekfhnlhdmekaaGreatDoor.T
set_option linter.unusedSimpArgs false
open Go.RowKit Go.Proofs.YtlekfhnlhdmekaaGreatDoorW.PrintWords Go.Proofs.YtlekfhnlhdmekaaGreatDoorW.PrintLast Go.Proofs.YtlekfhnlhdmekaaGreatDoorW.PrintMore
attribute [local go_sem] max2_int min2_int max_two min_two max_three min_three max_four min_four   -- for this text's walks alone
set_option linter.unusedVariables false
set_option linter.unusedSimpArgs false

/-! ### qanatlaw02_TextWords: function 6 -/
def qanatlaw02_TextWords.j0 : Nat → ByteArray → Int → Int → Bool → ByteArray → Int → ByteArray → Int → Bool → Option (Bool)
  | 0, _, _, _, _, _, _, _, _, _ => none
  | k + 1, x0, x1, x2, x7, x16, x17, x18, x19, x20 => if x7 = true then (if x20 = true then ((qanatref02_Subword.f k x0 x1 x2).bind fun bt474 => ((qanatlaw02_str.f x16 x17 bt474.1 bt474.2).bind fun t476 => (if t476 = true then ((qanatref02_DelWord.f k x0 x1 x2).bind fun bt477 => ((qanatlaw02_str.f x18 x19 bt477.1 bt477.2).bind fun t479 => (some t479))) else (some false)))) else (some false)) else (some false)
def qanatlaw02_TextWords.f (k : Nat) (a0 : ByteArray) (a1 : Int) (a2 : Int) : Option (Bool) := (qanatlaw02_head.f k).bind fun t448 => ((qanatlaw02_long.f a0).bind fun t449 => (if t449 = true then (some t448) else ((text_Words.f a0).bind fun bt450 => ((text_Word.f a0 a1).bind fun bt452 => ((text_WordIndex.f a0 a1).bind fun bt454 => ((text_WordLength.f a0 a1).bind fun bt456 => ((text_Subword.f a0 a1 a2).bind fun bt458 => ((text_DelWord.f a0 a1 a2).bind fun bt460 => ((qanatref02_Words.f k a0).bind fun bt462 => ((qanatlaw02_num.f bt450.1 bt450.2 bt462.1 bt462.2).bind fun t464 => (if t464 = true then ((qanatref02_Word.f k a0 a1).bind fun bt465 => ((qanatlaw02_str.f bt452.1 bt452.2 bt465.1 bt465.2).bind fun t467 => (if t467 = true then ((qanatref02_WordIndex.f k a0 a1).bind fun bt468 => ((qanatlaw02_num.f bt454.1 bt454.2 bt468.1 bt468.2).bind fun t470 => (if t470 = true then ((qanatref02_WordLength.f k a0 a1).bind fun bt471 => ((qanatlaw02_num.f bt456.1 bt456.2 bt471.1 bt471.2).bind fun t473 => (qanatlaw02_TextWords.j0 k a0 a1 a2 t448 bt458.1 bt458.2 bt460.1 bt460.2 t473))) else (qanatlaw02_TextWords.j0 k a0 a1 a2 t448 bt458.1 bt458.2 bt460.1 bt460.2 false)))) else (qanatlaw02_TextWords.j0 k a0 a1 a2 t448 bt458.1 bt458.2 bt460.1 bt460.2 false)))) else (qanatlaw02_TextWords.j0 k a0 a1 a2 t448 bt458.1 bt458.2 bt460.1 bt460.2 false))))))))))))
theorem qanatlaw02_TextWords.mono_l : ∀ k, (∀ y0 y1 y2 y3 y4 y5 y6 y7 y8, LeO (qanatlaw02_TextWords.j0 k y0 y1 y2 y3 y4 y5 y6 y7 y8) (qanatlaw02_TextWords.j0 (k + 1) y0 y1 y2 y3 y4 y5 y6 y7 y8))
  | 0 => fun _ _ _ _ _ _ _ _ _ r h => by simp [qanatlaw02_TextWords.j0] at h
  | k + 1 => by
    have ih0 := qanatlaw02_TextWords.mono_l k
    · intro y0 y1 y2 y3 y4 y5 y6 y7 y8
      unfold qanatlaw02_TextWords.j0
      repeat' first
      | (with_reducible exact ih0 _ _ _ _ _ _ _ _ _)
      | (with_reducible exact qanatlaw02_head.mono _)
      | (with_reducible exact qanatref02_DelWord.mono _ _ _ _)
      | (with_reducible exact qanatref02_Subword.mono _ _ _ _)
      | (with_reducible exact qanatref02_Word.mono _ _ _)
      | (with_reducible exact qanatref02_WordIndex.mono _ _ _)
      | (with_reducible exact qanatref02_WordLength.mono _ _ _)
      | (with_reducible exact qanatref02_Words.mono _ _)
      | (with_reducible exact LeO.refl _)
      | (with_reducible exact LeO.none _)
      | (with_reducible refine LeO.ite ?_ ?_)
      | (with_reducible refine LeO.bind ?_ (fun _ => ?_))
      | exact ih0 _ _ _ _ _ _ _ _ _
      | exact qanatlaw02_head.mono _
      | exact qanatref02_DelWord.mono _ _ _ _
      | exact qanatref02_Subword.mono _ _ _ _
      | exact qanatref02_Word.mono _ _ _
      | exact qanatref02_WordIndex.mono _ _ _
      | exact qanatref02_WordLength.mono _ _ _
      | exact qanatref02_Words.mono _ _
      | exact LeO.none _
      | refine LeO.ite ?_ ?_
      | refine LeO.bind ?_ (fun _ => ?_)
theorem qanatlaw02_TextWords.mono : ∀ a0 a1 a2 k, LeO (qanatlaw02_TextWords.f k a0 a1 a2) (qanatlaw02_TextWords.f (k + 1) a0 a1 a2) := by
  intro a0 a1 a2 k
  have ih0 := qanatlaw02_TextWords.mono_l k
  unfold qanatlaw02_TextWords.f
  repeat' first
      | (with_reducible exact ih0 _ _ _ _ _ _ _ _ _)
      | (with_reducible exact qanatlaw02_head.mono _)
      | (with_reducible exact qanatref02_DelWord.mono _ _ _ _)
      | (with_reducible exact qanatref02_Subword.mono _ _ _ _)
      | (with_reducible exact qanatref02_Word.mono _ _ _)
      | (with_reducible exact qanatref02_WordIndex.mono _ _ _)
      | (with_reducible exact qanatref02_WordLength.mono _ _ _)
      | (with_reducible exact qanatref02_Words.mono _ _)
      | (with_reducible exact LeO.refl _)
      | (with_reducible exact LeO.none _)
      | (with_reducible refine LeO.ite ?_ ?_)
      | (with_reducible refine LeO.bind ?_ (fun _ => ?_))
      | exact ih0 _ _ _ _ _ _ _ _ _
      | exact qanatlaw02_head.mono _
      | exact qanatref02_DelWord.mono _ _ _ _
      | exact qanatref02_Subword.mono _ _ _ _
      | exact qanatref02_Word.mono _ _ _
      | exact qanatref02_WordIndex.mono _ _ _
      | exact qanatref02_WordLength.mono _ _ _
      | exact qanatref02_Words.mono _ _
      | exact LeO.none _
      | refine LeO.ite ?_ ?_
      | refine LeO.bind ?_ (fun _ => ?_)
set_option maxHeartbeats 8000000 in
set_option maxRecDepth 100000 in
theorem qanatlaw02_TextWords.calls (k : Nat) (a0 : ByteArray) (a1 : Int) (a2 : Int) (r : Bool) (w : World) (hT : TabOK w) (h : qanatlaw02_TextWords.f k a0 a1 a2 = some r) :
    Calls Tryz.prog 6 #[.string a0, .int .i64 a1, .int .i64 a2] w fun e w' => e = .returned (.bool r) ∧ Below w.heap.size w w' := by
  have HB := Aside0.mk (Below.refl w.heap.size w)
  have H : ((qanatlaw02_head.f k).bind fun t448 => ((qanatlaw02_long.f a0).bind fun t449 => (if t449 = true then (some t448) else ((text_Words.f a0).bind fun bt450 => ((text_Word.f a0 a1).bind fun bt452 => ((text_WordIndex.f a0 a1).bind fun bt454 => ((text_WordLength.f a0 a1).bind fun bt456 => ((text_Subword.f a0 a1 a2).bind fun bt458 => ((text_DelWord.f a0 a1 a2).bind fun bt460 => ((qanatref02_Words.f k a0).bind fun bt462 => ((qanatlaw02_num.f bt450.1 bt450.2 bt462.1 bt462.2).bind fun t464 => (if t464 = true then ((qanatref02_Word.f k a0 a1).bind fun bt465 => ((qanatlaw02_str.f bt452.1 bt452.2 bt465.1 bt465.2).bind fun t467 => (if t467 = true then ((qanatref02_WordIndex.f k a0 a1).bind fun bt468 => ((qanatlaw02_num.f bt454.1 bt454.2 bt468.1 bt468.2).bind fun t470 => (if t470 = true then ((qanatref02_WordLength.f k a0 a1).bind fun bt471 => ((qanatlaw02_num.f bt456.1 bt456.2 bt471.1 bt471.2).bind fun t473 => (qanatlaw02_TextWords.j0 k a0 a1 a2 t448 bt458.1 bt458.2 bt460.1 bt460.2 t473))) else (qanatlaw02_TextWords.j0 k a0 a1 a2 t448 bt458.1 bt458.2 bt460.1 bt460.2 false)))) else (qanatlaw02_TextWords.j0 k a0 a1 a2 t448 bt458.1 bt458.2 bt460.1 bt460.2 false)))) else (qanatlaw02_TextWords.j0 k a0 a1 a2 t448 bt458.1 bt458.2 bt460.1 bt460.2 false))))))))))))) = some r := h
  clear h
  replace H := Option.bind_eq_some_iff.mp H
  obtain ⟨t448, A40, H⟩ := H
  replace H : ((qanatlaw02_long.f a0).bind fun t449 => (if t449 = true then (some t448) else ((text_Words.f a0).bind fun bt450 => ((text_Word.f a0 a1).bind fun bt452 => ((text_WordIndex.f a0 a1).bind fun bt454 => ((text_WordLength.f a0 a1).bind fun bt456 => ((text_Subword.f a0 a1 a2).bind fun bt458 => ((text_DelWord.f a0 a1 a2).bind fun bt460 => ((qanatref02_Words.f k a0).bind fun bt462 => ((qanatlaw02_num.f bt450.1 bt450.2 bt462.1 bt462.2).bind fun t464 => (if t464 = true then ((qanatref02_Word.f k a0 a1).bind fun bt465 => ((qanatlaw02_str.f bt452.1 bt452.2 bt465.1 bt465.2).bind fun t467 => (if t467 = true then ((qanatref02_WordIndex.f k a0 a1).bind fun bt468 => ((qanatlaw02_num.f bt454.1 bt454.2 bt468.1 bt468.2).bind fun t470 => (if t470 = true then ((qanatref02_WordLength.f k a0 a1).bind fun bt471 => ((qanatlaw02_num.f bt456.1 bt456.2 bt471.1 bt471.2).bind fun t473 => (qanatlaw02_TextWords.j0 k a0 a1 a2 t448 bt458.1 bt458.2 bt460.1 bt460.2 t473))) else (qanatlaw02_TextWords.j0 k a0 a1 a2 t448 bt458.1 bt458.2 bt460.1 bt460.2 false)))) else (qanatlaw02_TextWords.j0 k a0 a1 a2 t448 bt458.1 bt458.2 bt460.1 bt460.2 false)))) else (qanatlaw02_TextWords.j0 k a0 a1 a2 t448 bt458.1 bt458.2 bt460.1 bt460.2 false)))))))))))) = some r := H
  have A4 := Aside0.mk A40
  clear A40
  replace H := Option.bind_eq_some_iff.mp H
  obtain ⟨t449, A50, H⟩ := H
  replace H : (if t449 = true then (some t448) else ((text_Words.f a0).bind fun bt450 => ((text_Word.f a0 a1).bind fun bt452 => ((text_WordIndex.f a0 a1).bind fun bt454 => ((text_WordLength.f a0 a1).bind fun bt456 => ((text_Subword.f a0 a1 a2).bind fun bt458 => ((text_DelWord.f a0 a1 a2).bind fun bt460 => ((qanatref02_Words.f k a0).bind fun bt462 => ((qanatlaw02_num.f bt450.1 bt450.2 bt462.1 bt462.2).bind fun t464 => (if t464 = true then ((qanatref02_Word.f k a0 a1).bind fun bt465 => ((qanatlaw02_str.f bt452.1 bt452.2 bt465.1 bt465.2).bind fun t467 => (if t467 = true then ((qanatref02_WordIndex.f k a0 a1).bind fun bt468 => ((qanatlaw02_num.f bt454.1 bt454.2 bt468.1 bt468.2).bind fun t470 => (if t470 = true then ((qanatref02_WordLength.f k a0 a1).bind fun bt471 => ((qanatlaw02_num.f bt456.1 bt456.2 bt471.1 bt471.2).bind fun t473 => (qanatlaw02_TextWords.j0 k a0 a1 a2 t448 bt458.1 bt458.2 bt460.1 bt460.2 t473))) else (qanatlaw02_TextWords.j0 k a0 a1 a2 t448 bt458.1 bt458.2 bt460.1 bt460.2 false)))) else (qanatlaw02_TextWords.j0 k a0 a1 a2 t448 bt458.1 bt458.2 bt460.1 bt460.2 false)))) else (qanatlaw02_TextWords.j0 k a0 a1 a2 t448 bt458.1 bt458.2 bt460.1 bt460.2 false))))))))))) = some r := H
  have A5 := Aside0.mk A50
  clear A50
  by_cases c6 : t449 = true
  · subst c6
    have H1 : (some t448) = some r := by rw [if_pos rfl] at H; exact H
    clear H
    have H := H1
    clear H1
    obtain rfl := Option.some.inj H
    go_enter Tryz.func6, Tryz.ntmps6
    go_wp2_with (first | ((with_reducible refine gate_callee (f := 15) rfl ?_); refine goesL_ (some 21) rfl rfl Tryz.func15 (by kernel_rfl) rfl #[] rfl (by (try simp only [List.map_toArray, List.map_cons, List.map_nil]); first | done | rfl | (simp only [List.length_drop, List.length_take]; rfl)) ?_; (with_reducible refine (qanatlaw02_head.calls k  t448 _ (TabOK.of_below hT (by repeat (first | (with_reducible first | exact HB.out | apply below_alloc | apply pw_below_drewN | apply below_drew1) | exact HB.out))) A4.out).mono ?_); rintro e w7 ⟨rfl, hb⟩; refine ⟨_, rfl, ?_⟩; have n0_ := Aside0.mk (below_step (by repeat (first | (with_reducible first | exact HB.out | apply below_alloc | apply pw_below_drewN | apply below_drew1) | exact HB.out)) hb); clear HB; have HB := n0_; clear n0_; (try clear hb); (try clear hb2); (try clear hk); (try clear hi)) | ((with_reducible refine gate_callee (f := 16) rfl ?_); refine goesL_ (some 23) rfl rfl Tryz.func16 (by kernel_rfl) rfl #[.string a0] rfl (by (try simp only [List.map_toArray, List.map_cons, List.map_nil]); first | done | rfl | (simp only [List.length_drop, List.length_take]; rfl)) ?_; (with_reducible refine (qanatlaw02_long.calls a0 true _ A5.out).mono ?_); rintro e w' ⟨rfl, ⟨nd, rfl⟩⟩; refine ⟨_, rfl, ?_⟩))
    go_ret
    exact ⟨by first | rfl | (simp [errW_none, errW_some] <;> rfl) | (simp [*, errW_none, errW_some] <;> rfl), by repeat (first | (with_reducible first | exact HB.out | apply below_alloc | apply pw_below_drewN | apply below_drew1) | exact HB.out)⟩
  · replace c6 := Bool.eq_false_iff.mpr c6
    subst c6
    have H1 : ((text_Words.f a0).bind fun bt450 => ((text_Word.f a0 a1).bind fun bt452 => ((text_WordIndex.f a0 a1).bind fun bt454 => ((text_WordLength.f a0 a1).bind fun bt456 => ((text_Subword.f a0 a1 a2).bind fun bt458 => ((text_DelWord.f a0 a1 a2).bind fun bt460 => ((qanatref02_Words.f k a0).bind fun bt462 => ((qanatlaw02_num.f bt450.1 bt450.2 bt462.1 bt462.2).bind fun t464 => (if t464 = true then ((qanatref02_Word.f k a0 a1).bind fun bt465 => ((qanatlaw02_str.f bt452.1 bt452.2 bt465.1 bt465.2).bind fun t467 => (if t467 = true then ((qanatref02_WordIndex.f k a0 a1).bind fun bt468 => ((qanatlaw02_num.f bt454.1 bt454.2 bt468.1 bt468.2).bind fun t470 => (if t470 = true then ((qanatref02_WordLength.f k a0 a1).bind fun bt471 => ((qanatlaw02_num.f bt456.1 bt456.2 bt471.1 bt471.2).bind fun t473 => (qanatlaw02_TextWords.j0 k a0 a1 a2 t448 bt458.1 bt458.2 bt460.1 bt460.2 t473))) else (qanatlaw02_TextWords.j0 k a0 a1 a2 t448 bt458.1 bt458.2 bt460.1 bt460.2 false)))) else (qanatlaw02_TextWords.j0 k a0 a1 a2 t448 bt458.1 bt458.2 bt460.1 bt460.2 false)))) else (qanatlaw02_TextWords.j0 k a0 a1 a2 t448 bt458.1 bt458.2 bt460.1 bt460.2 false)))))))))) = some r := by rw [if_neg (show ¬ (false = true) by decide)] at H; exact H
    clear H
    have H := H1
    clear H1
    replace H := Option.bind_eq_some_iff.mp H
    obtain ⟨⟨t450, t451⟩, A80, H⟩ := H
    replace H : ((text_Word.f a0 a1).bind fun bt452 => ((text_WordIndex.f a0 a1).bind fun bt454 => ((text_WordLength.f a0 a1).bind fun bt456 => ((text_Subword.f a0 a1 a2).bind fun bt458 => ((text_DelWord.f a0 a1 a2).bind fun bt460 => ((qanatref02_Words.f k a0).bind fun bt462 => ((qanatlaw02_num.f t450 t451 bt462.1 bt462.2).bind fun t464 => (if t464 = true then ((qanatref02_Word.f k a0 a1).bind fun bt465 => ((qanatlaw02_str.f bt452.1 bt452.2 bt465.1 bt465.2).bind fun t467 => (if t467 = true then ((qanatref02_WordIndex.f k a0 a1).bind fun bt468 => ((qanatlaw02_num.f bt454.1 bt454.2 bt468.1 bt468.2).bind fun t470 => (if t470 = true then ((qanatref02_WordLength.f k a0 a1).bind fun bt471 => ((qanatlaw02_num.f bt456.1 bt456.2 bt471.1 bt471.2).bind fun t473 => (qanatlaw02_TextWords.j0 k a0 a1 a2 t448 bt458.1 bt458.2 bt460.1 bt460.2 t473))) else (qanatlaw02_TextWords.j0 k a0 a1 a2 t448 bt458.1 bt458.2 bt460.1 bt460.2 false)))) else (qanatlaw02_TextWords.j0 k a0 a1 a2 t448 bt458.1 bt458.2 bt460.1 bt460.2 false)))) else (qanatlaw02_TextWords.j0 k a0 a1 a2 t448 bt458.1 bt458.2 bt460.1 bt460.2 false))))))))) = some r := H
    have A8 := Aside0.mk A80
    clear A80
    replace H := Option.bind_eq_some_iff.mp H
    obtain ⟨⟨t452, t453⟩, A90, H⟩ := H
    replace H : ((text_WordIndex.f a0 a1).bind fun bt454 => ((text_WordLength.f a0 a1).bind fun bt456 => ((text_Subword.f a0 a1 a2).bind fun bt458 => ((text_DelWord.f a0 a1 a2).bind fun bt460 => ((qanatref02_Words.f k a0).bind fun bt462 => ((qanatlaw02_num.f t450 t451 bt462.1 bt462.2).bind fun t464 => (if t464 = true then ((qanatref02_Word.f k a0 a1).bind fun bt465 => ((qanatlaw02_str.f t452 t453 bt465.1 bt465.2).bind fun t467 => (if t467 = true then ((qanatref02_WordIndex.f k a0 a1).bind fun bt468 => ((qanatlaw02_num.f bt454.1 bt454.2 bt468.1 bt468.2).bind fun t470 => (if t470 = true then ((qanatref02_WordLength.f k a0 a1).bind fun bt471 => ((qanatlaw02_num.f bt456.1 bt456.2 bt471.1 bt471.2).bind fun t473 => (qanatlaw02_TextWords.j0 k a0 a1 a2 t448 bt458.1 bt458.2 bt460.1 bt460.2 t473))) else (qanatlaw02_TextWords.j0 k a0 a1 a2 t448 bt458.1 bt458.2 bt460.1 bt460.2 false)))) else (qanatlaw02_TextWords.j0 k a0 a1 a2 t448 bt458.1 bt458.2 bt460.1 bt460.2 false)))) else (qanatlaw02_TextWords.j0 k a0 a1 a2 t448 bt458.1 bt458.2 bt460.1 bt460.2 false)))))))) = some r := H
    have A9 := Aside0.mk A90
    clear A90
    replace H := Option.bind_eq_some_iff.mp H
    obtain ⟨⟨t454, t455⟩, A100, H⟩ := H
    replace H : ((text_WordLength.f a0 a1).bind fun bt456 => ((text_Subword.f a0 a1 a2).bind fun bt458 => ((text_DelWord.f a0 a1 a2).bind fun bt460 => ((qanatref02_Words.f k a0).bind fun bt462 => ((qanatlaw02_num.f t450 t451 bt462.1 bt462.2).bind fun t464 => (if t464 = true then ((qanatref02_Word.f k a0 a1).bind fun bt465 => ((qanatlaw02_str.f t452 t453 bt465.1 bt465.2).bind fun t467 => (if t467 = true then ((qanatref02_WordIndex.f k a0 a1).bind fun bt468 => ((qanatlaw02_num.f t454 t455 bt468.1 bt468.2).bind fun t470 => (if t470 = true then ((qanatref02_WordLength.f k a0 a1).bind fun bt471 => ((qanatlaw02_num.f bt456.1 bt456.2 bt471.1 bt471.2).bind fun t473 => (qanatlaw02_TextWords.j0 k a0 a1 a2 t448 bt458.1 bt458.2 bt460.1 bt460.2 t473))) else (qanatlaw02_TextWords.j0 k a0 a1 a2 t448 bt458.1 bt458.2 bt460.1 bt460.2 false)))) else (qanatlaw02_TextWords.j0 k a0 a1 a2 t448 bt458.1 bt458.2 bt460.1 bt460.2 false)))) else (qanatlaw02_TextWords.j0 k a0 a1 a2 t448 bt458.1 bt458.2 bt460.1 bt460.2 false))))))) = some r := H
    have A10 := Aside0.mk A100
    clear A100
    replace H := Option.bind_eq_some_iff.mp H
    obtain ⟨⟨t456, t457⟩, A110, H⟩ := H
    replace H : ((text_Subword.f a0 a1 a2).bind fun bt458 => ((text_DelWord.f a0 a1 a2).bind fun bt460 => ((qanatref02_Words.f k a0).bind fun bt462 => ((qanatlaw02_num.f t450 t451 bt462.1 bt462.2).bind fun t464 => (if t464 = true then ((qanatref02_Word.f k a0 a1).bind fun bt465 => ((qanatlaw02_str.f t452 t453 bt465.1 bt465.2).bind fun t467 => (if t467 = true then ((qanatref02_WordIndex.f k a0 a1).bind fun bt468 => ((qanatlaw02_num.f t454 t455 bt468.1 bt468.2).bind fun t470 => (if t470 = true then ((qanatref02_WordLength.f k a0 a1).bind fun bt471 => ((qanatlaw02_num.f t456 t457 bt471.1 bt471.2).bind fun t473 => (qanatlaw02_TextWords.j0 k a0 a1 a2 t448 bt458.1 bt458.2 bt460.1 bt460.2 t473))) else (qanatlaw02_TextWords.j0 k a0 a1 a2 t448 bt458.1 bt458.2 bt460.1 bt460.2 false)))) else (qanatlaw02_TextWords.j0 k a0 a1 a2 t448 bt458.1 bt458.2 bt460.1 bt460.2 false)))) else (qanatlaw02_TextWords.j0 k a0 a1 a2 t448 bt458.1 bt458.2 bt460.1 bt460.2 false)))))) = some r := H
    have A11 := Aside0.mk A110
    clear A110
    replace H := Option.bind_eq_some_iff.mp H
    obtain ⟨⟨t458, t459⟩, A120, H⟩ := H
    replace H : ((text_DelWord.f a0 a1 a2).bind fun bt460 => ((qanatref02_Words.f k a0).bind fun bt462 => ((qanatlaw02_num.f t450 t451 bt462.1 bt462.2).bind fun t464 => (if t464 = true then ((qanatref02_Word.f k a0 a1).bind fun bt465 => ((qanatlaw02_str.f t452 t453 bt465.1 bt465.2).bind fun t467 => (if t467 = true then ((qanatref02_WordIndex.f k a0 a1).bind fun bt468 => ((qanatlaw02_num.f t454 t455 bt468.1 bt468.2).bind fun t470 => (if t470 = true then ((qanatref02_WordLength.f k a0 a1).bind fun bt471 => ((qanatlaw02_num.f t456 t457 bt471.1 bt471.2).bind fun t473 => (qanatlaw02_TextWords.j0 k a0 a1 a2 t448 t458 t459 bt460.1 bt460.2 t473))) else (qanatlaw02_TextWords.j0 k a0 a1 a2 t448 t458 t459 bt460.1 bt460.2 false)))) else (qanatlaw02_TextWords.j0 k a0 a1 a2 t448 t458 t459 bt460.1 bt460.2 false)))) else (qanatlaw02_TextWords.j0 k a0 a1 a2 t448 t458 t459 bt460.1 bt460.2 false))))) = some r := H
    have A12 := Aside0.mk A120
    clear A120
    replace H := Option.bind_eq_some_iff.mp H
    obtain ⟨⟨t460, t461⟩, A130, H⟩ := H
    replace H : ((qanatref02_Words.f k a0).bind fun bt462 => ((qanatlaw02_num.f t450 t451 bt462.1 bt462.2).bind fun t464 => (if t464 = true then ((qanatref02_Word.f k a0 a1).bind fun bt465 => ((qanatlaw02_str.f t452 t453 bt465.1 bt465.2).bind fun t467 => (if t467 = true then ((qanatref02_WordIndex.f k a0 a1).bind fun bt468 => ((qanatlaw02_num.f t454 t455 bt468.1 bt468.2).bind fun t470 => (if t470 = true then ((qanatref02_WordLength.f k a0 a1).bind fun bt471 => ((qanatlaw02_num.f t456 t457 bt471.1 bt471.2).bind fun t473 => (qanatlaw02_TextWords.j0 k a0 a1 a2 t448 t458 t459 t460 t461 t473))) else (qanatlaw02_TextWords.j0 k a0 a1 a2 t448 t458 t459 t460 t461 false)))) else (qanatlaw02_TextWords.j0 k a0 a1 a2 t448 t458 t459 t460 t461 false)))) else (qanatlaw02_TextWords.j0 k a0 a1 a2 t448 t458 t459 t460 t461 false)))) = some r := H
    have A13 := Aside0.mk A130
    clear A130
    have HC14 := Aside0.mk H
    clear H
    go_enter Tryz.func6, Tryz.ntmps6
    go_upto_region 10 with (first | ((with_reducible refine gate_callee (f := 15) rfl ?_); refine goesL_ (some 21) rfl rfl Tryz.func15 (by kernel_rfl) rfl #[] rfl (by (try simp only [List.map_toArray, List.map_cons, List.map_nil]); first | done | rfl | (simp only [List.length_drop, List.length_take]; rfl)) ?_; (with_reducible refine (qanatlaw02_head.calls k  t448 _ (TabOK.of_below hT (by repeat (first | (with_reducible first | exact HB.out | apply below_alloc | apply pw_below_drewN | apply below_drew1) | exact HB.out))) A4.out).mono ?_); rintro e w15 ⟨rfl, hb⟩; refine ⟨_, rfl, ?_⟩; have n0_ := Aside0.mk (below_step (by repeat (first | (with_reducible first | exact HB.out | apply below_alloc | apply pw_below_drewN | apply below_drew1) | exact HB.out)) hb); clear HB; have HB := n0_; clear n0_; (try clear hb); (try clear hb2); (try clear hk); (try clear hi)) | ((with_reducible refine gate_callee (f := 16) rfl ?_); refine goesL_ (some 23) rfl rfl Tryz.func16 (by kernel_rfl) rfl #[.string a0] rfl (by (try simp only [List.map_toArray, List.map_cons, List.map_nil]); first | done | rfl | (simp only [List.length_drop, List.length_take]; rfl)) ?_; (with_reducible refine (qanatlaw02_long.calls a0 false _ A5.out).mono ?_); rintro e w' ⟨rfl, ⟨nd, rfl⟩⟩; refine ⟨_, rfl, ?_⟩) | ((with_reducible refine gate_callee (f := 37) rfl ?_); refine goesL_ (some 27) rfl rfl Tryz.func37 (by kernel_rfl) rfl #[.string a0] rfl (by (try simp only [List.map_toArray, List.map_cons, List.map_nil]); first | done | rfl | (simp only [List.length_drop, List.length_take]; rfl)) ?_; (with_reducible refine (text_Words.calls a0 t450 t451 _ A8.out).mono ?_); rintro e w16 ⟨rfl, hb⟩; refine ⟨_, rfl, ?_⟩; have n0_ := Aside0.mk (below_step (by repeat (first | (with_reducible first | exact HB.out | apply below_alloc | apply pw_below_drewN | apply below_drew1) | exact HB.out)) hb); clear HB; have HB := n0_; clear n0_; (try clear hb); (try clear hb2); (try clear hk); (try clear hi)) | ((with_reducible refine gate_callee (f := 38) rfl ?_); refine goesL_ (some 33) rfl rfl Tryz.func38 (by kernel_rfl) rfl #[.string a0, .int .i64 a1] rfl (by (try simp only [List.map_toArray, List.map_cons, List.map_nil]); first | done | rfl | (simp only [List.length_drop, List.length_take]; rfl)) ?_; (with_reducible refine (text_Word.calls a0 a1 t452 t453 _ A9.out).mono ?_); rintro e w17 ⟨rfl, hb⟩; refine ⟨_, rfl, ?_⟩; have n0_ := Aside0.mk (below_step (by repeat (first | (with_reducible first | exact HB.out | apply below_alloc | apply pw_below_drewN | apply below_drew1) | exact HB.out)) hb); clear HB; have HB := n0_; clear n0_; (try clear hb); (try clear hb2); (try clear hk); (try clear hi)) | ((with_reducible refine gate_callee (f := 39) rfl ?_); refine goesL_ (some 39) rfl rfl Tryz.func39 (by kernel_rfl) rfl #[.string a0, .int .i64 a1] rfl (by (try simp only [List.map_toArray, List.map_cons, List.map_nil]); first | done | rfl | (simp only [List.length_drop, List.length_take]; rfl)) ?_; (with_reducible refine (text_WordIndex.calls a0 a1 t454 t455 _ A10.out).mono ?_); rintro e w18 ⟨rfl, hb⟩; refine ⟨_, rfl, ?_⟩; have n0_ := Aside0.mk (below_step (by repeat (first | (with_reducible first | exact HB.out | apply below_alloc | apply pw_below_drewN | apply below_drew1) | exact HB.out)) hb); clear HB; have HB := n0_; clear n0_; (try clear hb); (try clear hb2); (try clear hk); (try clear hi)) | ((with_reducible refine gate_callee (f := 40) rfl ?_); refine goesL_ (some 45) rfl rfl Tryz.func40 (by kernel_rfl) rfl #[.string a0, .int .i64 a1] rfl (by (try simp only [List.map_toArray, List.map_cons, List.map_nil]); first | done | rfl | (simp only [List.length_drop, List.length_take]; rfl)) ?_; (with_reducible refine (text_WordLength.calls a0 a1 t456 t457 _ A11.out).mono ?_); rintro e w19 ⟨rfl, hb⟩; refine ⟨_, rfl, ?_⟩; have n0_ := Aside0.mk (below_step (by repeat (first | (with_reducible first | exact HB.out | apply below_alloc | apply pw_below_drewN | apply below_drew1) | exact HB.out)) hb); clear HB; have HB := n0_; clear n0_; (try clear hb); (try clear hb2); (try clear hk); (try clear hi)) | ((with_reducible refine gate_callee (f := 41) rfl ?_); refine goesL_ (some 52) rfl rfl Tryz.func41 (by kernel_rfl) rfl #[.string a0, .int .i64 a1, .int .i64 a2] rfl (by (try simp only [List.map_toArray, List.map_cons, List.map_nil]); first | done | rfl | (simp only [List.length_drop, List.length_take]; rfl)) ?_; (with_reducible refine (text_Subword.calls a0 a1 a2 t458 t459 _ A12.out).mono ?_); rintro e w20 ⟨rfl, hb⟩; refine ⟨_, rfl, ?_⟩; have n0_ := Aside0.mk (below_step (by repeat (first | (with_reducible first | exact HB.out | apply below_alloc | apply pw_below_drewN | apply below_drew1) | exact HB.out)) hb); clear HB; have HB := n0_; clear n0_; (try clear hb); (try clear hb2); (try clear hk); (try clear hi)) | ((with_reducible refine gate_callee (f := 42) rfl ?_); refine goesL_ (some 59) rfl rfl Tryz.func42 (by kernel_rfl) rfl #[.string a0, .int .i64 a1, .int .i64 a2] rfl (by (try simp only [List.map_toArray, List.map_cons, List.map_nil]); first | done | rfl | (simp only [List.length_drop, List.length_take]; rfl)) ?_; (with_reducible refine (text_DelWord.calls a0 a1 a2 t460 t461 _ A13.out).mono ?_); rintro e w21 ⟨rfl, hb⟩; refine ⟨_, rfl, ?_⟩; have n0_ := Aside0.mk (below_step (by repeat (first | (with_reducible first | exact HB.out | apply below_alloc | apply pw_below_drewN | apply below_drew1) | exact HB.out)) hb); clear HB; have HB := n0_; clear n0_; (try clear hb); (try clear hb2); (try clear hk); (try clear hi)))
    (try simp only [Act.put, List.setIfInBounds_toArray, List.set_cons_zero, List.set_cons_succ])
    go_cut [20] (fun v20 wc => ∃ (kq : Nat) (x20_13 : Bool), v20 = .bool x20_13 ∧ Aside0 (qanatlaw02_TextWords.j0 kq a0 a1 a2 t448 t458 t459 t460 t461 x20_13 = some r) ∧ Aside0 (kq ≤ k) ∧ Aside0 (Below w.heap.size w wc))
    case first =>
      have H := HC14.out
      clear HC14
      replace H := Option.bind_eq_some_iff.mp H
      obtain ⟨⟨t462, t463⟩, A220, H⟩ := H
      replace H : ((qanatlaw02_num.f t450 t451 t462 t463).bind fun t464 => (if t464 = true then ((qanatref02_Word.f k a0 a1).bind fun bt465 => ((qanatlaw02_str.f t452 t453 bt465.1 bt465.2).bind fun t467 => (if t467 = true then ((qanatref02_WordIndex.f k a0 a1).bind fun bt468 => ((qanatlaw02_num.f t454 t455 bt468.1 bt468.2).bind fun t470 => (if t470 = true then ((qanatref02_WordLength.f k a0 a1).bind fun bt471 => ((qanatlaw02_num.f t456 t457 bt471.1 bt471.2).bind fun t473 => (qanatlaw02_TextWords.j0 k a0 a1 a2 t448 t458 t459 t460 t461 t473))) else (qanatlaw02_TextWords.j0 k a0 a1 a2 t448 t458 t459 t460 t461 false)))) else (qanatlaw02_TextWords.j0 k a0 a1 a2 t448 t458 t459 t460 t461 false)))) else (qanatlaw02_TextWords.j0 k a0 a1 a2 t448 t458 t459 t460 t461 false))) = some r := H
      have A22 := Aside0.mk A220
      clear A220
      replace H := Option.bind_eq_some_iff.mp H
      obtain ⟨t464, A230, H⟩ := H
      replace H : (if t464 = true then ((qanatref02_Word.f k a0 a1).bind fun bt465 => ((qanatlaw02_str.f t452 t453 bt465.1 bt465.2).bind fun t467 => (if t467 = true then ((qanatref02_WordIndex.f k a0 a1).bind fun bt468 => ((qanatlaw02_num.f t454 t455 bt468.1 bt468.2).bind fun t470 => (if t470 = true then ((qanatref02_WordLength.f k a0 a1).bind fun bt471 => ((qanatlaw02_num.f t456 t457 bt471.1 bt471.2).bind fun t473 => (qanatlaw02_TextWords.j0 k a0 a1 a2 t448 t458 t459 t460 t461 t473))) else (qanatlaw02_TextWords.j0 k a0 a1 a2 t448 t458 t459 t460 t461 false)))) else (qanatlaw02_TextWords.j0 k a0 a1 a2 t448 t458 t459 t460 t461 false)))) else (qanatlaw02_TextWords.j0 k a0 a1 a2 t448 t458 t459 t460 t461 false)) = some r := H
      have A23 := Aside0.mk A230
      clear A230
      by_cases c24 : t464 = true
      · subst c24
        have H1 : ((qanatref02_Word.f k a0 a1).bind fun bt465 => ((qanatlaw02_str.f t452 t453 bt465.1 bt465.2).bind fun t467 => (if t467 = true then ((qanatref02_WordIndex.f k a0 a1).bind fun bt468 => ((qanatlaw02_num.f t454 t455 bt468.1 bt468.2).bind fun t470 => (if t470 = true then ((qanatref02_WordLength.f k a0 a1).bind fun bt471 => ((qanatlaw02_num.f t456 t457 bt471.1 bt471.2).bind fun t473 => (qanatlaw02_TextWords.j0 k a0 a1 a2 t448 t458 t459 t460 t461 t473))) else (qanatlaw02_TextWords.j0 k a0 a1 a2 t448 t458 t459 t460 t461 false)))) else (qanatlaw02_TextWords.j0 k a0 a1 a2 t448 t458 t459 t460 t461 false)))) = some r := by rw [if_pos rfl] at H; exact H
        clear H
        have H := H1
        clear H1
        replace H := Option.bind_eq_some_iff.mp H
        obtain ⟨⟨t465, t466⟩, A250, H⟩ := H
        replace H : ((qanatlaw02_str.f t452 t453 t465 t466).bind fun t467 => (if t467 = true then ((qanatref02_WordIndex.f k a0 a1).bind fun bt468 => ((qanatlaw02_num.f t454 t455 bt468.1 bt468.2).bind fun t470 => (if t470 = true then ((qanatref02_WordLength.f k a0 a1).bind fun bt471 => ((qanatlaw02_num.f t456 t457 bt471.1 bt471.2).bind fun t473 => (qanatlaw02_TextWords.j0 k a0 a1 a2 t448 t458 t459 t460 t461 t473))) else (qanatlaw02_TextWords.j0 k a0 a1 a2 t448 t458 t459 t460 t461 false)))) else (qanatlaw02_TextWords.j0 k a0 a1 a2 t448 t458 t459 t460 t461 false))) = some r := H
        have A25 := Aside0.mk A250
        clear A250
        replace H := Option.bind_eq_some_iff.mp H
        obtain ⟨t467, A260, H⟩ := H
        replace H : (if t467 = true then ((qanatref02_WordIndex.f k a0 a1).bind fun bt468 => ((qanatlaw02_num.f t454 t455 bt468.1 bt468.2).bind fun t470 => (if t470 = true then ((qanatref02_WordLength.f k a0 a1).bind fun bt471 => ((qanatlaw02_num.f t456 t457 bt471.1 bt471.2).bind fun t473 => (qanatlaw02_TextWords.j0 k a0 a1 a2 t448 t458 t459 t460 t461 t473))) else (qanatlaw02_TextWords.j0 k a0 a1 a2 t448 t458 t459 t460 t461 false)))) else (qanatlaw02_TextWords.j0 k a0 a1 a2 t448 t458 t459 t460 t461 false)) = some r := H
        have A26 := Aside0.mk A260
        clear A260
        by_cases c27 : t467 = true
        · subst c27
          have H1 : ((qanatref02_WordIndex.f k a0 a1).bind fun bt468 => ((qanatlaw02_num.f t454 t455 bt468.1 bt468.2).bind fun t470 => (if t470 = true then ((qanatref02_WordLength.f k a0 a1).bind fun bt471 => ((qanatlaw02_num.f t456 t457 bt471.1 bt471.2).bind fun t473 => (qanatlaw02_TextWords.j0 k a0 a1 a2 t448 t458 t459 t460 t461 t473))) else (qanatlaw02_TextWords.j0 k a0 a1 a2 t448 t458 t459 t460 t461 false)))) = some r := by rw [if_pos rfl] at H; exact H
          clear H
          have H := H1
          clear H1
          replace H := Option.bind_eq_some_iff.mp H
          obtain ⟨⟨t468, t469⟩, A280, H⟩ := H
          replace H : ((qanatlaw02_num.f t454 t455 t468 t469).bind fun t470 => (if t470 = true then ((qanatref02_WordLength.f k a0 a1).bind fun bt471 => ((qanatlaw02_num.f t456 t457 bt471.1 bt471.2).bind fun t473 => (qanatlaw02_TextWords.j0 k a0 a1 a2 t448 t458 t459 t460 t461 t473))) else (qanatlaw02_TextWords.j0 k a0 a1 a2 t448 t458 t459 t460 t461 false))) = some r := H
          have A28 := Aside0.mk A280
          clear A280
          replace H := Option.bind_eq_some_iff.mp H
          obtain ⟨t470, A290, H⟩ := H
          replace H : (if t470 = true then ((qanatref02_WordLength.f k a0 a1).bind fun bt471 => ((qanatlaw02_num.f t456 t457 bt471.1 bt471.2).bind fun t473 => (qanatlaw02_TextWords.j0 k a0 a1 a2 t448 t458 t459 t460 t461 t473))) else (qanatlaw02_TextWords.j0 k a0 a1 a2 t448 t458 t459 t460 t461 false)) = some r := H
          have A29 := Aside0.mk A290
          clear A290
          by_cases c30 : t470 = true
          · subst c30
            have H1 : ((qanatref02_WordLength.f k a0 a1).bind fun bt471 => ((qanatlaw02_num.f t456 t457 bt471.1 bt471.2).bind fun t473 => (qanatlaw02_TextWords.j0 k a0 a1 a2 t448 t458 t459 t460 t461 t473))) = some r := by rw [if_pos rfl] at H; exact H
            clear H
            have H := H1
            clear H1
            replace H := Option.bind_eq_some_iff.mp H
            obtain ⟨⟨t471, t472⟩, A310, H⟩ := H
            replace H : ((qanatlaw02_num.f t456 t457 t471 t472).bind fun t473 => (qanatlaw02_TextWords.j0 k a0 a1 a2 t448 t458 t459 t460 t461 t473)) = some r := H
            have A31 := Aside0.mk A310
            clear A310
            replace H := Option.bind_eq_some_iff.mp H
            obtain ⟨t473, A320, H⟩ := H
            replace H : (qanatlaw02_TextWords.j0 k a0 a1 a2 t448 t458 t459 t460 t461 t473) = some r := H
            have A32 := Aside0.mk A320
            clear A320
            have H' := Aside0.mk H
            clear H
            go_wp2_with (first | ((with_reducible refine gate_callee (f := 43) rfl ?_); refine goesL_ (some 65) rfl rfl Tryz.func43 (by kernel_rfl) rfl #[.string a0] rfl (by (try simp only [List.map_toArray, List.map_cons, List.map_nil]); first | done | rfl | (simp only [List.length_drop, List.length_take]; rfl)) ?_; (with_reducible refine (qanatref02_Words.calls k a0 t462 t463 _ A22.out).mono ?_); rintro e w33 ⟨rfl, hb⟩; refine ⟨_, rfl, ?_⟩; have n0_ := Aside0.mk (below_step (by repeat (first | (with_reducible first | exact HB.out | apply below_alloc | apply pw_below_drewN | apply below_drew1) | exact HB.out)) hb); clear HB; have HB := n0_; clear n0_; (try clear hb); (try clear hb2); (try clear hk); (try clear hi)) | ((with_reducible refine gate_callee (f := 34) rfl ?_); refine goesL_ (some 66) rfl rfl Tryz.func34 (by kernel_rfl) rfl #[.int .i64 t450, .int .i64 t451, .agg #[.int .i64 t462, .int .i64 t463]] rfl (by (try simp only [List.map_toArray, List.map_cons, List.map_nil]); first | done | rfl | (simp only [List.length_drop, List.length_take]; rfl)) ?_; (with_reducible refine (qanatlaw02_num.calls t450 t451 t462 t463 true _ A23.out).mono ?_); rintro e w34 ⟨rfl, hb⟩; refine ⟨_, rfl, ?_⟩; have n0_ := Aside0.mk (below_step (by repeat (first | (with_reducible first | exact HB.out | apply below_alloc | apply pw_below_drewN | apply below_drew1) | exact HB.out)) hb); clear HB; have HB := n0_; clear n0_; (try clear hb); (try clear hb2); (try clear hk); (try clear hi)) | (go_at_call 44; (with_reducible refine (qanatref02_Word.calls k a0 a1 t465 t466 _ A25.out).mono ?_); rintro e w35 ⟨rfl, hb⟩; have n0_ := Aside0.mk (below_step (by repeat (first | (with_reducible first | exact HB.out | apply below_alloc | apply pw_below_drewN | apply below_drew1) | exact HB.out)) hb); clear HB; have HB := n0_; clear n0_; (try clear hb); (try clear hb2); (try clear hk); (try clear hi)) | (go_at_call 20; (with_reducible refine (qanatlaw02_str.calls t452 t453 t465 t466 true _ A26.out).mono ?_); rintro e w36 ⟨rfl, hb⟩; have n0_ := Aside0.mk (below_step (by repeat (first | (with_reducible first | exact HB.out | apply below_alloc | apply pw_below_drewN | apply below_drew1) | exact HB.out)) hb); clear HB; have HB := n0_; clear n0_; (try clear hb); (try clear hb2); (try clear hk); (try clear hi)) | (go_at_call 45; (with_reducible refine (qanatref02_WordIndex.calls k a0 a1 t468 t469 _ A28.out).mono ?_); rintro e w37 ⟨rfl, hb⟩; have n0_ := Aside0.mk (below_step (by repeat (first | (with_reducible first | exact HB.out | apply below_alloc | apply pw_below_drewN | apply below_drew1) | exact HB.out)) hb); clear HB; have HB := n0_; clear n0_; (try clear hb); (try clear hb2); (try clear hk); (try clear hi)) | (go_at_call 34; (with_reducible refine (qanatlaw02_num.calls t454 t455 t468 t469 true _ A29.out).mono ?_); rintro e w38 ⟨rfl, hb⟩; have n0_ := Aside0.mk (below_step (by repeat (first | (with_reducible first | exact HB.out | apply below_alloc | apply pw_below_drewN | apply below_drew1) | exact HB.out)) hb); clear HB; have HB := n0_; clear n0_; (try clear hb); (try clear hb2); (try clear hk); (try clear hi)) | (go_at_call 46; (with_reducible refine (qanatref02_WordLength.calls k a0 a1 t471 t472 _ A31.out).mono ?_); rintro e w39 ⟨rfl, hb⟩; have n0_ := Aside0.mk (below_step (by repeat (first | (with_reducible first | exact HB.out | apply below_alloc | apply pw_below_drewN | apply below_drew1) | exact HB.out)) hb); clear HB; have HB := n0_; clear n0_; (try clear hb); (try clear hb2); (try clear hk); (try clear hi)) | (go_at_call 34; (with_reducible refine (qanatlaw02_num.calls t456 t457 t471 t472 t473 _ A32.out).mono ?_); rintro e w40 ⟨rfl, hb⟩; have n0_ := Aside0.mk (below_step (by repeat (first | (with_reducible first | exact HB.out | apply below_alloc | apply pw_below_drewN | apply below_drew1) | exact HB.out)) hb); clear HB; have HB := n0_; clear n0_; (try clear hb); (try clear hb2); (try clear hk); (try clear hi)))
            go_meet
            case rel => exact ⟨_, (t473), (by first | rfl | (simp; done) | (simp [*]; done)), H', ⟨by first | omega | exact Nat.le_refl _⟩, ⟨by repeat (first | (with_reducible first | exact HB.out | apply below_alloc | apply pw_below_drewN | apply below_drew1) | exact HB.out)⟩⟩
          · replace c30 := Bool.eq_false_iff.mpr c30
            subst c30
            have H1 : (qanatlaw02_TextWords.j0 k a0 a1 a2 t448 t458 t459 t460 t461 false) = some r := by rw [if_neg (show ¬ (false = true) by decide)] at H; exact H
            clear H
            have H := H1
            clear H1
            have H' := Aside0.mk H
            clear H
            go_wp2_with (first | ((with_reducible refine gate_callee (f := 43) rfl ?_); refine goesL_ (some 65) rfl rfl Tryz.func43 (by kernel_rfl) rfl #[.string a0] rfl (by (try simp only [List.map_toArray, List.map_cons, List.map_nil]); first | done | rfl | (simp only [List.length_drop, List.length_take]; rfl)) ?_; (with_reducible refine (qanatref02_Words.calls k a0 t462 t463 _ A22.out).mono ?_); rintro e w41 ⟨rfl, hb⟩; refine ⟨_, rfl, ?_⟩; have n0_ := Aside0.mk (below_step (by repeat (first | (with_reducible first | exact HB.out | apply below_alloc | apply pw_below_drewN | apply below_drew1) | exact HB.out)) hb); clear HB; have HB := n0_; clear n0_; (try clear hb); (try clear hb2); (try clear hk); (try clear hi)) | ((with_reducible refine gate_callee (f := 34) rfl ?_); refine goesL_ (some 66) rfl rfl Tryz.func34 (by kernel_rfl) rfl #[.int .i64 t450, .int .i64 t451, .agg #[.int .i64 t462, .int .i64 t463]] rfl (by (try simp only [List.map_toArray, List.map_cons, List.map_nil]); first | done | rfl | (simp only [List.length_drop, List.length_take]; rfl)) ?_; (with_reducible refine (qanatlaw02_num.calls t450 t451 t462 t463 true _ A23.out).mono ?_); rintro e w42 ⟨rfl, hb⟩; refine ⟨_, rfl, ?_⟩; have n0_ := Aside0.mk (below_step (by repeat (first | (with_reducible first | exact HB.out | apply below_alloc | apply pw_below_drewN | apply below_drew1) | exact HB.out)) hb); clear HB; have HB := n0_; clear n0_; (try clear hb); (try clear hb2); (try clear hk); (try clear hi)) | (go_at_call 44; (with_reducible refine (qanatref02_Word.calls k a0 a1 t465 t466 _ A25.out).mono ?_); rintro e w43 ⟨rfl, hb⟩; have n0_ := Aside0.mk (below_step (by repeat (first | (with_reducible first | exact HB.out | apply below_alloc | apply pw_below_drewN | apply below_drew1) | exact HB.out)) hb); clear HB; have HB := n0_; clear n0_; (try clear hb); (try clear hb2); (try clear hk); (try clear hi)) | (go_at_call 20; (with_reducible refine (qanatlaw02_str.calls t452 t453 t465 t466 true _ A26.out).mono ?_); rintro e w44 ⟨rfl, hb⟩; have n0_ := Aside0.mk (below_step (by repeat (first | (with_reducible first | exact HB.out | apply below_alloc | apply pw_below_drewN | apply below_drew1) | exact HB.out)) hb); clear HB; have HB := n0_; clear n0_; (try clear hb); (try clear hb2); (try clear hk); (try clear hi)) | (go_at_call 45; (with_reducible refine (qanatref02_WordIndex.calls k a0 a1 t468 t469 _ A28.out).mono ?_); rintro e w45 ⟨rfl, hb⟩; have n0_ := Aside0.mk (below_step (by repeat (first | (with_reducible first | exact HB.out | apply below_alloc | apply pw_below_drewN | apply below_drew1) | exact HB.out)) hb); clear HB; have HB := n0_; clear n0_; (try clear hb); (try clear hb2); (try clear hk); (try clear hi)) | (go_at_call 34; (with_reducible refine (qanatlaw02_num.calls t454 t455 t468 t469 false _ A29.out).mono ?_); rintro e w46 ⟨rfl, hb⟩; have n0_ := Aside0.mk (below_step (by repeat (first | (with_reducible first | exact HB.out | apply below_alloc | apply pw_below_drewN | apply below_drew1) | exact HB.out)) hb); clear HB; have HB := n0_; clear n0_; (try clear hb); (try clear hb2); (try clear hk); (try clear hi)))
            go_meet
            case rel => exact ⟨_, (false), (by first | rfl | (simp; done) | (simp [*]; done)), H', ⟨by first | omega | exact Nat.le_refl _⟩, ⟨by repeat (first | (with_reducible first | exact HB.out | apply below_alloc | apply pw_below_drewN | apply below_drew1) | exact HB.out)⟩⟩
        · replace c27 := Bool.eq_false_iff.mpr c27
          subst c27
          have H1 : (qanatlaw02_TextWords.j0 k a0 a1 a2 t448 t458 t459 t460 t461 false) = some r := by rw [if_neg (show ¬ (false = true) by decide)] at H; exact H
          clear H
          have H := H1
          clear H1
          have H' := Aside0.mk H
          clear H
          go_wp2_with (first | ((with_reducible refine gate_callee (f := 43) rfl ?_); refine goesL_ (some 65) rfl rfl Tryz.func43 (by kernel_rfl) rfl #[.string a0] rfl (by (try simp only [List.map_toArray, List.map_cons, List.map_nil]); first | done | rfl | (simp only [List.length_drop, List.length_take]; rfl)) ?_; (with_reducible refine (qanatref02_Words.calls k a0 t462 t463 _ A22.out).mono ?_); rintro e w47 ⟨rfl, hb⟩; refine ⟨_, rfl, ?_⟩; have n0_ := Aside0.mk (below_step (by repeat (first | (with_reducible first | exact HB.out | apply below_alloc | apply pw_below_drewN | apply below_drew1) | exact HB.out)) hb); clear HB; have HB := n0_; clear n0_; (try clear hb); (try clear hb2); (try clear hk); (try clear hi)) | ((with_reducible refine gate_callee (f := 34) rfl ?_); refine goesL_ (some 66) rfl rfl Tryz.func34 (by kernel_rfl) rfl #[.int .i64 t450, .int .i64 t451, .agg #[.int .i64 t462, .int .i64 t463]] rfl (by (try simp only [List.map_toArray, List.map_cons, List.map_nil]); first | done | rfl | (simp only [List.length_drop, List.length_take]; rfl)) ?_; (with_reducible refine (qanatlaw02_num.calls t450 t451 t462 t463 true _ A23.out).mono ?_); rintro e w48 ⟨rfl, hb⟩; refine ⟨_, rfl, ?_⟩; have n0_ := Aside0.mk (below_step (by repeat (first | (with_reducible first | exact HB.out | apply below_alloc | apply pw_below_drewN | apply below_drew1) | exact HB.out)) hb); clear HB; have HB := n0_; clear n0_; (try clear hb); (try clear hb2); (try clear hk); (try clear hi)) | (go_at_call 44; (with_reducible refine (qanatref02_Word.calls k a0 a1 t465 t466 _ A25.out).mono ?_); rintro e w49 ⟨rfl, hb⟩; have n0_ := Aside0.mk (below_step (by repeat (first | (with_reducible first | exact HB.out | apply below_alloc | apply pw_below_drewN | apply below_drew1) | exact HB.out)) hb); clear HB; have HB := n0_; clear n0_; (try clear hb); (try clear hb2); (try clear hk); (try clear hi)) | (go_at_call 20; (with_reducible refine (qanatlaw02_str.calls t452 t453 t465 t466 false _ A26.out).mono ?_); rintro e w50 ⟨rfl, hb⟩; have n0_ := Aside0.mk (below_step (by repeat (first | (with_reducible first | exact HB.out | apply below_alloc | apply pw_below_drewN | apply below_drew1) | exact HB.out)) hb); clear HB; have HB := n0_; clear n0_; (try clear hb); (try clear hb2); (try clear hk); (try clear hi)))
          go_meet
          case rel => exact ⟨_, (false), (by first | rfl | (simp; done) | (simp [*]; done)), H', ⟨by first | omega | exact Nat.le_refl _⟩, ⟨by repeat (first | (with_reducible first | exact HB.out | apply below_alloc | apply pw_below_drewN | apply below_drew1) | exact HB.out)⟩⟩
      · replace c24 := Bool.eq_false_iff.mpr c24
        subst c24
        have H1 : (qanatlaw02_TextWords.j0 k a0 a1 a2 t448 t458 t459 t460 t461 false) = some r := by rw [if_neg (show ¬ (false = true) by decide)] at H; exact H
        clear H
        have H := H1
        clear H1
        have H' := Aside0.mk H
        clear H
        go_wp2_with (first | ((with_reducible refine gate_callee (f := 43) rfl ?_); refine goesL_ (some 65) rfl rfl Tryz.func43 (by kernel_rfl) rfl #[.string a0] rfl (by (try simp only [List.map_toArray, List.map_cons, List.map_nil]); first | done | rfl | (simp only [List.length_drop, List.length_take]; rfl)) ?_; (with_reducible refine (qanatref02_Words.calls k a0 t462 t463 _ A22.out).mono ?_); rintro e w51 ⟨rfl, hb⟩; refine ⟨_, rfl, ?_⟩; have n0_ := Aside0.mk (below_step (by repeat (first | (with_reducible first | exact HB.out | apply below_alloc | apply pw_below_drewN | apply below_drew1) | exact HB.out)) hb); clear HB; have HB := n0_; clear n0_; (try clear hb); (try clear hb2); (try clear hk); (try clear hi)) | ((with_reducible refine gate_callee (f := 34) rfl ?_); refine goesL_ (some 66) rfl rfl Tryz.func34 (by kernel_rfl) rfl #[.int .i64 t450, .int .i64 t451, .agg #[.int .i64 t462, .int .i64 t463]] rfl (by (try simp only [List.map_toArray, List.map_cons, List.map_nil]); first | done | rfl | (simp only [List.length_drop, List.length_take]; rfl)) ?_; (with_reducible refine (qanatlaw02_num.calls t450 t451 t462 t463 false _ A23.out).mono ?_); rintro e w52 ⟨rfl, hb⟩; refine ⟨_, rfl, ?_⟩; have n0_ := Aside0.mk (below_step (by repeat (first | (with_reducible first | exact HB.out | apply below_alloc | apply pw_below_drewN | apply below_drew1) | exact HB.out)) hb); clear HB; have HB := n0_; clear n0_; (try clear hb); (try clear hb2); (try clear hk); (try clear hi)))
        go_meet
        case rel => exact ⟨_, (false), (by first | rfl | (simp; done) | (simp [*]; done)), H', ⟨by first | omega | exact Nat.le_refl _⟩, ⟨by repeat (first | (with_reducible first | exact HB.out | apply below_alloc | apply pw_below_drewN | apply below_drew1) | exact HB.out)⟩⟩
    case rest =>
      clear HC14
      try clear c1
      try clear c2
      try clear p2
      try clear c3
      try clear c4
      try clear c6
      try clear c15
      try clear c16
      try clear c24
      try clear c27
      try clear c30
      try clear c34
      try clear c37
      try clear c38
      try clear c39
      try clear c40
      try clear c41
      try clear c42
      try clear c43
      obtain ⟨kq, x20_13, rfl, HA, HJ13, HB⟩ := hcut
      cases kq with
      | zero => exact absurd HA.out (by simp [qanatlaw02_TextWords.j0])
      | succ kj13 =>
        have H := HA.out
        clear HA
        simp only [qanatlaw02_TextWords.j0] at H
        by_cases c53 : t448 = true
        · subst c53
          have H1 : (if x20_13 = true then ((qanatref02_Subword.f kj13 a0 a1 a2).bind fun bt474 => ((qanatlaw02_str.f t458 t459 bt474.1 bt474.2).bind fun t476 => (if t476 = true then ((qanatref02_DelWord.f kj13 a0 a1 a2).bind fun bt477 => ((qanatlaw02_str.f t460 t461 bt477.1 bt477.2).bind fun t479 => (some t479))) else (some false)))) else (some false)) = some r := by rw [if_pos rfl] at H; exact H
          clear H
          have H := H1
          clear H1
          by_cases c54 : x20_13 = true
          · subst c54
            have H1 : ((qanatref02_Subword.f kj13 a0 a1 a2).bind fun bt474 => ((qanatlaw02_str.f t458 t459 bt474.1 bt474.2).bind fun t476 => (if t476 = true then ((qanatref02_DelWord.f kj13 a0 a1 a2).bind fun bt477 => ((qanatlaw02_str.f t460 t461 bt477.1 bt477.2).bind fun t479 => (some t479))) else (some false)))) = some r := by rw [if_pos rfl] at H; exact H
            clear H
            have H := H1
            clear H1
            replace H := Option.bind_eq_some_iff.mp H
            obtain ⟨⟨t474, t475⟩, A550, H⟩ := H
            replace H : ((qanatlaw02_str.f t458 t459 t474 t475).bind fun t476 => (if t476 = true then ((qanatref02_DelWord.f kj13 a0 a1 a2).bind fun bt477 => ((qanatlaw02_str.f t460 t461 bt477.1 bt477.2).bind fun t479 => (some t479))) else (some false))) = some r := H
            have A55 := Aside0.mk A550
            clear A550
            replace H := Option.bind_eq_some_iff.mp H
            obtain ⟨t476, A560, H⟩ := H
            replace H : (if t476 = true then ((qanatref02_DelWord.f kj13 a0 a1 a2).bind fun bt477 => ((qanatlaw02_str.f t460 t461 bt477.1 bt477.2).bind fun t479 => (some t479))) else (some false)) = some r := H
            have A56 := Aside0.mk A560
            clear A560
            by_cases c57 : t476 = true
            · subst c57
              have H1 : ((qanatref02_DelWord.f kj13 a0 a1 a2).bind fun bt477 => ((qanatlaw02_str.f t460 t461 bt477.1 bt477.2).bind fun t479 => (some t479))) = some r := by rw [if_pos rfl] at H; exact H
              clear H
              have H := H1
              clear H1
              replace H := Option.bind_eq_some_iff.mp H
              obtain ⟨⟨t477, t478⟩, A580, H⟩ := H
              replace H : ((qanatlaw02_str.f t460 t461 t477 t478).bind fun t479 => (some t479)) = some r := H
              have A58 := Aside0.mk A580
              clear A580
              replace H := Option.bind_eq_some_iff.mp H
              obtain ⟨t479, A590, H⟩ := H
              replace H : (some t479) = some r := H
              have A59 := Aside0.mk A590
              clear A590
              obtain rfl := Option.some.inj H
              go_wp2_with (first | (go_at_call 47; (with_reducible refine (qanatref02_Subword.calls kj13 a0 a1 a2 t474 t475 _ A55.out).mono ?_); rintro e w60 ⟨rfl, hb⟩; have n0_ := Aside0.mk (below_step (by repeat (first | (with_reducible first | exact HB.out | apply below_alloc | apply pw_below_drewN | apply below_drew1) | exact HB.out)) hb); clear HB; have HB := n0_; clear n0_; (try clear hb); (try clear hb2); (try clear hk); (try clear hi)) | (go_at_call 20; (with_reducible refine (qanatlaw02_str.calls t458 t459 t474 t475 true _ A56.out).mono ?_); rintro e w61 ⟨rfl, hb⟩; have n0_ := Aside0.mk (below_step (by repeat (first | (with_reducible first | exact HB.out | apply below_alloc | apply pw_below_drewN | apply below_drew1) | exact HB.out)) hb); clear HB; have HB := n0_; clear n0_; (try clear hb); (try clear hb2); (try clear hk); (try clear hi)) | (go_at_call 48; (with_reducible refine (qanatref02_DelWord.calls kj13 a0 a1 a2 t477 t478 _ A58.out).mono ?_); rintro e w62 ⟨rfl, hb⟩; have n0_ := Aside0.mk (below_step (by repeat (first | (with_reducible first | exact HB.out | apply below_alloc | apply pw_below_drewN | apply below_drew1) | exact HB.out)) hb); clear HB; have HB := n0_; clear n0_; (try clear hb); (try clear hb2); (try clear hk); (try clear hi)) | (go_at_call 20; (with_reducible refine (qanatlaw02_str.calls t460 t461 t477 t478 t479 _ A59.out).mono ?_); rintro e w63 ⟨rfl, hb⟩; have n0_ := Aside0.mk (below_step (by repeat (first | (with_reducible first | exact HB.out | apply below_alloc | apply pw_below_drewN | apply below_drew1) | exact HB.out)) hb); clear HB; have HB := n0_; clear n0_; (try clear hb); (try clear hb2); (try clear hk); (try clear hi)))
              go_ret
              exact ⟨by first | rfl | (simp [errW_none, errW_some] <;> rfl) | (simp [*, errW_none, errW_some] <;> rfl), by repeat (first | (with_reducible first | exact HB.out | apply below_alloc | apply pw_below_drewN | apply below_drew1) | exact HB.out)⟩
            · replace c57 := Bool.eq_false_iff.mpr c57
              subst c57
              have H1 : (some false) = some r := by rw [if_neg (show ¬ (false = true) by decide)] at H; exact H
              clear H
              have H := H1
              clear H1
              obtain rfl := Option.some.inj H
              go_wp2_with (first | (go_at_call 47; (with_reducible refine (qanatref02_Subword.calls kj13 a0 a1 a2 t474 t475 _ A55.out).mono ?_); rintro e w64 ⟨rfl, hb⟩; have n0_ := Aside0.mk (below_step (by repeat (first | (with_reducible first | exact HB.out | apply below_alloc | apply pw_below_drewN | apply below_drew1) | exact HB.out)) hb); clear HB; have HB := n0_; clear n0_; (try clear hb); (try clear hb2); (try clear hk); (try clear hi)) | (go_at_call 20; (with_reducible refine (qanatlaw02_str.calls t458 t459 t474 t475 false _ A56.out).mono ?_); rintro e w65 ⟨rfl, hb⟩; have n0_ := Aside0.mk (below_step (by repeat (first | (with_reducible first | exact HB.out | apply below_alloc | apply pw_below_drewN | apply below_drew1) | exact HB.out)) hb); clear HB; have HB := n0_; clear n0_; (try clear hb); (try clear hb2); (try clear hk); (try clear hi)))
              go_ret
              exact ⟨by first | rfl | (simp [errW_none, errW_some] <;> rfl) | (simp [*, errW_none, errW_some] <;> rfl), by repeat (first | (with_reducible first | exact HB.out | apply below_alloc | apply pw_below_drewN | apply below_drew1) | exact HB.out)⟩
          · replace c54 := Bool.eq_false_iff.mpr c54
            subst c54
            have H1 : (some false) = some r := by rw [if_neg (show ¬ (false = true) by decide)] at H; exact H
            clear H
            have H := H1
            clear H1
            obtain rfl := Option.some.inj H
            go_wp2
            go_ret
            exact ⟨by first | rfl | (simp [errW_none, errW_some] <;> rfl) | (simp [*, errW_none, errW_some] <;> rfl), by repeat (first | (with_reducible first | exact HB.out | apply below_alloc | apply pw_below_drewN | apply below_drew1) | exact HB.out)⟩
        · replace c53 := Bool.eq_false_iff.mpr c53
          subst c53
          have H1 : (some false) = some r := by rw [if_neg (show ¬ (false = true) by decide)] at H; exact H
          clear H
          have H := H1
          clear H1
          obtain rfl := Option.some.inj H
          go_wp2
          go_ret
          exact ⟨by first | rfl | (simp [errW_none, errW_some] <;> rfl) | (simp [*, errW_none, errW_some] <;> rfl), by repeat (first | (with_reducible first | exact HB.out | apply below_alloc | apply pw_below_drewN | apply below_drew1) | exact HB.out)⟩

/-- THE ONE PURE STATEMENT of qanatlaw02_TextWords: yours. -/
def qanatlaw02_TextWords.Pure : Prop := ∀ (a0 : ByteArray) (a1 : Int) (a2 : Int), a0.size ≤ 140737488351232 → (Lit.int .i64 a1).wf = true → (Lit.int .i64 a2).wf = true → ∃ k, qanatlaw02_TextWords.f k a0 a1 a2 = some true
theorem qanatlaw02_TextWords.walk (P : qanatlaw02_TextWords.Pure) (a0 : ByteArray) (a1 : Int) (a2 : Int) (w : World) (hT : TabOK w) (w0 : a0.size ≤ 140737488351232) (w1 : (Lit.int .i64 a1).wf = true) (w2 : (Lit.int .i64 a2).wf = true) :
    Calls Tryz.prog 6 #[.string a0, .int .i64 a1, .int .i64 a2] w fun e w' => e = .returned (.bool true) ∧ Below w.heap.size w w' := by
  obtain ⟨k, h⟩ := P a0 a1 a2 w0 w1 w2
  refine (qanatlaw02_TextWords.calls k a0 a1 a2 true w hT h).mono ?_
  rintro e w' ⟨rfl, hd⟩
  exact ⟨rfl, hd⟩

end Go.Proofs.YtlekfhnlhdmekaaGreatDoor.T

/- The examples that each law checks first are as they should be. And the reference's out is made. -/
namespace Go.Proofs.YtlekfhnlhdmekaaGreatDoor.T
set_option linter.unusedSimpArgs false
set_option linter.unusedVariables false
open Go.RowKit Go.Proofs.YtlekfhnlhdmekaaGreatDoorW.PrintWords Go.Proofs.YtlekfhnlhdmekaaGreatDoorW.PrintLast Go.Proofs.YtlekfhnlhdmekaaGreatDoorW.PrintMore
theorem head_60 : qanatlaw02_head.f 60 = some true := by kernel_rfl
theorem head_ok : ∀ d, qanatlaw02_head.f (60 + d) = some true
  | 0 => head_60
  | d + 1 => qanatlaw02_head.mono (60 + d) _ (head_ok d)
theorem strOfNums_size (L : List Int) : (strOfNums L).size = L.length := by
  rw [← data_length]
  simp [strOfNums]
theorem bytesOf_str (L : List Int) (h : ∀ x ∈ L, 0 ≤ x ∧ x < 256) : bytesOf (strOfNums L) = L := by
  unfold bytesOf strOfNums
  simp only [List.map_map]
  conv => rhs; rw [← List.map_id L]
  apply List.map_congr_left
  intro x hx
  obtain ⟨h0, h1⟩ := h x hx
  simp only [Function.comp_apply, id_eq, UInt8.toNat_ofNat']
  omega
theorem strOfNums_bytes (s : ByteArray) : strOfNums (bytesOf s) = s := by
  have e : ((bytesOf s).map fun n : Int => UInt8.ofNat n.toNat) = s.data.toList := by
    unfold bytesOf
    rw [List.map_map]
    conv => rhs; rw [← List.map_id s.data.toList]
    apply List.map_congr_left
    intro x hx
    simp
  unfold strOfNums
  rw [e]
theorem made_eq (s : ByteArray) : text_made.f s = some (if s.size > 1000 then (⟨#[]⟩, 3) else if vld s = true then (s, 0) else (⟨#[]⟩, 8)) := by
  unfold text_made.f text_Valid.f
  by_cases h : s.size > 1000
  · rw [if_pos (by omega), if_pos h]
  · rw [if_neg (by omega), if_neg h]
    simp only [Option.bind_some]
    split <;> rfl
theorem made_out (L : List Int) (h : ∀ x ∈ L, 0 ≤ x ∧ x < 256) : text_made.f (strOfNums L) = qanatref02_out.f L := by
  rw [made_eq, qanatref02_out.f, strOfNums_size]
  by_cases hl : L.length > 1000
  · rw [if_pos hl, if_pos hl]
  · rw [if_neg hl, if_neg hl]
    have e : vld (strOfNums L) = L.all goodI := by
      unfold vld
      rw [strOfNums_size, bytesOf_str L h, decide_eq_true (show L.length ≤ 1000 by omega), Bool.true_and]
    rw [e]
theorem u8_rng (z : Int) : 0 ≤ IntKind.u8.wrap z ∧ IntKind.u8.wrap z < 256 := by
  simp only [IntKind.wrap, IntKind.bits, IntKind.signed]
  simp
  omega
end Go.Proofs.YtlekfhnlhdmekaaGreatDoor.T

/- The law TextWords: what the program and the reference compute is the same. -/
namespace Go.Proofs.YtlekfhnlhdmekaaGreatDoor.T
set_option linter.unusedSimpArgs false
set_option linter.unusedVariables false
open Go.RowKit Go.Proofs.YtlekfhnlhdmekaaGreatDoorW.PrintWords Go.Proofs.YtlekfhnlhdmekaaGreatDoorW.PrintLast Go.Proofs.YtlekfhnlhdmekaaGreatDoorW.PrintMore

def cv (x : S105) : S113 := ⟨x.f0, x.f1⟩
theorem wds_end (s : ByteArray) (i : Nat) (h : ¬ i < s.size) : wds s i = [] := by rw [wds, dif_neg h]
theorem wds_blank (s : ByteArray) (i : Nat) (h : i < s.size) (hb : bt s (i : Int) = 32) : wds s i = wds s (i + 1) := by rw [wds, dif_pos h, dif_pos hb]
theorem wds_word (s : ByteArray) (i : Nat) (h : i < s.size) (hb : bt s (i : Int) ≠ 32) : wds s i = ⟨(i : Int), (wend s i : Int)⟩ :: wds s (wend s i) := by rw [wds, dif_pos h, dif_neg hb]
theorem wend_stop (s : ByteArray) (i : Nat) (h : ¬ (i < s.size ∧ bt s (i : Int) ≠ 32)) : wend s i = i := by
  rw [wend]
  by_cases hi : i < s.size
  · rw [dif_pos hi, if_pos (Classical.byContradiction fun hb => h ⟨hi, hb⟩)]
  · rw [dif_neg hi]
theorem wend_next (s : ByteArray) (i : Nat) (h : i < s.size) (hb : bt s (i : Int) ≠ 32) : wend s i = wend s (i + 1) := by rw [wend, dif_pos h, if_neg hb]

theorem spans_ind (s : ByteArray) (hs : s.size ≤ 1200) : ∀ (d i : Nat), i ≤ s.size → s.size - i = d →
    (∀ (k : Nat) (L : List S113), 3 * d + 2 ≤ k → L.length + k < 8796093022208 → qanatref02_Spans.l0 k s L (i : Int) = some (L ++ (wds s i).map cv)) ∧
    (∀ (k : Nat) (L : List S113) (st : Int), 3 * d + 3 ≤ k → L.length + k < 8796093022208 → qanatref02_Spans.l1 k s L (i : Int) st = some (L ++ ⟨st, (wend s i : Int)⟩ :: (wds s (wend s i)).map cv))
  | d, i, hi, hd => by
    have A : ∀ (k : Nat) (L : List S113), 3 * d + 2 ≤ k → L.length + k < 8796093022208 → qanatref02_Spans.l0 k s L (i : Int) = some (L ++ (wds s i).map cv) := by
      intro k L hk hL
      obtain ⟨k, rfl⟩ : ∃ k', k = k' + 1 := ⟨k - 1, by omega⟩
      rw [qanatref02_Spans.l0]
      by_cases hlt : i < s.size
      · rw [if_pos (by omega), if_pos (by omega)]
        have IH := spans_ind s hs (d - 1) (i + 1) (by omega) (by omega)
        by_cases hb : bt s (i : Int) = 32
        · rw [if_pos hb, wrap64_id _ (by omega) (by omega), wds_blank s i hlt hb]
          have := IH.1 k L (by omega) (by omega)
          simpa using this
        · rw [if_neg hb]
          obtain ⟨k, rfl⟩ : ∃ k', k = k' + 1 := ⟨k - 1, by omega⟩
          rw [qanatref02_Spans.l1, if_pos (by omega), if_pos (by omega), if_neg hb, wrap64_id _ (by omega) (by omega), wds_word s i hlt hb, wend_next s i hlt hb]
          have := IH.2 k L (i : Int) (by omega) (by omega)
          rw [show ((i : Int) + 1) = ((i + 1 : Nat) : Int) by omega, this]
          simp [cv]
      · rw [if_neg (by omega), wds_end s i hlt]
        simp
    refine ⟨A, fun k L st hk hL => ?_⟩
    obtain ⟨k, rfl⟩ : ∃ k', k = k' + 1 := ⟨k - 1, by omega⟩
    rw [qanatref02_Spans.l1]
    by_cases hlt : i < s.size
    · rw [if_pos (by omega), if_pos (by omega)]
      by_cases hb : bt s (i : Int) = 32
      · rw [if_pos hb, if_pos (by omega), A k _ (by omega) (by simp; omega), wend_stop s i (fun h => h.2 hb)]
        simp
      · rw [if_neg hb, wrap64_id _ (by omega) (by omega), wend_next s i hlt hb]
        have IH := spans_ind s hs (d - 1) (i + 1) (by omega) (by omega)
        have := IH.2 k L st (by omega) (by omega)
        rw [show ((i : Int) + 1) = ((i + 1 : Nat) : Int) by omega, this]
    · rw [if_neg (by omega), if_pos (by omega), A k _ (by omega) (by simp; omega), wend_stop s i (fun h => hlt h.1)]
      simp
  termination_by d => d
  decreasing_by all_goals omega
theorem spans_eq (s : ByteArray) (hs : s.size ≤ 1200) (k : Nat) (hk : 3602 ≤ k) (hk2 : k ≤ 100000) : qanatref02_Spans.f k s = some ((wds s 0).map cv) := by
  unfold qanatref02_Spans.f
  have := (spans_ind s hs s.size 0 (by omega) (by omega)).1 k [] (by omega) (by simp; omega)
  simpa using this
theorem wds_mem (s : ByteArray) (i : Nat) (hi : i ≤ s.size) : ∀ x ∈ wds s i, (i : Int) ≤ x.f0 ∧ x.f0 < x.f1 ∧ x.f1 ≤ s.size := by
  by_cases h : i < s.size
  · by_cases hb : bt s (i : Int) = 32
    · rw [wds_blank s i h hb]
      intro x hx
      have := wds_mem s (i + 1) (by omega) x hx
      omega
    · rw [wds_word s i h hb]
      intro x hx
      have h1 := wend_gt s i h hb
      have h2 := wend_le s i hi
      rcases List.mem_cons.1 hx with rfl | hx
      · exact ⟨Int.le_refl _, by simp only; omega, by simp only; omega⟩
      · have := wds_mem s (wend s i) h2 x hx
        omega
  · rw [wds_end s i h]
    intro x hx; cases hx
termination_by s.size - i
theorem wds_pair (s : ByteArray) (i : Nat) (hi : i ≤ s.size) : (wds s i).Pairwise (fun a b => a.f1 ≤ b.f0) := by
  by_cases h : i < s.size
  · by_cases hb : bt s (i : Int) = 32
    · rw [wds_blank s i h hb]
      exact wds_pair s (i + 1) (by omega)
    · rw [wds_word s i h hb]
      have h1 := wend_gt s i h hb
      have h2 := wend_le s i hi
      refine List.pairwise_cons.2 ⟨fun x hx => ?_, wds_pair s (wend s i) h2⟩
      have := wds_mem s (wend s i) h2 x hx
      simp; omega
  · rw [wds_end s i h]
    exact List.Pairwise.nil
termination_by s.size - i
theorem rd_mem (l : List S105) (i : Int) (h0 : 0 ≤ i) (h1 : i < l.length) : rd_T105 l i ∈ l := by
  have h : i.toNat < l.length := by omega
  unfold rd_T105
  rw [List.getD_eq_getElem?_getD, List.getElem?_eq_getElem h]
  exact List.getElem_mem h
theorem rd_cv (l : List S105) (i : Int) (h0 : 0 ≤ i) (h1 : i < l.length) : rd_T113 (l.map cv) i = cv (rd_T105 l i) := by
  have h : i.toNat < l.length := by omega
  unfold rd_T113 rd_T105
  rw [List.getD_eq_getElem?_getD, List.getD_eq_getElem?_getD, List.getElem?_map, List.getElem?_eq_getElem h]
  rfl
theorem rd_ok (s : ByteArray) (i : Int) (h0 : 0 ≤ i) (h1 : i < (wds s 0).length) : 0 ≤ (rd_T105 (wds s 0) i).f0 ∧ (rd_T105 (wds s 0) i).f0 < (rd_T105 (wds s 0) i).f1 ∧ (rd_T105 (wds s 0) i).f1 ≤ s.size :=
  wds_mem s 0 (by omega) _ (rd_mem _ i h0 h1)
theorem rd_le (s : ByteArray) (i j : Int) (h0 : 0 ≤ i) (hij : i ≤ j) (h1 : j < (wds s 0).length) : (rd_T105 (wds s 0) i).f0 < (rd_T105 (wds s 0) j).f1 := by
  by_cases e : i = j
  · subst e; exact (rd_ok s i h0 h1).2.1
  · have a := rd_ok s i h0 (by omega)
    have b := rd_ok s j (by omega) h1
    have p := List.pairwise_iff_getElem.1 (wds_pair s 0 (by omega)) i.toNat j.toNat (by omega) (by omega) (by omega)
    have e1 : rd_T105 (wds s 0) i = (wds s 0)[i.toNat]'(by omega) := by
      unfold rd_T105
      rw [List.getD_eq_getElem?_getD, List.getElem?_eq_getElem (by omega)]; rfl
    have e2 : rd_T105 (wds s 0) j = (wds s 0)[j.toNat]'(by omega) := by
      unfold rd_T105
      rw [List.getD_eq_getElem?_getD, List.getElem?_eq_getElem (by omega)]; rfl
    rw [← e1, ← e2] at p
    omega
theorem len_le (s : ByteArray) : (wds s 0).length ≤ s.size := wds_length s 0

theorem first3 (b c d : Prop) [Decidable b] [Decidable c] [Decidable d] : text_first.f [if b then 0 else 1, if c then 0 else 1, if d then 0 else 1] = some (if b ∧ c ∧ d then 0 else 1) := by
  by_cases h1 : b <;> by_cases h2 : c <;> by_cases h3 : d <;> simp [h1, h2, h3] <;> rfl
theorem first2' (b c : Prop) [Decidable b] [Decidable c] : text_first.f [if b then 0 else 1, if c then 0 else 1] = some (if b ∧ c then 0 else 1) := by
  by_cases h1 : b <;> by_cases h2 : c <;> simp [h1, h2] <;> rfl
theorem words_f (s : ByteArray) (hs : s.size ≤ 1200) : text_words.f s = some (wds s 0) := by
  unfold text_words.f
  rw [if_pos (by omega)]
theorem valid1 (s : ByteArray) : text_valid.f [s] = some (if vld s = true then 0 else 1) := by
  unfold text_valid.f
  by_cases h : vld s = true <;> simp [h]
theorem least1 (n x : Int) : text_least.f n [x] = some (if n ≤ x then 0 else 1) := by
  unfold text_least.f
  by_cases h : n ≤ x <;> simp [h]
theorem nth_eq (s : ByteArray) (n : Int) (hs : s.size ≤ 1200) (hn : n ≤ 9223372036854775807) : text_nth.f s n =
    some (if vld s = true ∧ 1 ≤ n then (if n > ((wds s 0).length : Int) then (0, 0, 0) else ((rd_T105 (wds s 0) (n - 1)).f0, (rd_T105 (wds s 0) (n - 1)).f1, 0)) else (0, 0, 1)) := by
  unfold text_nth.f
  simp only [valid1, least1, Option.bind_some, first2']
  by_cases h : vld s = true ∧ 1 ≤ n
  · rw [if_pos h, if_pos rfl, if_pos h, words_f s hs]
    simp only [Option.bind_some]
    have := len_le s
    by_cases hl : n > ((wds s 0).length : Int)
    · rw [if_pos hl, if_pos hl]
    · rw [if_neg hl, if_neg hl, wrap64_id _ (by omega) (by omega), if_pos (by omega), if_pos (by omega)]
  · rw [if_neg h, if_neg (by decide), if_neg h]
theorem whole1 (n : Int) : qanatref02_whole.f n 1 false = some (decide (1 ≤ n)) := by
  unfold qanatref02_whole.f
  by_cases h : 1 ≤ n
  · rw [if_pos (by omega)]; simp [h]
  · rw [if_neg (by omega)]; simp [h]
theorem whole0 (n : Int) : qanatref02_whole.f n 0 true = some (decide (-1 ≤ n)) := by
  unfold qanatref02_whole.f
  by_cases h : 0 ≤ n
  · rw [if_pos (by omega)]; simp; omega
  · rw [if_neg (by omega), if_pos rfl]
    by_cases e : n = -1
    · subst e; rfl
    · rw [show (n == -1) = false from beq_eq_false_iff_ne.mpr e, show decide (-1 ≤ n) = false from decide_eq_false (by omega)]
theorem word_eq (s : ByteArray) (n : Int) (hs : s.size ≤ 1200) (h1 : 1 ≤ n) (hn : n ≤ 9223372036854775807) (k : Nat) (hk : 3602 ≤ k) (hk2 : k ≤ 100000) : qanatref02_word.f k s n =
    some (if n > ((wds s 0).length : Int) then (0, 0, false) else ((rd_T105 (wds s 0) (n - 1)).f0, (rd_T105 (wds s 0) (n - 1)).f1, true)) := by
  unfold qanatref02_word.f
  rw [spans_eq s hs k hk hk2]
  have := len_le s
  simp only [Option.bind_some, List.length_map]
  by_cases hl : n > ((wds s 0).length : Int)
  · rw [if_pos hl, if_pos hl]
  · rw [if_neg hl, if_neg hl, wrap64_id _ (by omega) (by omega), if_pos (by omega), if_pos (by omega), rd_cv _ _ (by omega) (by omega)]
    rfl
theorem str_same (s : ByteArray) (e : Int) : qanatlaw02_str.f s e s e = some true := by
  unfold qanatlaw02_str.f
  rw [if_pos rfl]
  simp
theorem num_same (n e : Int) : qanatlaw02_num.f n e n e = some true := by
  unfold qanatlaw02_num.f
  rw [if_pos rfl]
  simp
theorem words_agree (s : ByteArray) (hs : s.size ≤ 1200) (k : Nat) (hk : 3602 ≤ k) (hk2 : k ≤ 100000) : ∃ v e, text_Words.f s = some (v, e) ∧ qanatref02_Words.f k s = some (v, e) := by
  unfold text_Words.f qanatref02_Words.f qanatref02_Valid.f
  simp only [valid1, Option.bind_some, words_f s hs, spans_eq s hs k hk hk2]
  by_cases h : vld s = true
  · rw [if_pos h, if_pos rfl, if_pos h]
    exact ⟨_, _, rfl, by simp⟩
  · rw [if_neg h, if_neg (by decide), if_neg h]
    exact ⟨_, _, rfl, rfl⟩
theorem empty_ex (s : ByteArray) : s.extract (0 : Int).toNat (0 : Int).toNat = ⟨#[]⟩ := by
  apply ByteArray.ext
  simp
theorem nth_err (s : ByteArray) (n : Int) (hs : s.size ≤ 1200) (hn : n ≤ 9223372036854775807) (h : ¬ (vld s = true ∧ 1 ≤ n)) : text_nth.f s n = some (0, 0, 1) := by rw [nth_eq s n hs hn, if_neg h]
theorem nth_out (s : ByteArray) (n : Int) (hs : s.size ≤ 1200) (hn : n ≤ 9223372036854775807) (h : vld s = true ∧ 1 ≤ n) (hl : n > ((wds s 0).length : Int)) : text_nth.f s n = some (0, 0, 0) := by rw [nth_eq s n hs hn, if_pos h, if_pos hl]
theorem nth_in (s : ByteArray) (n : Int) (hs : s.size ≤ 1200) (hn : n ≤ 9223372036854775807) (h : vld s = true ∧ 1 ≤ n) (hl : ¬ n > ((wds s 0).length : Int)) : text_nth.f s n = some ((rd_T105 (wds s 0) (n - 1)).f0, (rd_T105 (wds s 0) (n - 1)).f1, 0) := by rw [nth_eq s n hs hn, if_pos h, if_neg hl]
theorem whole1_no (s : ByteArray) (n : Int) (hv : vld s = true) (h : ¬ (vld s = true ∧ 1 ≤ n)) : decide (1 ≤ n) = false := decide_eq_false (fun h1 => h ⟨hv, h1⟩)
theorem Word_agree (s : ByteArray) (n : Int) (hs : s.size ≤ 1200) (hn : n ≤ 9223372036854775807) (k : Nat) (hk : 3603 ≤ k) (hk2 : k ≤ 100000) : ∃ v e, text_Word.f s n = some (v, e) ∧ qanatref02_Word.f k s n = some (v, e) := by
  obtain ⟨k, rfl⟩ : ∃ k', k = k' + 1 := ⟨k - 1, by omega⟩
  unfold text_Word.f qanatref02_Word.f qanatref02_Valid.f
  simp only [Option.bind_some, whole1]
  by_cases h : vld s = true ∧ 1 ≤ n
  · have h1 := h.2
    rw [if_pos h.1, decide_eq_true h1]
    simp only [Bool.not_true]
    rw [qanatref02_Word.j0, if_neg (by decide), word_eq s n hs h1 hn k (by omega) (by omega)]
    simp only [Option.bind_some]
    by_cases hl : n > ((wds s 0).length : Int)
    · rw [if_pos hl, nth_out s n hs hn h hl]
      refine ⟨s.extract (0 : Int).toNat (0 : Int).toNat, 0, ?_, ?_⟩
      · simp only [Option.bind_some, if_true]
        rw [if_pos (by omega), if_pos (by omega), if_pos (by omega)]
      · rw [if_neg (by decide), empty_ex]
    · rw [if_neg hl, nth_in s n hs hn h hl]
      obtain ⟨a, b, c⟩ := rd_ok s (n - 1) (by omega) (by omega)
      simp only [Option.bind_some, if_true]
      rw [if_pos a, if_pos (by omega), if_pos c]
      exact ⟨_, _, rfl, rfl⟩
  · rw [nth_err s n hs hn h]
    have hj : ∀ b : Bool, b = true → qanatref02_Word.j0 (k + 1) s n b = some (⟨#[]⟩, 1) := fun b hb => by rw [qanatref02_Word.j0, if_pos hb]
    refine ⟨⟨#[]⟩, 1, ?_, ?_⟩
    · simp only [Option.bind_some]
      rw [if_neg (by decide)]
    · by_cases hv : vld s = true
      · rw [if_pos hv, whole1_no s n hv h, hj (!false) rfl]
      · rw [if_neg hv, hj _ rfl]
theorem WordIndex_agree (s : ByteArray) (n : Int) (hs : s.size ≤ 1200) (hn : n ≤ 9223372036854775807) (k : Nat) (hk : 3603 ≤ k) (hk2 : k ≤ 100000) : ∃ v e, text_WordIndex.f s n = some (v, e) ∧ qanatref02_WordIndex.f k s n = some (v, e) := by
  obtain ⟨k, rfl⟩ : ∃ k', k = k' + 1 := ⟨k - 1, by omega⟩
  unfold text_WordIndex.f qanatref02_WordIndex.f qanatref02_Valid.f
  simp only [Option.bind_some, whole1]
  by_cases h : vld s = true ∧ 1 ≤ n
  · have h1 := h.2
    rw [if_pos h.1, decide_eq_true h1]
    simp only [Bool.not_true]
    rw [qanatref02_WordIndex.j0, if_neg (by decide), word_eq s n hs h1 hn k (by omega) (by omega)]
    simp only [Option.bind_some]
    by_cases hl : n > ((wds s 0).length : Int)
    · rw [if_pos hl, nth_out s n hs hn h hl]
      simp only [Option.bind_some, if_true]
      rw [if_neg (by decide)]
      exact ⟨_, _, rfl, rfl⟩
    · rw [if_neg hl, nth_in s n hs hn h hl]
      obtain ⟨a, b, c⟩ := rd_ok s (n - 1) (by omega) (by omega)
      simp only [Option.bind_some, if_true]
      rw [if_neg (by omega)]
      exact ⟨_, _, rfl, rfl⟩
  · rw [nth_err s n hs hn h]
    have hj : ∀ b : Bool, b = true → qanatref02_WordIndex.j0 (k + 1) s n b = some (0, 1) := fun b hb => by rw [qanatref02_WordIndex.j0, if_pos hb]
    refine ⟨0, 1, ?_, ?_⟩
    · simp only [Option.bind_some, if_true]
    · by_cases hv : vld s = true
      · rw [if_pos hv, whole1_no s n hv h, hj (!false) rfl]
      · rw [if_neg hv, hj _ rfl]
theorem WordLength_agree (s : ByteArray) (n : Int) (hs : s.size ≤ 1200) (hn : n ≤ 9223372036854775807) (k : Nat) (hk : 3603 ≤ k) (hk2 : k ≤ 100000) : ∃ v e, text_WordLength.f s n = some (v, e) ∧ qanatref02_WordLength.f k s n = some (v, e) := by
  unfold text_WordLength.f qanatref02_WordLength.f qanatref02_Valid.f
  simp only [Option.bind_some, whole1]
  by_cases h : vld s = true ∧ 1 ≤ n
  · have h1 := h.2
    rw [if_pos h.1, decide_eq_true h1, if_pos rfl, word_eq s n hs h1 hn k (by omega) (by omega)]
    by_cases hl : n > ((wds s 0).length : Int)
    · rw [if_pos hl, nth_out s n hs hn h hl]
      exact ⟨_, _, rfl, rfl⟩
    · rw [if_neg hl, nth_in s n hs hn h hl]
      exact ⟨_, _, rfl, rfl⟩
  · rw [nth_err s n hs hn h]
    refine ⟨wrap64 (0 - 0), 1, rfl, ?_⟩
    rw [wrap64_id (0 - 0) (by omega) (by omega)]
    by_cases hv : vld s = true
    · rw [if_pos hv, whole1_no s n hv h, if_neg (by decide)]
      rfl
    · rw [if_neg hv]
      rfl
theorem spanLast_rng (len : Nat) (n m : Int) (h1 : 1 ≤ n) (hl : n ≤ len) (hm : m = -1 ∨ 1 ≤ m) : n ≤ spanLast len n m ∧ spanLast len n m ≤ len := by
  unfold spanLast
  split
  · omega
  · split <;> split <;> omega
theorem span_eq (s : ByteArray) (n m : Int) (hs : s.size ≤ 1200) (h1 : 1 ≤ n) (hm : -1 ≤ m) : text_span.f s n m =
    some (if m = 0 ∨ ((wds s 0).length : Int) < n then (0, 0) else ((rd_T105 (wds s 0) (n - 1)).f0, (rd_T105 (wds s 0) (spanLast (wds s 0).length n m - 1)).f1)) := by
  have := len_le s
  unfold text_span.f
  rw [words_f s hs]
  simp only [Option.bind_some]
  have c : 1 ≤ n ∧ -1 ≤ m ∧ (wds s 0).length ≤ 100000 := ⟨h1, hm, by omega⟩
  rw [if_pos c]
  split <;> rfl
theorem some_eq (s : ByteArray) (n m : Int) (hs : s.size ≤ 1200) (h1 : 1 ≤ n) (hn : n ≤ 9223372036854775807) (hm : -1 ≤ m) (hm2 : m ≤ 9223372036854775807) (k : Nat) (hk : 3603 ≤ k) (hk2 : k ≤ 100000) : qanatref02_some.f k s n m =
    some (if m = 0 ∨ ((wds s 0).length : Int) < n then (0, 0, false) else ((rd_T105 (wds s 0) (n - 1)).f0, (rd_T105 (wds s 0) (spanLast (wds s 0).length n m - 1)).f1, true)) := by
  have hlen := len_le s
  obtain ⟨k, rfl⟩ : ∃ k', k = k' + 1 := ⟨k - 1, by omega⟩
  unfold qanatref02_some.f
  rw [spans_eq s hs (k + 1) (by omega) hk2]
  simp only [Option.bind_some, List.length_map]
  by_cases hl : n > ((wds s 0).length : Int)
  · rw [if_pos hl, if_pos (.inr (by omega)), qanatref02_some.j0, if_pos rfl]
  · rw [if_neg hl]
    by_cases h0 : m = 0
    · rw [if_pos (.inl h0), qanatref02_some.j0, if_pos (by simp [h0])]
    · rw [if_neg (by omega), qanatref02_some.j0, if_neg (by simpa using h0)]
      simp only [List.length_map]
      by_cases hm1 : m = -1
      · rw [if_pos hm1]
        have e : spanLast (wds s 0).length n m = ((wds s 0).length : Int) := by simp [spanLast, hm1]
        rw [e, wrap64_id (n - 1) (by omega) (by omega), wrap64_id (((wds s 0).length : Int) - 1) (by omega) (by omega), if_pos (by omega), if_pos (by omega), if_pos (by omega), if_pos (by omega),
          rd_cv _ _ (by omega) (by omega), rd_cv _ _ (by omega) (by omega)]
        rfl
      · rw [if_neg hm1, wrap64_id (((wds s 0).length : Int) - n) (by omega) (by omega), wrap64_id (((wds s 0).length : Int) - n + 1) (by omega) (by omega)]
        by_cases hc : m < ((wds s 0).length : Int) - n + 1
        · have e : spanLast (wds s 0).length n m = n - 1 + m := by
            unfold spanLast
            rw [if_neg hm1, if_neg (show ¬ ((wds s 0).length : Int) < m by omega), if_pos (by omega)]
          rw [if_pos hc, e, wrap64_id (n - 1) (by omega) (by omega), wrap64_id (n + m) (by omega) (by omega), wrap64_id (n + m - 1) (by omega) (by omega), wrap64_id (n + m - 1 - 1) (by omega) (by omega),
            if_pos (by omega), if_pos (by omega), if_pos (by omega), if_pos (by omega), rd_cv _ _ (by omega) (by omega), rd_cv _ _ (by omega) (by omega), show n + m - 1 - 1 = n - 1 + m - 1 by omega]
          rfl
        · have e : spanLast (wds s 0).length n m = ((wds s 0).length : Int) := by
            unfold spanLast
            rw [if_neg hm1, if_neg (by split <;> omega)]
          rw [if_neg hc, e, wrap64_id (n - 1) (by omega) (by omega), wrap64_id (((wds s 0).length : Int) - 1) (by omega) (by omega), if_pos (by omega), if_pos (by omega), if_pos (by omega), if_pos (by omega),
            rd_cv _ _ (by omega) (by omega), rd_cv _ _ (by omega) (by omega)]
          rfl
theorem Subword_agree (s : ByteArray) (n m : Int) (hs : s.size ≤ 1200) (hn : n ≤ 9223372036854775807) (hm2 : m ≤ 9223372036854775807) (k : Nat) (hk : 3604 ≤ k) (hk2 : k ≤ 100000) : ∃ v e, text_Subword.f s n m = some (v, e) ∧ qanatref02_Subword.f k s n m = some (v, e) := by
  unfold text_Subword.f qanatref02_Subword.f qanatref02_Valid.f
  simp only [valid1, least1, Option.bind_some, first3, whole1, whole0]
  by_cases h : vld s = true ∧ 1 ≤ n ∧ -1 ≤ m
  · have hc0 : (if vld s = true ∧ 1 ≤ n ∧ -1 ≤ m then (0 : Int) else 1) = 0 := if_pos h
    obtain ⟨hv, h1, hm⟩ := h
    rw [if_pos hc0, if_pos hv, if_pos (decide_eq_true h1), if_pos (decide_eq_true hm), span_eq s n m hs h1 hm, some_eq s n m hs h1 hn hm hm2 k (by omega) hk2]
    simp only [Option.bind_some]
    by_cases hc : m = 0 ∨ ((wds s 0).length : Int) < n
    · rw [if_pos hc, if_pos hc]
      refine ⟨s.extract (0 : Int).toNat (0 : Int).toNat, 0, ?_, ?_⟩
      · dsimp only
        rw [if_pos (by omega), if_pos (by omega), if_pos (by omega)]
      · dsimp only
        rw [if_pos (by omega), if_pos (by omega), if_pos (by omega)]
    · rw [if_neg hc, if_neg hc]
      have hr := spanLast_rng (wds s 0).length n m h1 (by omega) (by omega)
      have a := rd_ok s (n - 1) (by omega) (by omega)
      have b := rd_ok s (spanLast (wds s 0).length n m - 1) (by omega) (by omega)
      have c := rd_le s (n - 1) (spanLast (wds s 0).length n m - 1) (by omega) (by omega) (by omega)
      simp only
      rw [if_pos a.1, if_pos (by omega), if_pos b.2.2]
      exact ⟨_, _, rfl, rfl⟩
  · have hc0 : (if vld s = true ∧ 1 ≤ n ∧ -1 ≤ m then (0 : Int) else 1) = 1 := if_neg h
    rw [hc0, if_neg (by decide)]
    refine ⟨⟨#[]⟩, 1, rfl, ?_⟩
    by_cases hv : vld s = true
    · rw [if_pos hv]
      by_cases h1 : 1 ≤ n
      · rw [if_pos (decide_eq_true h1), show decide (-1 ≤ m) = false from decide_eq_false (fun hm => h ⟨hv, h1, hm⟩), if_neg (by decide)]
      · rw [if_neg (by simpa using h1)]
    · rw [if_neg hv]
theorem drop_list (s : ByteArray) (j : Nat) : (s.extract j s.size).data.toList = s.data.toList.drop j := by
  rw [ByteArray.data_extract, Array.toList_extract]
  have e : s.size = s.data.toList.length := (data_length s).symm
  rw [e]
  simp
  apply List.take_of_length_le
  rw [List.length_drop]
  omega
theorem ba_ext {a b : ByteArray} (h : a.data.toList = b.data.toList) : a = b := by
  apply ByteArray.ext
  exact Array.toList_inj.1 h
theorem trim_skip (s : ByteArray) (j : Nat) (hj : j < s.size) (hb : bt s (j : Int) = 32) : Lib.trimLeftB (s.extract j s.size).data.toList 32 = Lib.trimLeftB (s.extract (j + 1) s.size).data.toList 32 := by
  have hl : j < s.data.toList.length := by rw [data_length]; exact hj
  rw [drop_list, drop_list, List.drop_eq_getElem_cons hl]
  unfold Lib.trimLeftB
  have hx : s.data.toList[j] = 32 := by
    rw [bt_getD s j hj] at hb
    simp [bytesOf, List.getD_eq_getElem?_getD, List.getElem?_eq_getElem hl] at hb
    apply UInt8.toNat_inj.1
    have h2 : (s.data[j].toNat : Int) = 32 := by simpa using hb
    have h3 : s.data[j].toNat = 32 := by omega
    simpa using h3
  rw [List.dropWhile_cons, if_pos (by rw [hx]; rfl)]
theorem trim_stop (s : ByteArray) (j : Nat) (h : ¬ (j < s.size ∧ bt s (j : Int) = 32)) : (⟨(Lib.trimLeftB (s.extract j s.size).data.toList 32).toArray⟩ : ByteArray) = s.extract j s.size := by
  apply ba_ext
  simp only
  rw [drop_list]
  unfold Lib.trimLeftB
  by_cases hj : j < s.size
  · have hl : j < s.data.toList.length := by rw [data_length]; exact hj
    rw [List.drop_eq_getElem_cons hl, List.dropWhile_cons, if_neg]
    intro hx
    apply h
    refine ⟨hj, ?_⟩
    have hx : s.data.toList[j] = 32 := by simpa using hx
    rw [bt_getD s j hj]
    simp [bytesOf, List.getD_eq_getElem?_getD, List.getElem?_eq_getElem hl, hx]
  · rw [List.drop_eq_nil_of_le (by rw [data_length]; omega)]
    rfl
theorem del_l0 (s : ByteArray) (hs : s.size ≤ 1200) (f : Int) (hf0 : 0 ≤ f) (hf1 : f ≤ s.size) (z : Int) : ∀ (d j k : Nat), j ≤ s.size → s.size - j = d → d + 1 ≤ k →
    qanatref02_DelWord.l0 k s (j : Int) f z = some (s.extract 0 f.toNat ++ ⟨(Lib.trimLeftB (s.extract j s.size).data.toList 32).toArray⟩, 0)
  | d, j, k, hj, hd, hk => by
    obtain ⟨k, rfl⟩ : ∃ k', k = k' + 1 := ⟨k - 1, by omega⟩
    have hsz : (s.extract 0 f.toNat).size + (s.extract (j : Int).toNat s.size).size ≤ 9223372036854775807 := by
      rw [ByteArray.size_extract, ByteArray.size_extract]; omega
    rw [qanatref02_DelWord.l0]
    by_cases hlt : j < s.size
    · rw [if_pos (by omega), if_pos (by omega)]
      by_cases hb : bt s (j : Int) = 32
      · rw [if_pos hb, wrap64_id _ (by omega) (by omega), trim_skip s j hlt hb]
        have := del_l0 s hs f hf0 hf1 z (d - 1) (j + 1) k (by omega) (by omega) (by omega)
        rw [show ((j : Int) + 1) = ((j + 1 : Nat) : Int) by omega]
        exact this
      · rw [if_neg hb, if_pos hf0, if_pos hf1, if_pos (by omega), if_pos hsz, trim_stop s j (fun h => hb h.2)]
        rfl
    · rw [if_neg (by omega), if_pos hf0, if_pos hf1, if_pos (by omega), if_pos (by omega), if_pos hsz, trim_stop s j (fun h => hlt h.1)]
      rfl
  termination_by d => d
  decreasing_by all_goals omega
theorem DelWord_agree (s : ByteArray) (n m : Int) (hs : s.size ≤ 1200) (hn : n ≤ 9223372036854775807) (hm2 : m ≤ 9223372036854775807) (k : Nat) (hk : 3606 ≤ k) (hk2 : k ≤ 100000) : ∃ v e, text_DelWord.f s n m = some (v, e) ∧ qanatref02_DelWord.f k s n m = some (v, e) := by
  obtain ⟨k, rfl⟩ : ∃ k', k = k' + 1 := ⟨k - 1, by omega⟩
  unfold text_DelWord.f qanatref02_DelWord.f qanatref02_Valid.f
  simp only [valid1, least1, Option.bind_some, first3, whole1, whole0]
  have hj : ∀ b : Bool, b = true → qanatref02_DelWord.j0 (k + 1) s n m b = some (⟨#[]⟩, 1) := fun b hb => by rw [qanatref02_DelWord.j0, if_pos hb]
  by_cases h : vld s = true ∧ 1 ≤ n ∧ -1 ≤ m
  · have hc0 : (if vld s = true ∧ 1 ≤ n ∧ -1 ≤ m then (0 : Int) else 1) = 0 := if_pos h
    obtain ⟨hv, h1, hm⟩ := h
    rw [if_pos hc0, if_pos hv, if_pos (decide_eq_true h1), decide_eq_true hm, span_eq s n m hs h1 hm]
    simp only [Bool.not_true]
    rw [qanatref02_DelWord.j0, if_neg (show ¬ (false = true) by decide), some_eq s n m hs h1 hn hm hm2 k (by omega) (by omega)]
    simp only [Option.bind_some]
    by_cases hc : m = 0 ∨ ((wds s 0).length : Int) < n
    · rw [if_pos hc, if_pos hc]
      exact ⟨s, 0, by simp, by simp⟩
    · rw [if_neg hc, if_neg hc]
      have hr := spanLast_rng (wds s 0).length n m h1 (by omega) (by omega)
      have a := rd_ok s (n - 1) (by omega) (by omega)
      have b := rd_ok s (spanLast (wds s 0).length n m - 1) (by omega) (by omega)
      have c := rd_le s (n - 1) (spanLast (wds s 0).length n m - 1) (by omega) (by omega) (by omega)
      generalize (rd_T105 (wds s 0) (n - 1)).f0 = f at a c
      generalize (rd_T105 (wds s 0) (spanLast (wds s 0).length n m - 1)).f1 = g at b c
      obtain ⟨j, rfl⟩ := Int.eq_ofNat_of_zero_le (show 0 ≤ g by omega)
      simp only [if_true]
      rw [del_l0 s hs f a.1 (by omega) (j : Int) (s.size - j) j k (by omega) rfl (by omega)]
      have hT : strings_TrimLeft.f (s.extract (j : Int).toNat s.size) (⟨#[32]⟩ : ByteArray) = some ⟨(Lib.trimLeftB (s.extract j s.size).data.toList 32).toArray⟩ := by
        unfold strings_TrimLeft.f
        simp
      have hsz : (s.extract 0 f.toNat).size + (⟨(Lib.trimLeftB (s.extract j s.size).data.toList 32).toArray⟩ : ByteArray).size ≤ 9223372036854775807 := by
        have h1 : (Lib.trimLeftB (s.extract j s.size).data.toList 32).length ≤ (s.extract j s.size).data.toList.length := by
          unfold Lib.trimLeftB
          exact (List.dropWhile_suffix _).length_le
        have h2 : (s.extract j s.size).data.toList.length ≤ s.size := by
          rw [data_length, ByteArray.size_extract]; omega
        have h3 : (⟨(Lib.trimLeftB (s.extract j s.size).data.toList 32).toArray⟩ : ByteArray).size = (Lib.trimLeftB (s.extract j s.size).data.toList 32).length := by
          rw [← data_length]
        rw [h3, ByteArray.size_extract]
        omega
      rw [if_neg (by omega), if_pos a.1, if_pos (by omega), if_pos (by omega), if_pos (by omega), hT]
      simp only [Option.bind_some]
      rw [if_pos hsz]
      exact ⟨_, _, rfl, rfl⟩
  · have hc0 : (if vld s = true ∧ 1 ≤ n ∧ -1 ≤ m then (0 : Int) else 1) = 1 := if_neg h
    rw [hc0, if_neg (by decide)]
    refine ⟨⟨#[]⟩, 1, rfl, ?_⟩
    by_cases hv : vld s = true
    · rw [if_pos hv]
      by_cases h1 : 1 ≤ n
      · rw [if_pos (decide_eq_true h1), show decide (-1 ≤ m) = false from decide_eq_false (fun hm => h ⟨hv, h1, hm⟩), hj (!false) rfl]
      · rw [if_neg (by simpa using h1), hj _ rfl]
    · rw [if_neg hv, hj _ rfl]
theorem i64_of_wf {x : Int} (h : (Lit.int .i64 x).wf = true) : x ≤ 9223372036854775807 := by
  simp [Lit.wf, IntKind.min, IntKind.max, IntKind.bits, IntKind.signed] at h
  omega
theorem words_pure : qanatlaw02_TextWords.Pure := by
  intro s n m _ w1 w2
  have hn := i64_of_wf w1
  have hm := i64_of_wf w2
  refine ⟨60 + 4940, ?_⟩
  unfold qanatlaw02_TextWords.f
  rw [head_ok 4940]
  simp only [Option.bind_some, qanatlaw02_long.f]
  by_cases h0 : (s.size : Int) > 1200
  · rw [if_pos (decide_eq_true h0)]
  · rw [if_neg (by simp; omega)]
    obtain ⟨v1, e1, a1, b1⟩ := words_agree s (by omega) 5000 (by omega) (by omega)
    obtain ⟨v2, e2, a2, b2⟩ := Word_agree s n (by omega) hn 5000 (by omega) (by omega)
    obtain ⟨v3, e3, a3, b3⟩ := WordIndex_agree s n (by omega) hn 5000 (by omega) (by omega)
    obtain ⟨v4, e4, a4, b4⟩ := WordLength_agree s n (by omega) hn 5000 (by omega) (by omega)
    obtain ⟨v5, e5, a5, b5⟩ := Subword_agree s n m (by omega) hn hm 4999 (by omega) (by omega)
    obtain ⟨v6, e6, a6, b6⟩ := DelWord_agree s n m (by omega) hn hm 4999 (by omega) (by omega)
    rw [show 60 + 4940 = 4999 + 1 from rfl]
    simp only [a1, a2, a3, a4, a5, a6, b1, b2, b3, b4, Option.bind_some, str_same, num_same, if_true]
    rw [qanatlaw02_TextWords.j0]
    simp only [if_true, b5, b6, Option.bind_some, str_same]
end Go.Proofs.YtlekfhnlhdmekaaGreatDoor.T
