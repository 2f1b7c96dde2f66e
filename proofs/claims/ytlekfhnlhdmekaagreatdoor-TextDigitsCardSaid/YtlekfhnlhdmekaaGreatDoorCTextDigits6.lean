/- Part 6 of the proof of TextDigits: the functions that it calls return what their plain descriptions say. -/
import Derived.Test.YtlekfhnlhdmekaaGreatDoorCTextDigits2
import Derived.Test.YtlekfhnlhdmekaaGreatDoorCTextDigits5
import Derived.Test.YtlekfhnlhdmekaaGreatDoorCTextDigits4
import Derived.Test.YtlekfhnlhdmekaaGreatDoorCTextDigits3
import Derived.Shelf.Strings.FieldsAny
import Derived.Lib.Join
import Derived.Lib.TrimByte

-- Written by a program of this session (mp.py over the kit's print.py), out of the translation.
namespace Go.Proofs.YtlekfhnlhdmekaaGreatDoor.T
set_option linter.unusedSimpArgs false
open Go.RowKit Go.Proofs.YtlekfhnlhdmekaaGreatDoorW.PrintWords Go.Proofs.YtlekfhnlhdmekaaGreatDoorW.PrintLast Go.Proofs.YtlekfhnlhdmekaaGreatDoorW.PrintMore
attribute [local go_sem] max2_int min2_int max_two min_two max_three min_three max_four min_four   -- for this text's walks alone
set_option linter.unusedVariables false
set_option linter.unusedSimpArgs false

/-! ### qanatref02_B2X: function 82 -/
mutual
def qanatref02_B2X.j0 : Nat → List Int → Bool → Option (ByteArray × Int)
  | 0, _, _ => none
  | k + 1, x3, x18 => if x18 = true then (some ((⟨#[]⟩ : ByteArray), 1)) else (qanatref02_B2X.l0 k x3)
def qanatref02_B2X.l0 : Nat → List Int → Option (ByteArray × Int)
  | 0, _ => none
  | k + 1, x3 => if ((x3.length : Int) % 4) = 0 then (qanatref02_B2X.l1 k x3 ([] : List Int) 0) else ((some (([0] : List Int) : List Int)).bind fun y937 => (if y937.length + x3.length < 17592186044416 then (qanatref02_B2X.l0 k (y937 ++ x3)) else (none)))
def qanatref02_B2X.l1 : Nat → List Int → List Int → Int → Option (ByteArray × Int)
  | 0, _, _, _ => none
  | k + 1, x3, x5, x6 => if x6 < (x3.length : Int) then (if 0 ≤ x6 then (if 0 ≤ (wrap64 (x6 + 1)) then (if (wrap64 (x6 + 1)) < (x3.length : Int) then (if 0 ≤ (wrap64 (x6 + 2)) then (if (wrap64 (x6 + 2)) < (x3.length : Int) then (if 0 ≤ (wrap64 (x6 + 3)) then (if (wrap64 (x6 + 3)) < (x3.length : Int) then (if 0 ≤ (wrap64 ((wrap64 ((wrap64 ((wrap64 (8 * (rd x3 x6))) + (wrap64 (4 * (rd x3 (wrap64 (x6 + 1))))))) + (wrap64 (2 * (rd x3 (wrap64 (x6 + 2))))))) + (rd x3 (wrap64 (x6 + 3))))) then (if (wrap64 ((wrap64 ((wrap64 ((wrap64 (8 * (rd x3 x6))) + (wrap64 (4 * (rd x3 (wrap64 (x6 + 1))))))) + (wrap64 (2 * (rd x3 (wrap64 (x6 + 2))))))) + (rd x3 (wrap64 (x6 + 3))))) < 16 then (if x5.length < 140737488355328 then (qanatref02_B2X.l1 k x3 (x5 ++ [bt (⟨#[48, 49, 50, 51, 52, 53, 54, 55, 56, 57, 65, 66, 67, 68, 69, 70]⟩ : ByteArray) (wrap64 ((wrap64 ((wrap64 ((wrap64 (8 * (rd x3 x6))) + (wrap64 (4 * (rd x3 (wrap64 (x6 + 1))))))) + (wrap64 (2 * (rd x3 (wrap64 (x6 + 2))))))) + (rd x3 (wrap64 (x6 + 3)))))]) (wrap64 (x6 + 4))) else (none)) else (none)) else (none)) else (none)) else (none)) else (none)) else (none)) else (none)) else (none)) else (none)) else ((qanatref02_out.f x5).bind fun bt950 => (some (bt950.1, bt950.2)))
end
def qanatref02_B2X.f (k : Nat) (a0 : ByteArray) : Option (ByteArray × Int) := (qanatref02_digits.f k a0 2 4).bind fun bt932 => ((qanatref02_Valid.f a0).bind fun t936 => (if t936 = true then (qanatref02_B2X.j0 k bt932.1 (!bt932.2)) else (qanatref02_B2X.j0 k bt932.1 true)))
theorem qanatref02_B2X.mono_l : ∀ k, (∀ y0 y1, LeO (qanatref02_B2X.j0 k y0 y1) (qanatref02_B2X.j0 (k + 1) y0 y1)) ∧ (∀ y0, LeO (qanatref02_B2X.l0 k y0) (qanatref02_B2X.l0 (k + 1) y0)) ∧ (∀ y0 y1 y2, LeO (qanatref02_B2X.l1 k y0 y1 y2) (qanatref02_B2X.l1 (k + 1) y0 y1 y2))
  | 0 => ⟨fun _ _ r h => by simp [qanatref02_B2X.j0] at h, fun _ r h => by simp [qanatref02_B2X.l0] at h, fun _ _ _ r h => by simp [qanatref02_B2X.l1] at h⟩
  | k + 1 => by
    obtain ⟨ih0, ih1, ih2⟩ := qanatref02_B2X.mono_l k
    refine ⟨?_, ?_, ?_⟩
    · intro y0 y1
      unfold qanatref02_B2X.j0
      repeat' first
      | (with_reducible exact ih0 _ _)
      | (with_reducible exact ih1 _)
      | (with_reducible exact ih2 _ _ _)
      | (with_reducible exact qanatref02_digits.mono _ _ _ _)
      | (with_reducible exact LeO.refl _)
      | (with_reducible exact LeO.none _)
      | (with_reducible refine LeO.ite ?_ ?_)
      | (with_reducible refine LeO.bind ?_ (fun _ => ?_))
      | exact ih0 _ _
      | exact ih1 _
      | exact ih2 _ _ _
      | exact qanatref02_digits.mono _ _ _ _
      | exact LeO.none _
      | refine LeO.ite ?_ ?_
      | refine LeO.bind ?_ (fun _ => ?_)
    · intro y0
      unfold qanatref02_B2X.l0
      repeat' first
      | (with_reducible exact ih0 _ _)
      | (with_reducible exact ih1 _)
      | (with_reducible exact ih2 _ _ _)
      | (with_reducible exact qanatref02_digits.mono _ _ _ _)
      | (with_reducible exact LeO.refl _)
      | (with_reducible exact LeO.none _)
      | (with_reducible refine LeO.ite ?_ ?_)
      | (with_reducible refine LeO.bind ?_ (fun _ => ?_))
      | exact ih0 _ _
      | exact ih1 _
      | exact ih2 _ _ _
      | exact qanatref02_digits.mono _ _ _ _
      | exact LeO.none _
      | refine LeO.ite ?_ ?_
      | refine LeO.bind ?_ (fun _ => ?_)
    · intro y0 y1 y2
      unfold qanatref02_B2X.l1
      repeat' first
      | (with_reducible exact ih0 _ _)
      | (with_reducible exact ih1 _)
      | (with_reducible exact ih2 _ _ _)
      | (with_reducible exact qanatref02_digits.mono _ _ _ _)
      | (with_reducible exact LeO.refl _)
      | (with_reducible exact LeO.none _)
      | (with_reducible refine LeO.ite ?_ ?_)
      | (with_reducible refine LeO.bind ?_ (fun _ => ?_))
      | exact ih0 _ _
      | exact ih1 _
      | exact ih2 _ _ _
      | exact qanatref02_digits.mono _ _ _ _
      | exact LeO.none _
      | refine LeO.ite ?_ ?_
      | refine LeO.bind ?_ (fun _ => ?_)
theorem qanatref02_B2X.mono : ∀ a0 k, LeO (qanatref02_B2X.f k a0) (qanatref02_B2X.f (k + 1) a0) := by
  intro a0 k
  obtain ⟨ih0, ih1, ih2⟩ := qanatref02_B2X.mono_l k
  unfold qanatref02_B2X.f
  repeat' first
      | (with_reducible exact ih0 _ _)
      | (with_reducible exact ih1 _)
      | (with_reducible exact ih2 _ _ _)
      | (with_reducible exact qanatref02_digits.mono _ _ _ _)
      | (with_reducible exact LeO.refl _)
      | (with_reducible exact LeO.none _)
      | (with_reducible refine LeO.ite ?_ ?_)
      | (with_reducible refine LeO.bind ?_ (fun _ => ?_))
      | exact ih0 _ _
      | exact ih1 _
      | exact ih2 _ _ _
      | exact qanatref02_digits.mono _ _ _ _
      | exact LeO.none _
      | refine LeO.ite ?_ ?_
      | refine LeO.bind ?_ (fun _ => ?_)
def qanatref02_B2X.T10 : Bool × List (List Nat × List Nat) := (true, [([], []), ([], []), ([], []), ([1, 2], [1, 2]), ([3], [3]), ([4], [4]), ([], []), ([], []), ([7], [7]), ([6, 8], [6, 8]), ([9], [9]), ([10], [10]), ([5, 11], [5, 11]), ([], []), ([], []), ([14], [14]), ([13, 15], [13, 15]), ([16], [16]), ([17], [17]), ([12, 18], [12, 18]), ([], []), ([], []), ([21], [21]), ([20, 22], [20, 22]), ([23], [23]), ([19, 24], [19, 24]), ([25], [25]), ([26], [26]), ([0, 27], [0, 27]), ([28, 28, 0, 1, 2, 3, 4, 5, 6, 7, 8, 9, 10, 11, 12, 13, 14, 15, 16, 17, 18, 19, 20, 21, 22, 23, 24, 25, 26, 27, 28], [0, 28])])
def qanatref02_B2X.B10 : List Nat := [0, 0, 0, 6, 14, 30, 0, 0, 128, 448, 960, 1984, 4094, 0, 0, 16384, 57344, 122880, 253952, 524286, 0, 0, 2097152, 7340032, 15728640, 33554430, 67108862, 134217726, 268435455, 536870911]
theorem qanatref02_B2X.tab10 : rtab .any (opsOf Tryz.f82 10) = qanatref02_B2X.T10 := by kernel_rfl
theorem qanatref02_B2X.bits10 : waitsOk qanatref02_B2X.T10.2 qanatref02_B2X.B10 = true := by kernel_rfl
set_option maxHeartbeats 8000000 in
set_option maxRecDepth 100000 in
theorem qanatref02_B2X.calls (k : Nat) (a0 : ByteArray) (r1 : ByteArray) (r2 : Int) (w : World) (h : qanatref02_B2X.f k a0 = some (r1, r2)) :
    Calls Tryz.prog 82 #[.string a0] w fun e w' => e = .returned (.agg #[.string r1, .int .i64 r2]) ∧ Below w.heap.size w w' := by
  have hu29 := Tryz.underlying29
  have HB := Aside0.mk (Below.refl w.heap.size w)
  have H : ((qanatref02_digits.f k a0 2 4).bind fun bt932 => ((qanatref02_Valid.f a0).bind fun t936 => (if t936 = true then (qanatref02_B2X.j0 k bt932.1 (!bt932.2)) else (qanatref02_B2X.j0 k bt932.1 true)))) = some (r1, r2) := h
  clear h
  replace H := Option.bind_eq_some_iff.mp H
  obtain ⟨⟨t932, t933⟩, A20, H⟩ := H
  replace H : ((qanatref02_Valid.f a0).bind fun t936 => (if t936 = true then (qanatref02_B2X.j0 k t932 (!t933)) else (qanatref02_B2X.j0 k t932 true))) = some (r1, r2) := H
  have A2 := Aside0.mk A20
  clear A20
  have HC3 := Aside0.mk H
  clear H
  go_enter Tryz.func82, Tryz.ntmps82
  go_upto_region 2 with (first | ((with_reducible refine gate_dst (N := 2) rfl ?_); refine box_event ?hg (N := 2) ?hd (cs := #[.string (⟨#[]⟩ : ByteArray), .int .i64 0]) (t := 29) ?hr ?_; (case hd => rfl); (case hg => rfl); (case hr => first | (go_simp; done) | (go_simp; rfl)); intro gb931 hg w4 hbox hb; have n0_ := Aside0.mk (below_step (by repeat (first | (with_reducible first | exact HB.out | apply below_alloc | apply pw_below_drewN | apply below_drew1) | exact HB.out)) hb); have n1_ := Aside0.mk (hbox); have n2_ := Aside0.mk ((by rw [hg]; exact (below_size (by repeat (first | (with_reducible first | exact HB.out | apply below_alloc | apply pw_below_drewN | apply below_drew1) | exact HB.out))) : w.heap.size ≤ gb931)); have n3_ := Aside0.mk ((by rw [hg]; exact (below_size (by repeat (first | (with_reducible first | exact HB.out | apply below_alloc | apply pw_below_drewN | apply below_drew1) | exact HB.out))) : w.heap.size ≤ gb931)); clear HB; have HB := n0_; have BK931 := n1_; have GW931 := n2_; have GE931 := n3_; clear n0_ n1_ n2_ n3_; clear hb hbox hg) | ((with_reducible refine gate_callee (f := 133) rfl ?_); refine goesL_ (some 9) rfl rfl Tryz.func133 (by kernel_rfl) rfl #[.string a0, .int .i64 2, .int .i64 4] rfl (by (try simp only [List.map_toArray, List.map_cons, List.map_nil]); first | done | rfl | (simp only [List.length_drop, List.length_take]; rfl)) ?_; (with_reducible refine (qanatref02_digits.calls k a0 2 4 t932 t933 _ A2.out).mono ?_); rintro e w5 ⟨v934, rfl, ho0, hb⟩; refine ⟨_, rfl, ?_⟩; have n0_ := Aside0.mk (Kd.R_lower ho0 (below_size (by repeat (first | (with_reducible first | exact HB.out | apply below_alloc | apply pw_below_drewN | apply below_drew1 | refine below_set ?_ GE931.out) | exact HB.out)))); have n1_ := Aside0.mk (blk_below (g := gb931) (o := .cells #[.string (⟨#[]⟩ : ByteArray), .int .i64 0] 29 (0, 0)) (by (with_reducible repeat (first | refine blk_drewN ?_ _ | refine blk_drew ?_ | refine blk_alloc ?_ _)); exact BK931.out) hb); have n2_ := Aside0.mk (below_step (by repeat (first | (with_reducible first | exact HB.out | apply below_alloc | apply pw_below_drewN | apply below_drew1 | refine below_set ?_ GE931.out) | exact HB.out)) hb); clear BK931; clear HB; have HO935 := n0_; have BK931 := n1_; have HB := n2_; clear n0_ n1_ n2_; (try clear hb); (try clear hb2); (try clear hk); (try clear hi); (try clear ho0)))
  (try simp only [Act.put, List.setIfInBounds_toArray, List.set_cons_zero, List.set_cons_succ])
  go_cut [18] (fun v18 wc => ∃ (kq : Nat) (x18_2 : Bool), v18 = .bool x18_2 ∧ Aside0 (qanatref02_B2X.j0 kq t932 x18_2 = some (r1, r2)) ∧ Aside0 (kq ≤ k) ∧ Aside0 (Kd.R (Kd.int .i64) 3 wc w.heap.size (fun _ => True) v934 t932) ∧ Aside0 (wc.heap[gb931]? = some (.cells #[.string (⟨#[]⟩ : ByteArray), .int .i64 0] 29 (0, 0))) ∧ Aside0 (Below w.heap.size w wc))
  case first =>
    have H := HC3.out
    clear HC3
    replace H := Option.bind_eq_some_iff.mp H
    obtain ⟨t936, A60, H⟩ := H
    replace H : (if t936 = true then (qanatref02_B2X.j0 k t932 (!t933)) else (qanatref02_B2X.j0 k t932 true)) = some (r1, r2) := H
    have A6 := Aside0.mk A60
    clear A60
    by_cases c7 : t936 = true
    · subst c7
      have H1 : (qanatref02_B2X.j0 k t932 (!t933)) = some (r1, r2) := by rw [if_pos rfl] at H; exact H
      clear H
      have H := H1
      clear H1
      have H' := Aside0.mk H
      clear H
      go_wp2_with (first | ((with_reducible refine gate_callee (f := 89) rfl ?_); refine goesL_ (some 13) rfl rfl Tryz.func89 (by kernel_rfl) rfl #[.string a0] rfl (by (try simp only [List.map_toArray, List.map_cons, List.map_nil]); first | done | rfl | (simp only [List.length_drop, List.length_take]; rfl)) ?_; (with_reducible refine (qanatref02_Valid.calls a0 true _ A6.out).mono ?_); rintro e w' ⟨rfl, ⟨nd, rfl⟩⟩; refine ⟨_, rfl, ?_⟩))
      go_meet
      case rel => exact ⟨_, (!t933), (by first | rfl | (simp; done) | (simp [*]; done)), H', ⟨by first | omega | exact Nat.le_refl _⟩, ⟨by (with_reducible repeat (first | apply Kd.R_alloc | apply Kd.R_drewN | apply Kd.R_drew)); exact HO935.out⟩, ⟨by (with_reducible repeat (first | refine blk_drewN ?_ _ | refine blk_drew ?_ | refine blk_alloc ?_ _)); exact BK931.out⟩, ⟨by repeat (first | (with_reducible first | exact HB.out | apply below_alloc | apply pw_below_drewN | apply below_drew1 | refine below_set ?_ GE931.out) | exact HB.out)⟩⟩
    · replace c7 := Bool.eq_false_iff.mpr c7
      subst c7
      have H1 : (qanatref02_B2X.j0 k t932 true) = some (r1, r2) := by rw [if_neg (show ¬ (false = true) by decide)] at H; exact H
      clear H
      have H := H1
      clear H1
      have H' := Aside0.mk H
      clear H
      go_wp2_with (first | ((with_reducible refine gate_callee (f := 89) rfl ?_); refine goesL_ (some 13) rfl rfl Tryz.func89 (by kernel_rfl) rfl #[.string a0] rfl (by (try simp only [List.map_toArray, List.map_cons, List.map_nil]); first | done | rfl | (simp only [List.length_drop, List.length_take]; rfl)) ?_; (with_reducible refine (qanatref02_Valid.calls a0 false _ A6.out).mono ?_); rintro e w' ⟨rfl, ⟨nd, rfl⟩⟩; refine ⟨_, rfl, ?_⟩))
      go_meet
      case rel => exact ⟨_, (true), (by first | rfl | (simp; done) | (simp [*]; done)), H', ⟨by first | omega | exact Nat.le_refl _⟩, ⟨by (with_reducible repeat (first | apply Kd.R_alloc | apply Kd.R_drewN | apply Kd.R_drew)); exact HO935.out⟩, ⟨by (with_reducible repeat (first | refine blk_drewN ?_ _ | refine blk_drew ?_ | refine blk_alloc ?_ _)); exact BK931.out⟩, ⟨by repeat (first | (with_reducible first | exact HB.out | apply below_alloc | apply pw_below_drewN | apply below_drew1 | refine below_set ?_ GE931.out) | exact HB.out)⟩⟩
  case rest =>
    clear HC3
    try clear c1
    try clear p2
    try clear c7
    obtain ⟨kq, x18_2, rfl, HA, HJ2, HO_3, BK931, HB⟩ := hcut
    cases kq with
    | zero => exact absurd HA.out (by simp [qanatref02_B2X.j0])
    | succ kj2 =>
      have H := HA.out
      clear HA
      simp only [qanatref02_B2X.j0] at H
      by_cases c8 : x18_2 = true
      · subst c8
        have H1 : (some ((⟨#[]⟩ : ByteArray), 1)) = some (r1, r2) := by rw [if_pos rfl] at H; exact H
        clear H
        have H := H1
        clear H1
        simp only [Option.some.injEq, Prod.mk.injEq] at H
        obtain ⟨rfl, rfl⟩ := H
        have hcz9_0 : wc.cell? ⟨gb931, 0, none⟩ = some (.string (⟨#[]⟩ : ByteArray)) := (blk_cell BK931.out 0).trans rfl
        have hcz9_1 : wc.cell? ⟨gb931, 1, none⟩ = some (.int .i64 0) := (blk_cell BK931.out 1).trans rfl
        have hfz9_0 := blk_frozen BK931.out 0
        have hfz9_1 := blk_frozen BK931.out 1
        go_wp2
        refine bodyPost_ret (results_cell_row rfl _ _ gb931 29 #[.string (⟨#[]⟩ : ByteArray), .int .i64 1] (0, 0) _ rfl (by (with_reducible repeat (first | refine blk_drewN ?_ _ | refine blk_drew ?_ | refine blk_alloc ?_ _)); refine blk_put (cs := #[.string (⟨#[]⟩ : ByteArray), .int .i64 0]) ?_ 1 _ rfl; (with_reducible repeat (first | refine blk_drewN ?_ _ | refine blk_drew ?_ | refine blk_alloc ?_ _)); refine blk_put (cs := #[.string (⟨#[]⟩ : ByteArray), .int .i64 0]) ?_ 0 _ rfl; (with_reducible repeat (first | refine blk_drewN ?_ _ | refine blk_drew ?_ | refine blk_alloc ?_ _)); exact BK931.out) Tryz.underlying29 rfl (by kernel_rfl)) rfl ?_
        exact ⟨by first | rfl | (simp [errW_none, errW_some] <;> rfl) | (simp [*, errW_none, errW_some] <;> rfl), by repeat (first | (with_reducible first | exact HB.out | apply below_alloc | apply pw_below_drewN | apply below_drew1 | refine below_set ?_ GE931.out) | exact HB.out)⟩
      · replace c8 := Bool.eq_false_iff.mpr c8
        subst c8
        have H1 : (qanatref02_B2X.l0 kj2 t932) = some (r1, r2) := by rw [if_neg (show ¬ (false = true) by decide)] at H; exact H
        clear H
        have H := H1
        clear H1
        have H' := Aside0.mk H
        clear H
        go_wp2
        go_loopg [3] kj2 (fun kq v3 w' => ∃ (x3_2 : List Int), Aside0 (qanatref02_B2X.l0 kq x3_2 = some (r1, r2)) ∧ Aside0 (kq ≤ kj2) ∧ Aside0 (Kd.R (Kd.int .i64) 3 w' w.heap.size (fun _ => True) v3 x3_2) ∧ Aside0 (w'.heap[gb931]? = some (.cells #[.string (⟨#[]⟩ : ByteArray), .int .i64 0] 29 (0, 0))) ∧ Aside0 (Below w.heap.size w w'))
        case atStart => exact ⟨(t932), H', ⟨Nat.le_refl _⟩, ⟨by (with_reducible repeat (first | apply Kd.R_alloc | apply Kd.R_drewN | apply Kd.R_drew)); exact HO_3.out⟩, ⟨by (with_reducible repeat (first | refine blk_drewN ?_ _ | refine blk_drew ?_ | refine blk_alloc ?_ _)); exact BK931.out⟩, ⟨by repeat (first | (with_reducible first | exact HB.out | apply below_alloc | apply pw_below_drewN | apply below_drew1 | refine below_set ?_ GE931.out) | exact HB.out)⟩⟩
        case round =>
          clear H'
          try clear c1
          try clear p2
          try clear c7
          try clear c8
          try clear hcz9_0
          try clear hcz9_1
          try clear hfz9_0
          try clear hfz9_1
          try clear p2
          obtain ⟨x3_2, HA, HK2, HO_3, BK931, HB⟩ := hrel
          cases gk with
          | zero => exact absurd HA.out (by simp [qanatref02_B2X.l0])
          | succ k2 =>
            have H := HA.out
            clear HA
            simp only [qanatref02_B2X.l0] at H
            by_cases c10 : ((x3_2.length : Int) % 4) = 0
            · rw [if_pos c10] at H
              have c10b0 : (((x3_2.length : Int) % 4) == 0) = true := beq_iff_eq.mpr c10
              have c10b1 : (((x3_2.length : Int) % 4) != 0) = false := bne_eq_false_iff_eq.mpr c10
              clear c10
              have H' := Aside0.mk H
              clear H
              obtain ⟨Ao11, co11, eo11⟩ := Kd.R_slice HO_3.out
              subst eo11
              go_wp2
              go_loopg [5, 6] k2 (fun kq v5 v6 w' => ∃ (x5_3 : List Int) (x6_3 : Int), v6 = .int .i64 x6_3 ∧ Aside0 (qanatref02_B2X.l1 kq x3_2 x5_3 x6_3 = some (r1, r2)) ∧ Aside0 (kq ≤ k2) ∧ Aside0 (Kd.R (Kd.int .i64) 3 w' w.heap.size (fun _ => True) (.slice Ao11 x3_2.length co11) x3_2) ∧ Aside0 (Kd.R (Kd.int .u8) 5 w' w.heap.size (fun _ => True) v5 x5_3) ∧ Aside0 (w'.heap[gb931]? = some (.cells #[.string (⟨#[]⟩ : ByteArray), .int .i64 0] 29 (0, 0))) ∧ Aside0 (Below w.heap.size w w'))
              case atStart => exact ⟨(([] : List Int)), (0), (by first | rfl | (simp; done) | (simp [*]; done)), H', ⟨Nat.le_refl _⟩, ⟨by (with_reducible repeat (first | apply Kd.R_alloc | apply Kd.R_drewN | apply Kd.R_drew)); exact HO_3.out⟩, ⟨by first | exact Kd.R_nil _ _ _ _ _ | exact Kd.N_nil _ _ _ _ _ | exact Kd.V_nil _ _ _ _ _ | exact Kd.Q_nil _ _ _ _ _ | exact Kd.S_nil _ _ _ _ _⟩, ⟨by (with_reducible repeat (first | refine blk_drewN ?_ _ | refine blk_drew ?_ | refine blk_alloc ?_ _)); exact BK931.out⟩, ⟨by repeat (first | (with_reducible first | exact HB.out | apply below_alloc | apply pw_below_drewN | apply below_drew1 | refine below_set ?_ GE931.out) | exact HB.out)⟩⟩
              case round =>
                clear H'
                try clear c1
                try clear p2
                try clear c7
                try clear c8
                try clear c10
                try clear c10b0
                try clear c10b1
                try clear hcz9_0
                try clear hcz9_1
                try clear hfz9_0
                try clear hfz9_1
                try clear p2
                obtain ⟨x5_3, x6_3, rfl, HA, HK3, HO_3, HO_5, BK931, HB⟩ := hrel
                cases gk with
                | zero => exact absurd HA.out (by simp [qanatref02_B2X.l1])
                | succ k3 =>
                  have H := HA.out
                  clear HA
                  simp only [qanatref02_B2X.l1] at H
                  by_cases c12 : x6_3 < (x3_2.length : Int)
                  · rw [if_pos c12] at H
                    have c12b0 : decide (x6_3 < (x3_2.length : Int)) = true := decide_eq_true c12
                    clear c12
                    by_cases c13 : 0 ≤ x6_3
                    · rw [if_pos c13] at H
                      have c13b0 : decide (0 ≤ x6_3) = true := decide_eq_true c13
                      clear c13
                      obtain ⟨ji14, hji14⟩ : ∃ j_ : Int, (wrap64 (x6_3 + 1)) = j_ := ⟨_, rfl⟩
                      replace H : (if 0 ≤ (ji14) then (if (ji14) < (x3_2.length : Int) then (if 0 ≤ (wrap64 (x6_3 + 2)) then (if (wrap64 (x6_3 + 2)) < (x3_2.length : Int) then (if 0 ≤ (wrap64 (x6_3 + 3)) then (if (wrap64 (x6_3 + 3)) < (x3_2.length : Int) then (if 0 ≤ (wrap64 ((wrap64 ((wrap64 ((wrap64 (8 * (rd x3_2 x6_3))) + (wrap64 (4 * (rd x3_2 (ji14)))))) + (wrap64 (2 * (rd x3_2 (wrap64 (x6_3 + 2))))))) + (rd x3_2 (wrap64 (x6_3 + 3))))) then (if (wrap64 ((wrap64 ((wrap64 ((wrap64 (8 * (rd x3_2 x6_3))) + (wrap64 (4 * (rd x3_2 (ji14)))))) + (wrap64 (2 * (rd x3_2 (wrap64 (x6_3 + 2))))))) + (rd x3_2 (wrap64 (x6_3 + 3))))) < 16 then (if x5_3.length < 140737488355328 then (qanatref02_B2X.l1 k3 x3_2 (x5_3 ++ [bt (⟨#[48, 49, 50, 51, 52, 53, 54, 55, 56, 57, 65, 66, 67, 68, 69, 70]⟩ : ByteArray) (wrap64 ((wrap64 ((wrap64 ((wrap64 (8 * (rd x3_2 x6_3))) + (wrap64 (4 * (rd x3_2 (ji14)))))) + (wrap64 (2 * (rd x3_2 (wrap64 (x6_3 + 2))))))) + (rd x3_2 (wrap64 (x6_3 + 3)))))]) (wrap64 (x6_3 + 4))) else (none)) else (none)) else (none)) else (none)) else (none)) else (none)) else (none)) else (none)) else (none)) = some (r1, r2) := by first | (rw [hji14] at H; exact H) | (simp only [hji14] at H ⊢; exact H)
                      have hji14w : (IntKind.i64.wrap (x6_3 + 1)) = ji14 := (i64_w _).trans hji14
                      by_cases c15 : 0 ≤ (ji14)
                      · rw [if_pos c15] at H
                        have c15b0 : decide (0 ≤ (ji14)) = true := decide_eq_true c15
                        clear c15
                        by_cases c16 : (ji14) < (x3_2.length : Int)
                        · rw [if_pos c16] at H
                          have c16b0 : decide ((ji14) < (x3_2.length : Int)) = true := decide_eq_true c16
                          clear c16
                          obtain ⟨ji17, hji17⟩ : ∃ j_ : Int, (wrap64 (x6_3 + 2)) = j_ := ⟨_, rfl⟩
                          replace H : (if 0 ≤ (ji17) then (if (ji17) < (x3_2.length : Int) then (if 0 ≤ (wrap64 (x6_3 + 3)) then (if (wrap64 (x6_3 + 3)) < (x3_2.length : Int) then (if 0 ≤ (wrap64 ((wrap64 ((wrap64 ((wrap64 (8 * (rd x3_2 x6_3))) + (wrap64 (4 * (rd x3_2 (ji14)))))) + (wrap64 (2 * (rd x3_2 (ji17)))))) + (rd x3_2 (wrap64 (x6_3 + 3))))) then (if (wrap64 ((wrap64 ((wrap64 ((wrap64 (8 * (rd x3_2 x6_3))) + (wrap64 (4 * (rd x3_2 (ji14)))))) + (wrap64 (2 * (rd x3_2 (ji17)))))) + (rd x3_2 (wrap64 (x6_3 + 3))))) < 16 then (if x5_3.length < 140737488355328 then (qanatref02_B2X.l1 k3 x3_2 (x5_3 ++ [bt (⟨#[48, 49, 50, 51, 52, 53, 54, 55, 56, 57, 65, 66, 67, 68, 69, 70]⟩ : ByteArray) (wrap64 ((wrap64 ((wrap64 ((wrap64 (8 * (rd x3_2 x6_3))) + (wrap64 (4 * (rd x3_2 (ji14)))))) + (wrap64 (2 * (rd x3_2 (ji17)))))) + (rd x3_2 (wrap64 (x6_3 + 3)))))]) (wrap64 (x6_3 + 4))) else (none)) else (none)) else (none)) else (none)) else (none)) else (none)) else (none)) = some (r1, r2) := by first | (rw [hji17] at H; exact H) | (simp only [hji17] at H ⊢; exact H)
                          have hji17w : (IntKind.i64.wrap (x6_3 + 2)) = ji17 := (i64_w _).trans hji17
                          by_cases c18 : 0 ≤ (ji17)
                          · rw [if_pos c18] at H
                            have c18b0 : decide (0 ≤ (ji17)) = true := decide_eq_true c18
                            clear c18
                            by_cases c19 : (ji17) < (x3_2.length : Int)
                            · rw [if_pos c19] at H
                              have c19b0 : decide ((ji17) < (x3_2.length : Int)) = true := decide_eq_true c19
                              clear c19
                              obtain ⟨ji20, hji20⟩ : ∃ j_ : Int, (wrap64 (x6_3 + 3)) = j_ := ⟨_, rfl⟩
                              replace H : (if 0 ≤ (ji20) then (if (ji20) < (x3_2.length : Int) then (if 0 ≤ (wrap64 ((wrap64 ((wrap64 ((wrap64 (8 * (rd x3_2 x6_3))) + (wrap64 (4 * (rd x3_2 (ji14)))))) + (wrap64 (2 * (rd x3_2 (ji17)))))) + (rd x3_2 (ji20)))) then (if (wrap64 ((wrap64 ((wrap64 ((wrap64 (8 * (rd x3_2 x6_3))) + (wrap64 (4 * (rd x3_2 (ji14)))))) + (wrap64 (2 * (rd x3_2 (ji17)))))) + (rd x3_2 (ji20)))) < 16 then (if x5_3.length < 140737488355328 then (qanatref02_B2X.l1 k3 x3_2 (x5_3 ++ [bt (⟨#[48, 49, 50, 51, 52, 53, 54, 55, 56, 57, 65, 66, 67, 68, 69, 70]⟩ : ByteArray) (wrap64 ((wrap64 ((wrap64 ((wrap64 (8 * (rd x3_2 x6_3))) + (wrap64 (4 * (rd x3_2 (ji14)))))) + (wrap64 (2 * (rd x3_2 (ji17)))))) + (rd x3_2 (ji20))))]) (wrap64 (x6_3 + 4))) else (none)) else (none)) else (none)) else (none)) else (none)) = some (r1, r2) := by first | (rw [hji20] at H; exact H) | (simp only [hji20] at H ⊢; exact H)
                              have hji20w : (IntKind.i64.wrap (x6_3 + 3)) = ji20 := (i64_w _).trans hji20
                              by_cases c21 : 0 ≤ (ji20)
                              · rw [if_pos c21] at H
                                have c21b0 : decide (0 ≤ (ji20)) = true := decide_eq_true c21
                                clear c21
                                by_cases c22 : (ji20) < (x3_2.length : Int)
                                · rw [if_pos c22] at H
                                  have c22b0 : decide ((ji20) < (x3_2.length : Int)) = true := decide_eq_true c22
                                  clear c22
                                  obtain ⟨ji23, hji23⟩ : ∃ j_ : Int, (wrap64 ((wrap64 ((wrap64 ((wrap64 (8 * (rd x3_2 x6_3))) + (wrap64 (4 * (rd x3_2 (ji14)))))) + (wrap64 (2 * (rd x3_2 (ji17)))))) + (rd x3_2 (ji20)))) = j_ := ⟨_, rfl⟩
                                  replace H : (if 0 ≤ (ji23) then (if (ji23) < 16 then (if x5_3.length < 140737488355328 then (qanatref02_B2X.l1 k3 x3_2 (x5_3 ++ [bt (⟨#[48, 49, 50, 51, 52, 53, 54, 55, 56, 57, 65, 66, 67, 68, 69, 70]⟩ : ByteArray) (ji23)]) (wrap64 (x6_3 + 4))) else (none)) else (none)) else (none)) = some (r1, r2) := by first | (rw [hji23] at H; exact H) | (simp only [hji23] at H ⊢; exact H)
                                  have hji23w : (IntKind.i64.wrap ((wrap64 ((wrap64 ((wrap64 (8 * (rd x3_2 x6_3))) + (wrap64 (4 * (rd x3_2 (ji14)))))) + (wrap64 (2 * (rd x3_2 (ji17)))))) + (rd x3_2 (ji20)))) = ji23 := (i64_w _).trans hji23
                                  by_cases c24 : 0 ≤ (ji23)
                                  · rw [if_pos c24] at H
                                    have c24b0 : decide (0 ≤ (ji23)) = true := decide_eq_true c24
                                    clear c24
                                    by_cases c25 : (ji23) < 16
                                    · rw [if_pos c25] at H
                                      have c25b0 : decide ((ji23) < 16) = true := decide_eq_true c25
                                      clear c25
                                      by_cases c27 : x5_3.length < 140737488355328
                                      · rw [if_pos c27] at H
                                        have LMc27 := Aside0.mk c27
                                        clear c27
                                        obtain ⟨y947, hy947⟩ : ∃ y_ : List Int, y_ = (x5_3 ++ [bt (⟨#[48, 49, 50, 51, 52, 53, 54, 55, 56, 57, 65, 66, 67, 68, 69, 70]⟩ : ByteArray) (ji23)]) := ⟨_, rfl⟩
                                        replace H : (qanatref02_B2X.l1 k3 x3_2 y947 (wrap64 (x6_3 + 4))) = some (r1, r2) := by first | (rw [hy947]; with_reducible exact H) | (have H2_ := (Option.bind_some _ _).symm.trans H; rw [hy947]; with_reducible exact H2_) | (have H2_ := (Option.bind_some _ _).symm.trans H; with_reducible exact H2_) | with_reducible exact H | (rw [hy947]; exact H) | exact H
                                        have Ny947 := Aside0.mk hy947
                                        clear hy947
                                        have H' := Aside0.mk H
                                        clear H
                                        try go_wp2
                                        have n0_ := Aside0.mk (Kd.R_drew HO_3.out)
                                        have n1_ := Aside0.mk (Kd.R_drew HO_5.out)
                                        have n2_ := Aside0.mk (blk_drew BK931.out)
                                        have n3_ := Aside0.mk (below_drew1 HB.out)
                                        clear HO_3
                                        clear HO_5
                                        clear BK931
                                        clear HB
                                        have HO_3 := n0_
                                        have HO_5 := n1_
                                        have BK931 := n2_
                                        have HB := n3_
                                        clear n0_ n1_ n2_ n3_
                                        have p943 : 0 ≤ (x6_3 : Int) := of_decide_eq_true (by first | (with_reducible assumption) | assumption)
                                        have q943 : x6_3 < (x3_2.length : Int) := of_decide_eq_true (by first | (with_reducible assumption) | assumption)
                                        obtain ⟨ad943, e943, hx943_0⟩ := Kd.at_int (Kd.R_reads' HO_3.out).2.2 x6_3 p943 q943
                                        cases e943
                                        replace p943 := eq_true p943
                                        replace q943 := eq_true q943
                                        have p944 : 0 ≤ ((ji14) : Int) := of_decide_eq_true (by first | (with_reducible assumption) | assumption)
                                        have q944 : (ji14) < (x3_2.length : Int) := of_decide_eq_true (by first | (with_reducible assumption) | assumption)
                                        obtain ⟨ad944, e944, hx944_0⟩ := Kd.at_int (Kd.R_reads' HO_3.out).2.2 (ji14) p944 q944
                                        obtain rfl : ad943 = ad944 := (by injection e944)
                                        replace p944 := eq_true p944
                                        replace q944 := eq_true q944
                                        have p945 : 0 ≤ ((ji17) : Int) := of_decide_eq_true (by first | (with_reducible assumption) | assumption)
                                        have q945 : (ji17) < (x3_2.length : Int) := of_decide_eq_true (by first | (with_reducible assumption) | assumption)
                                        obtain ⟨ad945, e945, hx945_0⟩ := Kd.at_int (Kd.R_reads' HO_3.out).2.2 (ji17) p945 q945
                                        obtain rfl : ad943 = ad945 := (by injection e945)
                                        replace p945 := eq_true p945
                                        replace q945 := eq_true q945
                                        have p946 : 0 ≤ ((ji20) : Int) := of_decide_eq_true (by first | (with_reducible assumption) | assumption)
                                        have q946 : (ji20) < (x3_2.length : Int) := of_decide_eq_true (by first | (with_reducible assumption) | assumption)
                                        obtain ⟨ad946, e946, hx946_0⟩ := Kd.at_int (Kd.R_reads' HO_3.out).2.2 (ji20) p946 q946
                                        obtain rfl : ad943 = ad946 := (by injection e946)
                                        replace p946 := eq_true p946
                                        replace q946 := eq_true q946
                                        have p26 : 0 ≤ ((ji23) : Int) := of_decide_eq_true (by first | (with_reducible assumption) | assumption)
                                        have q26 : (ji23) < (16 : Int) := of_decide_eq_true (by first | (with_reducible assumption) | assumption)
                                        have hx26 := bt_at (⟨#[48, 49, 50, 51, 52, 53, 54, 55, 56, 57, 65, 66, 67, 68, 69, 70]⟩ : ByteArray) (ji23)
                                        replace p26 := eq_true p26
                                        replace q26 := eq_true q26
                                        refine start_ (n := 30) (S := fun w' => w'.cell? (ad943.add (x6_3).toNat) = some (.int .i64 (rd x3_2 x6_3)) ∧ w'.cell? (ad943.add ((ji14)).toNat) = some (.int .i64 (rd x3_2 (ji14))) ∧ w'.cell? (ad943.add ((ji17)).toNat) = some (.int .i64 (rd x3_2 (ji17))) ∧ w'.cell? (ad943.add ((ji20)).toNat) = some (.int .i64 (rd x3_2 (ji20)))) (ds := [27, 28]) #[false, false, false, false, false, false, false, false, false, false, false, false, false, false, false, false, false, false, false, false, false, false, false, false, false, false, false, false, false, false] (by kernel_rfl) rfl rfl ⟨hx943_0, hx944_0, hx945_0, hx946_0⟩ (fun hHeld => ?_); refine with_tabW qanatref02_B2X.tab10 qanatref02_B2X.bits10 (fun HT_ HW_ => ?_)
                                        generalize wr.drew = w28 at HO_3 HO_5 BK931 HB hx943_0 hx944_0 hx945_0 hx946_0 hHeld ⊢
                                        refine pure_ (i := 0) (N := some 33) (v := ?_) (a' := ?_) #[true, false, false, false, false, false, false, false, false, false, false, false, false, false, false, false, false, false, false, false, false, false, false, false, false, false, false, false, false, false] rfl rfl (any_of HT_.out (by kernel_rfl)) (fun _ _ _ h => h) (Or.inl ⟨by rfl, ?_⟩) ?_ ?_
                                        rotate_left
                                        · intro w'
                                          go_simp
                                          with_reducible rfl
                                        rotate_left
                                        · simp only [Act.put, List.setIfInBounds_toArray, List.set_cons_zero, List.set_cons_succ, i64_w, i32_w]
                                          rfl
                                        refine pure_ (i := 1) (N := some 34) (v := ?_) (a' := ?_) #[true, true, false, false, false, false, false, false, false, false, false, false, false, false, false, false, false, false, false, false, false, false, false, false, false, false, false, false, false, false] rfl rfl (any_of HT_.out (by kernel_rfl)) (fun _ _ _ h => h) (Or.inl ⟨by rfl, ?_⟩) ?_ ?_
                                        rotate_left
                                        · intro w'
                                          go_simp
                                          with_reducible rfl
                                        rotate_left
                                        · simp only [Act.put, List.setIfInBounds_toArray, List.set_cons_zero, List.set_cons_succ, i64_w, i32_w]
                                          rfl
                                        refine pure_ (i := 2) (N := some 35) (v := ?_) (a' := ?_) #[true, true, true, false, false, false, false, false, false, false, false, false, false, false, false, false, false, false, false, false, false, false, false, false, false, false, false, false, false, false] rfl rfl (any_of HT_.out (by kernel_rfl)) (fun _ _ _ h => h) (Or.inl ⟨by rfl, ?_⟩) ?_ ?_
                                        rotate_left
                                        · intro w'
                                          go_simp
                                          with_reducible rfl
                                        rotate_left
                                        · simp only [Act.put, List.setIfInBounds_toArray, List.set_cons_zero, List.set_cons_succ, i64_w, i32_w]
                                          rfl
                                        refine pure_ (i := 3) (N := some 36) (v := ?_) (a' := ?_) #[true, true, true, true, false, false, false, false, false, false, false, false, false, false, false, false, false, false, false, false, false, false, false, false, false, false, false, false, false, false] rfl rfl (any_of HT_.out (by kernel_rfl)) (fun _ _ _ h => h) (Or.inl ⟨by rfl, ?_⟩) ?_ ?_
                                        rotate_left
                                        · intro w'
                                          go_simp
                                          with_reducible rfl
                                        rotate_left
                                        · simp only [Act.put, List.setIfInBounds_toArray, List.set_cons_zero, List.set_cons_succ, i64_w, i32_w]
                                          rfl
                                        refine pure_ (i := 6) (N := some 39) (v := ?_) (a' := ?_) #[true, true, true, true, false, false, true, false, false, false, false, false, false, false, false, false, false, false, false, false, false, false, false, false, false, false, false, false, false, false] rfl rfl (any_of HT_.out (by kernel_rfl)) (fun _ _ _ h => h) (Or.inl ⟨by rfl, ?_⟩) ?_ ?_
                                        rotate_left
                                        · intro w'
                                          go_simp
                                          with_reducible rfl
                                        rotate_left
                                        · simp only [Act.put, List.setIfInBounds_toArray, List.set_cons_zero, List.set_cons_succ, i64_w, i32_w]
                                          rfl
                                        refine pure_ (i := 7) (N := some 40) (v := ?_) (a' := ?_) #[true, true, true, true, false, false, true, true, false, false, false, false, false, false, false, false, false, false, false, false, false, false, false, false, false, false, false, false, false, false] rfl rfl (any_of HT_.out (by kernel_rfl)) (fun _ _ _ h => h) (Or.inl ⟨by rfl, ?_⟩) ?_ ?_
                                        rotate_left
                                        · intro w'
                                          go_simp
                                          with_reducible rfl
                                        rotate_left
                                        · simp only [Act.put, List.setIfInBounds_toArray, List.set_cons_zero, List.set_cons_succ, i64_w, i32_w]
                                          rfl
                                        refine pure_ (i := 8) (N := some 41) (v := ?_) (a' := ?_) #[true, true, true, true, false, false, true, true, true, false, false, false, false, false, false, false, false, false, false, false, false, false, false, false, false, false, false, false, false, false] rfl rfl (any_of HT_.out (by kernel_rfl)) (fun _ _ _ h => h) (Or.inl ⟨by rfl, ?_⟩) ?_ ?_
                                        rotate_left
                                        · intro w'
                                          go_simp
                                          with_reducible rfl
                                        rotate_left
                                        · simp only [Act.put, List.setIfInBounds_toArray, List.set_cons_zero, List.set_cons_succ, i64_w, i32_w]
                                          rfl
                                        refine pure_ (i := 9) (N := some 42) (v := ?_) (a' := ?_) #[true, true, true, true, false, false, true, true, true, true, false, false, false, false, false, false, false, false, false, false, false, false, false, false, false, false, false, false, false, false] rfl rfl (any_of HT_.out (by kernel_rfl)) (fun _ _ _ h => h) (Or.inl ⟨by rfl, ?_⟩) ?_ ?_
                                        rotate_left
                                        · intro w'
                                          go_simp
                                          with_reducible rfl
                                        rotate_left
                                        · simp only [Act.put, List.setIfInBounds_toArray, List.set_cons_zero, List.set_cons_succ, i64_w, i32_w]
                                          rfl
                                        refine pure_ (i := 13) (N := some 46) (v := ?_) (a' := ?_) #[true, true, true, true, false, false, true, true, true, true, false, false, false, true, false, false, false, false, false, false, false, false, false, false, false, false, false, false, false, false] rfl rfl (any_of HT_.out (by kernel_rfl)) (fun _ _ _ h => h) (Or.inl ⟨by rfl, ?_⟩) ?_ ?_
                                        rotate_left
                                        · intro w'
                                          go_simp
                                          with_reducible rfl
                                        rotate_left
                                        · simp only [Act.put, List.setIfInBounds_toArray, List.set_cons_zero, List.set_cons_succ, i64_w, i32_w]
                                          rfl
                                        refine pure_ (i := 14) (N := some 47) (v := ?_) (a' := ?_) #[true, true, true, true, false, false, true, true, true, true, false, false, false, true, true, false, false, false, false, false, false, false, false, false, false, false, false, false, false, false] rfl rfl (any_of HT_.out (by kernel_rfl)) (fun _ _ _ h => h) (Or.inl ⟨by rfl, ?_⟩) ?_ ?_
                                        rotate_left
                                        · intro w'
                                          go_simp
                                          with_reducible rfl
                                        rotate_left
                                        · simp only [Act.put, List.setIfInBounds_toArray, List.set_cons_zero, List.set_cons_succ, i64_w, i32_w]
                                          rfl
                                        refine pure_ (i := 15) (N := some 48) (v := ?_) (a' := ?_) #[true, true, true, true, false, false, true, true, true, true, false, false, false, true, true, true, false, false, false, false, false, false, false, false, false, false, false, false, false, false] rfl rfl (any_of HT_.out (by kernel_rfl)) (fun _ _ _ h => h) (Or.inl ⟨by rfl, ?_⟩) ?_ ?_
                                        rotate_left
                                        · intro w'
                                          go_simp
                                          with_reducible rfl
                                        rotate_left
                                        · simp only [Act.put, List.setIfInBounds_toArray, List.set_cons_zero, List.set_cons_succ, i64_w, i32_w]
                                          rfl
                                        refine pure_ (i := 16) (N := some 49) (v := ?_) (a' := ?_) #[true, true, true, true, false, false, true, true, true, true, false, false, false, true, true, true, true, false, false, false, false, false, false, false, false, false, false, false, false, false] rfl rfl (any_of HT_.out (by kernel_rfl)) (fun _ _ _ h => h) (Or.inl ⟨by rfl, ?_⟩) ?_ ?_
                                        rotate_left
                                        · intro w'
                                          go_simp
                                          with_reducible rfl
                                        rotate_left
                                        · simp only [Act.put, List.setIfInBounds_toArray, List.set_cons_zero, List.set_cons_succ, i64_w, i32_w]
                                          rfl
                                        refine pure_ (i := 20) (N := some 53) (v := ?_) (a' := ?_) #[true, true, true, true, false, false, true, true, true, true, false, false, false, true, true, true, true, false, false, false, true, false, false, false, false, false, false, false, false, false] rfl rfl (any_of HT_.out (by kernel_rfl)) (fun _ _ _ h => h) (Or.inl ⟨by rfl, ?_⟩) ?_ ?_
                                        rotate_left
                                        · intro w'
                                          go_simp
                                          with_reducible rfl
                                        rotate_left
                                        · simp only [Act.put, List.setIfInBounds_toArray, List.set_cons_zero, List.set_cons_succ, i64_w, i32_w]
                                          rfl
                                        refine pure_ (i := 21) (N := some 54) (v := ?_) (a' := ?_) #[true, true, true, true, false, false, true, true, true, true, false, false, false, true, true, true, true, false, false, false, true, true, false, false, false, false, false, false, false, false] rfl rfl (any_of HT_.out (by kernel_rfl)) (fun _ _ _ h => h) (Or.inl ⟨by rfl, ?_⟩) ?_ ?_
                                        rotate_left
                                        · intro w'
                                          go_simp
                                          with_reducible rfl
                                        rotate_left
                                        · simp only [Act.put, List.setIfInBounds_toArray, List.set_cons_zero, List.set_cons_succ, i64_w, i32_w]
                                          rfl
                                        refine pure_ (i := 22) (N := some 55) (v := ?_) (a' := ?_) #[true, true, true, true, false, false, true, true, true, true, false, false, false, true, true, true, true, false, false, false, true, true, true, false, false, false, false, false, false, false] rfl rfl (any_of HT_.out (by kernel_rfl)) (fun _ _ _ h => h) (Or.inl ⟨by rfl, ?_⟩) ?_ ?_
                                        rotate_left
                                        · intro w'
                                          go_simp
                                          with_reducible rfl
                                        rotate_left
                                        · simp only [Act.put, List.setIfInBounds_toArray, List.set_cons_zero, List.set_cons_succ, i64_w, i32_w]
                                          rfl
                                        refine pure_ (i := 23) (N := some 56) (v := ?_) (a' := ?_) #[true, true, true, true, false, false, true, true, true, true, false, false, false, true, true, true, true, false, false, false, true, true, true, true, false, false, false, false, false, false] rfl rfl (any_of HT_.out (by kernel_rfl)) (fun _ _ _ h => h) (Or.inl ⟨by rfl, ?_⟩) ?_ ?_
                                        rotate_left
                                        · intro w'
                                          go_simp
                                          with_reducible rfl
                                        rotate_left
                                        · simp only [Act.put, List.setIfInBounds_toArray, List.set_cons_zero, List.set_cons_succ, i64_w, i32_w]
                                          rfl
                                        refine take_ (i := 4) (N := some 37) (v := ?_) (a' := ?_) #[true, true, true, true, true, false, true, true, true, true, false, false, false, true, true, true, true, false, false, false, true, true, true, true, false, false, false, false, false, false] rfl rfl (take_ofW HT_.out HW_.out (by kernel_rfl)) (fun _ _ _ h => h) (Or.inl ⟨by rfl, ?_⟩) hHeld ?_ ?_
                                        rotate_left
                                        · rintro w' ⟨s0, s1, s2, s3⟩
                                          go_simp
                                          with_reducible rfl
                                        rotate_left
                                        · simp only [Act.put, List.setIfInBounds_toArray, List.set_cons_zero, List.set_cons_succ, i64_w, i32_w]
                                          rfl
                                        refine pure_ (i := 5) (N := some 38) (v := ?_) (a' := ?_) #[true, true, true, true, true, true, true, true, true, true, false, false, false, true, true, true, true, false, false, false, true, true, true, true, false, false, false, false, false, false] rfl rfl (any_of HT_.out (by kernel_rfl)) (fun _ _ _ h => h) (Or.inl ⟨by rfl, ?_⟩) ?_ ?_
                                        rotate_left
                                        · intro w'
                                          go_simp
                                          with_reducible rfl
                                        rotate_left
                                        · simp only [Act.put, List.setIfInBounds_toArray, List.set_cons_zero, List.set_cons_succ, i64_w, i32_w]
                                          rfl
                                        refine take_ (i := 10) (N := some 43) (v := ?_) (a' := ?_) #[true, true, true, true, true, true, true, true, true, true, true, false, false, true, true, true, true, false, false, false, true, true, true, true, false, false, false, false, false, false] rfl rfl (take_ofW HT_.out HW_.out (by kernel_rfl)) (fun _ _ _ h => h) (Or.inl ⟨by rfl, ?_⟩) hHeld ?_ ?_
                                        rotate_left
                                        · rintro w' ⟨s0, s1, s2, s3⟩
                                          go_simp
                                          with_reducible rfl
                                        rotate_left
                                        · simp only [Act.put, List.setIfInBounds_toArray, List.set_cons_zero, List.set_cons_succ, i64_w, i32_w]
                                          rfl
                                        refine pure_ (i := 11) (N := some 44) (v := ?_) (a' := ?_) #[true, true, true, true, true, true, true, true, true, true, true, true, false, true, true, true, true, false, false, false, true, true, true, true, false, false, false, false, false, false] rfl rfl (any_of HT_.out (by kernel_rfl)) (fun _ _ _ h => h) (Or.inl ⟨by rfl, ?_⟩) ?_ ?_
                                        rotate_left
                                        · intro w'
                                          go_simp
                                          with_reducible rfl
                                        rotate_left
                                        · simp only [Act.put, List.setIfInBounds_toArray, List.set_cons_zero, List.set_cons_succ, i64_w, i32_w]
                                          rfl
                                        refine pure_ (i := 12) (N := some 45) (v := ?_) (a' := ?_) #[true, true, true, true, true, true, true, true, true, true, true, true, true, true, true, true, true, false, false, false, true, true, true, true, false, false, false, false, false, false] rfl rfl (any_of HT_.out (by kernel_rfl)) (fun _ _ _ h => h) (Or.inl ⟨by rfl, ?_⟩) ?_ ?_
                                        rotate_left
                                        · intro w'
                                          go_simp
                                          with_reducible rfl
                                        rotate_left
                                        · simp only [Act.put, List.setIfInBounds_toArray, List.set_cons_zero, List.set_cons_succ, i64_w, i32_w]
                                          rfl
                                        refine take_ (i := 17) (N := some 50) (v := ?_) (a' := ?_) #[true, true, true, true, true, true, true, true, true, true, true, true, true, true, true, true, true, true, false, false, true, true, true, true, false, false, false, false, false, false] rfl rfl (take_ofW HT_.out HW_.out (by kernel_rfl)) (fun _ _ _ h => h) (Or.inl ⟨by rfl, ?_⟩) hHeld ?_ ?_
                                        rotate_left
                                        · rintro w' ⟨s0, s1, s2, s3⟩
                                          go_simp
                                          with_reducible rfl
                                        rotate_left
                                        · simp only [Act.put, List.setIfInBounds_toArray, List.set_cons_zero, List.set_cons_succ, i64_w, i32_w]
                                          rfl
                                        refine pure_ (i := 18) (N := some 51) (v := ?_) (a' := ?_) #[true, true, true, true, true, true, true, true, true, true, true, true, true, true, true, true, true, true, true, false, true, true, true, true, false, false, false, false, false, false] rfl rfl (any_of HT_.out (by kernel_rfl)) (fun _ _ _ h => h) (Or.inl ⟨by rfl, ?_⟩) ?_ ?_
                                        rotate_left
                                        · intro w'
                                          go_simp
                                          with_reducible rfl
                                        rotate_left
                                        · simp only [Act.put, List.setIfInBounds_toArray, List.set_cons_zero, List.set_cons_succ, i64_w, i32_w]
                                          rfl
                                        refine pure_ (i := 19) (N := some 52) (v := ?_) (a' := ?_) #[true, true, true, true, true, true, true, true, true, true, true, true, true, true, true, true, true, true, true, true, true, true, true, true, false, false, false, false, false, false] rfl rfl (any_of HT_.out (by kernel_rfl)) (fun _ _ _ h => h) (Or.inl ⟨by rfl, ?_⟩) ?_ ?_
                                        rotate_left
                                        · intro w'
                                          go_simp
                                          with_reducible rfl
                                        rotate_left
                                        · simp only [Act.put, List.setIfInBounds_toArray, List.set_cons_zero, List.set_cons_succ, i64_w, i32_w]
                                          rfl
                                        refine take_ (i := 24) (N := some 57) (v := ?_) (a' := ?_) #[true, true, true, true, true, true, true, true, true, true, true, true, true, true, true, true, true, true, true, true, true, true, true, true, true, false, false, false, false, false] rfl rfl (take_ofW HT_.out HW_.out (by kernel_rfl)) (fun _ _ _ h => h) (Or.inl ⟨by rfl, ?_⟩) hHeld ?_ ?_
                                        rotate_left
                                        · rintro w' ⟨s0, s1, s2, s3⟩
                                          go_simp
                                          with_reducible rfl
                                        rotate_left
                                        · simp only [Act.put, List.setIfInBounds_toArray, List.set_cons_zero, List.set_cons_succ, i64_w, i32_w]
                                          rfl
                                        refine pure_ (i := 25) (N := some 58) (v := ?_) (a' := ?_) #[true, true, true, true, true, true, true, true, true, true, true, true, true, true, true, true, true, true, true, true, true, true, true, true, true, true, false, false, false, false] rfl rfl (any_of HT_.out (by kernel_rfl)) (fun _ _ _ h => h) (Or.inl ⟨by rfl, ?_⟩) ?_ ?_
                                        rotate_left
                                        · intro w'
                                          go_simp
                                          with_reducible rfl
                                        rotate_left
                                        · simp only [Act.put, List.setIfInBounds_toArray, List.set_cons_zero, List.set_cons_succ, i64_w, i32_w]
                                          rfl
                                        refine take_ (i := 26) (N := some 59) (v := ?_) (a' := ?_) #[true, true, true, true, true, true, true, true, true, true, true, true, true, true, true, true, true, true, true, true, true, true, true, true, true, true, true, false, false, false] rfl rfl (take_ofW HT_.out HW_.out (by kernel_rfl)) (fun _ _ _ h => h) (Or.inl ⟨by rfl, ?_⟩) hHeld ?_ ?_
                                        rotate_left
                                        · rintro w' ⟨s0, s1, s2, s3⟩
                                          go_simp
                                          with_reducible rfl
                                        rotate_left
                                        · simp only [Act.put, List.setIfInBounds_toArray, List.set_cons_zero, List.set_cons_succ, i64_w, i32_w]
                                          rfl
                                        refine last_ (i := 27) (N := some 60) #[true, true, true, true, true, true, true, true, true, true, true, true, true, true, true, true, true, true, true, true, true, true, true, true, true, true, true, true, false, false] rfl rfl (one_of HT_.out (by kernel_rfl)) (by decide) (fun K hK => ?_)
                                        refine value_ (w1 := ?_) (v := ?_) (by rfl) rfl ?_ ?_
                                        rotate_left 2
                                        · go_simp
                                          constructor
                                          · rfl
                                          · rfl
                                        refine hK.out _ _ ?_
                                        clear hK K
                                        refine norm_ (a' := ?_) ?_ ?_
                                        rotate_left
                                        · show Act.put _ (some 60) _ = _
                                          simp only [Act.put, List.setIfInBounds_toArray, List.set_cons_zero, List.set_cons_succ, i64_w, i32_w]
                                          rfl
                                        refine last_ (i := 28) (N := some 61) #[true, true, true, true, true, true, true, true, true, true, true, true, true, true, true, true, true, true, true, true, true, true, true, true, true, true, true, true, true, false] rfl rfl (one_of HT_.out (by kernel_rfl)) (by decide) (fun K hK => ?_)
                                        refine Kd.R_append_step (Kd.int .u8) (w0 := w) w.heap.size (by rfl) (.tmp 33) (.tmp 60) 83 5 (.int .u8 0) 1 rfl Tryz.underlying83 info5 rfl (by decide) (by omega) u5 x5_3 (bt (⟨#[48, 49, 50, 51, 52, 53, 54, 55, 56, 57, 65, 66, 67, 68, 69, 70]⟩ : ByteArray) (ji23)) [.int .u8 (bt (⟨#[48, 49, 50, 51, 52, 53, 54, 55, 56, 57, 65, 66, 67, 68, 69, 70]⟩ : ByteArray) (ji23))] (fun _ => True) (fun _ => False) rfl rfl ?aP (fun _ hk => hk.elim) ?aF ?aO ?aB ?aS ?aL ?_
                                        (case aP => exact rfl)
                                        (case aB => exact (by repeat (first | (with_reducible first | exact HB.out | apply below_alloc | apply pw_below_drewN | apply below_drew1 | refine below_set ?_ GE931.out) | exact HB.out)))
                                        (case aF => exact (fun _ _ => trivial))
                                        (case aO => exact (by (with_reducible repeat (first | apply Kd.R_alloc | apply Kd.R_drewN | apply Kd.R_drew)); exact HO_5.out))
                                        (case aS => exact (below_size (by repeat (first | (with_reducible first | exact HB.out | apply below_alloc | apply pw_below_drewN | apply below_drew1 | refine below_set ?_ GE931.out) | exact HB.out))))
                                        (case aL => have := LMc27.out; omega)
                                        intro v948 w29 ho hb hg hat
                                        rw [← Ny947.out] at ho
                                        have n0_ := Aside0.mk (Kd.R_over' (by (with_reducible repeat (first | apply Kd.R_alloc | apply Kd.R_drewN | apply Kd.R_drew)); exact HO_3.out) (Kd.R_typed (by (with_reducible repeat (first | apply Kd.R_alloc | apply Kd.R_drewN | apply Kd.R_drew)); exact HO_5.out)) (by decide) hg)
                                        have n1_ := Aside0.mk (blk_grown (g := gb931) (o := .cells #[.string (⟨#[]⟩ : ByteArray), .int .i64 0] 29 (0, 0)) (by (with_reducible repeat (first | refine blk_drewN ?_ _ | refine blk_drew ?_ | refine blk_alloc ?_ _)); exact BK931.out) hg (Kd.R_ne HO_5.out BK931.out (by decide)))
                                        have n2_ := Aside0.mk (hb)
                                        have n3_ := Aside0.mk (ho)
                                        clear HO_3
                                        clear BK931
                                        clear HB
                                        clear HO_5
                                        have HO_3 := n0_
                                        have BK931 := n1_
                                        have HB := n2_
                                        have HO949 := n3_
                                        clear n0_ n1_ n2_ n3_
                                        clear ho hb hg hat
                                        refine hK.out _ _ ?_
                                        clear hK K
                                        refine norm_ (a' := ?_) ?_ ?_
                                        rotate_left
                                        · show Act.put _ (some 61) _ = _
                                          simp only [Act.put, List.setIfInBounds_toArray, List.set_cons_zero, List.set_cons_succ, i64_w, i32_w]
                                          rfl
                                        refine pure_ (i := 29) (N := some 5) (v := ?_) (a' := ?_) #[true, true, true, true, true, true, true, true, true, true, true, true, true, true, true, true, true, true, true, true, true, true, true, true, true, true, true, true, true, true] rfl rfl (any_of HT_.out (by kernel_rfl)) (fun _ _ _ h => h) (Or.inl ⟨by rfl, ?_⟩) ?_ ?_
                                        rotate_left
                                        · intro w'
                                          go_simp
                                          with_reducible rfl
                                        rotate_left
                                        · simp only [Act.put, List.setIfInBounds_toArray, List.set_cons_zero, List.set_cons_succ, i64_w, i32_w]
                                          rfl
                                        refine done_ (done_of HT_.out (by kernel_rfl)) ?_
                                        try go_wp2
                                        go_roundg k3
                                        case measure => have := HJ2.out; have := HK2.out; have := HK3.out; omega
                                        case rel => exact ⟨(y947), (wrap64 (x6_3 + 4)), (by first | rfl | (simp; done) | (simp [*]; done)), H', ⟨by have := HJ2.out; have := HK2.out; have := HK3.out; omega⟩, ⟨by (with_reducible repeat (first | apply Kd.R_alloc | apply Kd.R_drewN | apply Kd.R_drew)); exact HO_3.out⟩, ⟨by (with_reducible repeat (first | apply Kd.R_alloc | apply Kd.R_drewN | apply Kd.R_drew)); exact HO949.out⟩, ⟨by (with_reducible repeat (first | refine blk_drewN ?_ _ | refine blk_drew ?_ | refine blk_alloc ?_ _)); exact BK931.out⟩, ⟨by repeat (first | (with_reducible first | exact HB.out | apply below_alloc | apply pw_below_drewN | apply below_drew1 | refine below_set ?_ GE931.out) | exact HB.out)⟩⟩
                                      · rw [if_neg c27] at H
                                        exact absurd H (by simp)
                                    · rw [if_neg c25] at H
                                      exact absurd H (by simp)
                                  · rw [if_neg c24] at H
                                    exact absurd H (by simp)
                                · rw [if_neg c22] at H
                                  exact absurd H (by simp)
                              · rw [if_neg c21] at H
                                exact absurd H (by simp)
                            · rw [if_neg c19] at H
                              exact absurd H (by simp)
                          · rw [if_neg c18] at H
                            exact absurd H (by simp)
                        · rw [if_neg c16] at H
                          exact absurd H (by simp)
                      · rw [if_neg c15] at H
                        exact absurd H (by simp)
                    · rw [if_neg c13] at H
                      exact absurd H (by simp)
                  · rw [if_neg c12] at H
                    have c12b0 : decide (x6_3 < (x3_2.length : Int)) = false := decide_eq_false c12
                    clear c12
                    replace H := Option.bind_eq_some_iff.mp H
                    obtain ⟨⟨t950, t951⟩, A300, H⟩ := H
                    replace H : (some (t950, t951)) = some (r1, r2) := H
                    have A30 := Aside0.mk A300
                    clear A300
                    simp only [Option.some.injEq, Prod.mk.injEq] at H
                    obtain ⟨rfl, rfl⟩ := H
                    obtain ⟨Ao31, co31, eo31⟩ := Kd.R_slice HO_5.out
                    subst eo31
                    go_wp2_with (first | ((with_reducible refine gate_callee (f := 90) rfl ?_); refine goesL_ (some 63) rfl rfl Tryz.func90 (by kernel_rfl) rfl #[.slice Ao31 x5_3.length co31] rfl (by (try simp only [List.map_toArray, List.map_cons, List.map_nil]); first | done | rfl | (simp only [List.length_drop, List.length_take]; rfl)) ?_; (with_reducible refine (qanatref02_out.calls _ _ x5_3 t950 t951 _ ?side1 ?side2 A30.out).mono ?_); (case side1 => repeat (first | exact (Kd.R_reads' HO_5.out).2.2 | (with_reducible refine Kd.C_alloc ?_ _) | (with_reducible refine Kd.C_drewN ?_ _) | (with_reducible refine Kd.C_drew ?_))); (case side2 => exact (Kd.R_reads' HO_5.out).2.1); rintro e w32 ⟨rfl, hb⟩; refine ⟨_, rfl, ?_⟩; have n0_ := Aside0.mk (Kd.R_below (by (with_reducible repeat (first | apply Kd.R_alloc | apply Kd.R_drewN | apply Kd.R_drew)); exact HO_3.out) hb); have n1_ := Aside0.mk (Kd.R_below (by (with_reducible repeat (first | apply Kd.R_alloc | apply Kd.R_drewN | apply Kd.R_drew)); exact HO_5.out) hb); have n2_ := Aside0.mk (blk_below (g := gb931) (o := .cells #[.string (⟨#[]⟩ : ByteArray), .int .i64 0] 29 (0, 0)) (by (with_reducible repeat (first | refine blk_drewN ?_ _ | refine blk_drew ?_ | refine blk_alloc ?_ _)); exact BK931.out) hb); have n3_ := Aside0.mk (below_step (by repeat (first | (with_reducible first | exact HB.out | apply below_alloc | apply pw_below_drewN | apply below_drew1 | refine below_set ?_ GE931.out) | exact HB.out)) hb); clear HO_3; clear HO_5; clear BK931; clear HB; have HO_3 := n0_; have HO_5 := n1_; have BK931 := n2_; have HB := n3_; clear n0_ n1_ n2_ n3_; (try clear hb); (try clear hb2); (try clear hk); (try clear hi); have hcz33_0 : w32.cell? ⟨gb931, 0, none⟩ = some (.string (⟨#[]⟩ : ByteArray)) := (blk_cell BK931.out 0).trans rfl; have hcz33_1 : w32.cell? ⟨gb931, 1, none⟩ = some (.int .i64 0) := (blk_cell BK931.out 1).trans rfl; have hfz33_0 := blk_frozen BK931.out 0; have hfz33_1 := blk_frozen BK931.out 1))
                    refine bodyPost_ret (results_cell_row rfl _ _ gb931 29 #[.string t950, .int .i64 t951] (0, 0) _ rfl (by (with_reducible repeat (first | refine blk_drewN ?_ _ | refine blk_drew ?_ | refine blk_alloc ?_ _)); refine blk_put (cs := #[.string t950, .int .i64 0]) ?_ 1 _ rfl; (with_reducible repeat (first | refine blk_drewN ?_ _ | refine blk_drew ?_ | refine blk_alloc ?_ _)); refine blk_put (cs := #[.string (⟨#[]⟩ : ByteArray), .int .i64 0]) ?_ 0 _ rfl; (with_reducible repeat (first | refine blk_drewN ?_ _ | refine blk_drew ?_ | refine blk_alloc ?_ _)); exact BK931.out) Tryz.underlying29 rfl (by kernel_rfl)) rfl ?_
                    exact ⟨by first | rfl | (simp [errW_none, errW_some] <;> rfl) | (simp [*, errW_none, errW_some] <;> rfl), by repeat (first | (with_reducible first | exact HB.out | apply below_alloc | apply pw_below_drewN | apply below_drew1 | refine below_set ?_ GE931.out) | exact HB.out)⟩
            · rw [if_neg c10] at H
              have c10b0 : (((x3_2.length : Int) % 4) == 0) = false := beq_eq_false_iff_ne.mpr c10
              have c10b1 : (((x3_2.length : Int) % 4) != 0) = true := bne_iff_ne.mpr c10
              obtain ⟨y937, hy937⟩ : ∃ y_ : List Int, y_ = (([0] : List Int)) := ⟨_, rfl⟩
              replace H : (if y937.length + x3_2.length < 17592186044416 then (qanatref02_B2X.l0 k2 (y937 ++ x3_2)) else (none)) = some (r1, r2) := by first | (rw [hy937]; with_reducible exact H) | (have H2_ := (Option.bind_some _ _).symm.trans H; rw [hy937]; with_reducible exact H2_) | (have H2_ := (Option.bind_some _ _).symm.trans H; with_reducible exact H2_) | with_reducible exact H | (rw [hy937]; exact H) | exact H
              have Ny937 := Aside0.mk hy937
              clear hy937
              by_cases c34 : y937.length + x3_2.length < 17592186044416
              · rw [if_pos c34] at H
                have LMc34 := Aside0.mk c34
                clear c34
                obtain ⟨y940, hy940⟩ : ∃ y_ : List Int, y_ = (y937 ++ x3_2) := ⟨_, rfl⟩
                replace H : (qanatref02_B2X.l0 k2 y940) = some (r1, r2) := by first | (rw [hy940]; with_reducible exact H) | (have H2_ := (Option.bind_some _ _).symm.trans H; rw [hy940]; with_reducible exact H2_) | (have H2_ := (Option.bind_some _ _).symm.trans H; with_reducible exact H2_) | with_reducible exact H | (rw [hy940]; exact H) | exact H
                have Ny940 := Aside0.mk hy940
                clear hy940
                have H' := Aside0.mk H
                clear H
                obtain ⟨Ao35, co35, eo35⟩ := Kd.R_slice HO_3.out
                subst eo35
                go_wp2_with (first | ((with_reducible refine gate_dst (N := 24) rfl ?_); refine Kd.R_lit (Kd.int .i64) _ 3 ?hg (N := 24) ?hd (xs := ([0] : List Int)) (inner := [.int .i64 0]) (ok := fun _ => True) (okp := fun _ => True) ?hr ?hp (fun _ hk => hk) trivial (Below.refl _ _) (Nat.le_refl _) (by simp) ?_; (case hd => rfl); (case hg => rfl); (case hr => first | (go_simp; done) | (go_simp; rfl)); (case hp => exact (Reps.one (show Kd.M (Kd.int .i64) _ _ _ 0 [.int .i64 0] from rfl) (Reps.none _ _))); intro v938 w36 ho37 hb hg_ hnew_; clear hg_ hnew_; (first | rw [← Ny937.out] at ho37 | (simp only [Int.reduceToNat] at ho37; rw [← Ny937.out] at ho37)); have n0_ := Aside0.mk (Kd.R_elder' (by (with_reducible repeat (first | apply Kd.R_alloc | apply Kd.R_drewN | apply Kd.R_drew)); exact HO_3.out) (Kd.R_base ho37) hb); have n1_ := Aside0.mk (Kd.R_lower (Kd.R_new' ho37 (Kd.R_lt (by (with_reducible repeat (first | apply Kd.R_alloc | apply Kd.R_drewN | apply Kd.R_drew)); exact HO_3.out))) (below_size (by repeat (first | (with_reducible first | exact HB.out | apply below_alloc | apply pw_below_drewN | apply below_drew1 | refine below_set ?_ GE931.out) | exact HB.out)))); have n2_ := Aside0.mk (blk_below (g := gb931) (o := .cells #[.string (⟨#[]⟩ : ByteArray), .int .i64 0] 29 (0, 0)) (by (with_reducible repeat (first | refine blk_drewN ?_ _ | refine blk_drew ?_ | refine blk_alloc ?_ _)); exact BK931.out) hb); have n3_ := Aside0.mk (below_step (by repeat (first | (with_reducible first | exact HB.out | apply below_alloc | apply pw_below_drewN | apply below_drew1 | refine below_set ?_ GE931.out) | exact HB.out)) hb); clear HO_3; clear BK931; clear HB; have HO_3 := n0_; have HO939 := n1_; have BK931 := n2_; have HB := n3_; clear n0_ n1_ n2_ n3_; clear hb ho37) | ((with_reducible refine gate_builtin (b := .append) (xs := #[.tmp 24, .tmp 25]) rfl ?_); at_builtin; refine Kd.R_append_rows (Kd.int .i64) (w0 := w) w.heap.size rfl (.tmp 24) (.tmp 25) 120 3 (.int .i64 0) 8 rfl Tryz.underlying120 info3 rfl (by decide) (by omega) v938 y937 x3_2 _ _ _ (fun k_ => some k_ ≠ (.slice Ao35 x3_2.length co35 : Value).ownBlock) (fun _ => False) rfl rfl ?aO ?aR (fun _ _ h => h) (fun _ h => h.elim) ?aF ?aB ?aS ?aL ?_; (case aR => repeat (first | exact (Kd.R_reads' HO_3.out).2.2 | (with_reducible refine Kd.C_alloc ?_ _) | (with_reducible refine Kd.C_drewN ?_ _) | (with_reducible refine Kd.C_drew ?_))); (case aB => exact (by repeat (first | (with_reducible first | exact HB.out | apply below_alloc | apply pw_below_drewN | apply below_drew1 | refine below_set ?_ GE931.out) | exact HB.out))); (case aF => exact (fun k_ hk => Kd.fresh' (Kd.R_lt (by (with_reducible repeat (first | apply Kd.R_alloc | apply Kd.R_drewN | apply Kd.R_drew)); exact HO_3.out)) k_ hk)); (case aO => exact (by (with_reducible repeat (first | apply Kd.R_alloc | apply Kd.R_drewN | apply Kd.R_drew)); exact Kd.R_mono HO939.out (fun _ hk => hk.2))); (case aS => exact (below_size (by repeat (first | (with_reducible first | exact HB.out | apply below_alloc | apply pw_below_drewN | apply below_drew1 | refine below_set ?_ GE931.out) | exact HB.out)))); (case aL => have := LMc34.out; omega); intro v941 w38 ho hb hg hat; rw [← Ny940.out] at ho; have n0_ := Aside0.mk (Kd.R_after (ok := (fun _ => True)) (by (with_reducible repeat (first | apply Kd.R_alloc | apply Kd.R_drewN | apply Kd.R_drew)); exact HO_3.out) hg hat); have n1_ := Aside0.mk (blk_grown (g := gb931) (o := .cells #[.string (⟨#[]⟩ : ByteArray), .int .i64 0] 29 (0, 0)) (by (with_reducible repeat (first | refine blk_drewN ?_ _ | refine blk_drew ?_ | refine blk_alloc ?_ _)); exact BK931.out) hg (Kd.R_ne HO939.out BK931.out (by decide))); have n2_ := Aside0.mk (hb); have n3_ := Aside0.mk (ho); clear HO_3; clear BK931; clear HB; clear HO939; have HO_3 := n0_; have BK931 := n1_; have HB := n2_; have HO942 := n3_; clear n0_ n1_ n2_ n3_; clear ho hb hg hat))
                go_roundg k2
                case measure => have := HJ2.out; have := HK2.out; omega
                case rel => exact ⟨(y940), H', ⟨by have := HJ2.out; have := HK2.out; omega⟩, ⟨by (with_reducible repeat (first | apply Kd.R_alloc | apply Kd.R_drewN | apply Kd.R_drew)); exact Kd.R_mono HO942.out (fun _ hk => trivial)⟩, ⟨by (with_reducible repeat (first | refine blk_drewN ?_ _ | refine blk_drew ?_ | refine blk_alloc ?_ _)); exact BK931.out⟩, ⟨by repeat (first | (with_reducible first | exact HB.out | apply below_alloc | apply pw_below_drewN | apply below_drew1 | refine below_set ?_ GE931.out) | exact HB.out)⟩⟩
              · rw [if_neg c34] at H
                exact absurd H (by simp)

end Go.Proofs.YtlekfhnlhdmekaaGreatDoor.T

/- text.X2B returns what text_X2B.f says. -/
namespace Go.Proofs.YtlekfhnlhdmekaaGreatDoor.T
set_option linter.unusedSimpArgs false
set_option linter.unusedVariables false
open Go.RowKit Go.Proofs.YtlekfhnlhdmekaaGreatDoorW.PrintWords Go.Proofs.YtlekfhnlhdmekaaGreatDoorW.PrintLast Go.Proofs.YtlekfhnlhdmekaaGreatDoorW.PrintMore
attribute [local go_sem] max2_int min2_int max_two min_two max_three min_three max_four min_four

/-- The digit for a bit. -/
def bit01 (n b : Int) : Int := if Go.bits .and .i64 n b < 1 then 48 else 49
def b4 (n : Int) : List Int := [bit01 n 8, bit01 n 4, bit01 n 2, bit01 n 1]
def nn4 (n : Int) : Bool := decide (0 ≤ Go.bits .and .i64 n 8) && decide (0 ≤ Go.bits .and .i64 n 4) && decide (0 ≤ Go.bits .and .i64 n 2) && decide (0 ≤ Go.bits .and .i64 n 1)
def text_X2B.f (k : Nat) (a0 : ByteArray) : Option (ByteArray × Int) := (text_digits.f k a0 16 2).bind fun t =>
  if t.2 = true then (if vld a0 = true then
    (strings_ReplaceAll.f a0 ⟨#[32]⟩ ⟨#[]⟩).bind fun r =>
      if t.1.length ≤ 5000 ∧ t.1.all nn4 = true then text_made.f (strOfNums ((if r.size < t.1.length then t.1.drop 1 else t.1).flatMap b4)) else none
    else some (⟨#[]⟩, 1)) else some (⟨#[]⟩, 1)
theorem digits_mono (k : Nat) (a0 : ByteArray) : LeO (text_X2B.f k a0) (text_X2B.f (k + 1) a0) := by
  unfold text_X2B.f
  exact LeO.bind (text_digits.mono _ _ _ _) (fun _ => LeO.refl _)
theorem text_X2B.mono (a0 : ByteArray) (k : Nat) : LeO (text_X2B.f k a0) (text_X2B.f (k + 1) a0) := digits_mono k a0
theorem nn4_at (l : List Int) (h : l.all nn4 = true) (i : Nat) (hi : i < l.length) : 0 ≤ Go.bits .and .i64 (rd l i) 8 ∧ 0 ≤ Go.bits .and .i64 (rd l i) 4 ∧ 0 ≤ Go.bits .and .i64 (rd l i) 2 ∧ 0 ≤ Go.bits .and .i64 (rd l i) 1 := by
  have hx : nn4 (rd l i) = true := by
    rw [show rd l (i : Int) = l[i] by unfold rd; rw [Int.toNat_natCast, List.getD_eq_getElem?_getD, List.getElem?_eq_getElem hi]; rfl]
    exact List.all_eq_true.1 h _ (List.getElem_mem hi)
  simp only [nn4, Bool.and_eq_true, decide_eq_true_eq] at hx
  exact ⟨hx.1.1.1, hx.1.1.2, hx.1.2, hx.2⟩
theorem flat_step (l xs z : List Int) (i : Nat) (h : xs ++ (l.drop i).flatMap b4 = z) (hi : i < l.length) : xs ++ b4 (rd l i) ++ (l.drop (i + 1)).flatMap b4 = z := by
  rw [show rd l (i : Int) = l[i] by unfold rd; rw [Int.toNat_natCast, List.getD_eq_getElem?_getD, List.getElem?_eq_getElem hi]; rfl, ← h, List.drop_eq_getElem_cons hi, List.flatMap_cons, List.append_assoc]
theorem ix144_0 (W : World) : Sem.run Tryz.prog (Instr.index 144 (Value.agg #[Value.int .i64 8, Value.int .i64 4, Value.int .i64 2, Value.int .i64 1]) (Value.int .i64 0)) W = .ok (.int .i64 8) W := by
  simp [Instr.index, asIntOf, part]
theorem ix144_1 (W : World) : Sem.run Tryz.prog (Instr.index 144 (Value.agg #[Value.int .i64 8, Value.int .i64 4, Value.int .i64 2, Value.int .i64 1]) (Value.int .i64 1)) W = .ok (.int .i64 4) W := by
  simp [Instr.index, asIntOf, part]
theorem ix144_2 (W : World) : Sem.run Tryz.prog (Instr.index 144 (Value.agg #[Value.int .i64 8, Value.int .i64 4, Value.int .i64 2, Value.int .i64 1]) (Value.int .i64 2)) W = .ok (.int .i64 2) W := by
  simp [Instr.index, asIntOf, part]
theorem ix144_3 (W : World) : Sem.run Tryz.prog (Instr.index 144 (Value.agg #[Value.int .i64 8, Value.int .i64 4, Value.int .i64 2, Value.int .i64 1]) (Value.int .i64 3)) W = .ok (.int .i64 1) W := by
  simp [Instr.index, asIntOf, part]
attribute [local go_sem] ix144_0 ix144_1 ix144_2 ix144_3
theorem flat_end (l xs z : List Int) (h : xs ++ (l.drop l.length).flatMap b4 = z) : xs = z := by
  rw [List.drop_length] at h; simpa using h

set_option maxRecDepth 100000 in
set_option maxHeartbeats 8000000 in
theorem text_X2B.calls (k : Nat) (a0 : ByteArray) (r1 : ByteArray) (r2 : Int) (w : World) (hT : TabOK w) (h : text_X2B.f k a0 = some (r1, r2)) :
    Calls Tryz.prog 77 #[.string a0] w fun e w' => e = .returned (.tuple #[.string r1, .int .i64 r2]) ∧ Below w.heap.size w w' := by
  unfold text_X2B.f at h
  obtain ⟨⟨l, is⟩, hd, h⟩ := Option.bind_eq_some_iff.mp h
  have HD := Lib.hid (fun (W : World) (hW : TabOK W) => text_digits.calls k a0 16 2 l is W hW hd)
  have HV := Lib.hid (fun (W : World) => text_Valid.calls a0 (vld a0) W rfl)
  clear hd
  simp only at h
  cases is with
  | false =>
    rw [if_neg (by decide)] at h
    obtain ⟨rfl, rfl⟩ : (⟨#[]⟩ : ByteArray) = r1 ∧ 1 = r2 := by simpa using h
    clear h
    go_enter Tryz.func77, Tryz.ntmps77
    go_wp2_with (first | (go_at_call 131; with_reducible refine (HD.out _ (by repeat (first | exact hT | refine TabOK.of_below hT ?_ | exact Below.refl _ _))).mono ?_; rintro e w1 ⟨v1, rfl, ho1, hb1⟩; obtain ⟨A1, c1, rfl⟩ := Kd.R_slice ho1; have HO1 := Aside0.mk ho1; have HB1 := Aside0.mk hb1; clear ho1 hb1))
    go_ret2
    exact ⟨rfl, HB1.out⟩
  | true =>
    rw [if_pos rfl] at h
    generalize vld a0 = bv at HV h
    cases bv with
    | false =>
      rw [if_neg (by decide)] at h
      obtain ⟨rfl, rfl⟩ : (⟨#[]⟩ : ByteArray) = r1 ∧ 1 = r2 := by simpa using h
      clear h
      go_enter Tryz.func77, Tryz.ntmps77
      go_wp2_with (first | (go_at_call 131; with_reducible refine (HD.out _ (by repeat (first | exact hT | refine TabOK.of_below hT ?_ | exact Below.refl _ _))).mono ?_; rintro e w1 ⟨v1, rfl, ho1, hb1⟩; obtain ⟨A1, c1, rfl⟩ := Kd.R_slice ho1; have HO1 := Aside0.mk ho1; have HB1 := Aside0.mk hb1; clear ho1 hb1) | (go_at_call 65; with_reducible refine (HV.out _).mono ?_; rintro e w2 ⟨rfl, hb2⟩; have HB2 := Aside0.mk (below_step HB1.out hb2); have HO2 := Aside0.mk (Kd.R_below HO1.out hb2); clear hb2))
      go_ret2
      exact ⟨rfl, HB2.out⟩
    | true =>
      rw [if_pos rfl] at h
      obtain ⟨r, hr, h⟩ := Option.bind_eq_some_iff.mp h
      have HR := Lib.hid (fun (W : World) (hW : TabOK W) => strings_ReplaceAll.calls a0 ⟨#[32]⟩ ⟨#[]⟩ r W hW hr)
      clear hr
      by_cases hc : l.length ≤ 5000 ∧ l.all nn4 = true
      · rw [if_pos hc] at h
        obtain ⟨hc1, hc2⟩ := hc
        obtain ⟨nl, hnl⟩ : ∃ nl, l.length = nl := ⟨_, rfl⟩
        have HN := Aside0.mk hnl
        rw [hnl] at hc1 h
        by_cases hrl : r.size < nl
        · rw [if_pos hrl] at h
          have d1 : decide (r.size < nl) = true := decide_eq_true hrl
          obtain ⟨z, hz⟩ : ∃ z, (l.drop 1).flatMap b4 = z := ⟨_, rfl⟩
          rw [hz] at h
          have HZ := Aside0.mk hz
          have HM := Lib.hid (fun (W : World) => text_made.calls (strOfNums z) r1 r2 W h)
          have HALL := Aside0.mk (nn4_at (l.drop 1) (by rw [List.all_eq_true]; intro x hx; exact List.all_eq_true.1 hc2 x (List.mem_of_mem_drop hx)))
          obtain ⟨nm, hnm⟩ : ∃ nm, nl = nm + 1 := ⟨nl - 1, by omega⟩
          have HLN : Aside0 ((l.drop 1).length = nm) := ⟨by rw [List.length_drop, hnl, hnm]; rfl⟩
          have hs1 : (1 : Int) ≤ (nl : Int) := by omega
          have HNM := Aside0.mk hnm
          clear hnm
          clear hz h hc2 hnl hrl
          go_enter Tryz.func77, Tryz.ntmps77
          go_upto_region 6 with (first | (go_at_call 131; with_reducible refine (HD.out _ (by repeat (first | exact hT | refine TabOK.of_below hT ?_ | exact Below.refl _ _))).mono ?_; rintro e w1 ⟨v1, rfl, ho1, hb1⟩; obtain ⟨A1, c1, rfl⟩ := Kd.R_slice ho1; have hcp := (Kd.R_reads' ho1).2.1; rw [HN.out] at hcp; rw [HN.out]; have HO1 := Aside0.mk ho1; have HB1 := Aside0.mk hb1; clear ho1 hb1) | (go_at_call 65; with_reducible refine (HV.out _).mono ?_; rintro e w2 ⟨rfl, hb2⟩; have HB2 := Aside0.mk (below_step HB1.out hb2); have HO2 := Aside0.mk (Kd.R_below HO1.out hb2); clear hb2) | (go_at_call 132; with_reducible refine (HR.out _ (TabOK.of_below hT HB2.out)).mono ?_; rintro e w3 ⟨rfl, hb3⟩; have HB3 := Aside0.mk (below_step HB2.out hb3); have HO3 := Aside0.mk (Kd.R_below HO2.out hb3); clear hb3))
          have HL : Aside0 (Kd.C (Kd.int .i64) w3 (if c1 = 1 then A1 else Option.map (fun x : Addr => (⟨x.block, x.off + 1, none⟩ : Addr)) A1) (l.drop 1).length (l.drop 1)) := ⟨Kd.C_drop (m := 1) (c := c1) (Kd.R_reads' HO3.out).2.2 (by have := HN.out; omega) (by have := HN.out; omega)⟩
          generalize (if c1 = 1 then A1 else Option.map (fun x : Addr => (⟨x.block, x.off + 1, none⟩ : Addr)) A1) = A4 at HL ⊢
          have hnm2 : nl - 1 = nm := by have := HNM.out; omega
          simp only [hnm2]
          clear hnm2 hs1 d1 hcp
          have hnm5 : nm ≤ 5000 := by have := HNM.out; omega
          clear hc1
          go_wp2
          go_loopg [6, 33] nm (fun gg s6 s33 wr => ∃ (i : Nat) (xs : List Int), nm - i ≤ gg ∧ i ≤ nm ∧ s33 = .int .i64 i ∧ Aside0 (xs ++ ((l.drop 1).drop i).flatMap b4 = z) ∧ Aside0 (xs.length = 4 * i) ∧ Aside0 (Kd.R (Kd.int .u8) 5 wr w3.heap.size (fun _ => True) s6 xs) ∧ Aside0 (Below w3.heap.size w3 wr))
          case atStart => exact ⟨0, [], by omega, by omega, rfl, ⟨by simpa using HZ.out⟩, ⟨rfl⟩, ⟨Kd.R_nil _ _ _ _ _⟩, ⟨Below.refl _ _⟩⟩
          case round =>
            obtain ⟨i, xs, hg, hi, rfl, HG, HX, HO, HB⟩ := hrel
            by_cases hlt : i < nm
            · have g1 : (i : Int) < (nm : Int) := by omega
              have hst := flat_step (l.drop 1) xs z i HG.out (by have := HLN.out; omega)
              obtain ⟨n8, n4, n2, n1⟩ := HALL.out i (by have := HLN.out; omega)
              obtain ⟨ad, ea, hu⟩ := Kd.at_int (Kd.C_below HL.out HB.out) (i : Int) (by omega) (by have := HLN.out; omega)
              rw [Int.toNat_natCast] at hu
              subst ea
              generalize rd (l.drop 1) (i : Int) = n at hst n8 n4 n2 n1 hu
              have HST := Aside0.mk hst
              have N8 := Aside0.mk n8; have N4 := Aside0.mk n4; have N2 := Aside0.mk n2; have N1 := Aside0.mk n1
              clear hst n8 n4 n2 n1 HG
              go_wp2
              go_loopg [6, 38] 4 (fun gg s6 s38 wi => ∃ (j : Nat) (ys : List Int), 4 - j ≤ gg ∧ j ≤ 4 ∧ s38 = .int .i64 j ∧ Aside0 (ys = xs ++ (b4 n).take j) ∧ Aside0 (Kd.R (Kd.int .u8) 5 wi w3.heap.size (fun _ => True) s6 ys) ∧ Aside0 (Below w3.heap.size w3 wi))
              case atStart => exact ⟨0, xs, by omega, by omega, rfl, ⟨by simp⟩, HO, HB⟩
              case round =>
                clear HO HB hu g1
                obtain ⟨j, ys, hg2, hj, rfl, HY, HO, HB⟩ := hrel
                have hyl : ys.length ≤ 100000 := by rw [HY.out, List.length_append, List.length_take, HX.out]; omega
                have HYL := Aside0.mk hyl
                clear hyl
                obtain rfl | rfl | rfl | rfl | rfl : j = 0 ∨ j = 1 ∨ j = 2 ∨ j = 3 ∨ j = 4 := by omega
                · by_cases hx : Go.bits .and .i64 n 8 < 1
                  · have hx0 : Go.bits .and .i64 n 8 = 0 := by have := N8.out; omega
                    have HBT : Aside0 (bit01 n 8 = 48) := ⟨by unfold bit01; rw [if_pos hx]⟩
                    clear hx
                    go_wp2_with (at_builtin; refine Kd.R_append (Kd.int .u8) (w0 := w3) w3.heap.size rfl (.tmp 41) (.tmp 47) 83 5 (.int .u8 0) 1 rfl Tryz.underlying83 info5 rfl (by decide) (by omega) _ ys 48 [.int .u8 48] (fun _ => True) (fun _ => False) rfl rfl ?aP (fun _ hk => hk.elim) ?aF ?aO ?aB ?aS ?aL ?_; (case aP => exact rfl); (case aB => exact HB.out); (case aF => exact (fun _ _ => trivial)); (case aO => exact HO.out); (case aS => exact HB.out.size); (case aL => have := HYL.out; omega); intro v7 w7 ho7 hb7 hg7 hat7; have HO7 := Aside0.mk ho7; have HB7 := Aside0.mk hb7; clear ho7 hb7 hg7 hat7)
                    go_roundg 3
                    case measure => omega
                    case rel => exact ⟨0 + 1, ys ++ [48], by omega, by omega, by go_num, ⟨by rw [HY.out, List.append_assoc, ← HBT.out]; rfl⟩, HO7, HB7⟩
                  · have hx0 := hx
                    have HBT : Aside0 (bit01 n 8 = 49) := ⟨by unfold bit01; rw [if_neg hx]⟩
                    clear hx0
                    go_wp2_with (at_builtin; refine Kd.R_append (Kd.int .u8) (w0 := w3) w3.heap.size rfl (.tmp 41) (.tmp 47) 83 5 (.int .u8 0) 1 rfl Tryz.underlying83 info5 rfl (by decide) (by omega) _ ys 49 [.int .u8 49] (fun _ => True) (fun _ => False) rfl rfl ?aP (fun _ hk => hk.elim) ?aF ?aO ?aB ?aS ?aL ?_; (case aP => exact rfl); (case aB => exact HB.out); (case aF => exact (fun _ _ => trivial)); (case aO => exact HO.out); (case aS => exact HB.out.size); (case aL => have := HYL.out; omega); intro v7 w7 ho7 hb7 hg7 hat7; have HO7 := Aside0.mk ho7; have HB7 := Aside0.mk hb7; clear ho7 hb7 hg7 hat7)
                    go_roundg 3
                    case measure => omega
                    case rel => exact ⟨0 + 1, ys ++ [49], by omega, by omega, by go_num, ⟨by rw [HY.out, List.append_assoc, ← HBT.out]; rfl⟩, HO7, HB7⟩
                · by_cases hx : Go.bits .and .i64 n 4 < 1
                  · have hx0 : Go.bits .and .i64 n 4 = 0 := by have := N4.out; omega
                    have HBT : Aside0 (bit01 n 4 = 48) := ⟨by unfold bit01; rw [if_pos hx]⟩
                    clear hx
                    go_wp2_with (at_builtin; refine Kd.R_append (Kd.int .u8) (w0 := w3) w3.heap.size rfl (.tmp 41) (.tmp 47) 83 5 (.int .u8 0) 1 rfl Tryz.underlying83 info5 rfl (by decide) (by omega) _ ys 48 [.int .u8 48] (fun _ => True) (fun _ => False) rfl rfl ?aP (fun _ hk => hk.elim) ?aF ?aO ?aB ?aS ?aL ?_; (case aP => exact rfl); (case aB => exact HB.out); (case aF => exact (fun _ _ => trivial)); (case aO => exact HO.out); (case aS => exact HB.out.size); (case aL => have := HYL.out; omega); intro v7 w7 ho7 hb7 hg7 hat7; have HO7 := Aside0.mk ho7; have HB7 := Aside0.mk hb7; clear ho7 hb7 hg7 hat7)
                    go_roundg 2
                    case measure => omega
                    case rel => exact ⟨1 + 1, ys ++ [48], by omega, by omega, by go_num, ⟨by rw [HY.out, List.append_assoc, ← HBT.out]; rfl⟩, HO7, HB7⟩
                  · have hx0 := hx
                    have HBT : Aside0 (bit01 n 4 = 49) := ⟨by unfold bit01; rw [if_neg hx]⟩
                    clear hx0
                    go_wp2_with (at_builtin; refine Kd.R_append (Kd.int .u8) (w0 := w3) w3.heap.size rfl (.tmp 41) (.tmp 47) 83 5 (.int .u8 0) 1 rfl Tryz.underlying83 info5 rfl (by decide) (by omega) _ ys 49 [.int .u8 49] (fun _ => True) (fun _ => False) rfl rfl ?aP (fun _ hk => hk.elim) ?aF ?aO ?aB ?aS ?aL ?_; (case aP => exact rfl); (case aB => exact HB.out); (case aF => exact (fun _ _ => trivial)); (case aO => exact HO.out); (case aS => exact HB.out.size); (case aL => have := HYL.out; omega); intro v7 w7 ho7 hb7 hg7 hat7; have HO7 := Aside0.mk ho7; have HB7 := Aside0.mk hb7; clear ho7 hb7 hg7 hat7)
                    go_roundg 2
                    case measure => omega
                    case rel => exact ⟨1 + 1, ys ++ [49], by omega, by omega, by go_num, ⟨by rw [HY.out, List.append_assoc, ← HBT.out]; rfl⟩, HO7, HB7⟩
                · by_cases hx : Go.bits .and .i64 n 2 < 1
                  · have hx0 : Go.bits .and .i64 n 2 = 0 := by have := N2.out; omega
                    have HBT : Aside0 (bit01 n 2 = 48) := ⟨by unfold bit01; rw [if_pos hx]⟩
                    clear hx
                    go_wp2_with (at_builtin; refine Kd.R_append (Kd.int .u8) (w0 := w3) w3.heap.size rfl (.tmp 41) (.tmp 47) 83 5 (.int .u8 0) 1 rfl Tryz.underlying83 info5 rfl (by decide) (by omega) _ ys 48 [.int .u8 48] (fun _ => True) (fun _ => False) rfl rfl ?aP (fun _ hk => hk.elim) ?aF ?aO ?aB ?aS ?aL ?_; (case aP => exact rfl); (case aB => exact HB.out); (case aF => exact (fun _ _ => trivial)); (case aO => exact HO.out); (case aS => exact HB.out.size); (case aL => have := HYL.out; omega); intro v7 w7 ho7 hb7 hg7 hat7; have HO7 := Aside0.mk ho7; have HB7 := Aside0.mk hb7; clear ho7 hb7 hg7 hat7)
                    go_roundg 1
                    case measure => omega
                    case rel => exact ⟨2 + 1, ys ++ [48], by omega, by omega, by go_num, ⟨by rw [HY.out, List.append_assoc, ← HBT.out]; rfl⟩, HO7, HB7⟩
                  · have hx0 := hx
                    have HBT : Aside0 (bit01 n 2 = 49) := ⟨by unfold bit01; rw [if_neg hx]⟩
                    clear hx0
                    go_wp2_with (at_builtin; refine Kd.R_append (Kd.int .u8) (w0 := w3) w3.heap.size rfl (.tmp 41) (.tmp 47) 83 5 (.int .u8 0) 1 rfl Tryz.underlying83 info5 rfl (by decide) (by omega) _ ys 49 [.int .u8 49] (fun _ => True) (fun _ => False) rfl rfl ?aP (fun _ hk => hk.elim) ?aF ?aO ?aB ?aS ?aL ?_; (case aP => exact rfl); (case aB => exact HB.out); (case aF => exact (fun _ _ => trivial)); (case aO => exact HO.out); (case aS => exact HB.out.size); (case aL => have := HYL.out; omega); intro v7 w7 ho7 hb7 hg7 hat7; have HO7 := Aside0.mk ho7; have HB7 := Aside0.mk hb7; clear ho7 hb7 hg7 hat7)
                    go_roundg 1
                    case measure => omega
                    case rel => exact ⟨2 + 1, ys ++ [49], by omega, by omega, by go_num, ⟨by rw [HY.out, List.append_assoc, ← HBT.out]; rfl⟩, HO7, HB7⟩
                · by_cases hx : Go.bits .and .i64 n 1 < 1
                  · have hx0 : Go.bits .and .i64 n 1 = 0 := by have := N1.out; omega
                    have HBT : Aside0 (bit01 n 1 = 48) := ⟨by unfold bit01; rw [if_pos hx]⟩
                    clear hx
                    go_wp2_with (at_builtin; refine Kd.R_append (Kd.int .u8) (w0 := w3) w3.heap.size rfl (.tmp 41) (.tmp 47) 83 5 (.int .u8 0) 1 rfl Tryz.underlying83 info5 rfl (by decide) (by omega) _ ys 48 [.int .u8 48] (fun _ => True) (fun _ => False) rfl rfl ?aP (fun _ hk => hk.elim) ?aF ?aO ?aB ?aS ?aL ?_; (case aP => exact rfl); (case aB => exact HB.out); (case aF => exact (fun _ _ => trivial)); (case aO => exact HO.out); (case aS => exact HB.out.size); (case aL => have := HYL.out; omega); intro v7 w7 ho7 hb7 hg7 hat7; have HO7 := Aside0.mk ho7; have HB7 := Aside0.mk hb7; clear ho7 hb7 hg7 hat7)
                    go_roundg 0
                    case measure => omega
                    case rel => exact ⟨3 + 1, ys ++ [48], by omega, by omega, by go_num, ⟨by rw [HY.out, List.append_assoc, ← HBT.out]; rfl⟩, HO7, HB7⟩
                  · have hx0 := hx
                    have HBT : Aside0 (bit01 n 1 = 49) := ⟨by unfold bit01; rw [if_neg hx]⟩
                    clear hx0
                    go_wp2_with (at_builtin; refine Kd.R_append (Kd.int .u8) (w0 := w3) w3.heap.size rfl (.tmp 41) (.tmp 47) 83 5 (.int .u8 0) 1 rfl Tryz.underlying83 info5 rfl (by decide) (by omega) _ ys 49 [.int .u8 49] (fun _ => True) (fun _ => False) rfl rfl ?aP (fun _ hk => hk.elim) ?aF ?aO ?aB ?aS ?aL ?_; (case aP => exact rfl); (case aB => exact HB.out); (case aF => exact (fun _ _ => trivial)); (case aO => exact HO.out); (case aS => exact HB.out.size); (case aL => have := HYL.out; omega); intro v7 w7 ho7 hb7 hg7 hat7; have HO7 := Aside0.mk ho7; have HB7 := Aside0.mk hb7; clear ho7 hb7 hg7 hat7)
                    go_roundg 0
                    case measure => omega
                    case rel => exact ⟨3 + 1, ys ++ [49], by omega, by omega, by go_num, ⟨by rw [HY.out, List.append_assoc, ← HBT.out]; rfl⟩, HO7, HB7⟩
                · go_wp2
                  go_roundg (nm - (i + 1))
                  case measure => omega
                  case rel => exact ⟨i + 1, ys, by omega, by omega, by go_num, ⟨by rw [HY.out]; exact HST.out⟩, ⟨by rw [HY.out, List.length_append, HX.out]; show 4 * i + 4 = _; omega⟩, HO, HB⟩
            · have g1 : ¬ (i : Int) < (nm : Int) := by omega
              obtain rfl : i = nm := by omega
              have hxz : xs = z := by have h2 := HG.out; rw [← HLN.out] at h2; exact flat_end (l.drop 1) xs z h2
              subst hxz
              have hcv := own_string (P := Tryz.prog) Tryz.underlying83 Tryz.underlying5 Tryz.underlying9 (Kd.own_of_R HO.out)
              go_wp2_with (go_at_call 113; with_reducible refine (HM.out _).mono ?_; rintro e w9 ⟨rfl, hb9⟩; have HB9 := Aside0.mk (below_step (below_step HB3.out HB.out) hb9); clear hb9)
              go_ret2
              exact ⟨rfl, HB9.out⟩
        · rw [if_neg hrl] at h
          have d1 : decide (r.size < nl) = false := decide_eq_false hrl
          obtain ⟨z, hz⟩ : ∃ z, l.flatMap b4 = z := ⟨_, rfl⟩
          rw [hz] at h
          have HZ := Aside0.mk hz
          have HM := Lib.hid (fun (W : World) => text_made.calls (strOfNums z) r1 r2 W h)
          have HALL := Aside0.mk (nn4_at l hc2)
          have HLN : Aside0 (l.length = nl) := HN
          clear hz h hc2 hnl hrl
          go_enter Tryz.func77, Tryz.ntmps77
          go_wp2_with (first | (go_at_call 131; with_reducible refine (HD.out _ (by repeat (first | exact hT | refine TabOK.of_below hT ?_ | exact Below.refl _ _))).mono ?_; rintro e w1 ⟨v1, rfl, ho1, hb1⟩; obtain ⟨A1, c1, rfl⟩ := Kd.R_slice ho1; have hcp := (Kd.R_reads' ho1).2.1; rw [HN.out] at hcp; rw [HN.out]; have HO1 := Aside0.mk ho1; have HB1 := Aside0.mk hb1; clear ho1 hb1) | (go_at_call 65; with_reducible refine (HV.out _).mono ?_; rintro e w2 ⟨rfl, hb2⟩; have HB2 := Aside0.mk (below_step HB1.out hb2); have HO2 := Aside0.mk (Kd.R_below HO1.out hb2); clear hb2) | (go_at_call 132; with_reducible refine (HR.out _ (TabOK.of_below hT HB2.out)).mono ?_; rintro e w3 ⟨rfl, hb3⟩; have HB3 := Aside0.mk (below_step HB2.out hb3); have HO3 := Aside0.mk (Kd.R_below HO2.out hb3); clear hb3))
          have HL := Aside0.mk (Kd.R_reads' HO3.out).2.2
          go_loopg [6, 33] nl (fun gg s6 s33 wr => ∃ (i : Nat) (xs : List Int), nl - i ≤ gg ∧ i ≤ nl ∧ s33 = .int .i64 i ∧ Aside0 (xs ++ (l.drop i).flatMap b4 = z) ∧ Aside0 (xs.length = 4 * i) ∧ Aside0 (Kd.R (Kd.int .u8) 5 wr w3.heap.size (fun _ => True) s6 xs) ∧ Aside0 (Below w3.heap.size w3 wr))
          case atStart => exact ⟨0, [], by omega, by omega, rfl, ⟨by simpa using HZ.out⟩, ⟨rfl⟩, ⟨Kd.R_nil _ _ _ _ _⟩, ⟨Below.refl _ _⟩⟩
          case round =>
            obtain ⟨i, xs, hg, hi, rfl, HG, HX, HO, HB⟩ := hrel
            by_cases hlt : i < nl
            · have g1 : (i : Int) < (nl : Int) := by omega
              have hst := flat_step l xs z i HG.out (by have := HLN.out; omega)
              obtain ⟨n8, n4, n2, n1⟩ := HALL.out i (by have := HLN.out; omega)
              obtain ⟨ad, ea, hu⟩ := Kd.at_int (Kd.C_below HL.out HB.out) (i : Int) (by omega) (by have := HLN.out; omega)
              rw [Int.toNat_natCast] at hu
              subst ea
              generalize rd l (i : Int) = n at hst n8 n4 n2 n1 hu
              have HST := Aside0.mk hst
              have N8 := Aside0.mk n8; have N4 := Aside0.mk n4; have N2 := Aside0.mk n2; have N1 := Aside0.mk n1
              clear hst n8 n4 n2 n1 HG
              go_wp2
              go_loopg [6, 38] 4 (fun gg s6 s38 wi => ∃ (j : Nat) (ys : List Int), 4 - j ≤ gg ∧ j ≤ 4 ∧ s38 = .int .i64 j ∧ Aside0 (ys = xs ++ (b4 n).take j) ∧ Aside0 (Kd.R (Kd.int .u8) 5 wi w3.heap.size (fun _ => True) s6 ys) ∧ Aside0 (Below w3.heap.size w3 wi))
              case atStart => exact ⟨0, xs, by omega, by omega, rfl, ⟨by simp⟩, HO, HB⟩
              case round =>
                clear HO HB hu g1
                obtain ⟨j, ys, hg2, hj, rfl, HY, HO, HB⟩ := hrel
                have hyl : ys.length ≤ 100000 := by rw [HY.out, List.length_append, List.length_take, HX.out]; omega
                have HYL := Aside0.mk hyl
                clear hyl
                obtain rfl | rfl | rfl | rfl | rfl : j = 0 ∨ j = 1 ∨ j = 2 ∨ j = 3 ∨ j = 4 := by omega
                · by_cases hx : Go.bits .and .i64 n 8 < 1
                  · have hx0 : Go.bits .and .i64 n 8 = 0 := by have := N8.out; omega
                    have HBT : Aside0 (bit01 n 8 = 48) := ⟨by unfold bit01; rw [if_pos hx]⟩
                    clear hx
                    go_wp2_with (at_builtin; refine Kd.R_append (Kd.int .u8) (w0 := w3) w3.heap.size rfl (.tmp 41) (.tmp 47) 83 5 (.int .u8 0) 1 rfl Tryz.underlying83 info5 rfl (by decide) (by omega) _ ys 48 [.int .u8 48] (fun _ => True) (fun _ => False) rfl rfl ?aP (fun _ hk => hk.elim) ?aF ?aO ?aB ?aS ?aL ?_; (case aP => exact rfl); (case aB => exact HB.out); (case aF => exact (fun _ _ => trivial)); (case aO => exact HO.out); (case aS => exact HB.out.size); (case aL => have := HYL.out; omega); intro v7 w7 ho7 hb7 hg7 hat7; have HO7 := Aside0.mk ho7; have HB7 := Aside0.mk hb7; clear ho7 hb7 hg7 hat7)
                    go_roundg 3
                    case measure => omega
                    case rel => exact ⟨0 + 1, ys ++ [48], by omega, by omega, by go_num, ⟨by rw [HY.out, List.append_assoc, ← HBT.out]; rfl⟩, HO7, HB7⟩
                  · have hx0 := hx
                    have HBT : Aside0 (bit01 n 8 = 49) := ⟨by unfold bit01; rw [if_neg hx]⟩
                    clear hx0
                    go_wp2_with (at_builtin; refine Kd.R_append (Kd.int .u8) (w0 := w3) w3.heap.size rfl (.tmp 41) (.tmp 47) 83 5 (.int .u8 0) 1 rfl Tryz.underlying83 info5 rfl (by decide) (by omega) _ ys 49 [.int .u8 49] (fun _ => True) (fun _ => False) rfl rfl ?aP (fun _ hk => hk.elim) ?aF ?aO ?aB ?aS ?aL ?_; (case aP => exact rfl); (case aB => exact HB.out); (case aF => exact (fun _ _ => trivial)); (case aO => exact HO.out); (case aS => exact HB.out.size); (case aL => have := HYL.out; omega); intro v7 w7 ho7 hb7 hg7 hat7; have HO7 := Aside0.mk ho7; have HB7 := Aside0.mk hb7; clear ho7 hb7 hg7 hat7)
                    go_roundg 3
                    case measure => omega
                    case rel => exact ⟨0 + 1, ys ++ [49], by omega, by omega, by go_num, ⟨by rw [HY.out, List.append_assoc, ← HBT.out]; rfl⟩, HO7, HB7⟩
                · by_cases hx : Go.bits .and .i64 n 4 < 1
                  · have hx0 : Go.bits .and .i64 n 4 = 0 := by have := N4.out; omega
                    have HBT : Aside0 (bit01 n 4 = 48) := ⟨by unfold bit01; rw [if_pos hx]⟩
                    clear hx
                    go_wp2_with (at_builtin; refine Kd.R_append (Kd.int .u8) (w0 := w3) w3.heap.size rfl (.tmp 41) (.tmp 47) 83 5 (.int .u8 0) 1 rfl Tryz.underlying83 info5 rfl (by decide) (by omega) _ ys 48 [.int .u8 48] (fun _ => True) (fun _ => False) rfl rfl ?aP (fun _ hk => hk.elim) ?aF ?aO ?aB ?aS ?aL ?_; (case aP => exact rfl); (case aB => exact HB.out); (case aF => exact (fun _ _ => trivial)); (case aO => exact HO.out); (case aS => exact HB.out.size); (case aL => have := HYL.out; omega); intro v7 w7 ho7 hb7 hg7 hat7; have HO7 := Aside0.mk ho7; have HB7 := Aside0.mk hb7; clear ho7 hb7 hg7 hat7)
                    go_roundg 2
                    case measure => omega
                    case rel => exact ⟨1 + 1, ys ++ [48], by omega, by omega, by go_num, ⟨by rw [HY.out, List.append_assoc, ← HBT.out]; rfl⟩, HO7, HB7⟩
                  · have hx0 := hx
                    have HBT : Aside0 (bit01 n 4 = 49) := ⟨by unfold bit01; rw [if_neg hx]⟩
                    clear hx0
                    go_wp2_with (at_builtin; refine Kd.R_append (Kd.int .u8) (w0 := w3) w3.heap.size rfl (.tmp 41) (.tmp 47) 83 5 (.int .u8 0) 1 rfl Tryz.underlying83 info5 rfl (by decide) (by omega) _ ys 49 [.int .u8 49] (fun _ => True) (fun _ => False) rfl rfl ?aP (fun _ hk => hk.elim) ?aF ?aO ?aB ?aS ?aL ?_; (case aP => exact rfl); (case aB => exact HB.out); (case aF => exact (fun _ _ => trivial)); (case aO => exact HO.out); (case aS => exact HB.out.size); (case aL => have := HYL.out; omega); intro v7 w7 ho7 hb7 hg7 hat7; have HO7 := Aside0.mk ho7; have HB7 := Aside0.mk hb7; clear ho7 hb7 hg7 hat7)
                    go_roundg 2
                    case measure => omega
                    case rel => exact ⟨1 + 1, ys ++ [49], by omega, by omega, by go_num, ⟨by rw [HY.out, List.append_assoc, ← HBT.out]; rfl⟩, HO7, HB7⟩
                · by_cases hx : Go.bits .and .i64 n 2 < 1
                  · have hx0 : Go.bits .and .i64 n 2 = 0 := by have := N2.out; omega
                    have HBT : Aside0 (bit01 n 2 = 48) := ⟨by unfold bit01; rw [if_pos hx]⟩
                    clear hx
                    go_wp2_with (at_builtin; refine Kd.R_append (Kd.int .u8) (w0 := w3) w3.heap.size rfl (.tmp 41) (.tmp 47) 83 5 (.int .u8 0) 1 rfl Tryz.underlying83 info5 rfl (by decide) (by omega) _ ys 48 [.int .u8 48] (fun _ => True) (fun _ => False) rfl rfl ?aP (fun _ hk => hk.elim) ?aF ?aO ?aB ?aS ?aL ?_; (case aP => exact rfl); (case aB => exact HB.out); (case aF => exact (fun _ _ => trivial)); (case aO => exact HO.out); (case aS => exact HB.out.size); (case aL => have := HYL.out; omega); intro v7 w7 ho7 hb7 hg7 hat7; have HO7 := Aside0.mk ho7; have HB7 := Aside0.mk hb7; clear ho7 hb7 hg7 hat7)
                    go_roundg 1
                    case measure => omega
                    case rel => exact ⟨2 + 1, ys ++ [48], by omega, by omega, by go_num, ⟨by rw [HY.out, List.append_assoc, ← HBT.out]; rfl⟩, HO7, HB7⟩
                  · have hx0 := hx
                    have HBT : Aside0 (bit01 n 2 = 49) := ⟨by unfold bit01; rw [if_neg hx]⟩
                    clear hx0
                    go_wp2_with (at_builtin; refine Kd.R_append (Kd.int .u8) (w0 := w3) w3.heap.size rfl (.tmp 41) (.tmp 47) 83 5 (.int .u8 0) 1 rfl Tryz.underlying83 info5 rfl (by decide) (by omega) _ ys 49 [.int .u8 49] (fun _ => True) (fun _ => False) rfl rfl ?aP (fun _ hk => hk.elim) ?aF ?aO ?aB ?aS ?aL ?_; (case aP => exact rfl); (case aB => exact HB.out); (case aF => exact (fun _ _ => trivial)); (case aO => exact HO.out); (case aS => exact HB.out.size); (case aL => have := HYL.out; omega); intro v7 w7 ho7 hb7 hg7 hat7; have HO7 := Aside0.mk ho7; have HB7 := Aside0.mk hb7; clear ho7 hb7 hg7 hat7)
                    go_roundg 1
                    case measure => omega
                    case rel => exact ⟨2 + 1, ys ++ [49], by omega, by omega, by go_num, ⟨by rw [HY.out, List.append_assoc, ← HBT.out]; rfl⟩, HO7, HB7⟩
                · by_cases hx : Go.bits .and .i64 n 1 < 1
                  · have hx0 : Go.bits .and .i64 n 1 = 0 := by have := N1.out; omega
                    have HBT : Aside0 (bit01 n 1 = 48) := ⟨by unfold bit01; rw [if_pos hx]⟩
                    clear hx
                    go_wp2_with (at_builtin; refine Kd.R_append (Kd.int .u8) (w0 := w3) w3.heap.size rfl (.tmp 41) (.tmp 47) 83 5 (.int .u8 0) 1 rfl Tryz.underlying83 info5 rfl (by decide) (by omega) _ ys 48 [.int .u8 48] (fun _ => True) (fun _ => False) rfl rfl ?aP (fun _ hk => hk.elim) ?aF ?aO ?aB ?aS ?aL ?_; (case aP => exact rfl); (case aB => exact HB.out); (case aF => exact (fun _ _ => trivial)); (case aO => exact HO.out); (case aS => exact HB.out.size); (case aL => have := HYL.out; omega); intro v7 w7 ho7 hb7 hg7 hat7; have HO7 := Aside0.mk ho7; have HB7 := Aside0.mk hb7; clear ho7 hb7 hg7 hat7)
                    go_roundg 0
                    case measure => omega
                    case rel => exact ⟨3 + 1, ys ++ [48], by omega, by omega, by go_num, ⟨by rw [HY.out, List.append_assoc, ← HBT.out]; rfl⟩, HO7, HB7⟩
                  · have hx0 := hx
                    have HBT : Aside0 (bit01 n 1 = 49) := ⟨by unfold bit01; rw [if_neg hx]⟩
                    clear hx0
                    go_wp2_with (at_builtin; refine Kd.R_append (Kd.int .u8) (w0 := w3) w3.heap.size rfl (.tmp 41) (.tmp 47) 83 5 (.int .u8 0) 1 rfl Tryz.underlying83 info5 rfl (by decide) (by omega) _ ys 49 [.int .u8 49] (fun _ => True) (fun _ => False) rfl rfl ?aP (fun _ hk => hk.elim) ?aF ?aO ?aB ?aS ?aL ?_; (case aP => exact rfl); (case aB => exact HB.out); (case aF => exact (fun _ _ => trivial)); (case aO => exact HO.out); (case aS => exact HB.out.size); (case aL => have := HYL.out; omega); intro v7 w7 ho7 hb7 hg7 hat7; have HO7 := Aside0.mk ho7; have HB7 := Aside0.mk hb7; clear ho7 hb7 hg7 hat7)
                    go_roundg 0
                    case measure => omega
                    case rel => exact ⟨3 + 1, ys ++ [49], by omega, by omega, by go_num, ⟨by rw [HY.out, List.append_assoc, ← HBT.out]; rfl⟩, HO7, HB7⟩
                · go_wp2
                  go_roundg (nl - (i + 1))
                  case measure => omega
                  case rel => exact ⟨i + 1, ys, by omega, by omega, by go_num, ⟨by rw [HY.out]; exact HST.out⟩, ⟨by rw [HY.out, List.length_append, HX.out]; show 4 * i + 4 = _; omega⟩, HO, HB⟩
            · have g1 : ¬ (i : Int) < (nl : Int) := by omega
              obtain rfl : i = nl := by omega
              have hxz : xs = z := by have h2 := HG.out; rw [← HLN.out] at h2; exact flat_end l xs z h2
              subst hxz
              have hcv := own_string (P := Tryz.prog) Tryz.underlying83 Tryz.underlying5 Tryz.underlying9 (Kd.own_of_R HO.out)
              go_wp2_with (go_at_call 113; with_reducible refine (HM.out _).mono ?_; rintro e w9 ⟨rfl, hb9⟩; have HB9 := Aside0.mk (below_step (below_step HB3.out HB.out) hb9); clear hb9)
              go_ret2
              exact ⟨rfl, HB9.out⟩
      · rw [if_neg hc] at h
        cases h
end Go.Proofs.YtlekfhnlhdmekaaGreatDoor.T

-- Written by a program of this session (mp.py over the kit's print.py), out of the translation.
namespace Go.Proofs.YtlekfhnlhdmekaaGreatDoor.T
set_option linter.unusedSimpArgs false
open Go.RowKit Go.Proofs.YtlekfhnlhdmekaaGreatDoorW.PrintWords Go.Proofs.YtlekfhnlhdmekaaGreatDoorW.PrintLast Go.Proofs.YtlekfhnlhdmekaaGreatDoorW.PrintMore
attribute [local go_sem] max2_int min2_int max_two min_two max_three min_three max_four min_four   -- for this text's walks alone
set_option linter.unusedVariables false
set_option linter.unusedSimpArgs false

/-! ### qanatlaw02_TextDigits: function 13 -/
def qanatlaw02_TextDigits.f (k : Nat) (a0 : ByteArray) : Option (Bool) := (qanatlaw02_head.f k).bind fun t952 => ((qanatlaw02_long.f a0).bind fun t953 => (if t953 = true then (some t952) else ((text_C2X.f k a0).bind fun bt954 => ((text_X2C.f k a0).bind fun bt956 => ((text_X2B.f k a0).bind fun bt958 => ((text_B2X.f k a0).bind fun bt960 => (if t952 = true then ((qanatref02_C2X.f k a0).bind fun bt962 => ((qanatlaw02_str.f bt954.1 bt954.2 bt962.1 bt962.2).bind fun t964 => (if t964 = true then ((qanatref02_X2C.f k a0).bind fun bt965 => ((qanatlaw02_str.f bt956.1 bt956.2 bt965.1 bt965.2).bind fun t967 => (if t967 = true then ((qanatref02_X2B.f k a0).bind fun bt968 => ((qanatlaw02_str.f bt958.1 bt958.2 bt968.1 bt968.2).bind fun t970 => (if t970 = true then ((qanatref02_B2X.f k a0).bind fun bt971 => ((qanatlaw02_str.f bt960.1 bt960.2 bt971.1 bt971.2).bind fun t973 => (some t973))) else (some false)))) else (some false)))) else (some false)))) else (some false))))))))
theorem qanatlaw02_TextDigits.mono : ∀ a0 k, LeO (qanatlaw02_TextDigits.f k a0) (qanatlaw02_TextDigits.f (k + 1) a0) := by
  intro a0 k
  unfold qanatlaw02_TextDigits.f
  repeat' first
      | (with_reducible exact qanatlaw02_head.mono _)
      | (with_reducible exact qanatref02_B2X.mono _ _)
      | (with_reducible exact qanatref02_C2X.mono _ _)
      | (with_reducible exact qanatref02_X2B.mono _ _)
      | (with_reducible exact qanatref02_X2C.mono _ _)
      | (with_reducible exact text_B2X.mono _ _)
      | (with_reducible exact text_C2X.mono _ _)
      | (with_reducible exact text_X2B.mono _ _)
      | (with_reducible exact text_X2C.mono _ _)
      | (with_reducible exact LeO.refl _)
      | (with_reducible exact LeO.none _)
      | (with_reducible refine LeO.ite ?_ ?_)
      | (with_reducible refine LeO.bind ?_ (fun _ => ?_))
      | exact qanatlaw02_head.mono _
      | exact qanatref02_B2X.mono _ _
      | exact qanatref02_C2X.mono _ _
      | exact qanatref02_X2B.mono _ _
      | exact qanatref02_X2C.mono _ _
      | exact text_B2X.mono _ _
      | exact text_C2X.mono _ _
      | exact text_X2B.mono _ _
      | exact text_X2C.mono _ _
      | exact LeO.none _
      | refine LeO.ite ?_ ?_
      | refine LeO.bind ?_ (fun _ => ?_)
set_option maxHeartbeats 8000000 in
set_option maxRecDepth 100000 in
theorem qanatlaw02_TextDigits.calls (k : Nat) (a0 : ByteArray) (r : Bool) (w : World) (hT : TabOK w) (h : qanatlaw02_TextDigits.f k a0 = some r) :
    Calls Tryz.prog 13 #[.string a0] w fun e w' => e = .returned (.bool r) ∧ Below w.heap.size w w' := by
  have HB := Aside0.mk (Below.refl w.heap.size w)
  have H : ((qanatlaw02_head.f k).bind fun t952 => ((qanatlaw02_long.f a0).bind fun t953 => (if t953 = true then (some t952) else ((text_C2X.f k a0).bind fun bt954 => ((text_X2C.f k a0).bind fun bt956 => ((text_X2B.f k a0).bind fun bt958 => ((text_B2X.f k a0).bind fun bt960 => (if t952 = true then ((qanatref02_C2X.f k a0).bind fun bt962 => ((qanatlaw02_str.f bt954.1 bt954.2 bt962.1 bt962.2).bind fun t964 => (if t964 = true then ((qanatref02_X2C.f k a0).bind fun bt965 => ((qanatlaw02_str.f bt956.1 bt956.2 bt965.1 bt965.2).bind fun t967 => (if t967 = true then ((qanatref02_X2B.f k a0).bind fun bt968 => ((qanatlaw02_str.f bt958.1 bt958.2 bt968.1 bt968.2).bind fun t970 => (if t970 = true then ((qanatref02_B2X.f k a0).bind fun bt971 => ((qanatlaw02_str.f bt960.1 bt960.2 bt971.1 bt971.2).bind fun t973 => (some t973))) else (some false)))) else (some false)))) else (some false)))) else (some false))))))))) = some r := h
  clear h
  replace H := Option.bind_eq_some_iff.mp H
  obtain ⟨t952, A20, H⟩ := H
  replace H : ((qanatlaw02_long.f a0).bind fun t953 => (if t953 = true then (some t952) else ((text_C2X.f k a0).bind fun bt954 => ((text_X2C.f k a0).bind fun bt956 => ((text_X2B.f k a0).bind fun bt958 => ((text_B2X.f k a0).bind fun bt960 => (if t952 = true then ((qanatref02_C2X.f k a0).bind fun bt962 => ((qanatlaw02_str.f bt954.1 bt954.2 bt962.1 bt962.2).bind fun t964 => (if t964 = true then ((qanatref02_X2C.f k a0).bind fun bt965 => ((qanatlaw02_str.f bt956.1 bt956.2 bt965.1 bt965.2).bind fun t967 => (if t967 = true then ((qanatref02_X2B.f k a0).bind fun bt968 => ((qanatlaw02_str.f bt958.1 bt958.2 bt968.1 bt968.2).bind fun t970 => (if t970 = true then ((qanatref02_B2X.f k a0).bind fun bt971 => ((qanatlaw02_str.f bt960.1 bt960.2 bt971.1 bt971.2).bind fun t973 => (some t973))) else (some false)))) else (some false)))) else (some false)))) else (some false)))))))) = some r := H
  have A2 := Aside0.mk A20
  clear A20
  replace H := Option.bind_eq_some_iff.mp H
  obtain ⟨t953, A30, H⟩ := H
  replace H : (if t953 = true then (some t952) else ((text_C2X.f k a0).bind fun bt954 => ((text_X2C.f k a0).bind fun bt956 => ((text_X2B.f k a0).bind fun bt958 => ((text_B2X.f k a0).bind fun bt960 => (if t952 = true then ((qanatref02_C2X.f k a0).bind fun bt962 => ((qanatlaw02_str.f bt954.1 bt954.2 bt962.1 bt962.2).bind fun t964 => (if t964 = true then ((qanatref02_X2C.f k a0).bind fun bt965 => ((qanatlaw02_str.f bt956.1 bt956.2 bt965.1 bt965.2).bind fun t967 => (if t967 = true then ((qanatref02_X2B.f k a0).bind fun bt968 => ((qanatlaw02_str.f bt958.1 bt958.2 bt968.1 bt968.2).bind fun t970 => (if t970 = true then ((qanatref02_B2X.f k a0).bind fun bt971 => ((qanatlaw02_str.f bt960.1 bt960.2 bt971.1 bt971.2).bind fun t973 => (some t973))) else (some false)))) else (some false)))) else (some false)))) else (some false))))))) = some r := H
  have A3 := Aside0.mk A30
  clear A30
  by_cases c4 : t953 = true
  · subst c4
    have H1 : (some t952) = some r := by rw [if_pos rfl] at H; exact H
    clear H
    have H := H1
    clear H1
    obtain rfl := Option.some.inj H
    go_enter Tryz.func13, Tryz.ntmps13
    go_wp2_with (first | ((with_reducible refine gate_callee (f := 15) rfl ?_); refine goesL_ (some 12) rfl rfl Tryz.func15 (by kernel_rfl) rfl #[] rfl (by (try simp only [List.map_toArray, List.map_cons, List.map_nil]); first | done | rfl | (simp only [List.length_drop, List.length_take]; rfl)) ?_; (with_reducible refine (qanatlaw02_head.calls k  t952 _ (TabOK.of_below hT (by repeat (first | (with_reducible first | exact HB.out | apply below_alloc | apply pw_below_drewN | apply below_drew1) | exact HB.out))) A2.out).mono ?_); rintro e w5 ⟨rfl, hb⟩; refine ⟨_, rfl, ?_⟩; have n0_ := Aside0.mk (below_step (by repeat (first | (with_reducible first | exact HB.out | apply below_alloc | apply pw_below_drewN | apply below_drew1) | exact HB.out)) hb); clear HB; have HB := n0_; clear n0_; (try clear hb); (try clear hb2); (try clear hk); (try clear hi)) | ((with_reducible refine gate_callee (f := 16) rfl ?_); refine goesL_ (some 14) rfl rfl Tryz.func16 (by kernel_rfl) rfl #[.string a0] rfl (by (try simp only [List.map_toArray, List.map_cons, List.map_nil]); first | done | rfl | (simp only [List.length_drop, List.length_take]; rfl)) ?_; (with_reducible refine (qanatlaw02_long.calls a0 true _ A3.out).mono ?_); rintro e w' ⟨rfl, ⟨nd, rfl⟩⟩; refine ⟨_, rfl, ?_⟩))
    go_ret
    exact ⟨by first | rfl | (simp [errW_none, errW_some] <;> rfl) | (simp [*, errW_none, errW_some] <;> rfl), by repeat (first | (with_reducible first | exact HB.out | apply below_alloc | apply pw_below_drewN | apply below_drew1) | exact HB.out)⟩
  · replace c4 := Bool.eq_false_iff.mpr c4
    subst c4
    have H1 : ((text_C2X.f k a0).bind fun bt954 => ((text_X2C.f k a0).bind fun bt956 => ((text_X2B.f k a0).bind fun bt958 => ((text_B2X.f k a0).bind fun bt960 => (if t952 = true then ((qanatref02_C2X.f k a0).bind fun bt962 => ((qanatlaw02_str.f bt954.1 bt954.2 bt962.1 bt962.2).bind fun t964 => (if t964 = true then ((qanatref02_X2C.f k a0).bind fun bt965 => ((qanatlaw02_str.f bt956.1 bt956.2 bt965.1 bt965.2).bind fun t967 => (if t967 = true then ((qanatref02_X2B.f k a0).bind fun bt968 => ((qanatlaw02_str.f bt958.1 bt958.2 bt968.1 bt968.2).bind fun t970 => (if t970 = true then ((qanatref02_B2X.f k a0).bind fun bt971 => ((qanatlaw02_str.f bt960.1 bt960.2 bt971.1 bt971.2).bind fun t973 => (some t973))) else (some false)))) else (some false)))) else (some false)))) else (some false)))))) = some r := by rw [if_neg (show ¬ (false = true) by decide)] at H; exact H
    clear H
    have H := H1
    clear H1
    replace H := Option.bind_eq_some_iff.mp H
    obtain ⟨⟨t954, t955⟩, A60, H⟩ := H
    replace H : ((text_X2C.f k a0).bind fun bt956 => ((text_X2B.f k a0).bind fun bt958 => ((text_B2X.f k a0).bind fun bt960 => (if t952 = true then ((qanatref02_C2X.f k a0).bind fun bt962 => ((qanatlaw02_str.f t954 t955 bt962.1 bt962.2).bind fun t964 => (if t964 = true then ((qanatref02_X2C.f k a0).bind fun bt965 => ((qanatlaw02_str.f bt956.1 bt956.2 bt965.1 bt965.2).bind fun t967 => (if t967 = true then ((qanatref02_X2B.f k a0).bind fun bt968 => ((qanatlaw02_str.f bt958.1 bt958.2 bt968.1 bt968.2).bind fun t970 => (if t970 = true then ((qanatref02_B2X.f k a0).bind fun bt971 => ((qanatlaw02_str.f bt960.1 bt960.2 bt971.1 bt971.2).bind fun t973 => (some t973))) else (some false)))) else (some false)))) else (some false)))) else (some false))))) = some r := H
    have A6 := Aside0.mk A60
    clear A60
    replace H := Option.bind_eq_some_iff.mp H
    obtain ⟨⟨t956, t957⟩, A70, H⟩ := H
    replace H : ((text_X2B.f k a0).bind fun bt958 => ((text_B2X.f k a0).bind fun bt960 => (if t952 = true then ((qanatref02_C2X.f k a0).bind fun bt962 => ((qanatlaw02_str.f t954 t955 bt962.1 bt962.2).bind fun t964 => (if t964 = true then ((qanatref02_X2C.f k a0).bind fun bt965 => ((qanatlaw02_str.f t956 t957 bt965.1 bt965.2).bind fun t967 => (if t967 = true then ((qanatref02_X2B.f k a0).bind fun bt968 => ((qanatlaw02_str.f bt958.1 bt958.2 bt968.1 bt968.2).bind fun t970 => (if t970 = true then ((qanatref02_B2X.f k a0).bind fun bt971 => ((qanatlaw02_str.f bt960.1 bt960.2 bt971.1 bt971.2).bind fun t973 => (some t973))) else (some false)))) else (some false)))) else (some false)))) else (some false)))) = some r := H
    have A7 := Aside0.mk A70
    clear A70
    replace H := Option.bind_eq_some_iff.mp H
    obtain ⟨⟨t958, t959⟩, A80, H⟩ := H
    replace H : ((text_B2X.f k a0).bind fun bt960 => (if t952 = true then ((qanatref02_C2X.f k a0).bind fun bt962 => ((qanatlaw02_str.f t954 t955 bt962.1 bt962.2).bind fun t964 => (if t964 = true then ((qanatref02_X2C.f k a0).bind fun bt965 => ((qanatlaw02_str.f t956 t957 bt965.1 bt965.2).bind fun t967 => (if t967 = true then ((qanatref02_X2B.f k a0).bind fun bt968 => ((qanatlaw02_str.f t958 t959 bt968.1 bt968.2).bind fun t970 => (if t970 = true then ((qanatref02_B2X.f k a0).bind fun bt971 => ((qanatlaw02_str.f bt960.1 bt960.2 bt971.1 bt971.2).bind fun t973 => (some t973))) else (some false)))) else (some false)))) else (some false)))) else (some false))) = some r := H
    have A8 := Aside0.mk A80
    clear A80
    replace H := Option.bind_eq_some_iff.mp H
    obtain ⟨⟨t960, t961⟩, A90, H⟩ := H
    replace H : (if t952 = true then ((qanatref02_C2X.f k a0).bind fun bt962 => ((qanatlaw02_str.f t954 t955 bt962.1 bt962.2).bind fun t964 => (if t964 = true then ((qanatref02_X2C.f k a0).bind fun bt965 => ((qanatlaw02_str.f t956 t957 bt965.1 bt965.2).bind fun t967 => (if t967 = true then ((qanatref02_X2B.f k a0).bind fun bt968 => ((qanatlaw02_str.f t958 t959 bt968.1 bt968.2).bind fun t970 => (if t970 = true then ((qanatref02_B2X.f k a0).bind fun bt971 => ((qanatlaw02_str.f t960 t961 bt971.1 bt971.2).bind fun t973 => (some t973))) else (some false)))) else (some false)))) else (some false)))) else (some false)) = some r := H
    have A9 := Aside0.mk A90
    clear A90
    by_cases c10 : t952 = true
    · subst c10
      have H1 : ((qanatref02_C2X.f k a0).bind fun bt962 => ((qanatlaw02_str.f t954 t955 bt962.1 bt962.2).bind fun t964 => (if t964 = true then ((qanatref02_X2C.f k a0).bind fun bt965 => ((qanatlaw02_str.f t956 t957 bt965.1 bt965.2).bind fun t967 => (if t967 = true then ((qanatref02_X2B.f k a0).bind fun bt968 => ((qanatlaw02_str.f t958 t959 bt968.1 bt968.2).bind fun t970 => (if t970 = true then ((qanatref02_B2X.f k a0).bind fun bt971 => ((qanatlaw02_str.f t960 t961 bt971.1 bt971.2).bind fun t973 => (some t973))) else (some false)))) else (some false)))) else (some false)))) = some r := by rw [if_pos rfl] at H; exact H
      clear H
      have H := H1
      clear H1
      replace H := Option.bind_eq_some_iff.mp H
      obtain ⟨⟨t962, t963⟩, A110, H⟩ := H
      replace H : ((qanatlaw02_str.f t954 t955 t962 t963).bind fun t964 => (if t964 = true then ((qanatref02_X2C.f k a0).bind fun bt965 => ((qanatlaw02_str.f t956 t957 bt965.1 bt965.2).bind fun t967 => (if t967 = true then ((qanatref02_X2B.f k a0).bind fun bt968 => ((qanatlaw02_str.f t958 t959 bt968.1 bt968.2).bind fun t970 => (if t970 = true then ((qanatref02_B2X.f k a0).bind fun bt971 => ((qanatlaw02_str.f t960 t961 bt971.1 bt971.2).bind fun t973 => (some t973))) else (some false)))) else (some false)))) else (some false))) = some r := H
      have A11 := Aside0.mk A110
      clear A110
      replace H := Option.bind_eq_some_iff.mp H
      obtain ⟨t964, A120, H⟩ := H
      replace H : (if t964 = true then ((qanatref02_X2C.f k a0).bind fun bt965 => ((qanatlaw02_str.f t956 t957 bt965.1 bt965.2).bind fun t967 => (if t967 = true then ((qanatref02_X2B.f k a0).bind fun bt968 => ((qanatlaw02_str.f t958 t959 bt968.1 bt968.2).bind fun t970 => (if t970 = true then ((qanatref02_B2X.f k a0).bind fun bt971 => ((qanatlaw02_str.f t960 t961 bt971.1 bt971.2).bind fun t973 => (some t973))) else (some false)))) else (some false)))) else (some false)) = some r := H
      have A12 := Aside0.mk A120
      clear A120
      by_cases c13 : t964 = true
      · subst c13
        have H1 : ((qanatref02_X2C.f k a0).bind fun bt965 => ((qanatlaw02_str.f t956 t957 bt965.1 bt965.2).bind fun t967 => (if t967 = true then ((qanatref02_X2B.f k a0).bind fun bt968 => ((qanatlaw02_str.f t958 t959 bt968.1 bt968.2).bind fun t970 => (if t970 = true then ((qanatref02_B2X.f k a0).bind fun bt971 => ((qanatlaw02_str.f t960 t961 bt971.1 bt971.2).bind fun t973 => (some t973))) else (some false)))) else (some false)))) = some r := by rw [if_pos rfl] at H; exact H
        clear H
        have H := H1
        clear H1
        replace H := Option.bind_eq_some_iff.mp H
        obtain ⟨⟨t965, t966⟩, A140, H⟩ := H
        replace H : ((qanatlaw02_str.f t956 t957 t965 t966).bind fun t967 => (if t967 = true then ((qanatref02_X2B.f k a0).bind fun bt968 => ((qanatlaw02_str.f t958 t959 bt968.1 bt968.2).bind fun t970 => (if t970 = true then ((qanatref02_B2X.f k a0).bind fun bt971 => ((qanatlaw02_str.f t960 t961 bt971.1 bt971.2).bind fun t973 => (some t973))) else (some false)))) else (some false))) = some r := H
        have A14 := Aside0.mk A140
        clear A140
        replace H := Option.bind_eq_some_iff.mp H
        obtain ⟨t967, A150, H⟩ := H
        replace H : (if t967 = true then ((qanatref02_X2B.f k a0).bind fun bt968 => ((qanatlaw02_str.f t958 t959 bt968.1 bt968.2).bind fun t970 => (if t970 = true then ((qanatref02_B2X.f k a0).bind fun bt971 => ((qanatlaw02_str.f t960 t961 bt971.1 bt971.2).bind fun t973 => (some t973))) else (some false)))) else (some false)) = some r := H
        have A15 := Aside0.mk A150
        clear A150
        by_cases c16 : t967 = true
        · subst c16
          have H1 : ((qanatref02_X2B.f k a0).bind fun bt968 => ((qanatlaw02_str.f t958 t959 bt968.1 bt968.2).bind fun t970 => (if t970 = true then ((qanatref02_B2X.f k a0).bind fun bt971 => ((qanatlaw02_str.f t960 t961 bt971.1 bt971.2).bind fun t973 => (some t973))) else (some false)))) = some r := by rw [if_pos rfl] at H; exact H
          clear H
          have H := H1
          clear H1
          replace H := Option.bind_eq_some_iff.mp H
          obtain ⟨⟨t968, t969⟩, A170, H⟩ := H
          replace H : ((qanatlaw02_str.f t958 t959 t968 t969).bind fun t970 => (if t970 = true then ((qanatref02_B2X.f k a0).bind fun bt971 => ((qanatlaw02_str.f t960 t961 bt971.1 bt971.2).bind fun t973 => (some t973))) else (some false))) = some r := H
          have A17 := Aside0.mk A170
          clear A170
          replace H := Option.bind_eq_some_iff.mp H
          obtain ⟨t970, A180, H⟩ := H
          replace H : (if t970 = true then ((qanatref02_B2X.f k a0).bind fun bt971 => ((qanatlaw02_str.f t960 t961 bt971.1 bt971.2).bind fun t973 => (some t973))) else (some false)) = some r := H
          have A18 := Aside0.mk A180
          clear A180
          by_cases c19 : t970 = true
          · subst c19
            have H1 : ((qanatref02_B2X.f k a0).bind fun bt971 => ((qanatlaw02_str.f t960 t961 bt971.1 bt971.2).bind fun t973 => (some t973))) = some r := by rw [if_pos rfl] at H; exact H
            clear H
            have H := H1
            clear H1
            replace H := Option.bind_eq_some_iff.mp H
            obtain ⟨⟨t971, t972⟩, A200, H⟩ := H
            replace H : ((qanatlaw02_str.f t960 t961 t971 t972).bind fun t973 => (some t973)) = some r := H
            have A20 := Aside0.mk A200
            clear A200
            replace H := Option.bind_eq_some_iff.mp H
            obtain ⟨t973, A210, H⟩ := H
            replace H : (some t973) = some r := H
            have A21 := Aside0.mk A210
            clear A210
            obtain rfl := Option.some.inj H
            go_enter Tryz.func13, Tryz.ntmps13
            go_wp2_with (first | ((with_reducible refine gate_callee (f := 15) rfl ?_); refine goesL_ (some 12) rfl rfl Tryz.func15 (by kernel_rfl) rfl #[] rfl (by (try simp only [List.map_toArray, List.map_cons, List.map_nil]); first | done | rfl | (simp only [List.length_drop, List.length_take]; rfl)) ?_; (with_reducible refine (qanatlaw02_head.calls k  true _ (TabOK.of_below hT (by repeat (first | (with_reducible first | exact HB.out | apply below_alloc | apply pw_below_drewN | apply below_drew1) | exact HB.out))) A2.out).mono ?_); rintro e w22 ⟨rfl, hb⟩; refine ⟨_, rfl, ?_⟩; have n0_ := Aside0.mk (below_step (by repeat (first | (with_reducible first | exact HB.out | apply below_alloc | apply pw_below_drewN | apply below_drew1) | exact HB.out)) hb); clear HB; have HB := n0_; clear n0_; (try clear hb); (try clear hb2); (try clear hk); (try clear hi)) | ((with_reducible refine gate_callee (f := 16) rfl ?_); refine goesL_ (some 14) rfl rfl Tryz.func16 (by kernel_rfl) rfl #[.string a0] rfl (by (try simp only [List.map_toArray, List.map_cons, List.map_nil]); first | done | rfl | (simp only [List.length_drop, List.length_take]; rfl)) ?_; (with_reducible refine (qanatlaw02_long.calls a0 false _ A3.out).mono ?_); rintro e w' ⟨rfl, ⟨nd, rfl⟩⟩; refine ⟨_, rfl, ?_⟩) | ((with_reducible refine gate_callee (f := 75) rfl ?_); refine goesL_ (some 18) rfl rfl Tryz.func75 (by kernel_rfl) rfl #[.string a0] rfl (by (try simp only [List.map_toArray, List.map_cons, List.map_nil]); first | done | rfl | (simp only [List.length_drop, List.length_take]; rfl)) ?_; (with_reducible refine (text_C2X.calls k a0 t954 t955 _ A6.out).mono ?_); rintro e w23 ⟨rfl, hb⟩; refine ⟨_, rfl, ?_⟩; have n0_ := Aside0.mk (below_step (by repeat (first | (with_reducible first | exact HB.out | apply below_alloc | apply pw_below_drewN | apply below_drew1) | exact HB.out)) hb); clear HB; have HB := n0_; clear n0_; (try clear hb); (try clear hb2); (try clear hk); (try clear hi)) | ((with_reducible refine gate_callee (f := 76) rfl ?_); refine goesL_ (some 23) rfl rfl Tryz.func76 (by kernel_rfl) rfl #[.string a0] rfl (by (try simp only [List.map_toArray, List.map_cons, List.map_nil]); first | done | rfl | (simp only [List.length_drop, List.length_take]; rfl)) ?_; (with_reducible refine (text_X2C.calls k a0 t956 t957 _ (TabOK.of_below hT (by repeat (first | (with_reducible first | exact HB.out | apply below_alloc | apply pw_below_drewN | apply below_drew1) | exact HB.out))) A7.out).mono ?_); rintro e w24 ⟨rfl, hb⟩; refine ⟨_, rfl, ?_⟩; have n0_ := Aside0.mk (below_step (by repeat (first | (with_reducible first | exact HB.out | apply below_alloc | apply pw_below_drewN | apply below_drew1) | exact HB.out)) hb); clear HB; have HB := n0_; clear n0_; (try clear hb); (try clear hb2); (try clear hk); (try clear hi)) | ((with_reducible refine gate_callee (f := 77) rfl ?_); refine goesL_ (some 28) rfl rfl Tryz.func77 (by kernel_rfl) rfl #[.string a0] rfl (by (try simp only [List.map_toArray, List.map_cons, List.map_nil]); first | done | rfl | (simp only [List.length_drop, List.length_take]; rfl)) ?_; (with_reducible refine (text_X2B.calls k a0 t958 t959 _ (TabOK.of_below hT (by repeat (first | (with_reducible first | exact HB.out | apply below_alloc | apply pw_below_drewN | apply below_drew1) | exact HB.out))) A8.out).mono ?_); rintro e w25 ⟨rfl, hb⟩; refine ⟨_, rfl, ?_⟩; have n0_ := Aside0.mk (below_step (by repeat (first | (with_reducible first | exact HB.out | apply below_alloc | apply pw_below_drewN | apply below_drew1) | exact HB.out)) hb); clear HB; have HB := n0_; clear n0_; (try clear hb); (try clear hb2); (try clear hk); (try clear hi)) | ((with_reducible refine gate_callee (f := 78) rfl ?_); refine goesL_ (some 33) rfl rfl Tryz.func78 (by kernel_rfl) rfl #[.string a0] rfl (by (try simp only [List.map_toArray, List.map_cons, List.map_nil]); first | done | rfl | (simp only [List.length_drop, List.length_take]; rfl)) ?_; (with_reducible refine (text_B2X.calls k a0 t960 t961 _ (TabOK.of_below hT (by repeat (first | (with_reducible first | exact HB.out | apply below_alloc | apply pw_below_drewN | apply below_drew1) | exact HB.out))) A9.out).mono ?_); rintro e w26 ⟨rfl, hb⟩; refine ⟨_, rfl, ?_⟩; have n0_ := Aside0.mk (below_step (by repeat (first | (with_reducible first | exact HB.out | apply below_alloc | apply pw_below_drewN | apply below_drew1) | exact HB.out)) hb); clear HB; have HB := n0_; clear n0_; (try clear hb); (try clear hb2); (try clear hk); (try clear hi)) | (go_at_call 79; (with_reducible refine (qanatref02_C2X.calls k a0 t962 t963 _ A11.out).mono ?_); rintro e w27 ⟨rfl, hb⟩; have n0_ := Aside0.mk (below_step (by repeat (first | (with_reducible first | exact HB.out | apply below_alloc | apply pw_below_drewN | apply below_drew1) | exact HB.out)) hb); clear HB; have HB := n0_; clear n0_; (try clear hb); (try clear hb2); (try clear hk); (try clear hi)) | (go_at_call 20; (with_reducible refine (qanatlaw02_str.calls t954 t955 t962 t963 true _ A12.out).mono ?_); rintro e w28 ⟨rfl, hb⟩; have n0_ := Aside0.mk (below_step (by repeat (first | (with_reducible first | exact HB.out | apply below_alloc | apply pw_below_drewN | apply below_drew1) | exact HB.out)) hb); clear HB; have HB := n0_; clear n0_; (try clear hb); (try clear hb2); (try clear hk); (try clear hi)) | (go_at_call 80; (with_reducible refine (qanatref02_X2C.calls k a0 t965 t966 _ A14.out).mono ?_); rintro e w29 ⟨rfl, hb⟩; have n0_ := Aside0.mk (below_step (by repeat (first | (with_reducible first | exact HB.out | apply below_alloc | apply pw_below_drewN | apply below_drew1) | exact HB.out)) hb); clear HB; have HB := n0_; clear n0_; (try clear hb); (try clear hb2); (try clear hk); (try clear hi)) | (go_at_call 20; (with_reducible refine (qanatlaw02_str.calls t956 t957 t965 t966 true _ A15.out).mono ?_); rintro e w30 ⟨rfl, hb⟩; have n0_ := Aside0.mk (below_step (by repeat (first | (with_reducible first | exact HB.out | apply below_alloc | apply pw_below_drewN | apply below_drew1) | exact HB.out)) hb); clear HB; have HB := n0_; clear n0_; (try clear hb); (try clear hb2); (try clear hk); (try clear hi)) | (go_at_call 81; (with_reducible refine (qanatref02_X2B.calls k a0 t968 t969 _ A17.out).mono ?_); rintro e w31 ⟨rfl, hb⟩; have n0_ := Aside0.mk (below_step (by repeat (first | (with_reducible first | exact HB.out | apply below_alloc | apply pw_below_drewN | apply below_drew1) | exact HB.out)) hb); clear HB; have HB := n0_; clear n0_; (try clear hb); (try clear hb2); (try clear hk); (try clear hi)) | (go_at_call 20; (with_reducible refine (qanatlaw02_str.calls t958 t959 t968 t969 true _ A18.out).mono ?_); rintro e w32 ⟨rfl, hb⟩; have n0_ := Aside0.mk (below_step (by repeat (first | (with_reducible first | exact HB.out | apply below_alloc | apply pw_below_drewN | apply below_drew1) | exact HB.out)) hb); clear HB; have HB := n0_; clear n0_; (try clear hb); (try clear hb2); (try clear hk); (try clear hi)) | (go_at_call 82; (with_reducible refine (qanatref02_B2X.calls k a0 t971 t972 _ A20.out).mono ?_); rintro e w33 ⟨rfl, hb⟩; have n0_ := Aside0.mk (below_step (by repeat (first | (with_reducible first | exact HB.out | apply below_alloc | apply pw_below_drewN | apply below_drew1) | exact HB.out)) hb); clear HB; have HB := n0_; clear n0_; (try clear hb); (try clear hb2); (try clear hk); (try clear hi)) | (go_at_call 20; (with_reducible refine (qanatlaw02_str.calls t960 t961 t971 t972 t973 _ A21.out).mono ?_); rintro e w34 ⟨rfl, hb⟩; have n0_ := Aside0.mk (below_step (by repeat (first | (with_reducible first | exact HB.out | apply below_alloc | apply pw_below_drewN | apply below_drew1) | exact HB.out)) hb); clear HB; have HB := n0_; clear n0_; (try clear hb); (try clear hb2); (try clear hk); (try clear hi)))
            go_ret
            exact ⟨by first | rfl | (simp [errW_none, errW_some] <;> rfl) | (simp [*, errW_none, errW_some] <;> rfl), by repeat (first | (with_reducible first | exact HB.out | apply below_alloc | apply pw_below_drewN | apply below_drew1) | exact HB.out)⟩
          · replace c19 := Bool.eq_false_iff.mpr c19
            subst c19
            have H1 : (some false) = some r := by rw [if_neg (show ¬ (false = true) by decide)] at H; exact H
            clear H
            have H := H1
            clear H1
            obtain rfl := Option.some.inj H
            go_enter Tryz.func13, Tryz.ntmps13
            go_wp2_with (first | ((with_reducible refine gate_callee (f := 15) rfl ?_); refine goesL_ (some 12) rfl rfl Tryz.func15 (by kernel_rfl) rfl #[] rfl (by (try simp only [List.map_toArray, List.map_cons, List.map_nil]); first | done | rfl | (simp only [List.length_drop, List.length_take]; rfl)) ?_; (with_reducible refine (qanatlaw02_head.calls k  true _ (TabOK.of_below hT (by repeat (first | (with_reducible first | exact HB.out | apply below_alloc | apply pw_below_drewN | apply below_drew1) | exact HB.out))) A2.out).mono ?_); rintro e w35 ⟨rfl, hb⟩; refine ⟨_, rfl, ?_⟩; have n0_ := Aside0.mk (below_step (by repeat (first | (with_reducible first | exact HB.out | apply below_alloc | apply pw_below_drewN | apply below_drew1) | exact HB.out)) hb); clear HB; have HB := n0_; clear n0_; (try clear hb); (try clear hb2); (try clear hk); (try clear hi)) | ((with_reducible refine gate_callee (f := 16) rfl ?_); refine goesL_ (some 14) rfl rfl Tryz.func16 (by kernel_rfl) rfl #[.string a0] rfl (by (try simp only [List.map_toArray, List.map_cons, List.map_nil]); first | done | rfl | (simp only [List.length_drop, List.length_take]; rfl)) ?_; (with_reducible refine (qanatlaw02_long.calls a0 false _ A3.out).mono ?_); rintro e w' ⟨rfl, ⟨nd, rfl⟩⟩; refine ⟨_, rfl, ?_⟩) | ((with_reducible refine gate_callee (f := 75) rfl ?_); refine goesL_ (some 18) rfl rfl Tryz.func75 (by kernel_rfl) rfl #[.string a0] rfl (by (try simp only [List.map_toArray, List.map_cons, List.map_nil]); first | done | rfl | (simp only [List.length_drop, List.length_take]; rfl)) ?_; (with_reducible refine (text_C2X.calls k a0 t954 t955 _ A6.out).mono ?_); rintro e w36 ⟨rfl, hb⟩; refine ⟨_, rfl, ?_⟩; have n0_ := Aside0.mk (below_step (by repeat (first | (with_reducible first | exact HB.out | apply below_alloc | apply pw_below_drewN | apply below_drew1) | exact HB.out)) hb); clear HB; have HB := n0_; clear n0_; (try clear hb); (try clear hb2); (try clear hk); (try clear hi)) | ((with_reducible refine gate_callee (f := 76) rfl ?_); refine goesL_ (some 23) rfl rfl Tryz.func76 (by kernel_rfl) rfl #[.string a0] rfl (by (try simp only [List.map_toArray, List.map_cons, List.map_nil]); first | done | rfl | (simp only [List.length_drop, List.length_take]; rfl)) ?_; (with_reducible refine (text_X2C.calls k a0 t956 t957 _ (TabOK.of_below hT (by repeat (first | (with_reducible first | exact HB.out | apply below_alloc | apply pw_below_drewN | apply below_drew1) | exact HB.out))) A7.out).mono ?_); rintro e w37 ⟨rfl, hb⟩; refine ⟨_, rfl, ?_⟩; have n0_ := Aside0.mk (below_step (by repeat (first | (with_reducible first | exact HB.out | apply below_alloc | apply pw_below_drewN | apply below_drew1) | exact HB.out)) hb); clear HB; have HB := n0_; clear n0_; (try clear hb); (try clear hb2); (try clear hk); (try clear hi)) | ((with_reducible refine gate_callee (f := 77) rfl ?_); refine goesL_ (some 28) rfl rfl Tryz.func77 (by kernel_rfl) rfl #[.string a0] rfl (by (try simp only [List.map_toArray, List.map_cons, List.map_nil]); first | done | rfl | (simp only [List.length_drop, List.length_take]; rfl)) ?_; (with_reducible refine (text_X2B.calls k a0 t958 t959 _ (TabOK.of_below hT (by repeat (first | (with_reducible first | exact HB.out | apply below_alloc | apply pw_below_drewN | apply below_drew1) | exact HB.out))) A8.out).mono ?_); rintro e w38 ⟨rfl, hb⟩; refine ⟨_, rfl, ?_⟩; have n0_ := Aside0.mk (below_step (by repeat (first | (with_reducible first | exact HB.out | apply below_alloc | apply pw_below_drewN | apply below_drew1) | exact HB.out)) hb); clear HB; have HB := n0_; clear n0_; (try clear hb); (try clear hb2); (try clear hk); (try clear hi)) | ((with_reducible refine gate_callee (f := 78) rfl ?_); refine goesL_ (some 33) rfl rfl Tryz.func78 (by kernel_rfl) rfl #[.string a0] rfl (by (try simp only [List.map_toArray, List.map_cons, List.map_nil]); first | done | rfl | (simp only [List.length_drop, List.length_take]; rfl)) ?_; (with_reducible refine (text_B2X.calls k a0 t960 t961 _ (TabOK.of_below hT (by repeat (first | (with_reducible first | exact HB.out | apply below_alloc | apply pw_below_drewN | apply below_drew1) | exact HB.out))) A9.out).mono ?_); rintro e w39 ⟨rfl, hb⟩; refine ⟨_, rfl, ?_⟩; have n0_ := Aside0.mk (below_step (by repeat (first | (with_reducible first | exact HB.out | apply below_alloc | apply pw_below_drewN | apply below_drew1) | exact HB.out)) hb); clear HB; have HB := n0_; clear n0_; (try clear hb); (try clear hb2); (try clear hk); (try clear hi)) | (go_at_call 79; (with_reducible refine (qanatref02_C2X.calls k a0 t962 t963 _ A11.out).mono ?_); rintro e w40 ⟨rfl, hb⟩; have n0_ := Aside0.mk (below_step (by repeat (first | (with_reducible first | exact HB.out | apply below_alloc | apply pw_below_drewN | apply below_drew1) | exact HB.out)) hb); clear HB; have HB := n0_; clear n0_; (try clear hb); (try clear hb2); (try clear hk); (try clear hi)) | (go_at_call 20; (with_reducible refine (qanatlaw02_str.calls t954 t955 t962 t963 true _ A12.out).mono ?_); rintro e w41 ⟨rfl, hb⟩; have n0_ := Aside0.mk (below_step (by repeat (first | (with_reducible first | exact HB.out | apply below_alloc | apply pw_below_drewN | apply below_drew1) | exact HB.out)) hb); clear HB; have HB := n0_; clear n0_; (try clear hb); (try clear hb2); (try clear hk); (try clear hi)) | (go_at_call 80; (with_reducible refine (qanatref02_X2C.calls k a0 t965 t966 _ A14.out).mono ?_); rintro e w42 ⟨rfl, hb⟩; have n0_ := Aside0.mk (below_step (by repeat (first | (with_reducible first | exact HB.out | apply below_alloc | apply pw_below_drewN | apply below_drew1) | exact HB.out)) hb); clear HB; have HB := n0_; clear n0_; (try clear hb); (try clear hb2); (try clear hk); (try clear hi)) | (go_at_call 20; (with_reducible refine (qanatlaw02_str.calls t956 t957 t965 t966 true _ A15.out).mono ?_); rintro e w43 ⟨rfl, hb⟩; have n0_ := Aside0.mk (below_step (by repeat (first | (with_reducible first | exact HB.out | apply below_alloc | apply pw_below_drewN | apply below_drew1) | exact HB.out)) hb); clear HB; have HB := n0_; clear n0_; (try clear hb); (try clear hb2); (try clear hk); (try clear hi)) | (go_at_call 81; (with_reducible refine (qanatref02_X2B.calls k a0 t968 t969 _ A17.out).mono ?_); rintro e w44 ⟨rfl, hb⟩; have n0_ := Aside0.mk (below_step (by repeat (first | (with_reducible first | exact HB.out | apply below_alloc | apply pw_below_drewN | apply below_drew1) | exact HB.out)) hb); clear HB; have HB := n0_; clear n0_; (try clear hb); (try clear hb2); (try clear hk); (try clear hi)) | (go_at_call 20; (with_reducible refine (qanatlaw02_str.calls t958 t959 t968 t969 false _ A18.out).mono ?_); rintro e w45 ⟨rfl, hb⟩; have n0_ := Aside0.mk (below_step (by repeat (first | (with_reducible first | exact HB.out | apply below_alloc | apply pw_below_drewN | apply below_drew1) | exact HB.out)) hb); clear HB; have HB := n0_; clear n0_; (try clear hb); (try clear hb2); (try clear hk); (try clear hi)))
            go_ret
            exact ⟨by first | rfl | (simp [errW_none, errW_some] <;> rfl) | (simp [*, errW_none, errW_some] <;> rfl), by repeat (first | (with_reducible first | exact HB.out | apply below_alloc | apply pw_below_drewN | apply below_drew1) | exact HB.out)⟩
        · replace c16 := Bool.eq_false_iff.mpr c16
          subst c16
          have H1 : (some false) = some r := by rw [if_neg (show ¬ (false = true) by decide)] at H; exact H
          clear H
          have H := H1
          clear H1
          obtain rfl := Option.some.inj H
          go_enter Tryz.func13, Tryz.ntmps13
          go_wp2_with (first | ((with_reducible refine gate_callee (f := 15) rfl ?_); refine goesL_ (some 12) rfl rfl Tryz.func15 (by kernel_rfl) rfl #[] rfl (by (try simp only [List.map_toArray, List.map_cons, List.map_nil]); first | done | rfl | (simp only [List.length_drop, List.length_take]; rfl)) ?_; (with_reducible refine (qanatlaw02_head.calls k  true _ (TabOK.of_below hT (by repeat (first | (with_reducible first | exact HB.out | apply below_alloc | apply pw_below_drewN | apply below_drew1) | exact HB.out))) A2.out).mono ?_); rintro e w46 ⟨rfl, hb⟩; refine ⟨_, rfl, ?_⟩; have n0_ := Aside0.mk (below_step (by repeat (first | (with_reducible first | exact HB.out | apply below_alloc | apply pw_below_drewN | apply below_drew1) | exact HB.out)) hb); clear HB; have HB := n0_; clear n0_; (try clear hb); (try clear hb2); (try clear hk); (try clear hi)) | ((with_reducible refine gate_callee (f := 16) rfl ?_); refine goesL_ (some 14) rfl rfl Tryz.func16 (by kernel_rfl) rfl #[.string a0] rfl (by (try simp only [List.map_toArray, List.map_cons, List.map_nil]); first | done | rfl | (simp only [List.length_drop, List.length_take]; rfl)) ?_; (with_reducible refine (qanatlaw02_long.calls a0 false _ A3.out).mono ?_); rintro e w' ⟨rfl, ⟨nd, rfl⟩⟩; refine ⟨_, rfl, ?_⟩) | ((with_reducible refine gate_callee (f := 75) rfl ?_); refine goesL_ (some 18) rfl rfl Tryz.func75 (by kernel_rfl) rfl #[.string a0] rfl (by (try simp only [List.map_toArray, List.map_cons, List.map_nil]); first | done | rfl | (simp only [List.length_drop, List.length_take]; rfl)) ?_; (with_reducible refine (text_C2X.calls k a0 t954 t955 _ A6.out).mono ?_); rintro e w47 ⟨rfl, hb⟩; refine ⟨_, rfl, ?_⟩; have n0_ := Aside0.mk (below_step (by repeat (first | (with_reducible first | exact HB.out | apply below_alloc | apply pw_below_drewN | apply below_drew1) | exact HB.out)) hb); clear HB; have HB := n0_; clear n0_; (try clear hb); (try clear hb2); (try clear hk); (try clear hi)) | ((with_reducible refine gate_callee (f := 76) rfl ?_); refine goesL_ (some 23) rfl rfl Tryz.func76 (by kernel_rfl) rfl #[.string a0] rfl (by (try simp only [List.map_toArray, List.map_cons, List.map_nil]); first | done | rfl | (simp only [List.length_drop, List.length_take]; rfl)) ?_; (with_reducible refine (text_X2C.calls k a0 t956 t957 _ (TabOK.of_below hT (by repeat (first | (with_reducible first | exact HB.out | apply below_alloc | apply pw_below_drewN | apply below_drew1) | exact HB.out))) A7.out).mono ?_); rintro e w48 ⟨rfl, hb⟩; refine ⟨_, rfl, ?_⟩; have n0_ := Aside0.mk (below_step (by repeat (first | (with_reducible first | exact HB.out | apply below_alloc | apply pw_below_drewN | apply below_drew1) | exact HB.out)) hb); clear HB; have HB := n0_; clear n0_; (try clear hb); (try clear hb2); (try clear hk); (try clear hi)) | ((with_reducible refine gate_callee (f := 77) rfl ?_); refine goesL_ (some 28) rfl rfl Tryz.func77 (by kernel_rfl) rfl #[.string a0] rfl (by (try simp only [List.map_toArray, List.map_cons, List.map_nil]); first | done | rfl | (simp only [List.length_drop, List.length_take]; rfl)) ?_; (with_reducible refine (text_X2B.calls k a0 t958 t959 _ (TabOK.of_below hT (by repeat (first | (with_reducible first | exact HB.out | apply below_alloc | apply pw_below_drewN | apply below_drew1) | exact HB.out))) A8.out).mono ?_); rintro e w49 ⟨rfl, hb⟩; refine ⟨_, rfl, ?_⟩; have n0_ := Aside0.mk (below_step (by repeat (first | (with_reducible first | exact HB.out | apply below_alloc | apply pw_below_drewN | apply below_drew1) | exact HB.out)) hb); clear HB; have HB := n0_; clear n0_; (try clear hb); (try clear hb2); (try clear hk); (try clear hi)) | ((with_reducible refine gate_callee (f := 78) rfl ?_); refine goesL_ (some 33) rfl rfl Tryz.func78 (by kernel_rfl) rfl #[.string a0] rfl (by (try simp only [List.map_toArray, List.map_cons, List.map_nil]); first | done | rfl | (simp only [List.length_drop, List.length_take]; rfl)) ?_; (with_reducible refine (text_B2X.calls k a0 t960 t961 _ (TabOK.of_below hT (by repeat (first | (with_reducible first | exact HB.out | apply below_alloc | apply pw_below_drewN | apply below_drew1) | exact HB.out))) A9.out).mono ?_); rintro e w50 ⟨rfl, hb⟩; refine ⟨_, rfl, ?_⟩; have n0_ := Aside0.mk (below_step (by repeat (first | (with_reducible first | exact HB.out | apply below_alloc | apply pw_below_drewN | apply below_drew1) | exact HB.out)) hb); clear HB; have HB := n0_; clear n0_; (try clear hb); (try clear hb2); (try clear hk); (try clear hi)) | (go_at_call 79; (with_reducible refine (qanatref02_C2X.calls k a0 t962 t963 _ A11.out).mono ?_); rintro e w51 ⟨rfl, hb⟩; have n0_ := Aside0.mk (below_step (by repeat (first | (with_reducible first | exact HB.out | apply below_alloc | apply pw_below_drewN | apply below_drew1) | exact HB.out)) hb); clear HB; have HB := n0_; clear n0_; (try clear hb); (try clear hb2); (try clear hk); (try clear hi)) | (go_at_call 20; (with_reducible refine (qanatlaw02_str.calls t954 t955 t962 t963 true _ A12.out).mono ?_); rintro e w52 ⟨rfl, hb⟩; have n0_ := Aside0.mk (below_step (by repeat (first | (with_reducible first | exact HB.out | apply below_alloc | apply pw_below_drewN | apply below_drew1) | exact HB.out)) hb); clear HB; have HB := n0_; clear n0_; (try clear hb); (try clear hb2); (try clear hk); (try clear hi)) | (go_at_call 80; (with_reducible refine (qanatref02_X2C.calls k a0 t965 t966 _ A14.out).mono ?_); rintro e w53 ⟨rfl, hb⟩; have n0_ := Aside0.mk (below_step (by repeat (first | (with_reducible first | exact HB.out | apply below_alloc | apply pw_below_drewN | apply below_drew1) | exact HB.out)) hb); clear HB; have HB := n0_; clear n0_; (try clear hb); (try clear hb2); (try clear hk); (try clear hi)) | (go_at_call 20; (with_reducible refine (qanatlaw02_str.calls t956 t957 t965 t966 false _ A15.out).mono ?_); rintro e w54 ⟨rfl, hb⟩; have n0_ := Aside0.mk (below_step (by repeat (first | (with_reducible first | exact HB.out | apply below_alloc | apply pw_below_drewN | apply below_drew1) | exact HB.out)) hb); clear HB; have HB := n0_; clear n0_; (try clear hb); (try clear hb2); (try clear hk); (try clear hi)))
          go_ret
          exact ⟨by first | rfl | (simp [errW_none, errW_some] <;> rfl) | (simp [*, errW_none, errW_some] <;> rfl), by repeat (first | (with_reducible first | exact HB.out | apply below_alloc | apply pw_below_drewN | apply below_drew1) | exact HB.out)⟩
      · replace c13 := Bool.eq_false_iff.mpr c13
        subst c13
        have H1 : (some false) = some r := by rw [if_neg (show ¬ (false = true) by decide)] at H; exact H
        clear H
        have H := H1
        clear H1
        obtain rfl := Option.some.inj H
        go_enter Tryz.func13, Tryz.ntmps13
        go_wp2_with (first | ((with_reducible refine gate_callee (f := 15) rfl ?_); refine goesL_ (some 12) rfl rfl Tryz.func15 (by kernel_rfl) rfl #[] rfl (by (try simp only [List.map_toArray, List.map_cons, List.map_nil]); first | done | rfl | (simp only [List.length_drop, List.length_take]; rfl)) ?_; (with_reducible refine (qanatlaw02_head.calls k  true _ (TabOK.of_below hT (by repeat (first | (with_reducible first | exact HB.out | apply below_alloc | apply pw_below_drewN | apply below_drew1) | exact HB.out))) A2.out).mono ?_); rintro e w55 ⟨rfl, hb⟩; refine ⟨_, rfl, ?_⟩; have n0_ := Aside0.mk (below_step (by repeat (first | (with_reducible first | exact HB.out | apply below_alloc | apply pw_below_drewN | apply below_drew1) | exact HB.out)) hb); clear HB; have HB := n0_; clear n0_; (try clear hb); (try clear hb2); (try clear hk); (try clear hi)) | ((with_reducible refine gate_callee (f := 16) rfl ?_); refine goesL_ (some 14) rfl rfl Tryz.func16 (by kernel_rfl) rfl #[.string a0] rfl (by (try simp only [List.map_toArray, List.map_cons, List.map_nil]); first | done | rfl | (simp only [List.length_drop, List.length_take]; rfl)) ?_; (with_reducible refine (qanatlaw02_long.calls a0 false _ A3.out).mono ?_); rintro e w' ⟨rfl, ⟨nd, rfl⟩⟩; refine ⟨_, rfl, ?_⟩) | ((with_reducible refine gate_callee (f := 75) rfl ?_); refine goesL_ (some 18) rfl rfl Tryz.func75 (by kernel_rfl) rfl #[.string a0] rfl (by (try simp only [List.map_toArray, List.map_cons, List.map_nil]); first | done | rfl | (simp only [List.length_drop, List.length_take]; rfl)) ?_; (with_reducible refine (text_C2X.calls k a0 t954 t955 _ A6.out).mono ?_); rintro e w56 ⟨rfl, hb⟩; refine ⟨_, rfl, ?_⟩; have n0_ := Aside0.mk (below_step (by repeat (first | (with_reducible first | exact HB.out | apply below_alloc | apply pw_below_drewN | apply below_drew1) | exact HB.out)) hb); clear HB; have HB := n0_; clear n0_; (try clear hb); (try clear hb2); (try clear hk); (try clear hi)) | ((with_reducible refine gate_callee (f := 76) rfl ?_); refine goesL_ (some 23) rfl rfl Tryz.func76 (by kernel_rfl) rfl #[.string a0] rfl (by (try simp only [List.map_toArray, List.map_cons, List.map_nil]); first | done | rfl | (simp only [List.length_drop, List.length_take]; rfl)) ?_; (with_reducible refine (text_X2C.calls k a0 t956 t957 _ (TabOK.of_below hT (by repeat (first | (with_reducible first | exact HB.out | apply below_alloc | apply pw_below_drewN | apply below_drew1) | exact HB.out))) A7.out).mono ?_); rintro e w57 ⟨rfl, hb⟩; refine ⟨_, rfl, ?_⟩; have n0_ := Aside0.mk (below_step (by repeat (first | (with_reducible first | exact HB.out | apply below_alloc | apply pw_below_drewN | apply below_drew1) | exact HB.out)) hb); clear HB; have HB := n0_; clear n0_; (try clear hb); (try clear hb2); (try clear hk); (try clear hi)) | ((with_reducible refine gate_callee (f := 77) rfl ?_); refine goesL_ (some 28) rfl rfl Tryz.func77 (by kernel_rfl) rfl #[.string a0] rfl (by (try simp only [List.map_toArray, List.map_cons, List.map_nil]); first | done | rfl | (simp only [List.length_drop, List.length_take]; rfl)) ?_; (with_reducible refine (text_X2B.calls k a0 t958 t959 _ (TabOK.of_below hT (by repeat (first | (with_reducible first | exact HB.out | apply below_alloc | apply pw_below_drewN | apply below_drew1) | exact HB.out))) A8.out).mono ?_); rintro e w58 ⟨rfl, hb⟩; refine ⟨_, rfl, ?_⟩; have n0_ := Aside0.mk (below_step (by repeat (first | (with_reducible first | exact HB.out | apply below_alloc | apply pw_below_drewN | apply below_drew1) | exact HB.out)) hb); clear HB; have HB := n0_; clear n0_; (try clear hb); (try clear hb2); (try clear hk); (try clear hi)) | ((with_reducible refine gate_callee (f := 78) rfl ?_); refine goesL_ (some 33) rfl rfl Tryz.func78 (by kernel_rfl) rfl #[.string a0] rfl (by (try simp only [List.map_toArray, List.map_cons, List.map_nil]); first | done | rfl | (simp only [List.length_drop, List.length_take]; rfl)) ?_; (with_reducible refine (text_B2X.calls k a0 t960 t961 _ (TabOK.of_below hT (by repeat (first | (with_reducible first | exact HB.out | apply below_alloc | apply pw_below_drewN | apply below_drew1) | exact HB.out))) A9.out).mono ?_); rintro e w59 ⟨rfl, hb⟩; refine ⟨_, rfl, ?_⟩; have n0_ := Aside0.mk (below_step (by repeat (first | (with_reducible first | exact HB.out | apply below_alloc | apply pw_below_drewN | apply below_drew1) | exact HB.out)) hb); clear HB; have HB := n0_; clear n0_; (try clear hb); (try clear hb2); (try clear hk); (try clear hi)) | (go_at_call 79; (with_reducible refine (qanatref02_C2X.calls k a0 t962 t963 _ A11.out).mono ?_); rintro e w60 ⟨rfl, hb⟩; have n0_ := Aside0.mk (below_step (by repeat (first | (with_reducible first | exact HB.out | apply below_alloc | apply pw_below_drewN | apply below_drew1) | exact HB.out)) hb); clear HB; have HB := n0_; clear n0_; (try clear hb); (try clear hb2); (try clear hk); (try clear hi)) | (go_at_call 20; (with_reducible refine (qanatlaw02_str.calls t954 t955 t962 t963 false _ A12.out).mono ?_); rintro e w61 ⟨rfl, hb⟩; have n0_ := Aside0.mk (below_step (by repeat (first | (with_reducible first | exact HB.out | apply below_alloc | apply pw_below_drewN | apply below_drew1) | exact HB.out)) hb); clear HB; have HB := n0_; clear n0_; (try clear hb); (try clear hb2); (try clear hk); (try clear hi)))
        go_ret
        exact ⟨by first | rfl | (simp [errW_none, errW_some] <;> rfl) | (simp [*, errW_none, errW_some] <;> rfl), by repeat (first | (with_reducible first | exact HB.out | apply below_alloc | apply pw_below_drewN | apply below_drew1) | exact HB.out)⟩
    · replace c10 := Bool.eq_false_iff.mpr c10
      subst c10
      have H1 : (some false) = some r := by rw [if_neg (show ¬ (false = true) by decide)] at H; exact H
      clear H
      have H := H1
      clear H1
      obtain rfl := Option.some.inj H
      go_enter Tryz.func13, Tryz.ntmps13
      go_wp2_with (first | ((with_reducible refine gate_callee (f := 15) rfl ?_); refine goesL_ (some 12) rfl rfl Tryz.func15 (by kernel_rfl) rfl #[] rfl (by (try simp only [List.map_toArray, List.map_cons, List.map_nil]); first | done | rfl | (simp only [List.length_drop, List.length_take]; rfl)) ?_; (with_reducible refine (qanatlaw02_head.calls k  false _ (TabOK.of_below hT (by repeat (first | (with_reducible first | exact HB.out | apply below_alloc | apply pw_below_drewN | apply below_drew1) | exact HB.out))) A2.out).mono ?_); rintro e w62 ⟨rfl, hb⟩; refine ⟨_, rfl, ?_⟩; have n0_ := Aside0.mk (below_step (by repeat (first | (with_reducible first | exact HB.out | apply below_alloc | apply pw_below_drewN | apply below_drew1) | exact HB.out)) hb); clear HB; have HB := n0_; clear n0_; (try clear hb); (try clear hb2); (try clear hk); (try clear hi)) | ((with_reducible refine gate_callee (f := 16) rfl ?_); refine goesL_ (some 14) rfl rfl Tryz.func16 (by kernel_rfl) rfl #[.string a0] rfl (by (try simp only [List.map_toArray, List.map_cons, List.map_nil]); first | done | rfl | (simp only [List.length_drop, List.length_take]; rfl)) ?_; (with_reducible refine (qanatlaw02_long.calls a0 false _ A3.out).mono ?_); rintro e w' ⟨rfl, ⟨nd, rfl⟩⟩; refine ⟨_, rfl, ?_⟩) | ((with_reducible refine gate_callee (f := 75) rfl ?_); refine goesL_ (some 18) rfl rfl Tryz.func75 (by kernel_rfl) rfl #[.string a0] rfl (by (try simp only [List.map_toArray, List.map_cons, List.map_nil]); first | done | rfl | (simp only [List.length_drop, List.length_take]; rfl)) ?_; (with_reducible refine (text_C2X.calls k a0 t954 t955 _ A6.out).mono ?_); rintro e w63 ⟨rfl, hb⟩; refine ⟨_, rfl, ?_⟩; have n0_ := Aside0.mk (below_step (by repeat (first | (with_reducible first | exact HB.out | apply below_alloc | apply pw_below_drewN | apply below_drew1) | exact HB.out)) hb); clear HB; have HB := n0_; clear n0_; (try clear hb); (try clear hb2); (try clear hk); (try clear hi)) | ((with_reducible refine gate_callee (f := 76) rfl ?_); refine goesL_ (some 23) rfl rfl Tryz.func76 (by kernel_rfl) rfl #[.string a0] rfl (by (try simp only [List.map_toArray, List.map_cons, List.map_nil]); first | done | rfl | (simp only [List.length_drop, List.length_take]; rfl)) ?_; (with_reducible refine (text_X2C.calls k a0 t956 t957 _ (TabOK.of_below hT (by repeat (first | (with_reducible first | exact HB.out | apply below_alloc | apply pw_below_drewN | apply below_drew1) | exact HB.out))) A7.out).mono ?_); rintro e w64 ⟨rfl, hb⟩; refine ⟨_, rfl, ?_⟩; have n0_ := Aside0.mk (below_step (by repeat (first | (with_reducible first | exact HB.out | apply below_alloc | apply pw_below_drewN | apply below_drew1) | exact HB.out)) hb); clear HB; have HB := n0_; clear n0_; (try clear hb); (try clear hb2); (try clear hk); (try clear hi)) | ((with_reducible refine gate_callee (f := 77) rfl ?_); refine goesL_ (some 28) rfl rfl Tryz.func77 (by kernel_rfl) rfl #[.string a0] rfl (by (try simp only [List.map_toArray, List.map_cons, List.map_nil]); first | done | rfl | (simp only [List.length_drop, List.length_take]; rfl)) ?_; (with_reducible refine (text_X2B.calls k a0 t958 t959 _ (TabOK.of_below hT (by repeat (first | (with_reducible first | exact HB.out | apply below_alloc | apply pw_below_drewN | apply below_drew1) | exact HB.out))) A8.out).mono ?_); rintro e w65 ⟨rfl, hb⟩; refine ⟨_, rfl, ?_⟩; have n0_ := Aside0.mk (below_step (by repeat (first | (with_reducible first | exact HB.out | apply below_alloc | apply pw_below_drewN | apply below_drew1) | exact HB.out)) hb); clear HB; have HB := n0_; clear n0_; (try clear hb); (try clear hb2); (try clear hk); (try clear hi)) | ((with_reducible refine gate_callee (f := 78) rfl ?_); refine goesL_ (some 33) rfl rfl Tryz.func78 (by kernel_rfl) rfl #[.string a0] rfl (by (try simp only [List.map_toArray, List.map_cons, List.map_nil]); first | done | rfl | (simp only [List.length_drop, List.length_take]; rfl)) ?_; (with_reducible refine (text_B2X.calls k a0 t960 t961 _ (TabOK.of_below hT (by repeat (first | (with_reducible first | exact HB.out | apply below_alloc | apply pw_below_drewN | apply below_drew1) | exact HB.out))) A9.out).mono ?_); rintro e w66 ⟨rfl, hb⟩; refine ⟨_, rfl, ?_⟩; have n0_ := Aside0.mk (below_step (by repeat (first | (with_reducible first | exact HB.out | apply below_alloc | apply pw_below_drewN | apply below_drew1) | exact HB.out)) hb); clear HB; have HB := n0_; clear n0_; (try clear hb); (try clear hb2); (try clear hk); (try clear hi)))
      go_ret
      exact ⟨by first | rfl | (simp [errW_none, errW_some] <;> rfl) | (simp [*, errW_none, errW_some] <;> rfl), by repeat (first | (with_reducible first | exact HB.out | apply below_alloc | apply pw_below_drewN | apply below_drew1) | exact HB.out)⟩

/-- THE ONE PURE STATEMENT of qanatlaw02_TextDigits: yours. -/
def qanatlaw02_TextDigits.Pure : Prop := ∀ (a0 : ByteArray), a0.size ≤ 140737488351232 → ∃ k, qanatlaw02_TextDigits.f k a0 = some true
theorem qanatlaw02_TextDigits.walk (P : qanatlaw02_TextDigits.Pure) (a0 : ByteArray) (w : World) (hT : TabOK w) (w0 : a0.size ≤ 140737488351232) :
    Calls Tryz.prog 13 #[.string a0] w fun e w' => e = .returned (.bool true) ∧ Below w.heap.size w w' := by
  obtain ⟨k, h⟩ := P a0 w0
  refine (qanatlaw02_TextDigits.calls k a0 true w hT h).mono ?_
  rintro e w' ⟨rfl, hd⟩
  exact ⟨rfl, hd⟩

end Go.Proofs.YtlekfhnlhdmekaaGreatDoor.T

/- The words of a list of bytes, parted by blanks: plain laws. -/
namespace Go.Proofs.YtlekfhnlhdmekaaGreatDoor.T
set_option linter.unusedSimpArgs false
set_option linter.unusedVariables false
open Go

/-- The words of l; what cur holds has been read of the first one. -/
def fw : List UInt8 → List UInt8 → List (List UInt8)
  | cur, [] => if cur = [] then [] else [cur]
  | cur, b :: t => if b = 32 then (if cur = [] then [] else [cur]) ++ fw [] t else fw (cur ++ [b]) t
theorem fw_blank (t : List UInt8) : fw [] (32 :: t) = fw [] t := by simp [fw]
theorem fw_sep : ∀ (u cur v : List UInt8), fw cur (u ++ 32 :: v) = fw cur u ++ fw [] v
  | [], cur, v => by simp [fw]
  | b :: u, cur, v => by
    simp only [List.cons_append, fw]
    by_cases h : b = 32
    · rw [if_pos h, if_pos h, fw_sep u [] v, List.append_assoc]
    · rw [if_neg h, if_neg h, fw_sep u _ v]
theorem fw_word : ∀ (u cur : List UInt8), (∀ b ∈ u, b ≠ 32) → fw cur u = if cur ++ u = [] then [] else [cur ++ u]
  | [], cur, _ => by simp [fw]
  | b :: u, cur, h => by
    simp only [fw]
    rw [if_neg (h b (List.mem_cons_self)), fw_word u _ (fun x hx => h x (List.mem_cons_of_mem _ hx))]
    simp
/-- v is empty or begins with a blank. -/
def Stops (v : List UInt8) : Prop := v = [] ∨ ∃ t, v = 32 :: t
/-- u is empty or ends with a blank. -/
def Starts (u : List UInt8) : Prop := u = [] ∨ ∃ t, u = t ++ [32]
theorem fw_stops (u v : List UInt8) (h : Stops v) : fw [] (u ++ v) = fw [] u ++ fw [] v := by
  rcases h with rfl | ⟨t, rfl⟩
  · simp [fw]
  · rw [fw_sep, fw_blank]
theorem fw_starts (u v : List UInt8) (h : Starts u) : fw [] (u ++ v) = fw [] u ++ fw [] v := by
  rcases h with rfl | ⟨t, rfl⟩
  · simp [fw]
  · have h1 : fw [] (t ++ [32]) = fw [] t := by rw [fw_sep]; simp [fw]
    rw [h1, List.append_assoc, List.singleton_append, fw_sep]
theorem fw_one (w v : List UInt8) (hw : w ≠ []) (h : ∀ b ∈ w, b ≠ 32) (hv : Stops v) : fw [] (w ++ v) = w :: fw [] v := by
  rw [fw_stops w v hv, fw_word w [] h]
  simp [hw]
theorem fw_mem : ∀ (u cur : List UInt8), (∀ b ∈ cur, b ≠ 32) → ∀ w ∈ fw cur u, w ≠ [] ∧ ∀ b ∈ w, b ≠ 32
  | [], cur, hc, w, hw => by
    simp only [fw] at hw
    split at hw
    · cases hw
    · rw [List.mem_singleton.1 hw]; exact ⟨by assumption, hc⟩
  | b :: u, cur, hc, w, hw => by
    simp only [fw] at hw
    split at hw
    · rcases List.mem_append.1 hw with hw | hw
      · split at hw
        · cases hw
        · rw [List.mem_singleton.1 hw]; exact ⟨by assumption, hc⟩
      · exact fw_mem u [] (fun _ h => by cases h) w hw
    · next hb => exact fw_mem u _ (fun x hx => by
        rcases List.mem_append.1 hx with hx | hx
        · exact hc x hx
        · rw [List.mem_singleton.1 hx]; exact hb) w hw
theorem fw_bytes : ∀ (u cur w : List UInt8), w ∈ fw cur u → ∀ b ∈ w, b ∈ cur ∨ b ∈ u
  | [], cur, w, hw, b, hb => by
    simp only [fw] at hw
    split at hw
    · cases hw
    · rw [List.mem_singleton.1 hw] at hb; exact .inl hb
  | x :: u, cur, w, hw, b, hb => by
    simp only [fw] at hw
    split at hw
    · rcases List.mem_append.1 hw with hw | hw
      · split at hw
        · cases hw
        · rw [List.mem_singleton.1 hw] at hb; exact .inl hb
      · rcases fw_bytes u [] w hw b hb with h | h
        · cases h
        · exact .inr (List.mem_cons_of_mem _ h)
    · rcases fw_bytes u _ w hw b hb with h | h
      · rcases List.mem_append.1 h with h | h
        · exact .inl h
        · rw [List.mem_singleton.1 h]; exact .inr List.mem_cons_self
      · exact .inr (List.mem_cons_of_mem _ h)
/-- Words, joined by blanks, are these words. -/
theorem fw_tail : ∀ (L : List (List UInt8)), (∀ w ∈ L, w ≠ [] ∧ ∀ b ∈ w, b ≠ 32) → fw [] (Lib.joinTail [32] L) = L ∧ Stops (Lib.joinTail [32] L)
  | [], _ => by simp [Lib.joinTail, fw, Stops]
  | w :: L, h => by
    have ih := fw_tail L (fun x hx => h x (List.mem_cons_of_mem _ hx))
    have hw := h w List.mem_cons_self
    have e : Lib.joinTail [32] (w :: L) = 32 :: (w ++ Lib.joinTail [32] L) := by simp [Lib.joinTail]
    rw [e, fw_blank, fw_one w _ hw.1 hw.2 ih.2, ih.1]
    exact ⟨rfl, .inr ⟨_, rfl⟩⟩
theorem fw_join (L : List (List UInt8)) (h : ∀ w ∈ L, w ≠ [] ∧ ∀ b ∈ w, b ≠ 32) : fw [] (Lib.join L [32]) = L := by
  cases L with
  | nil => simp [Lib.join_nil, fw]
  | cons w L =>
    have ih := fw_tail L (fun x hx => h x (List.mem_cons_of_mem _ hx))
    have hw := h w List.mem_cons_self
    rw [Lib.join_cons, fw_one w _ hw.1 hw.2 ih.2, ih.1]
/-- The words, each with one byte behind it, are not longer than the list with one byte more. -/
theorem fw_len : ∀ (u cur : List UInt8), Lib.lens (fw cur u) + (fw cur u).length ≤ cur.length + u.length + 1
  | [], cur => by
    simp only [fw]
    split
    · simp [Lib.lens]
    · simp [Lib.lens]
  | b :: u, cur => by
    simp only [fw]
    split
    · have ih := fw_len u []
      split
      · simp [Lib.lens] at ih ⊢; omega
      · simp [Lib.lens] at ih ⊢; omega
    · have ih := fw_len u (cur ++ [b])
      simp at ih ⊢; omega
theorem join_len (L : List (List UInt8)) : (Lib.join L [32]).length + 1 ≤ Lib.lens L + L.length ∨ L = [] := by
  cases L with
  | nil => exact .inr rfl
  | cons w L => left; rw [Lib.join_length]; simp; omega
theorem fw_join_len (u : List UInt8) : (Lib.join (fw [] u) [32]).length ≤ u.length := by
  have h := fw_len u []
  rcases join_len (fw [] u) with h1 | h1
  · simp at h; omega
  · rw [h1]; simp [Lib.join_nil]
theorem join_bytes (L : List (List UInt8)) (b : UInt8) (hb : b ∈ Lib.join L [32]) : b = 32 ∨ ∃ w ∈ L, b ∈ w := by
  have ht : ∀ (L : List (List UInt8)), b ∈ Lib.joinTail [32] L → b = 32 ∨ ∃ w ∈ L, b ∈ w := by
    intro L
    induction L with
    | nil => intro h; simp [Lib.joinTail] at h
    | cons w L ih =>
      intro h
      have e : Lib.joinTail [32] (w :: L) = 32 :: (w ++ Lib.joinTail [32] L) := by simp [Lib.joinTail]
      rw [e] at h
      rcases List.mem_cons.1 h with h | h
      · exact .inl h
      · rcases List.mem_append.1 h with h | h
        · exact .inr ⟨w, List.mem_cons_self, h⟩
        · rcases ih h with h | ⟨x, hx, h⟩
          · exact .inl h
          · exact .inr ⟨x, List.mem_cons_of_mem _ hx, h⟩
  cases L with
  | nil => simp [Lib.join_nil] at hb
  | cons w L =>
    rw [Lib.join_cons] at hb
    rcases List.mem_append.1 hb with h | h
    · exact .inr ⟨w, List.mem_cons_self, h⟩
    · rcases ht L h with h | ⟨x, hx, h⟩
      · exact .inl h
      · exact .inr ⟨x, List.mem_cons_of_mem _ hx, h⟩
theorem fw_trim : ∀ (u : List UInt8), fw [] (Lib.trimLeftB u 32) = fw [] u
  | [] => rfl
  | b :: u => by
    unfold Lib.trimLeftB
    rw [List.dropWhile_cons]
    by_cases h : b = 32
    · subst h
      rw [if_pos (by rfl), fw_blank]
      exact fw_trim u
    · rw [if_neg (by simpa using h)]
/-- On printable bytes it is the library's. -/
theorem fields_fw : ∀ (u cur : List UInt8), (∀ b ∈ u, 32 ≤ b.toNat ∧ b.toNat ≤ 126) → Lib.fieldsGo cur u = fw cur u
  | [], cur, _ => by
    simp only [Lib.fieldsGo, fw]
    cases cur <;> simp
  | b :: u, cur, h => by
    have hb := h b List.mem_cons_self
    have hu := fun x hx => h x (List.mem_cons_of_mem _ hx)
    simp only [Lib.fieldsGo, fw]
    by_cases e : b = 32
    · subst e
      rw [if_pos (by decide), if_pos rfl, fields_fw u [] hu]
      cases cur <;> simp
    · have hs : Lib.isSp b = false := by
        cases hs : Lib.isSp b with
        | false => rfl
        | true =>
          exfalso
          simp only [Lib.isSp, Bool.or_eq_true, beq_iff_eq] at hs
          rcases hs with ((((rfl | rfl) | rfl) | rfl) | rfl) | rfl <;> first | exact absurd hb.1 (by decide) | exact e rfl
      rw [hs, if_neg (by decide), if_neg e, fields_fw u _ hu]
theorem fieldsD_fw (u : List UInt8) (h : ∀ b ∈ u, 32 ≤ b.toNat ∧ b.toNat ≤ 126) : Lib.fieldsD u = fw [] u := by
  rw [Lib.fieldsD_ascii u (fun b hb => by have := h b hb; omega)]
  exact fields_fw u [] h
end Go.Proofs.YtlekfhnlhdmekaaGreatDoor.T

/- The examples that each law checks first are as they should be. And the reference's out is made. -/
namespace Go.Proofs.YtlekfhnlhdmekaaGreatDoor.T
set_option linter.unusedSimpArgs false
set_option linter.unusedVariables false
open Go.RowKit Go.Proofs.YtlekfhnlhdmekaaGreatDoorW.PrintWords Go.Proofs.YtlekfhnlhdmekaaGreatDoorW.PrintLast Go.Proofs.YtlekfhnlhdmekaaGreatDoorW.PrintMore
theorem head_60 : qanatlaw02_head.f 60 = some true := by kernel_rfl
theorem head_ok : ∀ d, qanatlaw02_head.f (60 + d) = some true
  | 0 => head_60
  | d + 1 => qanatlaw02_head.mono (60 + d) _ (head_ok d)
theorem strOfNums_size (L : List Int) : (strOfNums L).size = L.length := by
  rw [← data_length]
  simp [strOfNums]
theorem bytesOf_str (L : List Int) (h : ∀ x ∈ L, 0 ≤ x ∧ x < 256) : bytesOf (strOfNums L) = L := by
  unfold bytesOf strOfNums
  simp only [List.map_map]
  conv => rhs; rw [← List.map_id L]
  apply List.map_congr_left
  intro x hx
  obtain ⟨h0, h1⟩ := h x hx
  simp only [Function.comp_apply, id_eq, UInt8.toNat_ofNat']
  omega
theorem strOfNums_bytes (s : ByteArray) : strOfNums (bytesOf s) = s := by
  have e : ((bytesOf s).map fun n : Int => UInt8.ofNat n.toNat) = s.data.toList := by
    unfold bytesOf
    rw [List.map_map]
    conv => rhs; rw [← List.map_id s.data.toList]
    apply List.map_congr_left
    intro x hx
    simp
  unfold strOfNums
  rw [e]
theorem made_eq (s : ByteArray) : text_made.f s = some (if s.size > 1000 then (⟨#[]⟩, 3) else if vld s = true then (s, 0) else (⟨#[]⟩, 8)) := by
  unfold text_made.f text_Valid.f
  by_cases h : s.size > 1000
  · rw [if_pos (by omega), if_pos h]
  · rw [if_neg (by omega), if_neg h]
    simp only [Option.bind_some]
    split <;> rfl
theorem made_out (L : List Int) (h : ∀ x ∈ L, 0 ≤ x ∧ x < 256) : text_made.f (strOfNums L) = qanatref02_out.f L := by
  rw [made_eq, qanatref02_out.f, strOfNums_size]
  by_cases hl : L.length > 1000
  · rw [if_pos hl, if_pos hl]
  · rw [if_neg hl, if_neg hl]
    have e : vld (strOfNums L) = L.all goodI := by
      unfold vld
      rw [strOfNums_size, bytesOf_str L h, decide_eq_true (show L.length ≤ 1000 by omega), Bool.true_and]
    rw [e]
theorem u8_rng (z : Int) : 0 ≤ IntKind.u8.wrap z ∧ IntKind.u8.wrap z < 256 := by
  simp only [IntKind.wrap, IntKind.bits, IntKind.signed]
  simp
  omega
end Go.Proofs.YtlekfhnlhdmekaaGreatDoor.T

-- Written by a program of this session (mp.py over the kit's print.py), out of the translation.
namespace Go.Proofs.YtlekfhnlhdmekaaGreatDoor.T
set_option linter.unusedSimpArgs false
open Go.RowKit Go.Proofs.YtlekfhnlhdmekaaGreatDoorW.PrintWords Go.Proofs.YtlekfhnlhdmekaaGreatDoorW.PrintLast Go.Proofs.YtlekfhnlhdmekaaGreatDoorW.PrintMore
attribute [local go_sem] max2_int min2_int max_two min_two max_three min_three max_four min_four   -- for this text's walks alone
set_option linter.unusedVariables false
set_option linter.unusedSimpArgs false

/-! ### text_nth: function 107 -/
def text_nth.f (a0 : ByteArray) (a1 : Int) : Option (Int × Int × Int) := (text_valid.f (([a0] : List ByteArray))).bind fun t315 => ((text_least.f 1 (([a1] : List Int))).bind fun t319 => ((text_first.f (([t315, t319] : List Int))).bind fun t323 => (if t323 = 0 then ((text_words.f a0).bind fun t324 => (if a1 > (t324.length : Int) then (some (0, 0, 0)) else (if 0 ≤ (wrap64 (a1 - 1)) then (if (wrap64 (a1 - 1)) < (t324.length : Int) then (some ((rd_T105 t324 (wrap64 (a1 - 1))).f0, (rd_T105 t324 (wrap64 (a1 - 1))).f1, 0)) else (none)) else (none)))) else (some (0, 0, t323)))))
set_option maxHeartbeats 8000000 in
set_option maxRecDepth 100000 in
theorem text_nth.calls (a0 : ByteArray) (a1 : Int) (r1 : Int) (r2 : Int) (r3 : Int) (w : World) (h : text_nth.f a0 a1 = some (r1, r2, r3)) :
    Calls Tryz.prog 107 #[.string a0, .int .i64 a1] w fun e w' => e = .returned (.tuple #[.agg #[.int .i64 r1, .int .i64 r2], .int .i64 r3]) ∧ Below w.heap.size w w' := by
  have hu105 := Tryz.underlying105
  have HB := Aside0.mk (Below.refl w.heap.size w)
  have H : ((text_valid.f (([a0] : List ByteArray))).bind fun t315 => ((text_least.f 1 (([a1] : List Int))).bind fun t319 => ((text_first.f (([t315, t319] : List Int))).bind fun t323 => (if t323 = 0 then ((text_words.f a0).bind fun t324 => (if a1 > (t324.length : Int) then (some (0, 0, 0)) else (if 0 ≤ (wrap64 (a1 - 1)) then (if (wrap64 (a1 - 1)) < (t324.length : Int) then (some ((rd_T105 t324 (wrap64 (a1 - 1))).f0, (rd_T105 t324 (wrap64 (a1 - 1))).f1, 0)) else (none)) else (none)))) else (some (0, 0, t323)))))) = some (r1, r2, r3) := h
  clear h
  obtain ⟨y312, hy312⟩ : ∃ y_ : List ByteArray, y_ = (([a0] : List ByteArray)) := ⟨_, rfl⟩
  replace H : ((text_valid.f y312).bind fun t315 => ((text_least.f 1 (([a1] : List Int))).bind fun t319 => ((text_first.f (([t315, t319] : List Int))).bind fun t323 => (if t323 = 0 then ((text_words.f a0).bind fun t324 => (if a1 > (t324.length : Int) then (some (0, 0, 0)) else (if 0 ≤ (wrap64 (a1 - 1)) then (if (wrap64 (a1 - 1)) < (t324.length : Int) then (some ((rd_T105 t324 (wrap64 (a1 - 1))).f0, (rd_T105 t324 (wrap64 (a1 - 1))).f1, 0)) else (none)) else (none)))) else (some (0, 0, t323)))))) = some (r1, r2, r3) := by first | (rw [hy312]; with_reducible exact H) | (have H2_ := (Option.bind_some _ _).symm.trans H; rw [hy312]; with_reducible exact H2_) | (have H2_ := (Option.bind_some _ _).symm.trans H; with_reducible exact H2_) | with_reducible exact H | (rw [hy312]; exact H) | exact H
  have Ny312 := Aside0.mk hy312
  clear hy312
  replace H := Option.bind_eq_some_iff.mp H
  obtain ⟨t315, A30, H⟩ := H
  replace H : ((text_least.f 1 (([a1] : List Int))).bind fun t319 => ((text_first.f (([t315, t319] : List Int))).bind fun t323 => (if t323 = 0 then ((text_words.f a0).bind fun t324 => (if a1 > (t324.length : Int) then (some (0, 0, 0)) else (if 0 ≤ (wrap64 (a1 - 1)) then (if (wrap64 (a1 - 1)) < (t324.length : Int) then (some ((rd_T105 t324 (wrap64 (a1 - 1))).f0, (rd_T105 t324 (wrap64 (a1 - 1))).f1, 0)) else (none)) else (none)))) else (some (0, 0, t323))))) = some (r1, r2, r3) := H
  have A3 := Aside0.mk A30
  clear A30
  obtain ⟨y316, hy316⟩ : ∃ y_ : List Int, y_ = (([a1] : List Int)) := ⟨_, rfl⟩
  replace H : ((text_least.f 1 y316).bind fun t319 => ((text_first.f (([t315, t319] : List Int))).bind fun t323 => (if t323 = 0 then ((text_words.f a0).bind fun t324 => (if a1 > (t324.length : Int) then (some (0, 0, 0)) else (if 0 ≤ (wrap64 (a1 - 1)) then (if (wrap64 (a1 - 1)) < (t324.length : Int) then (some ((rd_T105 t324 (wrap64 (a1 - 1))).f0, (rd_T105 t324 (wrap64 (a1 - 1))).f1, 0)) else (none)) else (none)))) else (some (0, 0, t323))))) = some (r1, r2, r3) := by first | (rw [hy316]; with_reducible exact H) | (have H2_ := (Option.bind_some _ _).symm.trans H; rw [hy316]; with_reducible exact H2_) | (have H2_ := (Option.bind_some _ _).symm.trans H; with_reducible exact H2_) | with_reducible exact H | (rw [hy316]; exact H) | exact H
  have Ny316 := Aside0.mk hy316
  clear hy316
  replace H := Option.bind_eq_some_iff.mp H
  obtain ⟨t319, A40, H⟩ := H
  replace H : ((text_first.f (([t315, t319] : List Int))).bind fun t323 => (if t323 = 0 then ((text_words.f a0).bind fun t324 => (if a1 > (t324.length : Int) then (some (0, 0, 0)) else (if 0 ≤ (wrap64 (a1 - 1)) then (if (wrap64 (a1 - 1)) < (t324.length : Int) then (some ((rd_T105 t324 (wrap64 (a1 - 1))).f0, (rd_T105 t324 (wrap64 (a1 - 1))).f1, 0)) else (none)) else (none)))) else (some (0, 0, t323)))) = some (r1, r2, r3) := H
  have A4 := Aside0.mk A40
  clear A40
  obtain ⟨y320, hy320⟩ : ∃ y_ : List Int, y_ = (([t315, t319] : List Int)) := ⟨_, rfl⟩
  replace H : ((text_first.f y320).bind fun t323 => (if t323 = 0 then ((text_words.f a0).bind fun t324 => (if a1 > (t324.length : Int) then (some (0, 0, 0)) else (if 0 ≤ (wrap64 (a1 - 1)) then (if (wrap64 (a1 - 1)) < (t324.length : Int) then (some ((rd_T105 t324 (wrap64 (a1 - 1))).f0, (rd_T105 t324 (wrap64 (a1 - 1))).f1, 0)) else (none)) else (none)))) else (some (0, 0, t323)))) = some (r1, r2, r3) := by first | (rw [hy320]; with_reducible exact H) | (have H2_ := (Option.bind_some _ _).symm.trans H; rw [hy320]; with_reducible exact H2_) | (have H2_ := (Option.bind_some _ _).symm.trans H; with_reducible exact H2_) | with_reducible exact H | (rw [hy320]; exact H) | exact H
  have Ny320 := Aside0.mk hy320
  clear hy320
  replace H := Option.bind_eq_some_iff.mp H
  obtain ⟨t323, A50, H⟩ := H
  replace H : (if t323 = 0 then ((text_words.f a0).bind fun t324 => (if a1 > (t324.length : Int) then (some (0, 0, 0)) else (if 0 ≤ (wrap64 (a1 - 1)) then (if (wrap64 (a1 - 1)) < (t324.length : Int) then (some ((rd_T105 t324 (wrap64 (a1 - 1))).f0, (rd_T105 t324 (wrap64 (a1 - 1))).f1, 0)) else (none)) else (none)))) else (some (0, 0, t323))) = some (r1, r2, r3) := H
  have A5 := Aside0.mk A50
  clear A50
  by_cases c6 : t323 = 0
  · rw [if_pos c6] at H
    have c6b0 : (t323 == 0) = true := beq_iff_eq.mpr c6
    have c6b1 : (t323 != 0) = false := bne_eq_false_iff_eq.mpr c6
    clear c6
    replace H := Option.bind_eq_some_iff.mp H
    obtain ⟨t324, A70, H⟩ := H
    replace H : (if a1 > (t324.length : Int) then (some (0, 0, 0)) else (if 0 ≤ (wrap64 (a1 - 1)) then (if (wrap64 (a1 - 1)) < (t324.length : Int) then (some ((rd_T105 t324 (wrap64 (a1 - 1))).f0, (rd_T105 t324 (wrap64 (a1 - 1))).f1, 0)) else (none)) else (none))) = some (r1, r2, r3) := H
    have A7 := Aside0.mk A70
    clear A70
    by_cases c8 : a1 > (t324.length : Int)
    · rw [if_pos c8] at H
      have c8b0 : decide ((t324.length : Int) < a1) = true := decide_eq_true c8
      clear c8
      simp only [Option.some.injEq, Prod.mk.injEq] at H
      obtain ⟨rfl, rfl, rfl⟩ := H
      go_enter Tryz.func107, Tryz.ntmps107
      go_wp2_with (first | ((with_reducible refine gate_dst (N := 4) rfl ?_); refine box_event ?hg (N := 4) ?hd (cs := #[.int .i64 0, .int .i64 0]) (t := 105) ?hr ?_; (case hd => rfl); (case hg => rfl); (case hr => first | (go_simp; done) | (go_simp; rfl)); intro gb311 hg w9 hbox hb; have n0_ := Aside0.mk (below_step (by repeat (first | (with_reducible first | exact HB.out | apply below_alloc | apply pw_below_drewN | apply below_drew1) | exact HB.out)) hb); have n1_ := Aside0.mk (hbox); have n2_ := Aside0.mk ((by rw [hg]; exact (below_size (by repeat (first | (with_reducible first | exact HB.out | apply below_alloc | apply pw_below_drewN | apply below_drew1) | exact HB.out))) : w.heap.size ≤ gb311)); have n3_ := Aside0.mk ((by rw [hg]; exact (below_size (by repeat (first | (with_reducible first | exact HB.out | apply below_alloc | apply pw_below_drewN | apply below_drew1) | exact HB.out))) : w.heap.size ≤ gb311)); clear HB; have HB := n0_; have BK311 := n1_; have GW311 := n2_; have GE311 := n3_; clear n0_ n1_ n2_ n3_; clear hb hbox hg) | ((with_reducible refine gate_dst (N := 9) rfl ?_); refine Kd.R_lit Kd.string _ 9 ?hg (N := 9) ?hd (xs := ([a0] : List ByteArray)) (inner := [.string a0]) (ok := fun _ => True) (okp := fun _ => True) ?hr ?hp (fun _ hk => hk) trivial (Below.refl _ _) (Nat.le_refl _) (by simp) ?_; (case hd => rfl); (case hg => rfl); (case hr => first | (go_simp; done) | (go_simp; rfl)); (case hp => exact (Reps.one (show Kd.M Kd.string _ _ _ a0 [.string a0] from rfl) (Reps.none _ _))); intro v313 w10 ho11 hb hg_ hnew_; clear hg_ hnew_; (first | rw [← Ny312.out] at ho11 | (simp only [Int.reduceToNat] at ho11; rw [← Ny312.out] at ho11)); have n0_ := Aside0.mk (Kd.R_lower ho11 (below_size (by repeat (first | (with_reducible first | exact HB.out | apply below_alloc | apply pw_below_drewN | apply below_drew1 | refine below_set ?_ GE311.out) | exact HB.out)))); have n1_ := Aside0.mk (blk_below (g := gb311) (o := .cells #[.int .i64 0, .int .i64 0] 105 (0, 0)) (by (with_reducible repeat (first | refine blk_drewN ?_ _ | refine blk_drew ?_ | refine blk_alloc ?_ _)); exact BK311.out) hb); have n2_ := Aside0.mk (below_step (by repeat (first | (with_reducible first | exact HB.out | apply below_alloc | apply pw_below_drewN | apply below_drew1 | refine below_set ?_ GE311.out) | exact HB.out)) hb); clear BK311; clear HB; have HO314 := n0_; have BK311 := n1_; have HB := n2_; clear n0_ n1_ n2_; clear hb ho11; obtain ⟨Ao12, co12, eo12⟩ := Kd.R_slice HO314.out; subst eo12) | ((with_reducible refine gate_callee (f := 93) rfl ?_); refine goesL_ (some 10) rfl rfl Tryz.func93 (by kernel_rfl) rfl #[.slice Ao12 y312.length co12] rfl (by (try simp only [List.map_toArray, List.map_cons, List.map_nil]); first | done | rfl | (simp only [List.length_drop, List.length_take]; rfl)) ?_; (with_reducible refine (text_valid.calls _ _ y312 t315 _ ?side1 ?side2 A3.out).mono ?_); (case side1 => repeat (first | exact (Kd.R_reads' HO314.out).2.2 | (with_reducible refine Kd.C_alloc ?_ _) | (with_reducible refine Kd.C_drewN ?_ _) | (with_reducible refine Kd.C_drew ?_))); (case side2 => exact (Kd.R_reads' HO314.out).2.1); rintro e w13 ⟨rfl, hb⟩; refine ⟨_, rfl, ?_⟩; have n0_ := Aside0.mk (Kd.R_below (by (with_reducible repeat (first | apply Kd.R_alloc | apply Kd.R_drewN | apply Kd.R_drew)); exact HO314.out) hb); have n1_ := Aside0.mk (blk_below (g := gb311) (o := .cells #[.int .i64 0, .int .i64 0] 105 (0, 0)) (by (with_reducible repeat (first | refine blk_drewN ?_ _ | refine blk_drew ?_ | refine blk_alloc ?_ _)); exact BK311.out) hb); have n2_ := Aside0.mk (below_step (by repeat (first | (with_reducible first | exact HB.out | apply below_alloc | apply pw_below_drewN | apply below_drew1 | refine below_set ?_ GE311.out) | exact HB.out)) hb); clear HO314; clear BK311; clear HB; have HO314 := n0_; have BK311 := n1_; have HB := n2_; clear n0_ n1_ n2_; (try clear hb); (try clear hb2); (try clear hk); (try clear hi)) | ((with_reducible refine gate_dst (N := 12) rfl ?_); refine Kd.R_lit (Kd.int .i64) _ 3 ?hg (N := 12) ?hd (xs := ([a1] : List Int)) (inner := [.int .i64 a1]) (ok := fun _ => True) (okp := fun _ => True) ?hr ?hp (fun _ hk => hk) trivial (Below.refl _ _) (Nat.le_refl _) (by simp) ?_; (case hd => rfl); (case hg => rfl); (case hr => first | (go_simp; done) | (go_simp; rfl)); (case hp => exact (Reps.one (show Kd.M (Kd.int .i64) _ _ _ a1 [.int .i64 a1] from rfl) (Reps.none _ _))); intro v317 w14 ho15 hb hg_ hnew_; clear hg_ hnew_; (first | rw [← Ny316.out] at ho15 | (simp only [Int.reduceToNat] at ho15; rw [← Ny316.out] at ho15)); have n0_ := Aside0.mk (Kd.R_below (by (with_reducible repeat (first | apply Kd.R_alloc | apply Kd.R_drewN | apply Kd.R_drew)); exact HO314.out) hb); have n1_ := Aside0.mk (Kd.R_lower ho15 (below_size (by repeat (first | (with_reducible first | exact HB.out | apply below_alloc | apply pw_below_drewN | apply below_drew1 | refine below_set ?_ GE311.out) | exact HB.out)))); have n2_ := Aside0.mk (blk_below (g := gb311) (o := .cells #[.int .i64 0, .int .i64 0] 105 (0, 0)) (by (with_reducible repeat (first | refine blk_drewN ?_ _ | refine blk_drew ?_ | refine blk_alloc ?_ _)); exact BK311.out) hb); have n3_ := Aside0.mk (below_step (by repeat (first | (with_reducible first | exact HB.out | apply below_alloc | apply pw_below_drewN | apply below_drew1 | refine below_set ?_ GE311.out) | exact HB.out)) hb); clear HO314; clear BK311; clear HB; have HO314 := n0_; have HO318 := n1_; have BK311 := n2_; have HB := n3_; clear n0_ n1_ n2_ n3_; clear hb ho15; obtain ⟨Ao16, co16, eo16⟩ := Kd.R_slice HO318.out; subst eo16) | ((with_reducible refine gate_callee (f := 100) rfl ?_); refine goesL_ (some 13) rfl rfl Tryz.func100 (by kernel_rfl) rfl #[.int .i64 1, .slice Ao16 y316.length co16] rfl (by (try simp only [List.map_toArray, List.map_cons, List.map_nil]); first | done | rfl | (simp only [List.length_drop, List.length_take]; rfl)) ?_; (with_reducible refine (text_least.calls 1 _ _ y316 t319 _ ?side1 ?side2 A4.out).mono ?_); (case side1 => repeat (first | exact (Kd.R_reads' HO318.out).2.2 | (with_reducible refine Kd.C_alloc ?_ _) | (with_reducible refine Kd.C_drewN ?_ _) | (with_reducible refine Kd.C_drew ?_))); (case side2 => exact (Kd.R_reads' HO318.out).2.1); rintro e w17 ⟨rfl, hb⟩; refine ⟨_, rfl, ?_⟩; have n0_ := Aside0.mk (Kd.R_below (by (with_reducible repeat (first | apply Kd.R_alloc | apply Kd.R_drewN | apply Kd.R_drew)); exact HO314.out) hb); have n1_ := Aside0.mk (Kd.R_below (by (with_reducible repeat (first | apply Kd.R_alloc | apply Kd.R_drewN | apply Kd.R_drew)); exact HO318.out) hb); have n2_ := Aside0.mk (blk_below (g := gb311) (o := .cells #[.int .i64 0, .int .i64 0] 105 (0, 0)) (by (with_reducible repeat (first | refine blk_drewN ?_ _ | refine blk_drew ?_ | refine blk_alloc ?_ _)); exact BK311.out) hb); have n3_ := Aside0.mk (below_step (by repeat (first | (with_reducible first | exact HB.out | apply below_alloc | apply pw_below_drewN | apply below_drew1 | refine below_set ?_ GE311.out) | exact HB.out)) hb); clear HO314; clear HO318; clear BK311; clear HB; have HO314 := n0_; have HO318 := n1_; have BK311 := n2_; have HB := n3_; clear n0_ n1_ n2_ n3_; (try clear hb); (try clear hb2); (try clear hk); (try clear hi)) | ((with_reducible refine gate_dst (N := 14) rfl ?_); refine Kd.R_lit (Kd.int .i64) _ 24 ?hg (N := 14) ?hd (xs := ([t315, t319] : List Int)) (inner := [.int .i64 t315, .int .i64 t319]) (ok := fun _ => True) (okp := fun _ => True) ?hr ?hp (fun _ hk => hk) trivial (Below.refl _ _) (Nat.le_refl _) (by simp) ?_; (case hd => rfl); (case hg => rfl); (case hr => first | (go_simp; done) | (go_simp; rfl)); (case hp => exact (Reps.one (show Kd.M (Kd.int .i64) _ _ _ t315 [.int .i64 t315] from rfl) (Reps.one (show Kd.M (Kd.int .i64) _ _ _ t319 [.int .i64 t319] from rfl) (Reps.none _ _)))); intro v321 w18 ho19 hb hg_ hnew_; clear hg_ hnew_; (first | rw [← Ny320.out] at ho19 | (simp only [Int.reduceToNat] at ho19; rw [← Ny320.out] at ho19)); have n0_ := Aside0.mk (Kd.R_below (by (with_reducible repeat (first | apply Kd.R_alloc | apply Kd.R_drewN | apply Kd.R_drew)); exact HO314.out) hb); have n1_ := Aside0.mk (Kd.R_below (by (with_reducible repeat (first | apply Kd.R_alloc | apply Kd.R_drewN | apply Kd.R_drew)); exact HO318.out) hb); have n2_ := Aside0.mk (Kd.R_lower ho19 (below_size (by repeat (first | (with_reducible first | exact HB.out | apply below_alloc | apply pw_below_drewN | apply below_drew1 | refine below_set ?_ GE311.out) | exact HB.out)))); have n3_ := Aside0.mk (blk_below (g := gb311) (o := .cells #[.int .i64 0, .int .i64 0] 105 (0, 0)) (by (with_reducible repeat (first | refine blk_drewN ?_ _ | refine blk_drew ?_ | refine blk_alloc ?_ _)); exact BK311.out) hb); have n4_ := Aside0.mk (below_step (by repeat (first | (with_reducible first | exact HB.out | apply below_alloc | apply pw_below_drewN | apply below_drew1 | refine below_set ?_ GE311.out) | exact HB.out)) hb); clear HO314; clear HO318; clear BK311; clear HB; have HO314 := n0_; have HO318 := n1_; have HO322 := n2_; have BK311 := n3_; have HB := n4_; clear n0_ n1_ n2_ n3_ n4_; clear hb ho19; obtain ⟨Ao20, co20, eo20⟩ := Kd.R_slice HO322.out; subst eo20) | ((with_reducible refine gate_callee (f := 92) rfl ?_); refine goesL_ (some 15) rfl rfl Tryz.func92 (by kernel_rfl) rfl #[.slice Ao20 y320.length co20] rfl (by (try simp only [List.map_toArray, List.map_cons, List.map_nil]); first | done | rfl | (simp only [List.length_drop, List.length_take]; rfl)) ?_; (with_reducible refine (text_first.calls _ _ y320 t323 _ ?side1 ?side2 A5.out).mono ?_); (case side1 => repeat (first | exact (Kd.R_reads' HO322.out).2.2 | (with_reducible refine Kd.C_alloc ?_ _) | (with_reducible refine Kd.C_drewN ?_ _) | (with_reducible refine Kd.C_drew ?_))); (case side2 => exact (Kd.R_reads' HO322.out).2.1); rintro e w21 ⟨rfl, hb⟩; refine ⟨_, rfl, ?_⟩; have n0_ := Aside0.mk (Kd.R_below (by (with_reducible repeat (first | apply Kd.R_alloc | apply Kd.R_drewN | apply Kd.R_drew)); exact HO314.out) hb); have n1_ := Aside0.mk (Kd.R_below (by (with_reducible repeat (first | apply Kd.R_alloc | apply Kd.R_drewN | apply Kd.R_drew)); exact HO318.out) hb); have n2_ := Aside0.mk (Kd.R_below (by (with_reducible repeat (first | apply Kd.R_alloc | apply Kd.R_drewN | apply Kd.R_drew)); exact HO322.out) hb); have n3_ := Aside0.mk (blk_below (g := gb311) (o := .cells #[.int .i64 0, .int .i64 0] 105 (0, 0)) (by (with_reducible repeat (first | refine blk_drewN ?_ _ | refine blk_drew ?_ | refine blk_alloc ?_ _)); exact BK311.out) hb); have n4_ := Aside0.mk (below_step (by repeat (first | (with_reducible first | exact HB.out | apply below_alloc | apply pw_below_drewN | apply below_drew1 | refine below_set ?_ GE311.out) | exact HB.out)) hb); clear HO314; clear HO318; clear HO322; clear BK311; clear HB; have HO314 := n0_; have HO318 := n1_; have HO322 := n2_; have BK311 := n3_; have HB := n4_; clear n0_ n1_ n2_ n3_ n4_; (try clear hb); (try clear hb2); (try clear hk); (try clear hi)) | ((with_reducible refine gate_callee (f := 106) rfl ?_); refine goesL_ (some 21) rfl rfl Tryz.func106 (by kernel_rfl) rfl #[.string a0] rfl (by (try simp only [List.map_toArray, List.map_cons, List.map_nil]); first | done | rfl | (simp only [List.length_drop, List.length_take]; rfl)) ?_; (with_reducible refine (text_words.calls a0 t324 _ A7.out).mono ?_); rintro e w22 ⟨v325, rfl, ho0, hb⟩; refine ⟨_, rfl, ?_⟩; have n0_ := Aside0.mk (Kd.R_below (by (with_reducible repeat (first | apply Kd.R_alloc | apply Kd.R_drewN | apply Kd.R_drew)); exact HO314.out) hb); have n1_ := Aside0.mk (Kd.R_below (by (with_reducible repeat (first | apply Kd.R_alloc | apply Kd.R_drewN | apply Kd.R_drew)); exact HO318.out) hb); have n2_ := Aside0.mk (Kd.R_below (by (with_reducible repeat (first | apply Kd.R_alloc | apply Kd.R_drewN | apply Kd.R_drew)); exact HO322.out) hb); have n3_ := Aside0.mk (Kd.R_lower (Kd.R_newB ho0 (g := gb311) (o := .cells #[.int .i64 0, .int .i64 0] 105 (0, 0)) (by (with_reducible repeat (first | refine blk_drewN ?_ _ | refine blk_drew ?_ | refine blk_alloc ?_ _)); exact BK311.out)) (below_size (by repeat (first | (with_reducible first | exact HB.out | apply below_alloc | apply pw_below_drewN | apply below_drew1 | refine below_set ?_ GE311.out) | exact HB.out)))); have n4_ := Aside0.mk (blk_below (g := gb311) (o := .cells #[.int .i64 0, .int .i64 0] 105 (0, 0)) (by (with_reducible repeat (first | refine blk_drewN ?_ _ | refine blk_drew ?_ | refine blk_alloc ?_ _)); exact BK311.out) hb); have n5_ := Aside0.mk (below_step (by repeat (first | (with_reducible first | exact HB.out | apply below_alloc | apply pw_below_drewN | apply below_drew1 | refine below_set ?_ GE311.out) | exact HB.out)) hb); clear HO314; clear HO318; clear HO322; clear BK311; clear HB; have HO314 := n0_; have HO318 := n1_; have HO322 := n2_; have HO326 := n3_; have BK311 := n4_; have HB := n5_; clear n0_ n1_ n2_ n3_ n4_ n5_; (try clear hb); (try clear hb2); (try clear hk); (try clear hi); (try clear ho0); obtain ⟨Ao23, co23, eo23⟩ := Kd.R_slice HO326.out; subst eo23; have hcz24_0 : w22.cell? ⟨gb311, 0, none⟩ = some (.int .i64 0) := (blk_cell BK311.out 0).trans rfl; have hcz24_1 : w22.cell? ⟨gb311, 1, none⟩ = some (.int .i64 0) := (blk_cell BK311.out 1).trans rfl; have hfz24_0 := blk_frozen BK311.out 0; have hfz24_1 := blk_frozen BK311.out 1))
      refine bodyPost_ret (results_ct rfl _ _ gb311 105 #[.int .i64 0, .int .i64 0] (0, 0) _ rfl (by (with_reducible repeat (first | refine blk_drewN ?_ _ | refine blk_drew ?_ | refine blk_alloc ?_ _)); refine blk_put (cs := #[.int .i64 0, .int .i64 0]) ?_ 1 _ rfl; (with_reducible repeat (first | refine blk_drewN ?_ _ | refine blk_drew ?_ | refine blk_alloc ?_ _)); refine blk_put (cs := #[.int .i64 0, .int .i64 0]) ?_ 0 _ rfl; (with_reducible repeat (first | refine blk_drewN ?_ _ | refine blk_drew ?_ | refine blk_alloc ?_ _)); exact BK311.out) Tryz.underlying105 rfl (by kernel_rfl)) rfl ?_
      exact ⟨by first | rfl | (simp [errW_none, errW_some] <;> rfl) | (simp [*, errW_none, errW_some] <;> rfl), by repeat (first | (with_reducible first | exact HB.out | apply below_alloc | apply pw_below_drewN | apply below_drew1 | refine below_set ?_ GE311.out) | exact HB.out)⟩
    · rw [if_neg c8] at H
      have c8b0 : decide ((t324.length : Int) < a1) = false := decide_eq_false c8
      clear c8
      obtain ⟨ji25, hji25⟩ : ∃ j_ : Int, (wrap64 (a1 - 1)) = j_ := ⟨_, rfl⟩
      replace H : (if 0 ≤ (ji25) then (if (ji25) < (t324.length : Int) then (some ((rd_T105 t324 (ji25)).f0, (rd_T105 t324 (ji25)).f1, 0)) else (none)) else (none)) = some (r1, r2, r3) := by first | (rw [hji25] at H; exact H) | (simp only [hji25] at H ⊢; exact H)
      (try rw [hji25] at A3)
      (try rw [hji25] at A4)
      (try rw [hji25] at A5)
      (try rw [hji25] at A7)
      have hji25w : (IntKind.i64.wrap (a1 - 1)) = ji25 := (i64_w _).trans hji25
      by_cases c26 : 0 ≤ (ji25)
      · rw [if_pos c26] at H
        have c26b0 : decide (0 ≤ (ji25)) = true := decide_eq_true c26
        clear c26
        by_cases c27 : (ji25) < (t324.length : Int)
        · rw [if_pos c27] at H
          have c27b0 : decide ((ji25) < (t324.length : Int)) = true := decide_eq_true c27
          clear c27
          simp only [Option.some.injEq, Prod.mk.injEq] at H
          obtain ⟨rfl, rfl, rfl⟩ := H
          go_enter Tryz.func107, Tryz.ntmps107
          go_wp2_with (first | ((with_reducible refine gate_dst (N := 4) rfl ?_); refine box_event ?hg (N := 4) ?hd (cs := #[.int .i64 0, .int .i64 0]) (t := 105) ?hr ?_; (case hd => rfl); (case hg => rfl); (case hr => first | (go_simp; done) | (go_simp; rfl)); intro gb311 hg w28 hbox hb; have n0_ := Aside0.mk (below_step (by repeat (first | (with_reducible first | exact HB.out | apply below_alloc | apply pw_below_drewN | apply below_drew1) | exact HB.out)) hb); have n1_ := Aside0.mk (hbox); have n2_ := Aside0.mk ((by rw [hg]; exact (below_size (by repeat (first | (with_reducible first | exact HB.out | apply below_alloc | apply pw_below_drewN | apply below_drew1) | exact HB.out))) : w.heap.size ≤ gb311)); have n3_ := Aside0.mk ((by rw [hg]; exact (below_size (by repeat (first | (with_reducible first | exact HB.out | apply below_alloc | apply pw_below_drewN | apply below_drew1) | exact HB.out))) : w.heap.size ≤ gb311)); clear HB; have HB := n0_; have BK311 := n1_; have GW311 := n2_; have GE311 := n3_; clear n0_ n1_ n2_ n3_; clear hb hbox hg) | ((with_reducible refine gate_dst (N := 9) rfl ?_); refine Kd.R_lit Kd.string _ 9 ?hg (N := 9) ?hd (xs := ([a0] : List ByteArray)) (inner := [.string a0]) (ok := fun _ => True) (okp := fun _ => True) ?hr ?hp (fun _ hk => hk) trivial (Below.refl _ _) (Nat.le_refl _) (by simp) ?_; (case hd => rfl); (case hg => rfl); (case hr => first | (go_simp; done) | (go_simp; rfl)); (case hp => exact (Reps.one (show Kd.M Kd.string _ _ _ a0 [.string a0] from rfl) (Reps.none _ _))); intro v313 w29 ho30 hb hg_ hnew_; clear hg_ hnew_; (first | rw [← Ny312.out] at ho30 | (simp only [Int.reduceToNat] at ho30; rw [← Ny312.out] at ho30)); have n0_ := Aside0.mk (Kd.R_lower ho30 (below_size (by repeat (first | (with_reducible first | exact HB.out | apply below_alloc | apply pw_below_drewN | apply below_drew1 | refine below_set ?_ GE311.out) | exact HB.out)))); have n1_ := Aside0.mk (blk_below (g := gb311) (o := .cells #[.int .i64 0, .int .i64 0] 105 (0, 0)) (by (with_reducible repeat (first | refine blk_drewN ?_ _ | refine blk_drew ?_ | refine blk_alloc ?_ _)); exact BK311.out) hb); have n2_ := Aside0.mk (below_step (by repeat (first | (with_reducible first | exact HB.out | apply below_alloc | apply pw_below_drewN | apply below_drew1 | refine below_set ?_ GE311.out) | exact HB.out)) hb); clear BK311; clear HB; have HO314 := n0_; have BK311 := n1_; have HB := n2_; clear n0_ n1_ n2_; clear hb ho30; obtain ⟨Ao31, co31, eo31⟩ := Kd.R_slice HO314.out; subst eo31) | ((with_reducible refine gate_callee (f := 93) rfl ?_); refine goesL_ (some 10) rfl rfl Tryz.func93 (by kernel_rfl) rfl #[.slice Ao31 y312.length co31] rfl (by (try simp only [List.map_toArray, List.map_cons, List.map_nil]); first | done | rfl | (simp only [List.length_drop, List.length_take]; rfl)) ?_; (with_reducible refine (text_valid.calls _ _ y312 t315 _ ?side1 ?side2 A3.out).mono ?_); (case side1 => repeat (first | exact (Kd.R_reads' HO314.out).2.2 | (with_reducible refine Kd.C_alloc ?_ _) | (with_reducible refine Kd.C_drewN ?_ _) | (with_reducible refine Kd.C_drew ?_))); (case side2 => exact (Kd.R_reads' HO314.out).2.1); rintro e w32 ⟨rfl, hb⟩; refine ⟨_, rfl, ?_⟩; have n0_ := Aside0.mk (Kd.R_below (by (with_reducible repeat (first | apply Kd.R_alloc | apply Kd.R_drewN | apply Kd.R_drew)); exact HO314.out) hb); have n1_ := Aside0.mk (blk_below (g := gb311) (o := .cells #[.int .i64 0, .int .i64 0] 105 (0, 0)) (by (with_reducible repeat (first | refine blk_drewN ?_ _ | refine blk_drew ?_ | refine blk_alloc ?_ _)); exact BK311.out) hb); have n2_ := Aside0.mk (below_step (by repeat (first | (with_reducible first | exact HB.out | apply below_alloc | apply pw_below_drewN | apply below_drew1 | refine below_set ?_ GE311.out) | exact HB.out)) hb); clear HO314; clear BK311; clear HB; have HO314 := n0_; have BK311 := n1_; have HB := n2_; clear n0_ n1_ n2_; (try clear hb); (try clear hb2); (try clear hk); (try clear hi)) | ((with_reducible refine gate_dst (N := 12) rfl ?_); refine Kd.R_lit (Kd.int .i64) _ 3 ?hg (N := 12) ?hd (xs := ([a1] : List Int)) (inner := [.int .i64 a1]) (ok := fun _ => True) (okp := fun _ => True) ?hr ?hp (fun _ hk => hk) trivial (Below.refl _ _) (Nat.le_refl _) (by simp) ?_; (case hd => rfl); (case hg => rfl); (case hr => first | (go_simp; done) | (go_simp; rfl)); (case hp => exact (Reps.one (show Kd.M (Kd.int .i64) _ _ _ a1 [.int .i64 a1] from rfl) (Reps.none _ _))); intro v317 w33 ho34 hb hg_ hnew_; clear hg_ hnew_; (first | rw [← Ny316.out] at ho34 | (simp only [Int.reduceToNat] at ho34; rw [← Ny316.out] at ho34)); have n0_ := Aside0.mk (Kd.R_below (by (with_reducible repeat (first | apply Kd.R_alloc | apply Kd.R_drewN | apply Kd.R_drew)); exact HO314.out) hb); have n1_ := Aside0.mk (Kd.R_lower ho34 (below_size (by repeat (first | (with_reducible first | exact HB.out | apply below_alloc | apply pw_below_drewN | apply below_drew1 | refine below_set ?_ GE311.out) | exact HB.out)))); have n2_ := Aside0.mk (blk_below (g := gb311) (o := .cells #[.int .i64 0, .int .i64 0] 105 (0, 0)) (by (with_reducible repeat (first | refine blk_drewN ?_ _ | refine blk_drew ?_ | refine blk_alloc ?_ _)); exact BK311.out) hb); have n3_ := Aside0.mk (below_step (by repeat (first | (with_reducible first | exact HB.out | apply below_alloc | apply pw_below_drewN | apply below_drew1 | refine below_set ?_ GE311.out) | exact HB.out)) hb); clear HO314; clear BK311; clear HB; have HO314 := n0_; have HO318 := n1_; have BK311 := n2_; have HB := n3_; clear n0_ n1_ n2_ n3_; clear hb ho34; obtain ⟨Ao35, co35, eo35⟩ := Kd.R_slice HO318.out; subst eo35) | ((with_reducible refine gate_callee (f := 100) rfl ?_); refine goesL_ (some 13) rfl rfl Tryz.func100 (by kernel_rfl) rfl #[.int .i64 1, .slice Ao35 y316.length co35] rfl (by (try simp only [List.map_toArray, List.map_cons, List.map_nil]); first | done | rfl | (simp only [List.length_drop, List.length_take]; rfl)) ?_; (with_reducible refine (text_least.calls 1 _ _ y316 t319 _ ?side1 ?side2 A4.out).mono ?_); (case side1 => repeat (first | exact (Kd.R_reads' HO318.out).2.2 | (with_reducible refine Kd.C_alloc ?_ _) | (with_reducible refine Kd.C_drewN ?_ _) | (with_reducible refine Kd.C_drew ?_))); (case side2 => exact (Kd.R_reads' HO318.out).2.1); rintro e w36 ⟨rfl, hb⟩; refine ⟨_, rfl, ?_⟩; have n0_ := Aside0.mk (Kd.R_below (by (with_reducible repeat (first | apply Kd.R_alloc | apply Kd.R_drewN | apply Kd.R_drew)); exact HO314.out) hb); have n1_ := Aside0.mk (Kd.R_below (by (with_reducible repeat (first | apply Kd.R_alloc | apply Kd.R_drewN | apply Kd.R_drew)); exact HO318.out) hb); have n2_ := Aside0.mk (blk_below (g := gb311) (o := .cells #[.int .i64 0, .int .i64 0] 105 (0, 0)) (by (with_reducible repeat (first | refine blk_drewN ?_ _ | refine blk_drew ?_ | refine blk_alloc ?_ _)); exact BK311.out) hb); have n3_ := Aside0.mk (below_step (by repeat (first | (with_reducible first | exact HB.out | apply below_alloc | apply pw_below_drewN | apply below_drew1 | refine below_set ?_ GE311.out) | exact HB.out)) hb); clear HO314; clear HO318; clear BK311; clear HB; have HO314 := n0_; have HO318 := n1_; have BK311 := n2_; have HB := n3_; clear n0_ n1_ n2_ n3_; (try clear hb); (try clear hb2); (try clear hk); (try clear hi)) | ((with_reducible refine gate_dst (N := 14) rfl ?_); refine Kd.R_lit (Kd.int .i64) _ 24 ?hg (N := 14) ?hd (xs := ([t315, t319] : List Int)) (inner := [.int .i64 t315, .int .i64 t319]) (ok := fun _ => True) (okp := fun _ => True) ?hr ?hp (fun _ hk => hk) trivial (Below.refl _ _) (Nat.le_refl _) (by simp) ?_; (case hd => rfl); (case hg => rfl); (case hr => first | (go_simp; done) | (go_simp; rfl)); (case hp => exact (Reps.one (show Kd.M (Kd.int .i64) _ _ _ t315 [.int .i64 t315] from rfl) (Reps.one (show Kd.M (Kd.int .i64) _ _ _ t319 [.int .i64 t319] from rfl) (Reps.none _ _)))); intro v321 w37 ho38 hb hg_ hnew_; clear hg_ hnew_; (first | rw [← Ny320.out] at ho38 | (simp only [Int.reduceToNat] at ho38; rw [← Ny320.out] at ho38)); have n0_ := Aside0.mk (Kd.R_below (by (with_reducible repeat (first | apply Kd.R_alloc | apply Kd.R_drewN | apply Kd.R_drew)); exact HO314.out) hb); have n1_ := Aside0.mk (Kd.R_below (by (with_reducible repeat (first | apply Kd.R_alloc | apply Kd.R_drewN | apply Kd.R_drew)); exact HO318.out) hb); have n2_ := Aside0.mk (Kd.R_lower ho38 (below_size (by repeat (first | (with_reducible first | exact HB.out | apply below_alloc | apply pw_below_drewN | apply below_drew1 | refine below_set ?_ GE311.out) | exact HB.out)))); have n3_ := Aside0.mk (blk_below (g := gb311) (o := .cells #[.int .i64 0, .int .i64 0] 105 (0, 0)) (by (with_reducible repeat (first | refine blk_drewN ?_ _ | refine blk_drew ?_ | refine blk_alloc ?_ _)); exact BK311.out) hb); have n4_ := Aside0.mk (below_step (by repeat (first | (with_reducible first | exact HB.out | apply below_alloc | apply pw_below_drewN | apply below_drew1 | refine below_set ?_ GE311.out) | exact HB.out)) hb); clear HO314; clear HO318; clear BK311; clear HB; have HO314 := n0_; have HO318 := n1_; have HO322 := n2_; have BK311 := n3_; have HB := n4_; clear n0_ n1_ n2_ n3_ n4_; clear hb ho38; obtain ⟨Ao39, co39, eo39⟩ := Kd.R_slice HO322.out; subst eo39) | ((with_reducible refine gate_callee (f := 92) rfl ?_); refine goesL_ (some 15) rfl rfl Tryz.func92 (by kernel_rfl) rfl #[.slice Ao39 y320.length co39] rfl (by (try simp only [List.map_toArray, List.map_cons, List.map_nil]); first | done | rfl | (simp only [List.length_drop, List.length_take]; rfl)) ?_; (with_reducible refine (text_first.calls _ _ y320 t323 _ ?side1 ?side2 A5.out).mono ?_); (case side1 => repeat (first | exact (Kd.R_reads' HO322.out).2.2 | (with_reducible refine Kd.C_alloc ?_ _) | (with_reducible refine Kd.C_drewN ?_ _) | (with_reducible refine Kd.C_drew ?_))); (case side2 => exact (Kd.R_reads' HO322.out).2.1); rintro e w40 ⟨rfl, hb⟩; refine ⟨_, rfl, ?_⟩; have n0_ := Aside0.mk (Kd.R_below (by (with_reducible repeat (first | apply Kd.R_alloc | apply Kd.R_drewN | apply Kd.R_drew)); exact HO314.out) hb); have n1_ := Aside0.mk (Kd.R_below (by (with_reducible repeat (first | apply Kd.R_alloc | apply Kd.R_drewN | apply Kd.R_drew)); exact HO318.out) hb); have n2_ := Aside0.mk (Kd.R_below (by (with_reducible repeat (first | apply Kd.R_alloc | apply Kd.R_drewN | apply Kd.R_drew)); exact HO322.out) hb); have n3_ := Aside0.mk (blk_below (g := gb311) (o := .cells #[.int .i64 0, .int .i64 0] 105 (0, 0)) (by (with_reducible repeat (first | refine blk_drewN ?_ _ | refine blk_drew ?_ | refine blk_alloc ?_ _)); exact BK311.out) hb); have n4_ := Aside0.mk (below_step (by repeat (first | (with_reducible first | exact HB.out | apply below_alloc | apply pw_below_drewN | apply below_drew1 | refine below_set ?_ GE311.out) | exact HB.out)) hb); clear HO314; clear HO318; clear HO322; clear BK311; clear HB; have HO314 := n0_; have HO318 := n1_; have HO322 := n2_; have BK311 := n3_; have HB := n4_; clear n0_ n1_ n2_ n3_ n4_; (try clear hb); (try clear hb2); (try clear hk); (try clear hi)) | ((with_reducible refine gate_callee (f := 106) rfl ?_); refine goesL_ (some 21) rfl rfl Tryz.func106 (by kernel_rfl) rfl #[.string a0] rfl (by (try simp only [List.map_toArray, List.map_cons, List.map_nil]); first | done | rfl | (simp only [List.length_drop, List.length_take]; rfl)) ?_; (with_reducible refine (text_words.calls a0 t324 _ A7.out).mono ?_); rintro e w41 ⟨v325, rfl, ho0, hb⟩; refine ⟨_, rfl, ?_⟩; have n0_ := Aside0.mk (Kd.R_below (by (with_reducible repeat (first | apply Kd.R_alloc | apply Kd.R_drewN | apply Kd.R_drew)); exact HO314.out) hb); have n1_ := Aside0.mk (Kd.R_below (by (with_reducible repeat (first | apply Kd.R_alloc | apply Kd.R_drewN | apply Kd.R_drew)); exact HO318.out) hb); have n2_ := Aside0.mk (Kd.R_below (by (with_reducible repeat (first | apply Kd.R_alloc | apply Kd.R_drewN | apply Kd.R_drew)); exact HO322.out) hb); have n3_ := Aside0.mk (Kd.R_lower (Kd.R_newB ho0 (g := gb311) (o := .cells #[.int .i64 0, .int .i64 0] 105 (0, 0)) (by (with_reducible repeat (first | refine blk_drewN ?_ _ | refine blk_drew ?_ | refine blk_alloc ?_ _)); exact BK311.out)) (below_size (by repeat (first | (with_reducible first | exact HB.out | apply below_alloc | apply pw_below_drewN | apply below_drew1 | refine below_set ?_ GE311.out) | exact HB.out)))); have n4_ := Aside0.mk (blk_below (g := gb311) (o := .cells #[.int .i64 0, .int .i64 0] 105 (0, 0)) (by (with_reducible repeat (first | refine blk_drewN ?_ _ | refine blk_drew ?_ | refine blk_alloc ?_ _)); exact BK311.out) hb); have n5_ := Aside0.mk (below_step (by repeat (first | (with_reducible first | exact HB.out | apply below_alloc | apply pw_below_drewN | apply below_drew1 | refine below_set ?_ GE311.out) | exact HB.out)) hb); clear HO314; clear HO318; clear HO322; clear BK311; clear HB; have HO314 := n0_; have HO318 := n1_; have HO322 := n2_; have HO326 := n3_; have BK311 := n4_; have HB := n5_; clear n0_ n1_ n2_ n3_ n4_ n5_; (try clear hb); (try clear hb2); (try clear hk); (try clear hi); (try clear ho0); obtain ⟨Ao42, co42, eo42⟩ := Kd.R_slice HO326.out; subst eo42; have p327 : 0 ≤ ((ji25) : Int) := of_decide_eq_true (by first | (with_reducible assumption) | assumption); have q327 : (ji25) < (t324.length : Int) := of_decide_eq_true (by first | (with_reducible assumption) | assumption); obtain ⟨ad327, e327, hx327_0, hx327_1⟩ := at_T105 (Kd.R_reads' HO326.out).2.2 (ji25) p327 q327; cases e327; replace p327 := eq_true p327; replace q327 := eq_true q327; have hcz43_0 : w41.cell? ⟨gb311, 0, none⟩ = some (.int .i64 0) := (blk_cell BK311.out 0).trans rfl; have hcz43_1 : w41.cell? ⟨gb311, 1, none⟩ = some (.int .i64 0) := (blk_cell BK311.out 1).trans rfl; have hfz43_0 := blk_frozen BK311.out 0; have hfz43_1 := blk_frozen BK311.out 1))
          refine bodyPost_ret (results_ct rfl _ _ gb311 105 #[.int .i64 ((rd_T105 t324 (ji25)).f0), .int .i64 ((rd_T105 t324 (ji25)).f1)] (0, 0) _ rfl (by (with_reducible repeat (first | refine blk_drewN ?_ _ | refine blk_drew ?_ | refine blk_alloc ?_ _)); refine blk_put (cs := #[.int .i64 ((rd_T105 t324 (ji25)).f0), .int .i64 0]) ?_ 1 _ rfl; (with_reducible repeat (first | refine blk_drewN ?_ _ | refine blk_drew ?_ | refine blk_alloc ?_ _)); refine blk_put (cs := #[.int .i64 0, .int .i64 0]) ?_ 0 _ rfl; (with_reducible repeat (first | refine blk_drewN ?_ _ | refine blk_drew ?_ | refine blk_alloc ?_ _)); exact BK311.out) Tryz.underlying105 rfl (by kernel_rfl)) rfl ?_
          exact ⟨by first | rfl | (simp [errW_none, errW_some] <;> rfl) | (simp only [← hji25]; first | rfl | (simp [errW_none, errW_some] <;> rfl)) | (simp [*, errW_none, errW_some] <;> rfl), by repeat (first | (with_reducible first | exact HB.out | apply below_alloc | apply pw_below_drewN | apply below_drew1 | refine below_set ?_ GE311.out) | exact HB.out)⟩
        · rw [if_neg c27] at H
          exact absurd H (by simp)
      · rw [if_neg c26] at H
        exact absurd H (by simp)
  · rw [if_neg c6] at H
    have c6b0 : (t323 == 0) = false := beq_eq_false_iff_ne.mpr c6
    have c6b1 : (t323 != 0) = true := bne_iff_ne.mpr c6
    simp only [Option.some.injEq, Prod.mk.injEq] at H
    obtain ⟨rfl, rfl, rfl⟩ := H
    go_enter Tryz.func107, Tryz.ntmps107
    go_wp2_with (first | ((with_reducible refine gate_dst (N := 4) rfl ?_); refine box_event ?hg (N := 4) ?hd (cs := #[.int .i64 0, .int .i64 0]) (t := 105) ?hr ?_; (case hd => rfl); (case hg => rfl); (case hr => first | (go_simp; done) | (go_simp; rfl)); intro gb311 hg w44 hbox hb; have n0_ := Aside0.mk (below_step (by repeat (first | (with_reducible first | exact HB.out | apply below_alloc | apply pw_below_drewN | apply below_drew1) | exact HB.out)) hb); have n1_ := Aside0.mk (hbox); have n2_ := Aside0.mk ((by rw [hg]; exact (below_size (by repeat (first | (with_reducible first | exact HB.out | apply below_alloc | apply pw_below_drewN | apply below_drew1) | exact HB.out))) : w.heap.size ≤ gb311)); have n3_ := Aside0.mk ((by rw [hg]; exact (below_size (by repeat (first | (with_reducible first | exact HB.out | apply below_alloc | apply pw_below_drewN | apply below_drew1) | exact HB.out))) : w.heap.size ≤ gb311)); clear HB; have HB := n0_; have BK311 := n1_; have GW311 := n2_; have GE311 := n3_; clear n0_ n1_ n2_ n3_; clear hb hbox hg) | ((with_reducible refine gate_dst (N := 9) rfl ?_); refine Kd.R_lit Kd.string _ 9 ?hg (N := 9) ?hd (xs := ([a0] : List ByteArray)) (inner := [.string a0]) (ok := fun _ => True) (okp := fun _ => True) ?hr ?hp (fun _ hk => hk) trivial (Below.refl _ _) (Nat.le_refl _) (by simp) ?_; (case hd => rfl); (case hg => rfl); (case hr => first | (go_simp; done) | (go_simp; rfl)); (case hp => exact (Reps.one (show Kd.M Kd.string _ _ _ a0 [.string a0] from rfl) (Reps.none _ _))); intro v313 w45 ho46 hb hg_ hnew_; clear hg_ hnew_; (first | rw [← Ny312.out] at ho46 | (simp only [Int.reduceToNat] at ho46; rw [← Ny312.out] at ho46)); have n0_ := Aside0.mk (Kd.R_lower ho46 (below_size (by repeat (first | (with_reducible first | exact HB.out | apply below_alloc | apply pw_below_drewN | apply below_drew1 | refine below_set ?_ GE311.out) | exact HB.out)))); have n1_ := Aside0.mk (blk_below (g := gb311) (o := .cells #[.int .i64 0, .int .i64 0] 105 (0, 0)) (by (with_reducible repeat (first | refine blk_drewN ?_ _ | refine blk_drew ?_ | refine blk_alloc ?_ _)); exact BK311.out) hb); have n2_ := Aside0.mk (below_step (by repeat (first | (with_reducible first | exact HB.out | apply below_alloc | apply pw_below_drewN | apply below_drew1 | refine below_set ?_ GE311.out) | exact HB.out)) hb); clear BK311; clear HB; have HO314 := n0_; have BK311 := n1_; have HB := n2_; clear n0_ n1_ n2_; clear hb ho46; obtain ⟨Ao47, co47, eo47⟩ := Kd.R_slice HO314.out; subst eo47) | ((with_reducible refine gate_callee (f := 93) rfl ?_); refine goesL_ (some 10) rfl rfl Tryz.func93 (by kernel_rfl) rfl #[.slice Ao47 y312.length co47] rfl (by (try simp only [List.map_toArray, List.map_cons, List.map_nil]); first | done | rfl | (simp only [List.length_drop, List.length_take]; rfl)) ?_; (with_reducible refine (text_valid.calls _ _ y312 t315 _ ?side1 ?side2 A3.out).mono ?_); (case side1 => repeat (first | exact (Kd.R_reads' HO314.out).2.2 | (with_reducible refine Kd.C_alloc ?_ _) | (with_reducible refine Kd.C_drewN ?_ _) | (with_reducible refine Kd.C_drew ?_))); (case side2 => exact (Kd.R_reads' HO314.out).2.1); rintro e w48 ⟨rfl, hb⟩; refine ⟨_, rfl, ?_⟩; have n0_ := Aside0.mk (Kd.R_below (by (with_reducible repeat (first | apply Kd.R_alloc | apply Kd.R_drewN | apply Kd.R_drew)); exact HO314.out) hb); have n1_ := Aside0.mk (blk_below (g := gb311) (o := .cells #[.int .i64 0, .int .i64 0] 105 (0, 0)) (by (with_reducible repeat (first | refine blk_drewN ?_ _ | refine blk_drew ?_ | refine blk_alloc ?_ _)); exact BK311.out) hb); have n2_ := Aside0.mk (below_step (by repeat (first | (with_reducible first | exact HB.out | apply below_alloc | apply pw_below_drewN | apply below_drew1 | refine below_set ?_ GE311.out) | exact HB.out)) hb); clear HO314; clear BK311; clear HB; have HO314 := n0_; have BK311 := n1_; have HB := n2_; clear n0_ n1_ n2_; (try clear hb); (try clear hb2); (try clear hk); (try clear hi)) | ((with_reducible refine gate_dst (N := 12) rfl ?_); refine Kd.R_lit (Kd.int .i64) _ 3 ?hg (N := 12) ?hd (xs := ([a1] : List Int)) (inner := [.int .i64 a1]) (ok := fun _ => True) (okp := fun _ => True) ?hr ?hp (fun _ hk => hk) trivial (Below.refl _ _) (Nat.le_refl _) (by simp) ?_; (case hd => rfl); (case hg => rfl); (case hr => first | (go_simp; done) | (go_simp; rfl)); (case hp => exact (Reps.one (show Kd.M (Kd.int .i64) _ _ _ a1 [.int .i64 a1] from rfl) (Reps.none _ _))); intro v317 w49 ho50 hb hg_ hnew_; clear hg_ hnew_; (first | rw [← Ny316.out] at ho50 | (simp only [Int.reduceToNat] at ho50; rw [← Ny316.out] at ho50)); have n0_ := Aside0.mk (Kd.R_below (by (with_reducible repeat (first | apply Kd.R_alloc | apply Kd.R_drewN | apply Kd.R_drew)); exact HO314.out) hb); have n1_ := Aside0.mk (Kd.R_lower ho50 (below_size (by repeat (first | (with_reducible first | exact HB.out | apply below_alloc | apply pw_below_drewN | apply below_drew1 | refine below_set ?_ GE311.out) | exact HB.out)))); have n2_ := Aside0.mk (blk_below (g := gb311) (o := .cells #[.int .i64 0, .int .i64 0] 105 (0, 0)) (by (with_reducible repeat (first | refine blk_drewN ?_ _ | refine blk_drew ?_ | refine blk_alloc ?_ _)); exact BK311.out) hb); have n3_ := Aside0.mk (below_step (by repeat (first | (with_reducible first | exact HB.out | apply below_alloc | apply pw_below_drewN | apply below_drew1 | refine below_set ?_ GE311.out) | exact HB.out)) hb); clear HO314; clear BK311; clear HB; have HO314 := n0_; have HO318 := n1_; have BK311 := n2_; have HB := n3_; clear n0_ n1_ n2_ n3_; clear hb ho50; obtain ⟨Ao51, co51, eo51⟩ := Kd.R_slice HO318.out; subst eo51) | ((with_reducible refine gate_callee (f := 100) rfl ?_); refine goesL_ (some 13) rfl rfl Tryz.func100 (by kernel_rfl) rfl #[.int .i64 1, .slice Ao51 y316.length co51] rfl (by (try simp only [List.map_toArray, List.map_cons, List.map_nil]); first | done | rfl | (simp only [List.length_drop, List.length_take]; rfl)) ?_; (with_reducible refine (text_least.calls 1 _ _ y316 t319 _ ?side1 ?side2 A4.out).mono ?_); (case side1 => repeat (first | exact (Kd.R_reads' HO318.out).2.2 | (with_reducible refine Kd.C_alloc ?_ _) | (with_reducible refine Kd.C_drewN ?_ _) | (with_reducible refine Kd.C_drew ?_))); (case side2 => exact (Kd.R_reads' HO318.out).2.1); rintro e w52 ⟨rfl, hb⟩; refine ⟨_, rfl, ?_⟩; have n0_ := Aside0.mk (Kd.R_below (by (with_reducible repeat (first | apply Kd.R_alloc | apply Kd.R_drewN | apply Kd.R_drew)); exact HO314.out) hb); have n1_ := Aside0.mk (Kd.R_below (by (with_reducible repeat (first | apply Kd.R_alloc | apply Kd.R_drewN | apply Kd.R_drew)); exact HO318.out) hb); have n2_ := Aside0.mk (blk_below (g := gb311) (o := .cells #[.int .i64 0, .int .i64 0] 105 (0, 0)) (by (with_reducible repeat (first | refine blk_drewN ?_ _ | refine blk_drew ?_ | refine blk_alloc ?_ _)); exact BK311.out) hb); have n3_ := Aside0.mk (below_step (by repeat (first | (with_reducible first | exact HB.out | apply below_alloc | apply pw_below_drewN | apply below_drew1 | refine below_set ?_ GE311.out) | exact HB.out)) hb); clear HO314; clear HO318; clear BK311; clear HB; have HO314 := n0_; have HO318 := n1_; have BK311 := n2_; have HB := n3_; clear n0_ n1_ n2_ n3_; (try clear hb); (try clear hb2); (try clear hk); (try clear hi)) | ((with_reducible refine gate_dst (N := 14) rfl ?_); refine Kd.R_lit (Kd.int .i64) _ 24 ?hg (N := 14) ?hd (xs := ([t315, t319] : List Int)) (inner := [.int .i64 t315, .int .i64 t319]) (ok := fun _ => True) (okp := fun _ => True) ?hr ?hp (fun _ hk => hk) trivial (Below.refl _ _) (Nat.le_refl _) (by simp) ?_; (case hd => rfl); (case hg => rfl); (case hr => first | (go_simp; done) | (go_simp; rfl)); (case hp => exact (Reps.one (show Kd.M (Kd.int .i64) _ _ _ t315 [.int .i64 t315] from rfl) (Reps.one (show Kd.M (Kd.int .i64) _ _ _ t319 [.int .i64 t319] from rfl) (Reps.none _ _)))); intro v321 w53 ho54 hb hg_ hnew_; clear hg_ hnew_; (first | rw [← Ny320.out] at ho54 | (simp only [Int.reduceToNat] at ho54; rw [← Ny320.out] at ho54)); have n0_ := Aside0.mk (Kd.R_below (by (with_reducible repeat (first | apply Kd.R_alloc | apply Kd.R_drewN | apply Kd.R_drew)); exact HO314.out) hb); have n1_ := Aside0.mk (Kd.R_below (by (with_reducible repeat (first | apply Kd.R_alloc | apply Kd.R_drewN | apply Kd.R_drew)); exact HO318.out) hb); have n2_ := Aside0.mk (Kd.R_lower ho54 (below_size (by repeat (first | (with_reducible first | exact HB.out | apply below_alloc | apply pw_below_drewN | apply below_drew1 | refine below_set ?_ GE311.out) | exact HB.out)))); have n3_ := Aside0.mk (blk_below (g := gb311) (o := .cells #[.int .i64 0, .int .i64 0] 105 (0, 0)) (by (with_reducible repeat (first | refine blk_drewN ?_ _ | refine blk_drew ?_ | refine blk_alloc ?_ _)); exact BK311.out) hb); have n4_ := Aside0.mk (below_step (by repeat (first | (with_reducible first | exact HB.out | apply below_alloc | apply pw_below_drewN | apply below_drew1 | refine below_set ?_ GE311.out) | exact HB.out)) hb); clear HO314; clear HO318; clear BK311; clear HB; have HO314 := n0_; have HO318 := n1_; have HO322 := n2_; have BK311 := n3_; have HB := n4_; clear n0_ n1_ n2_ n3_ n4_; clear hb ho54; obtain ⟨Ao55, co55, eo55⟩ := Kd.R_slice HO322.out; subst eo55) | ((with_reducible refine gate_callee (f := 92) rfl ?_); refine goesL_ (some 15) rfl rfl Tryz.func92 (by kernel_rfl) rfl #[.slice Ao55 y320.length co55] rfl (by (try simp only [List.map_toArray, List.map_cons, List.map_nil]); first | done | rfl | (simp only [List.length_drop, List.length_take]; rfl)) ?_; (with_reducible refine (text_first.calls _ _ y320 t323 _ ?side1 ?side2 A5.out).mono ?_); (case side1 => repeat (first | exact (Kd.R_reads' HO322.out).2.2 | (with_reducible refine Kd.C_alloc ?_ _) | (with_reducible refine Kd.C_drewN ?_ _) | (with_reducible refine Kd.C_drew ?_))); (case side2 => exact (Kd.R_reads' HO322.out).2.1); rintro e w56 ⟨rfl, hb⟩; refine ⟨_, rfl, ?_⟩; have n0_ := Aside0.mk (Kd.R_below (by (with_reducible repeat (first | apply Kd.R_alloc | apply Kd.R_drewN | apply Kd.R_drew)); exact HO314.out) hb); have n1_ := Aside0.mk (Kd.R_below (by (with_reducible repeat (first | apply Kd.R_alloc | apply Kd.R_drewN | apply Kd.R_drew)); exact HO318.out) hb); have n2_ := Aside0.mk (Kd.R_below (by (with_reducible repeat (first | apply Kd.R_alloc | apply Kd.R_drewN | apply Kd.R_drew)); exact HO322.out) hb); have n3_ := Aside0.mk (blk_below (g := gb311) (o := .cells #[.int .i64 0, .int .i64 0] 105 (0, 0)) (by (with_reducible repeat (first | refine blk_drewN ?_ _ | refine blk_drew ?_ | refine blk_alloc ?_ _)); exact BK311.out) hb); have n4_ := Aside0.mk (below_step (by repeat (first | (with_reducible first | exact HB.out | apply below_alloc | apply pw_below_drewN | apply below_drew1 | refine below_set ?_ GE311.out) | exact HB.out)) hb); clear HO314; clear HO318; clear HO322; clear BK311; clear HB; have HO314 := n0_; have HO318 := n1_; have HO322 := n2_; have BK311 := n3_; have HB := n4_; clear n0_ n1_ n2_ n3_ n4_; (try clear hb); (try clear hb2); (try clear hk); (try clear hi); have hcz57_0 : w56.cell? ⟨gb311, 0, none⟩ = some (.int .i64 0) := (blk_cell BK311.out 0).trans rfl; have hcz57_1 : w56.cell? ⟨gb311, 1, none⟩ = some (.int .i64 0) := (blk_cell BK311.out 1).trans rfl; have hfz57_0 := blk_frozen BK311.out 0; have hfz57_1 := blk_frozen BK311.out 1))
    refine bodyPost_ret (results_ct rfl _ _ gb311 105 #[.int .i64 0, .int .i64 0] (0, 0) _ rfl (by (with_reducible repeat (first | refine blk_drewN ?_ _ | refine blk_drew ?_ | refine blk_alloc ?_ _)); refine blk_put (cs := #[.int .i64 0, .int .i64 0]) ?_ 1 _ rfl; (with_reducible repeat (first | refine blk_drewN ?_ _ | refine blk_drew ?_ | refine blk_alloc ?_ _)); refine blk_put (cs := #[.int .i64 0, .int .i64 0]) ?_ 0 _ rfl; (with_reducible repeat (first | refine blk_drewN ?_ _ | refine blk_drew ?_ | refine blk_alloc ?_ _)); exact BK311.out) Tryz.underlying105 rfl (by kernel_rfl)) rfl ?_
    exact ⟨by first | rfl | (simp [errW_none, errW_some] <;> rfl) | (simp [*, errW_none, errW_some] <;> rfl), by repeat (first | (with_reducible first | exact HB.out | apply below_alloc | apply pw_below_drewN | apply below_drew1 | refine below_set ?_ GE311.out) | exact HB.out)⟩

end Go.Proofs.YtlekfhnlhdmekaaGreatDoor.T

/- Where the words of a string stand: what the program and the reference find, and plain laws. -/
namespace Go.Proofs.YtlekfhnlhdmekaaGreatDoor.T
set_option linter.unusedSimpArgs false
set_option linter.unusedVariables false
open Go.RowKit Go.Proofs.YtlekfhnlhdmekaaGreatDoorW.PrintWords Go.Proofs.YtlekfhnlhdmekaaGreatDoorW.PrintLast Go.Proofs.YtlekfhnlhdmekaaGreatDoorW.PrintMore

def cv (x : S105) : S113 := ⟨x.f0, x.f1⟩
theorem wds_end (s : ByteArray) (i : Nat) (h : ¬ i < s.size) : wds s i = [] := by rw [wds, dif_neg h]
theorem wds_blank (s : ByteArray) (i : Nat) (h : i < s.size) (hb : bt s (i : Int) = 32) : wds s i = wds s (i + 1) := by rw [wds, dif_pos h, dif_pos hb]
theorem wds_word (s : ByteArray) (i : Nat) (h : i < s.size) (hb : bt s (i : Int) ≠ 32) : wds s i = ⟨(i : Int), (wend s i : Int)⟩ :: wds s (wend s i) := by rw [wds, dif_pos h, dif_neg hb]
theorem wend_stop (s : ByteArray) (i : Nat) (h : ¬ (i < s.size ∧ bt s (i : Int) ≠ 32)) : wend s i = i := by
  rw [wend]
  by_cases hi : i < s.size
  · rw [dif_pos hi, if_pos (Classical.byContradiction fun hb => h ⟨hi, hb⟩)]
  · rw [dif_neg hi]
theorem wend_next (s : ByteArray) (i : Nat) (h : i < s.size) (hb : bt s (i : Int) ≠ 32) : wend s i = wend s (i + 1) := by rw [wend, dif_pos h, if_neg hb]

theorem spans_ind (s : ByteArray) (hs : s.size ≤ 1200) : ∀ (d i : Nat), i ≤ s.size → s.size - i = d →
    (∀ (k : Nat) (L : List S113), 3 * d + 2 ≤ k → L.length + k < 8796093022208 → qanatref02_Spans.l0 k s L (i : Int) = some (L ++ (wds s i).map cv)) ∧
    (∀ (k : Nat) (L : List S113) (st : Int), 3 * d + 3 ≤ k → L.length + k < 8796093022208 → qanatref02_Spans.l1 k s L (i : Int) st = some (L ++ ⟨st, (wend s i : Int)⟩ :: (wds s (wend s i)).map cv))
  | d, i, hi, hd => by
    have A : ∀ (k : Nat) (L : List S113), 3 * d + 2 ≤ k → L.length + k < 8796093022208 → qanatref02_Spans.l0 k s L (i : Int) = some (L ++ (wds s i).map cv) := by
      intro k L hk hL
      obtain ⟨k, rfl⟩ : ∃ k', k = k' + 1 := ⟨k - 1, by omega⟩
      rw [qanatref02_Spans.l0]
      by_cases hlt : i < s.size
      · rw [if_pos (by omega), if_pos (by omega)]
        have IH := spans_ind s hs (d - 1) (i + 1) (by omega) (by omega)
        by_cases hb : bt s (i : Int) = 32
        · rw [if_pos hb, wrap64_id _ (by omega) (by omega), wds_blank s i hlt hb]
          have := IH.1 k L (by omega) (by omega)
          simpa using this
        · rw [if_neg hb]
          obtain ⟨k, rfl⟩ : ∃ k', k = k' + 1 := ⟨k - 1, by omega⟩
          rw [qanatref02_Spans.l1, if_pos (by omega), if_pos (by omega), if_neg hb, wrap64_id _ (by omega) (by omega), wds_word s i hlt hb, wend_next s i hlt hb]
          have := IH.2 k L (i : Int) (by omega) (by omega)
          rw [show ((i : Int) + 1) = ((i + 1 : Nat) : Int) by omega, this]
          simp [cv]
      · rw [if_neg (by omega), wds_end s i hlt]
        simp
    refine ⟨A, fun k L st hk hL => ?_⟩
    obtain ⟨k, rfl⟩ : ∃ k', k = k' + 1 := ⟨k - 1, by omega⟩
    rw [qanatref02_Spans.l1]
    by_cases hlt : i < s.size
    · rw [if_pos (by omega), if_pos (by omega)]
      by_cases hb : bt s (i : Int) = 32
      · rw [if_pos hb, if_pos (by omega), A k _ (by omega) (by simp; omega), wend_stop s i (fun h => h.2 hb)]
        simp
      · rw [if_neg hb, wrap64_id _ (by omega) (by omega), wend_next s i hlt hb]
        have IH := spans_ind s hs (d - 1) (i + 1) (by omega) (by omega)
        have := IH.2 k L st (by omega) (by omega)
        rw [show ((i : Int) + 1) = ((i + 1 : Nat) : Int) by omega, this]
    · rw [if_neg (by omega), if_pos (by omega), A k _ (by omega) (by simp; omega), wend_stop s i (fun h => hlt h.1)]
      simp
  termination_by d => d
  decreasing_by all_goals omega
theorem spans_eq (s : ByteArray) (hs : s.size ≤ 1200) (k : Nat) (hk : 3602 ≤ k) (hk2 : k ≤ 100000) : qanatref02_Spans.f k s = some ((wds s 0).map cv) := by
  unfold qanatref02_Spans.f
  have := (spans_ind s hs s.size 0 (by omega) (by omega)).1 k [] (by omega) (by simp; omega)
  simpa using this
theorem wds_mem (s : ByteArray) (i : Nat) (hi : i ≤ s.size) : ∀ x ∈ wds s i, (i : Int) ≤ x.f0 ∧ x.f0 < x.f1 ∧ x.f1 ≤ s.size := by
  by_cases h : i < s.size
  · by_cases hb : bt s (i : Int) = 32
    · rw [wds_blank s i h hb]
      intro x hx
      have := wds_mem s (i + 1) (by omega) x hx
      omega
    · rw [wds_word s i h hb]
      intro x hx
      have h1 := wend_gt s i h hb
      have h2 := wend_le s i hi
      rcases List.mem_cons.1 hx with rfl | hx
      · exact ⟨Int.le_refl _, by simp only; omega, by simp only; omega⟩
      · have := wds_mem s (wend s i) h2 x hx
        omega
  · rw [wds_end s i h]
    intro x hx; cases hx
termination_by s.size - i
theorem wds_pair (s : ByteArray) (i : Nat) (hi : i ≤ s.size) : (wds s i).Pairwise (fun a b => a.f1 ≤ b.f0) := by
  by_cases h : i < s.size
  · by_cases hb : bt s (i : Int) = 32
    · rw [wds_blank s i h hb]
      exact wds_pair s (i + 1) (by omega)
    · rw [wds_word s i h hb]
      have h1 := wend_gt s i h hb
      have h2 := wend_le s i hi
      refine List.pairwise_cons.2 ⟨fun x hx => ?_, wds_pair s (wend s i) h2⟩
      have := wds_mem s (wend s i) h2 x hx
      simp; omega
  · rw [wds_end s i h]
    exact List.Pairwise.nil
termination_by s.size - i
theorem rd_mem (l : List S105) (i : Int) (h0 : 0 ≤ i) (h1 : i < l.length) : rd_T105 l i ∈ l := by
  have h : i.toNat < l.length := by omega
  unfold rd_T105
  rw [List.getD_eq_getElem?_getD, List.getElem?_eq_getElem h]
  exact List.getElem_mem h
theorem rd_cv (l : List S105) (i : Int) (h0 : 0 ≤ i) (h1 : i < l.length) : rd_T113 (l.map cv) i = cv (rd_T105 l i) := by
  have h : i.toNat < l.length := by omega
  unfold rd_T113 rd_T105
  rw [List.getD_eq_getElem?_getD, List.getD_eq_getElem?_getD, List.getElem?_map, List.getElem?_eq_getElem h]
  rfl
theorem rd_ok (s : ByteArray) (i : Int) (h0 : 0 ≤ i) (h1 : i < (wds s 0).length) : 0 ≤ (rd_T105 (wds s 0) i).f0 ∧ (rd_T105 (wds s 0) i).f0 < (rd_T105 (wds s 0) i).f1 ∧ (rd_T105 (wds s 0) i).f1 ≤ s.size :=
  wds_mem s 0 (by omega) _ (rd_mem _ i h0 h1)
theorem rd_le (s : ByteArray) (i j : Int) (h0 : 0 ≤ i) (hij : i ≤ j) (h1 : j < (wds s 0).length) : (rd_T105 (wds s 0) i).f0 < (rd_T105 (wds s 0) j).f1 := by
  by_cases e : i = j
  · subst e; exact (rd_ok s i h0 h1).2.1
  · have a := rd_ok s i h0 (by omega)
    have b := rd_ok s j (by omega) h1
    have p := List.pairwise_iff_getElem.1 (wds_pair s 0 (by omega)) i.toNat j.toNat (by omega) (by omega) (by omega)
    have e1 : rd_T105 (wds s 0) i = (wds s 0)[i.toNat]'(by omega) := by
      unfold rd_T105
      rw [List.getD_eq_getElem?_getD, List.getElem?_eq_getElem (by omega)]; rfl
    have e2 : rd_T105 (wds s 0) j = (wds s 0)[j.toNat]'(by omega) := by
      unfold rd_T105
      rw [List.getD_eq_getElem?_getD, List.getElem?_eq_getElem (by omega)]; rfl
    rw [← e1, ← e2] at p
    omega
theorem len_le (s : ByteArray) : (wds s 0).length ≤ s.size := wds_length s 0

theorem first3 (b c d : Prop) [Decidable b] [Decidable c] [Decidable d] : text_first.f [if b then 0 else 1, if c then 0 else 1, if d then 0 else 1] = some (if b ∧ c ∧ d then 0 else 1) := by
  by_cases h1 : b <;> by_cases h2 : c <;> by_cases h3 : d <;> simp [h1, h2, h3] <;> rfl
theorem first2' (b c : Prop) [Decidable b] [Decidable c] : text_first.f [if b then 0 else 1, if c then 0 else 1] = some (if b ∧ c then 0 else 1) := by
  by_cases h1 : b <;> by_cases h2 : c <;> simp [h1, h2] <;> rfl
theorem words_f (s : ByteArray) (hs : s.size ≤ 1200) : text_words.f s = some (wds s 0) := by
  unfold text_words.f
  rw [if_pos (by omega)]
theorem valid1 (s : ByteArray) : text_valid.f [s] = some (if vld s = true then 0 else 1) := by
  unfold text_valid.f
  by_cases h : vld s = true <;> simp [h]
theorem least1 (n x : Int) : text_least.f n [x] = some (if n ≤ x then 0 else 1) := by
  unfold text_least.f
  by_cases h : n ≤ x <;> simp [h]
theorem nth_eq (s : ByteArray) (n : Int) (hs : s.size ≤ 1200) (hn : n ≤ 9223372036854775807) : text_nth.f s n =
    some (if vld s = true ∧ 1 ≤ n then (if n > ((wds s 0).length : Int) then (0, 0, 0) else ((rd_T105 (wds s 0) (n - 1)).f0, (rd_T105 (wds s 0) (n - 1)).f1, 0)) else (0, 0, 1)) := by
  unfold text_nth.f
  simp only [valid1, least1, Option.bind_some, first2']
  by_cases h : vld s = true ∧ 1 ≤ n
  · rw [if_pos h, if_pos rfl, if_pos h, words_f s hs]
    simp only [Option.bind_some]
    have := len_le s
    by_cases hl : n > ((wds s 0).length : Int)
    · rw [if_pos hl, if_pos hl]
    · rw [if_neg hl, if_neg hl, wrap64_id _ (by omega) (by omega), if_pos (by omega), if_pos (by omega)]
  · rw [if_neg h, if_neg (by decide), if_neg h]
theorem empty_ex (s : ByteArray) : s.extract (0 : Int).toNat (0 : Int).toNat = ⟨#[]⟩ := by
  apply ByteArray.ext
  simp
theorem nth_err (s : ByteArray) (n : Int) (hs : s.size ≤ 1200) (hn : n ≤ 9223372036854775807) (h : ¬ (vld s = true ∧ 1 ≤ n)) : text_nth.f s n = some (0, 0, 1) := by rw [nth_eq s n hs hn, if_neg h]
theorem nth_out (s : ByteArray) (n : Int) (hs : s.size ≤ 1200) (hn : n ≤ 9223372036854775807) (h : vld s = true ∧ 1 ≤ n) (hl : n > ((wds s 0).length : Int)) : text_nth.f s n = some (0, 0, 0) := by rw [nth_eq s n hs hn, if_pos h, if_pos hl]
theorem nth_in (s : ByteArray) (n : Int) (hs : s.size ≤ 1200) (hn : n ≤ 9223372036854775807) (h : vld s = true ∧ 1 ≤ n) (hl : ¬ n > ((wds s 0).length : Int)) : text_nth.f s n = some ((rd_T105 (wds s 0) (n - 1)).f0, (rd_T105 (wds s 0) (n - 1)).f1, 0) := by rw [nth_eq s n hs hn, if_pos h, if_neg hl]
theorem whole1_no (s : ByteArray) (n : Int) (hv : vld s = true) (h : ¬ (vld s = true ∧ 1 ≤ n)) : decide (1 ≤ n) = false := decide_eq_false (fun h1 => h ⟨hv, h1⟩)
theorem spanLast_rng (len : Nat) (n m : Int) (h1 : 1 ≤ n) (hl : n ≤ len) (hm : m = -1 ∨ 1 ≤ m) : n ≤ spanLast len n m ∧ spanLast len n m ≤ len := by
  unfold spanLast
  split
  · omega
  · split <;> split <;> omega
theorem span_eq (s : ByteArray) (n m : Int) (hs : s.size ≤ 1200) (h1 : 1 ≤ n) (hm : -1 ≤ m) : text_span.f s n m =
    some (if m = 0 ∨ ((wds s 0).length : Int) < n then (0, 0) else ((rd_T105 (wds s 0) (n - 1)).f0, (rd_T105 (wds s 0) (spanLast (wds s 0).length n m - 1)).f1)) := by
  have := len_le s
  unfold text_span.f
  rw [words_f s hs]
  simp only [Option.bind_some]
  have c : 1 ≤ n ∧ -1 ≤ m ∧ (wds s 0).length ≤ 100000 := ⟨h1, hm, by omega⟩
  rw [if_pos c]
  split <;> rfl
theorem drop_list (s : ByteArray) (j : Nat) : (s.extract j s.size).data.toList = s.data.toList.drop j := by
  rw [ByteArray.data_extract, Array.toList_extract]
  have e : s.size = s.data.toList.length := (data_length s).symm
  rw [e]
  simp
  apply List.take_of_length_le
  rw [List.length_drop]
  omega
theorem ba_ext {a b : ByteArray} (h : a.data.toList = b.data.toList) : a = b := by
  apply ByteArray.ext
  exact Array.toList_inj.1 h
theorem trim_skip (s : ByteArray) (j : Nat) (hj : j < s.size) (hb : bt s (j : Int) = 32) : Lib.trimLeftB (s.extract j s.size).data.toList 32 = Lib.trimLeftB (s.extract (j + 1) s.size).data.toList 32 := by
  have hl : j < s.data.toList.length := by rw [data_length]; exact hj
  rw [drop_list, drop_list, List.drop_eq_getElem_cons hl]
  unfold Lib.trimLeftB
  have hx : s.data.toList[j] = 32 := by
    rw [bt_getD s j hj] at hb
    simp [bytesOf, List.getD_eq_getElem?_getD, List.getElem?_eq_getElem hl] at hb
    apply UInt8.toNat_inj.1
    have h2 : (s.data[j].toNat : Int) = 32 := by simpa using hb
    have h3 : s.data[j].toNat = 32 := by omega
    simpa using h3
  rw [List.dropWhile_cons, if_pos (by rw [hx]; rfl)]
theorem trim_stop (s : ByteArray) (j : Nat) (h : ¬ (j < s.size ∧ bt s (j : Int) = 32)) : (⟨(Lib.trimLeftB (s.extract j s.size).data.toList 32).toArray⟩ : ByteArray) = s.extract j s.size := by
  apply ba_ext
  simp only
  rw [drop_list]
  unfold Lib.trimLeftB
  by_cases hj : j < s.size
  · have hl : j < s.data.toList.length := by rw [data_length]; exact hj
    rw [List.drop_eq_getElem_cons hl, List.dropWhile_cons, if_neg]
    intro hx
    apply h
    refine ⟨hj, ?_⟩
    have hx : s.data.toList[j] = 32 := by simpa using hx
    rw [bt_getD s j hj]
    simp [bytesOf, List.getD_eq_getElem?_getD, List.getElem?_eq_getElem hl, hx]
  · rw [List.drop_eq_nil_of_le (by rw [data_length]; omega)]
    rfl
theorem i64_of_wf {x : Int} (h : (Lit.int .i64 x).wf = true) : x ≤ 9223372036854775807 := by
  simp [Lit.wf, IntKind.min, IntKind.max, IntKind.bits, IntKind.signed] at h
  omega
end Go.Proofs.YtlekfhnlhdmekaaGreatDoor.T
