/- Part 3 of the proof of TextConverts: the functions that it calls return what their plain descriptions say. -/
import Derived.Test.YtlekfhnlhdmekaaGreatDoorCTextConverts2
import Derived.Test.YtlekfhnlhdmekaaGreatDoorCTextConverts1
import Derived.Lib.LaidU8
import Derived.Shelf.LaysM
import Derived.Lib.Hide
import Derived.Deep.LoopGhost
import Derived.Lib.BufferMore
import Derived.Shelf.Abstract
import Derived.StillTailTactics
import Derived.Maps.OwnSet
import Derived.WalkArith
import Derived.Maps.RangeWalk
import Derived.Lib.BufferWrite

-- Written by a program of this session (mp.py over the kit's print.py), out of the translation.
namespace Go.Proofs.YtlekfhnlhdmekaaGreatDoor.T
set_option linter.unusedSimpArgs false
open Go.RowKit Go.Proofs.YtlekfhnlhdmekaaGreatDoorW.PrintWords Go.Proofs.YtlekfhnlhdmekaaGreatDoorW.PrintLast Go.Proofs.YtlekfhnlhdmekaaGreatDoorW.PrintMore
attribute [local go_sem] max2_int min2_int max_two min_two max_three min_three max_four min_four   -- for this text's walks alone
set_option linter.unusedVariables false
set_option linter.unusedSimpArgs false

/-! ### text_LastPos: function 58 -/
def text_LastPos.j0 : Nat → ByteArray → ByteArray → Int → Bool → Option (Int × Int)
  | 0, _, _, _, _ => none
  | k + 1, x0, x1, x2, x23 => if x23 = true then (some (0, 1)) else (if x2 = (-1) then (if x0.toList = ([] : List UInt8) then (some (0, 0)) else ((strings_LastIndex.f x1 x0).bind fun t137 => (some (wrap64 (t137 + 1), 0)))) else (if 0 ≤ (mn x2 (x1.size : Int)) then (if (mn x2 (x1.size : Int)) ≤ (x1.size : Int) then (if x0.toList = ([] : List UInt8) then (some (0, 0)) else ((strings_LastIndex.f (x1.extract 0 ((mn x2 (x1.size : Int)) : Int).toNat) x0).bind fun t138 => (some (wrap64 (t138 + 1), 0)))) else (none)) else (none)))
def text_LastPos.f (k : Nat) (a0 : ByteArray) (a1 : ByteArray) (a2 : Int) : Option (Int × Int) := (text_valid.f (([a0, a1] : List ByteArray))).bind fun t128 => ((text_least.f (-1) (([a2] : List Int))).bind fun t132 => ((text_first.f (([t128, t132] : List Int))).bind fun t136 => (if t136 = 0 then (text_LastPos.j0 k a0 a1 a2 (a2 == 0)) else (text_LastPos.j0 k a0 a1 a2 true))))
theorem text_LastPos.mono_l : ∀ k, (∀ y0 y1 y2 y3, LeO (text_LastPos.j0 k y0 y1 y2 y3) (text_LastPos.j0 (k + 1) y0 y1 y2 y3))
  | 0 => fun _ _ _ _ r h => by simp [text_LastPos.j0] at h
  | k + 1 => by
    have ih0 := text_LastPos.mono_l k
    · intro y0 y1 y2 y3
      unfold text_LastPos.j0
      repeat' first
      | (with_reducible exact ih0 _ _ _ _)
      | (with_reducible exact LeO.refl _)
      | (with_reducible exact LeO.none _)
      | (with_reducible refine LeO.ite ?_ ?_)
      | (with_reducible refine LeO.bind ?_ (fun _ => ?_))
      | exact ih0 _ _ _ _
      | exact LeO.none _
      | refine LeO.ite ?_ ?_
      | refine LeO.bind ?_ (fun _ => ?_)
theorem text_LastPos.mono : ∀ a0 a1 a2 k, LeO (text_LastPos.f k a0 a1 a2) (text_LastPos.f (k + 1) a0 a1 a2) := by
  intro a0 a1 a2 k
  have ih0 := text_LastPos.mono_l k
  unfold text_LastPos.f
  repeat' first
      | (with_reducible exact ih0 _ _ _ _)
      | (with_reducible exact LeO.refl _)
      | (with_reducible exact LeO.none _)
      | (with_reducible refine LeO.ite ?_ ?_)
      | (with_reducible refine LeO.bind ?_ (fun _ => ?_))
      | exact ih0 _ _ _ _
      | exact LeO.none _
      | refine LeO.ite ?_ ?_
      | refine LeO.bind ?_ (fun _ => ?_)
set_option maxHeartbeats 8000000 in
set_option maxRecDepth 100000 in
theorem text_LastPos.calls (k : Nat) (a0 : ByteArray) (a1 : ByteArray) (a2 : Int) (r1 : Int) (r2 : Int) (w : World) (h : text_LastPos.f k a0 a1 a2 = some (r1, r2)) :
    Calls Tryz.prog 58 #[.string a0, .string a1, .int .i64 a2] w fun e w' => e = .returned (.tuple #[.int .i64 r1, .int .i64 r2]) ∧ Below w.heap.size w w' := by
  have HB := Aside0.mk (Below.refl w.heap.size w)
  have H : ((text_valid.f (([a0, a1] : List ByteArray))).bind fun t128 => ((text_least.f (-1) (([a2] : List Int))).bind fun t132 => ((text_first.f (([t128, t132] : List Int))).bind fun t136 => (if t136 = 0 then (text_LastPos.j0 k a0 a1 a2 (a2 == 0)) else (text_LastPos.j0 k a0 a1 a2 true))))) = some (r1, r2) := h
  clear h
  obtain ⟨y125, hy125⟩ : ∃ y_ : List ByteArray, y_ = (([a0, a1] : List ByteArray)) := ⟨_, rfl⟩
  replace H : ((text_valid.f y125).bind fun t128 => ((text_least.f (-1) (([a2] : List Int))).bind fun t132 => ((text_first.f (([t128, t132] : List Int))).bind fun t136 => (if t136 = 0 then (text_LastPos.j0 k a0 a1 a2 (a2 == 0)) else (text_LastPos.j0 k a0 a1 a2 true))))) = some (r1, r2) := by first | (rw [hy125]; with_reducible exact H) | (have H2_ := (Option.bind_some _ _).symm.trans H; rw [hy125]; with_reducible exact H2_) | (have H2_ := (Option.bind_some _ _).symm.trans H; with_reducible exact H2_) | with_reducible exact H | (rw [hy125]; exact H) | exact H
  have Ny125 := Aside0.mk hy125
  clear hy125
  replace H := Option.bind_eq_some_iff.mp H
  obtain ⟨t128, A40, H⟩ := H
  replace H : ((text_least.f (-1) (([a2] : List Int))).bind fun t132 => ((text_first.f (([t128, t132] : List Int))).bind fun t136 => (if t136 = 0 then (text_LastPos.j0 k a0 a1 a2 (a2 == 0)) else (text_LastPos.j0 k a0 a1 a2 true)))) = some (r1, r2) := H
  have A4 := Aside0.mk A40
  clear A40
  obtain ⟨y129, hy129⟩ : ∃ y_ : List Int, y_ = (([a2] : List Int)) := ⟨_, rfl⟩
  replace H : ((text_least.f (-1) y129).bind fun t132 => ((text_first.f (([t128, t132] : List Int))).bind fun t136 => (if t136 = 0 then (text_LastPos.j0 k a0 a1 a2 (a2 == 0)) else (text_LastPos.j0 k a0 a1 a2 true)))) = some (r1, r2) := by first | (rw [hy129]; with_reducible exact H) | (have H2_ := (Option.bind_some _ _).symm.trans H; rw [hy129]; with_reducible exact H2_) | (have H2_ := (Option.bind_some _ _).symm.trans H; with_reducible exact H2_) | with_reducible exact H | (rw [hy129]; exact H) | exact H
  have Ny129 := Aside0.mk hy129
  clear hy129
  replace H := Option.bind_eq_some_iff.mp H
  obtain ⟨t132, A50, H⟩ := H
  replace H : ((text_first.f (([t128, t132] : List Int))).bind fun t136 => (if t136 = 0 then (text_LastPos.j0 k a0 a1 a2 (a2 == 0)) else (text_LastPos.j0 k a0 a1 a2 true))) = some (r1, r2) := H
  have A5 := Aside0.mk A50
  clear A50
  obtain ⟨y133, hy133⟩ : ∃ y_ : List Int, y_ = (([t128, t132] : List Int)) := ⟨_, rfl⟩
  replace H : ((text_first.f y133).bind fun t136 => (if t136 = 0 then (text_LastPos.j0 k a0 a1 a2 (a2 == 0)) else (text_LastPos.j0 k a0 a1 a2 true))) = some (r1, r2) := by first | (rw [hy133]; with_reducible exact H) | (have H2_ := (Option.bind_some _ _).symm.trans H; rw [hy133]; with_reducible exact H2_) | (have H2_ := (Option.bind_some _ _).symm.trans H; with_reducible exact H2_) | with_reducible exact H | (rw [hy133]; exact H) | exact H
  have Ny133 := Aside0.mk hy133
  clear hy133
  replace H := Option.bind_eq_some_iff.mp H
  obtain ⟨t136, A60, H⟩ := H
  replace H : (if t136 = 0 then (text_LastPos.j0 k a0 a1 a2 (a2 == 0)) else (text_LastPos.j0 k a0 a1 a2 true)) = some (r1, r2) := H
  have A6 := Aside0.mk A60
  clear A60
  have HC7 := Aside0.mk H
  clear H
  go_enter Tryz.func58, Tryz.ntmps58
  go_upto_region 2 with (first | ((with_reducible refine gate_dst (N := 11) rfl ?_); refine Kd.R_lit Kd.string _ 9 ?hg (N := 11) ?hd (xs := ([a0, a1] : List ByteArray)) (inner := [.string a0, .string a1]) (ok := fun _ => True) (okp := fun _ => True) ?hr ?hp (fun _ hk => hk) trivial (Below.refl _ _) (Nat.le_refl _) (by simp) ?_; (case hd => rfl); (case hg => rfl); (case hr => first | (go_simp; done) | (go_simp; rfl)); (case hp => exact (Reps.one (show Kd.M Kd.string _ _ _ a0 [.string a0] from rfl) (Reps.one (show Kd.M Kd.string _ _ _ a1 [.string a1] from rfl) (Reps.none _ _)))); intro v126 w8 ho9 hb hg_ hnew_; clear hg_ hnew_; (first | rw [← Ny125.out] at ho9 | (simp only [Int.reduceToNat] at ho9; rw [← Ny125.out] at ho9)); have n0_ := Aside0.mk (Kd.R_lower ho9 (below_size (by repeat (first | (with_reducible first | exact HB.out | apply below_alloc | apply pw_below_drewN | apply below_drew1) | exact HB.out)))); have n1_ := Aside0.mk (below_step (by repeat (first | (with_reducible first | exact HB.out | apply below_alloc | apply pw_below_drewN | apply below_drew1) | exact HB.out)) hb); clear HB; have HO127 := n0_; have HB := n1_; clear n0_ n1_; clear hb ho9; obtain ⟨Ao10, co10, eo10⟩ := Kd.R_slice HO127.out; subst eo10) | ((with_reducible refine gate_callee (f := 93) rfl ?_); refine goesL_ (some 12) rfl rfl Tryz.func93 (by kernel_rfl) rfl #[.slice Ao10 y125.length co10] rfl (by (try simp only [List.map_toArray, List.map_cons, List.map_nil]); first | done | rfl | (simp only [List.length_drop, List.length_take]; rfl)) ?_; (with_reducible refine (text_valid.calls _ _ y125 t128 _ ?side1 ?side2 A4.out).mono ?_); (case side1 => repeat (first | exact (Kd.R_reads' HO127.out).2.2 | (with_reducible refine Kd.C_alloc ?_ _) | (with_reducible refine Kd.C_drewN ?_ _) | (with_reducible refine Kd.C_drew ?_))); (case side2 => exact (Kd.R_reads' HO127.out).2.1); rintro e w11 ⟨rfl, hb⟩; refine ⟨_, rfl, ?_⟩; have n0_ := Aside0.mk (Kd.R_below (by (with_reducible repeat (first | apply Kd.R_alloc | apply Kd.R_drewN | apply Kd.R_drew)); exact HO127.out) hb); have n1_ := Aside0.mk (below_step (by repeat (first | (with_reducible first | exact HB.out | apply below_alloc | apply pw_below_drewN | apply below_drew1) | exact HB.out)) hb); clear HO127; clear HB; have HO127 := n0_; have HB := n1_; clear n0_ n1_; (try clear hb); (try clear hb2); (try clear hk); (try clear hi)) | ((with_reducible refine gate_dst (N := 14) rfl ?_); refine Kd.R_lit (Kd.int .i64) _ 3 ?hg (N := 14) ?hd (xs := ([a2] : List Int)) (inner := [.int .i64 a2]) (ok := fun _ => True) (okp := fun _ => True) ?hr ?hp (fun _ hk => hk) trivial (Below.refl _ _) (Nat.le_refl _) (by simp) ?_; (case hd => rfl); (case hg => rfl); (case hr => first | (go_simp; done) | (go_simp; rfl)); (case hp => exact (Reps.one (show Kd.M (Kd.int .i64) _ _ _ a2 [.int .i64 a2] from rfl) (Reps.none _ _))); intro v130 w12 ho13 hb hg_ hnew_; clear hg_ hnew_; (first | rw [← Ny129.out] at ho13 | (simp only [Int.reduceToNat] at ho13; rw [← Ny129.out] at ho13)); have n0_ := Aside0.mk (Kd.R_below (by (with_reducible repeat (first | apply Kd.R_alloc | apply Kd.R_drewN | apply Kd.R_drew)); exact HO127.out) hb); have n1_ := Aside0.mk (Kd.R_lower ho13 (below_size (by repeat (first | (with_reducible first | exact HB.out | apply below_alloc | apply pw_below_drewN | apply below_drew1) | exact HB.out)))); have n2_ := Aside0.mk (below_step (by repeat (first | (with_reducible first | exact HB.out | apply below_alloc | apply pw_below_drewN | apply below_drew1) | exact HB.out)) hb); clear HO127; clear HB; have HO127 := n0_; have HO131 := n1_; have HB := n2_; clear n0_ n1_ n2_; clear hb ho13; obtain ⟨Ao14, co14, eo14⟩ := Kd.R_slice HO131.out; subst eo14) | ((with_reducible refine gate_callee (f := 100) rfl ?_); refine goesL_ (some 15) rfl rfl Tryz.func100 (by kernel_rfl) rfl #[.int .i64 (-1), .slice Ao14 y129.length co14] rfl (by (try simp only [List.map_toArray, List.map_cons, List.map_nil]); first | done | rfl | (simp only [List.length_drop, List.length_take]; rfl)) ?_; (with_reducible refine (text_least.calls (-1) _ _ y129 t132 _ ?side1 ?side2 A5.out).mono ?_); (case side1 => repeat (first | exact (Kd.R_reads' HO131.out).2.2 | (with_reducible refine Kd.C_alloc ?_ _) | (with_reducible refine Kd.C_drewN ?_ _) | (with_reducible refine Kd.C_drew ?_))); (case side2 => exact (Kd.R_reads' HO131.out).2.1); rintro e w15 ⟨rfl, hb⟩; refine ⟨_, rfl, ?_⟩; have n0_ := Aside0.mk (Kd.R_below (by (with_reducible repeat (first | apply Kd.R_alloc | apply Kd.R_drewN | apply Kd.R_drew)); exact HO127.out) hb); have n1_ := Aside0.mk (Kd.R_below (by (with_reducible repeat (first | apply Kd.R_alloc | apply Kd.R_drewN | apply Kd.R_drew)); exact HO131.out) hb); have n2_ := Aside0.mk (below_step (by repeat (first | (with_reducible first | exact HB.out | apply below_alloc | apply pw_below_drewN | apply below_drew1) | exact HB.out)) hb); clear HO127; clear HO131; clear HB; have HO127 := n0_; have HO131 := n1_; have HB := n2_; clear n0_ n1_ n2_; (try clear hb); (try clear hb2); (try clear hk); (try clear hi)) | ((with_reducible refine gate_dst (N := 16) rfl ?_); refine Kd.R_lit (Kd.int .i64) _ 24 ?hg (N := 16) ?hd (xs := ([t128, t132] : List Int)) (inner := [.int .i64 t128, .int .i64 t132]) (ok := fun _ => True) (okp := fun _ => True) ?hr ?hp (fun _ hk => hk) trivial (Below.refl _ _) (Nat.le_refl _) (by simp) ?_; (case hd => rfl); (case hg => rfl); (case hr => first | (go_simp; done) | (go_simp; rfl)); (case hp => exact (Reps.one (show Kd.M (Kd.int .i64) _ _ _ t128 [.int .i64 t128] from rfl) (Reps.one (show Kd.M (Kd.int .i64) _ _ _ t132 [.int .i64 t132] from rfl) (Reps.none _ _)))); intro v134 w16 ho17 hb hg_ hnew_; clear hg_ hnew_; (first | rw [← Ny133.out] at ho17 | (simp only [Int.reduceToNat] at ho17; rw [← Ny133.out] at ho17)); have n0_ := Aside0.mk (Kd.R_below (by (with_reducible repeat (first | apply Kd.R_alloc | apply Kd.R_drewN | apply Kd.R_drew)); exact HO127.out) hb); have n1_ := Aside0.mk (Kd.R_below (by (with_reducible repeat (first | apply Kd.R_alloc | apply Kd.R_drewN | apply Kd.R_drew)); exact HO131.out) hb); have n2_ := Aside0.mk (Kd.R_lower ho17 (below_size (by repeat (first | (with_reducible first | exact HB.out | apply below_alloc | apply pw_below_drewN | apply below_drew1) | exact HB.out)))); have n3_ := Aside0.mk (below_step (by repeat (first | (with_reducible first | exact HB.out | apply below_alloc | apply pw_below_drewN | apply below_drew1) | exact HB.out)) hb); clear HO127; clear HO131; clear HB; have HO127 := n0_; have HO131 := n1_; have HO135 := n2_; have HB := n3_; clear n0_ n1_ n2_ n3_; clear hb ho17; obtain ⟨Ao18, co18, eo18⟩ := Kd.R_slice HO135.out; subst eo18) | ((with_reducible refine gate_callee (f := 92) rfl ?_); refine goesL_ (some 17) rfl rfl Tryz.func92 (by kernel_rfl) rfl #[.slice Ao18 y133.length co18] rfl (by (try simp only [List.map_toArray, List.map_cons, List.map_nil]); first | done | rfl | (simp only [List.length_drop, List.length_take]; rfl)) ?_; (with_reducible refine (text_first.calls _ _ y133 t136 _ ?side1 ?side2 A6.out).mono ?_); (case side1 => repeat (first | exact (Kd.R_reads' HO135.out).2.2 | (with_reducible refine Kd.C_alloc ?_ _) | (with_reducible refine Kd.C_drewN ?_ _) | (with_reducible refine Kd.C_drew ?_))); (case side2 => exact (Kd.R_reads' HO135.out).2.1); rintro e w19 ⟨rfl, hb⟩; refine ⟨_, rfl, ?_⟩; have n0_ := Aside0.mk (Kd.R_below (by (with_reducible repeat (first | apply Kd.R_alloc | apply Kd.R_drewN | apply Kd.R_drew)); exact HO127.out) hb); have n1_ := Aside0.mk (Kd.R_below (by (with_reducible repeat (first | apply Kd.R_alloc | apply Kd.R_drewN | apply Kd.R_drew)); exact HO131.out) hb); have n2_ := Aside0.mk (Kd.R_below (by (with_reducible repeat (first | apply Kd.R_alloc | apply Kd.R_drewN | apply Kd.R_drew)); exact HO135.out) hb); have n3_ := Aside0.mk (below_step (by repeat (first | (with_reducible first | exact HB.out | apply below_alloc | apply pw_below_drewN | apply below_drew1) | exact HB.out)) hb); clear HO127; clear HO131; clear HO135; clear HB; have HO127 := n0_; have HO131 := n1_; have HO135 := n2_; have HB := n3_; clear n0_ n1_ n2_ n3_; (try clear hb); (try clear hb2); (try clear hk); (try clear hi)))
  (try simp only [Act.put, List.setIfInBounds_toArray, List.set_cons_zero, List.set_cons_succ])
  go_cut [23] (fun v23 wc => ∃ (kq : Nat) (x23_6 : Bool), v23 = .bool x23_6 ∧ Aside0 (text_LastPos.j0 kq a0 a1 a2 x23_6 = some (r1, r2)) ∧ Aside0 (kq ≤ k) ∧ Aside0 (Below w.heap.size w wc))
  case first =>
    have H := HC7.out
    clear HC7
    by_cases c20 : t136 = 0
    · rw [if_pos c20] at H
      have c20b0 : (t136 == 0) = true := beq_iff_eq.mpr c20
      have c20b1 : (t136 != 0) = false := bne_eq_false_iff_eq.mpr c20
      clear c20
      (first | rw [c20b0] | (simp only [i64_w, i32_w]; rw [c20b0]) | skip)
      have H' := Aside0.mk H
      clear H
      go_wp2
      go_meet
      case rel => exact ⟨_, ((a2 == 0)), (by first | rfl | (simp; done) | (simp [*]; done)), H', ⟨by first | omega | exact Nat.le_refl _⟩, ⟨by repeat (first | (with_reducible first | exact HB.out | apply below_alloc | apply pw_below_drewN | apply below_drew1) | exact HB.out)⟩⟩
    · rw [if_neg c20] at H
      have c20b0 : (t136 == 0) = false := beq_eq_false_iff_ne.mpr c20
      have c20b1 : (t136 != 0) = true := bne_iff_ne.mpr c20
      (first | rw [c20b0] | (simp only [i64_w, i32_w]; rw [c20b0]) | skip)
      have H' := Aside0.mk H
      clear H
      go_wp2
      go_meet
      case rel => exact ⟨_, (true), (by first | rfl | (simp; done) | (simp [*]; done)), H', ⟨by first | omega | exact Nat.le_refl _⟩, ⟨by repeat (first | (with_reducible first | exact HB.out | apply below_alloc | apply pw_below_drewN | apply below_drew1) | exact HB.out)⟩⟩
  case rest =>
    clear HC7
    try clear c1
    try clear c2
    try clear p2
    try clear c5
    try clear c9
    try clear c10
    try clear c20
    try clear c20b0
    try clear c20b1
    obtain ⟨kq, x23_6, rfl, HA, HJ6, HB⟩ := hcut
    cases kq with
    | zero => exact absurd HA.out (by simp [text_LastPos.j0])
    | succ kj6 =>
      have H := HA.out
      clear HA
      simp only [text_LastPos.j0] at H
      by_cases c21 : x23_6 = true
      · subst c21
        have H1 : (some (0, 1)) = some (r1, r2) := by rw [if_pos rfl] at H; exact H
        clear H
        have H := H1
        clear H1
        simp only [Option.some.injEq, Prod.mk.injEq] at H
        obtain ⟨rfl, rfl⟩ := H
        go_wp2
        go_ret2
        exact ⟨by first | rfl | (simp [errW_none, errW_some] <;> rfl) | (simp [*, errW_none, errW_some] <;> rfl), by repeat (first | (with_reducible first | exact HB.out | apply below_alloc | apply pw_below_drewN | apply below_drew1) | exact HB.out)⟩
      · replace c21 := Bool.eq_false_iff.mpr c21
        subst c21
        have H1 : (if a2 = (-1) then (if a0.toList = ([] : List UInt8) then (some (0, 0)) else ((strings_LastIndex.f a1 a0).bind fun t137 => (some (wrap64 (t137 + 1), 0)))) else (if 0 ≤ (mn a2 (a1.size : Int)) then (if (mn a2 (a1.size : Int)) ≤ (a1.size : Int) then (if a0.toList = ([] : List UInt8) then (some (0, 0)) else ((strings_LastIndex.f (a1.extract 0 ((mn a2 (a1.size : Int)) : Int).toNat) a0).bind fun t138 => (some (wrap64 (t138 + 1), 0)))) else (none)) else (none))) = some (r1, r2) := by rw [if_neg (show ¬ (false = true) by decide)] at H; exact H
        clear H
        have H := H1
        clear H1
        by_cases c22 : a2 = (-1)
        · rw [if_pos c22] at H
          have c22b0 : (a2 == (-1)) = true := beq_iff_eq.mpr c22
          have c22b1 : (a2 != (-1)) = false := bne_eq_false_iff_eq.mpr c22
          clear c22
          by_cases c23 : a0.toList = ([] : List UInt8)
          · rw [if_pos c23] at H
            have c23b0 : (a0.toList == ([] : List UInt8)) = true := beq_iff_eq.mpr c23
            have c23b1 : (a0.toList != ([] : List UInt8)) = false := bne_eq_false_iff_eq.mpr c23
            clear c23
            simp only [Option.some.injEq, Prod.mk.injEq] at H
            obtain ⟨rfl, rfl⟩ := H
            go_wp2
            go_ret2
            exact ⟨by first | rfl | (simp [errW_none, errW_some] <;> rfl) | (simp [*, errW_none, errW_some] <;> rfl), by repeat (first | (with_reducible first | exact HB.out | apply below_alloc | apply pw_below_drewN | apply below_drew1) | exact HB.out)⟩
          · rw [if_neg c23] at H
            have c23b0 : (a0.toList == ([] : List UInt8)) = false := beq_eq_false_iff_ne.mpr c23
            have c23b1 : (a0.toList != ([] : List UInt8)) = true := bne_iff_ne.mpr c23
            replace H := Option.bind_eq_some_iff.mp H
            obtain ⟨t137, A240, H⟩ := H
            replace H : (some (wrap64 (t137 + 1), 0)) = some (r1, r2) := H
            have A24 := Aside0.mk A240
            clear A240
            simp only [Option.some.injEq, Prod.mk.injEq] at H
            obtain ⟨rfl, rfl⟩ := H
            go_wp2_with (first | ((with_reducible refine gate_callee (f := 117) rfl ?_); refine goesL_ (some 36) rfl rfl Tryz.func117 (by kernel_rfl) rfl #[.string a1, .string a0] rfl (by (try simp only [List.map_toArray, List.map_cons, List.map_nil]); first | done | rfl | (simp only [List.length_drop, List.length_take]; rfl)) ?_; (with_reducible refine (strings_LastIndex.calls a1 a0 t137 _ A24.out).mono ?_); rintro e w' ⟨rfl, ⟨nd, rfl⟩⟩; refine ⟨_, rfl, ?_⟩))
            go_ret2
            exact ⟨by first | rfl | (simp [errW_none, errW_some] <;> rfl) | (simp [*, errW_none, errW_some] <;> rfl), by repeat (first | (with_reducible first | exact HB.out | apply below_alloc | apply pw_below_drewN | apply below_drew1) | exact HB.out)⟩
        · rw [if_neg c22] at H
          have c22b0 : (a2 == (-1)) = false := beq_eq_false_iff_ne.mpr c22
          have c22b1 : (a2 != (-1)) = true := bne_iff_ne.mpr c22
          obtain ⟨ji25, hji25⟩ : ∃ j_ : Int, (mn a2 (a1.size : Int)) = j_ := ⟨_, rfl⟩
          replace H : (if 0 ≤ (ji25) then (if (ji25) ≤ (a1.size : Int) then (if a0.toList = ([] : List UInt8) then (some (0, 0)) else ((strings_LastIndex.f (a1.extract 0 ((ji25) : Int).toNat) a0).bind fun t138 => (some (wrap64 (t138 + 1), 0)))) else (none)) else (none)) = some (r1, r2) := by first | (rw [hji25] at H; exact H) | (simp only [hji25] at H ⊢; exact H)
          have hji25_ : (if (a1.size : Int) < a2 then (a1.size : Int) else a2) = ji25 := hji25
          by_cases c26 : 0 ≤ (ji25)
          · rw [if_pos c26] at H
            have c26b0 := eq_true c26
            have c26b1 : decide (0 ≤ (ji25)) = true := decide_eq_true c26
            clear c26
            by_cases c27 : (ji25) ≤ (a1.size : Int)
            · rw [if_pos c27] at H
              have c27b0 := eq_true c27
              have c27b1 : decide ((ji25) ≤ (a1.size : Int)) = true := decide_eq_true c27
              clear c27
              by_cases c28 : a0.toList = ([] : List UInt8)
              · rw [if_pos c28] at H
                have c28b0 : (a0.toList == ([] : List UInt8)) = true := beq_iff_eq.mpr c28
                have c28b1 : (a0.toList != ([] : List UInt8)) = false := bne_eq_false_iff_eq.mpr c28
                clear c28
                simp only [Option.some.injEq, Prod.mk.injEq] at H
                obtain ⟨rfl, rfl⟩ := H
                go_wp2
                go_ret2
                exact ⟨by first | rfl | (simp [errW_none, errW_some] <;> rfl) | (simp only [← hji25]; first | rfl | (simp [errW_none, errW_some] <;> rfl)) | (simp [*, errW_none, errW_some] <;> rfl), by repeat (first | (with_reducible first | exact HB.out | apply below_alloc | apply pw_below_drewN | apply below_drew1) | exact HB.out)⟩
              · rw [if_neg c28] at H
                have c28b0 : (a0.toList == ([] : List UInt8)) = false := beq_eq_false_iff_ne.mpr c28
                have c28b1 : (a0.toList != ([] : List UInt8)) = true := bne_iff_ne.mpr c28
                replace H := Option.bind_eq_some_iff.mp H
                obtain ⟨t138, A290, H⟩ := H
                replace H : (some (wrap64 (t138 + 1), 0)) = some (r1, r2) := H
                have A29 := Aside0.mk A290
                clear A290
                simp only [Option.some.injEq, Prod.mk.injEq] at H
                obtain ⟨rfl, rfl⟩ := H
                go_wp2_with (first | ((with_reducible refine gate_callee (f := 117) rfl ?_); refine goesL_ (some 36) rfl rfl Tryz.func117 (by kernel_rfl) rfl #[.string (a1.extract 0 ((ji25) : Int).toNat), .string a0] rfl (by (try simp only [List.map_toArray, List.map_cons, List.map_nil]); first | done | (simp only [hji25]; rfl) | rfl | (simp only [List.length_drop, List.length_take]; rfl)) ?_; (with_reducible refine (strings_LastIndex.calls (a1.extract 0 ((ji25) : Int).toNat) a0 t138 _ A29.out).mono ?_); rintro e w' ⟨rfl, ⟨nd, rfl⟩⟩; refine ⟨_, rfl, ?_⟩))
                go_ret2
                exact ⟨by first | rfl | (simp [errW_none, errW_some] <;> rfl) | (simp only [← hji25]; first | rfl | (simp [errW_none, errW_some] <;> rfl)) | (simp [*, errW_none, errW_some] <;> rfl), by repeat (first | (with_reducible first | exact HB.out | apply below_alloc | apply pw_below_drewN | apply below_drew1) | exact HB.out)⟩
            · rw [if_neg c27] at H
              exact absurd H (by simp)
          · rw [if_neg c26] at H
            exact absurd H (by simp)

end Go.Proofs.YtlekfhnlhdmekaaGreatDoor.T

-- Written by a program of this session (mp.py over the kit's print.py), out of the translation.
namespace Go.Proofs.YtlekfhnlhdmekaaGreatDoor.T
set_option linter.unusedSimpArgs false
open Go.RowKit Go.Proofs.YtlekfhnlhdmekaaGreatDoorW.PrintWords Go.Proofs.YtlekfhnlhdmekaaGreatDoorW.PrintLast Go.Proofs.YtlekfhnlhdmekaaGreatDoorW.PrintMore
attribute [local go_sem] max2_int min2_int max_two min_two max_three min_three max_four min_four   -- for this text's walks alone
set_option linter.unusedVariables false
set_option linter.unusedSimpArgs false

/-! ### text_made: function 113 -/
def text_made.f (a0 : ByteArray) : Option (ByteArray × Int) := if (a0.size : Int) > 1000 then (some ((⟨#[]⟩ : ByteArray), 3)) else ((text_Valid.f a0).bind fun t101 => (if t101 = true then (some (a0, 0)) else (some ((⟨#[]⟩ : ByteArray), 8))))
set_option maxHeartbeats 8000000 in
set_option maxRecDepth 100000 in
theorem text_made.calls (a0 : ByteArray) (r1 : ByteArray) (r2 : Int) (w : World) (h : text_made.f a0 = some (r1, r2)) :
    Calls Tryz.prog 113 #[.string a0] w fun e w' => e = .returned (.tuple #[.string r1, .int .i64 r2]) ∧ Below w.heap.size w w' := by
  have HB := Aside0.mk (Below.refl w.heap.size w)
  have H : (if (a0.size : Int) > 1000 then (some ((⟨#[]⟩ : ByteArray), 3)) else ((text_Valid.f a0).bind fun t101 => (if t101 = true then (some (a0, 0)) else (some ((⟨#[]⟩ : ByteArray), 8))))) = some (r1, r2) := h
  clear h
  by_cases c2 : (a0.size : Int) > 1000
  · rw [if_pos c2] at H
    have c2b0 : decide (1000 < (a0.size : Int)) = true := decide_eq_true c2
    have c2b1 : decide (1000 < a0.size) = true := decide_eq_true (by omega)
    clear c2
    simp only [Option.some.injEq, Prod.mk.injEq] at H
    obtain ⟨rfl, rfl⟩ := H
    go_enter Tryz.func113, Tryz.ntmps113
    go_wp2
    go_ret2
    exact ⟨by first | rfl | (simp [errW_none, errW_some] <;> rfl) | (simp [*, errW_none, errW_some] <;> rfl), by repeat (first | (with_reducible first | exact HB.out | apply below_alloc | apply pw_below_drewN | apply below_drew1) | exact HB.out)⟩
  · rw [if_neg c2] at H
    have c2b0 : decide (1000 < (a0.size : Int)) = false := decide_eq_false c2
    have c2b1 : decide (1000 < a0.size) = false := decide_eq_false (by omega)
    clear c2
    replace H := Option.bind_eq_some_iff.mp H
    obtain ⟨t101, A30, H⟩ := H
    replace H : (if t101 = true then (some (a0, 0)) else (some ((⟨#[]⟩ : ByteArray), 8))) = some (r1, r2) := H
    have A3 := Aside0.mk A30
    clear A30
    by_cases c4 : t101 = true
    · subst c4
      have H1 : (some (a0, 0)) = some (r1, r2) := by rw [if_pos rfl] at H; exact H
      clear H
      have H := H1
      clear H1
      simp only [Option.some.injEq, Prod.mk.injEq] at H
      obtain ⟨rfl, rfl⟩ := H
      go_enter Tryz.func113, Tryz.ntmps113
      go_wp2_with (first | ((with_reducible refine gate_callee (f := 65) rfl ?_); refine goesL_ (some 8) rfl rfl Tryz.func65 (by kernel_rfl) rfl #[.string a0] rfl (by (try simp only [List.map_toArray, List.map_cons, List.map_nil]); first | done | rfl | (simp only [List.length_drop, List.length_take]; rfl)) ?_; (with_reducible refine (text_Valid.calls a0 true _ A3.out).mono ?_); rintro e w5 ⟨rfl, hb⟩; refine ⟨_, rfl, ?_⟩; have n0_ := Aside0.mk (below_step (by repeat (first | (with_reducible first | exact HB.out | apply below_alloc | apply pw_below_drewN | apply below_drew1) | exact HB.out)) hb); clear HB; have HB := n0_; clear n0_; (try clear hb); (try clear hb2); (try clear hk); (try clear hi)))
      go_ret2
      exact ⟨by first | rfl | (simp [errW_none, errW_some] <;> rfl) | (simp [*, errW_none, errW_some] <;> rfl), by repeat (first | (with_reducible first | exact HB.out | apply below_alloc | apply pw_below_drewN | apply below_drew1) | exact HB.out)⟩
    · replace c4 := Bool.eq_false_iff.mpr c4
      subst c4
      have H1 : (some ((⟨#[]⟩ : ByteArray), 8)) = some (r1, r2) := by rw [if_neg (show ¬ (false = true) by decide)] at H; exact H
      clear H
      have H := H1
      clear H1
      simp only [Option.some.injEq, Prod.mk.injEq] at H
      obtain ⟨rfl, rfl⟩ := H
      go_enter Tryz.func113, Tryz.ntmps113
      go_wp2_with (first | ((with_reducible refine gate_callee (f := 65) rfl ?_); refine goesL_ (some 8) rfl rfl Tryz.func65 (by kernel_rfl) rfl #[.string a0] rfl (by (try simp only [List.map_toArray, List.map_cons, List.map_nil]); first | done | rfl | (simp only [List.length_drop, List.length_take]; rfl)) ?_; (with_reducible refine (text_Valid.calls a0 false _ A3.out).mono ?_); rintro e w6 ⟨rfl, hb⟩; refine ⟨_, rfl, ?_⟩; have n0_ := Aside0.mk (below_step (by repeat (first | (with_reducible first | exact HB.out | apply below_alloc | apply pw_below_drewN | apply below_drew1) | exact HB.out)) hb); clear HB; have HB := n0_; clear n0_; (try clear hb); (try clear hb2); (try clear hk); (try clear hi)))
      go_ret2
      exact ⟨by first | rfl | (simp [errW_none, errW_some] <;> rfl) | (simp [*, errW_none, errW_some] <;> rfl), by repeat (first | (with_reducible first | exact HB.out | apply below_alloc | apply pw_below_drewN | apply below_drew1) | exact HB.out)⟩

end Go.Proofs.YtlekfhnlhdmekaaGreatDoor.T

-- Written by a program of this session (mp.py over the kit's print.py), out of the translation.
namespace Go.Proofs.YtlekfhnlhdmekaaGreatDoor.T
set_option linter.unusedSimpArgs false
open Go.RowKit Go.Proofs.YtlekfhnlhdmekaaGreatDoorW.PrintWords Go.Proofs.YtlekfhnlhdmekaaGreatDoorW.PrintLast Go.Proofs.YtlekfhnlhdmekaaGreatDoorW.PrintMore
attribute [local go_sem] max2_int min2_int max_two min_two max_three min_three max_four min_four   -- for this text's walks alone
set_option linter.unusedVariables false
set_option linter.unusedSimpArgs false

/-! ### text_digit: function 158 -/
def text_digit.j0 : Nat → Int → Int → Bool → Option (Int)
  | 0, _, _, _ => none
  | k + 1, x0, x1, x11 => if x11 = true then ((strings_IndexByte.f (⟨#[48, 49, 50, 51, 52, 53, 54, 55, 56, 57, 65, 66, 67, 68, 69, 70]⟩ : ByteArray) ((x0 - 32) % 256)).bind fun t143 => (if t143 ≥ x1 then (some (-1)) else (some t143))) else ((strings_IndexByte.f (⟨#[48, 49, 50, 51, 52, 53, 54, 55, 56, 57, 65, 66, 67, 68, 69, 70]⟩ : ByteArray) x0).bind fun t144 => (if t144 ≥ x1 then (some (-1)) else (some t144)))
def text_digit.f (k : Nat) (a0 : Int) (a1 : Int) : Option (Int) := if a0 ≥ 97 then (text_digit.j0 k a0 a1 (decide (a0 ≤ 102))) else (text_digit.j0 k a0 a1 false)
theorem text_digit.mono_l : ∀ k, (∀ y0 y1 y2, LeO (text_digit.j0 k y0 y1 y2) (text_digit.j0 (k + 1) y0 y1 y2))
  | 0 => fun _ _ _ r h => by simp [text_digit.j0] at h
  | k + 1 => by
    have ih0 := text_digit.mono_l k
    · intro y0 y1 y2
      unfold text_digit.j0
      repeat' first
      | (with_reducible exact ih0 _ _ _)
      | (with_reducible exact LeO.refl _)
      | (with_reducible exact LeO.none _)
      | (with_reducible refine LeO.ite ?_ ?_)
      | (with_reducible refine LeO.bind ?_ (fun _ => ?_))
      | exact ih0 _ _ _
      | exact LeO.none _
      | refine LeO.ite ?_ ?_
      | refine LeO.bind ?_ (fun _ => ?_)
theorem text_digit.mono : ∀ a0 a1 k, LeO (text_digit.f k a0 a1) (text_digit.f (k + 1) a0 a1) := by
  intro a0 a1 k
  have ih0 := text_digit.mono_l k
  unfold text_digit.f
  repeat' first
      | (with_reducible exact ih0 _ _ _)
      | (with_reducible exact LeO.refl _)
      | (with_reducible exact LeO.none _)
      | (with_reducible refine LeO.ite ?_ ?_)
      | (with_reducible refine LeO.bind ?_ (fun _ => ?_))
      | exact ih0 _ _ _
      | exact LeO.none _
      | refine LeO.ite ?_ ?_
      | refine LeO.bind ?_ (fun _ => ?_)
set_option maxHeartbeats 8000000 in
set_option maxRecDepth 100000 in
theorem text_digit.calls (k : Nat) (a0 : Int) (a1 : Int) (r : Int) (w : World) (h : text_digit.f k a0 a1 = some r) :
    Calls Tryz.prog 158 #[.int .u8 a0, .int .i64 a1] w fun e w' => e = .returned (.int .i64 r) ∧ Drawn0 w w' := by
  have H : (if a0 ≥ 97 then (text_digit.j0 k a0 a1 (decide (a0 ≤ 102))) else (text_digit.j0 k a0 a1 false)) = some r := h
  clear h
  have HC3 := Aside0.mk H
  clear H
  go_enter Tryz.func158, Tryz.ntmps158
  go_upto_region 1 with (fail)
  go_cut [11] (fun v11 wc => ∃ (kq : Nat) (x11_2 : Bool), v11 = .bool x11_2 ∧ Aside0 (text_digit.j0 kq a0 a1 x11_2 = some r) ∧ Aside0 (kq ≤ k) ∧ Drawn0 w wc)
  case first =>
    have H := HC3.out
    clear HC3
    by_cases c4 : a0 ≥ 97
    · rw [if_pos c4] at H
      have c4b0 : decide (97 ≤ a0) = true := decide_eq_true c4
      clear c4
      (first | rw [c4b0] | (simp only [i64_w, i32_w]; rw [c4b0]) | skip)
      have H' := Aside0.mk H
      clear H
      go_wp2
      go_meet
      case rel => exact ⟨_, (decide (a0 ≤ 102)), (by first | rfl | (simp; done) | (simp [*]; done)), H', ⟨by first | omega | exact Nat.le_refl _⟩, by repeat (first | exact Drawn0.refl _ | apply Drawn0.step)⟩
    · rw [if_neg c4] at H
      have c4b0 : decide (97 ≤ a0) = false := decide_eq_false c4
      clear c4
      (first | rw [c4b0] | (simp only [i64_w, i32_w]; rw [c4b0]) | skip)
      have H' := Aside0.mk H
      clear H
      go_wp2
      go_meet
      case rel => exact ⟨_, (false), (by first | rfl | (simp; done) | (simp [*]; done)), H', ⟨by first | omega | exact Nat.le_refl _⟩, by repeat (first | exact Drawn0.refl _ | apply Drawn0.step)⟩
  case rest =>
    clear HC3
    try clear c1
    try clear p2
    try clear c4
    try clear c4b0
    obtain ⟨kq, x11_2, rfl, HA, HJ2, ⟨mc2, rfl⟩⟩ := hcut
    cases kq with
    | zero => exact absurd HA.out (by simp [text_digit.j0])
    | succ kj2 =>
      have H := HA.out
      clear HA
      simp only [text_digit.j0] at H
      by_cases c5 : x11_2 = true
      · subst c5
        have H1 : ((strings_IndexByte.f (⟨#[48, 49, 50, 51, 52, 53, 54, 55, 56, 57, 65, 66, 67, 68, 69, 70]⟩ : ByteArray) ((a0 - 32) % 256)).bind fun t143 => (if t143 ≥ a1 then (some (-1)) else (some t143))) = some r := by rw [if_pos rfl] at H; exact H
        clear H
        have H := H1
        clear H1
        replace H := Option.bind_eq_some_iff.mp H
        obtain ⟨t143, A60, H⟩ := H
        replace H : (if t143 ≥ a1 then (some (-1)) else (some t143)) = some r := H
        have A6 := Aside0.mk A60
        clear A60
        by_cases c7 : t143 ≥ a1
        · rw [if_pos c7] at H
          have c7b0 : decide (a1 ≤ t143) = true := decide_eq_true c7
          clear c7
          obtain rfl := Option.some.inj H
          go_wp2_with (first | ((with_reducible refine gate_callee (f := 181) rfl ?_); refine goesL_ (some 15) rfl rfl Tryz.func181 (by kernel_rfl) rfl #[.string (⟨#[48, 49, 50, 51, 52, 53, 54, 55, 56, 57, 65, 66, 67, 68, 69, 70]⟩ : ByteArray), .int .u8 ((a0 - 32) % 256)] rfl (by (try simp only [List.map_toArray, List.map_cons, List.map_nil]); first | done | rfl | (simp only [List.length_drop, List.length_take]; rfl)) ?_; (with_reducible refine (strings_IndexByte.calls (⟨#[48, 49, 50, 51, 52, 53, 54, 55, 56, 57, 65, 66, 67, 68, 69, 70]⟩ : ByteArray) ((a0 - 32) % 256) t143 _ A6.out).mono ?_); rintro e w' ⟨rfl, ⟨nd, rfl⟩⟩; refine ⟨_, rfl, ?_⟩))
          go_ret
          exact ⟨by first | rfl | (simp; done) | (simp [*]; done), by repeat (first | exact Drawn0.refl _ | apply Drawn0.step)⟩
        · rw [if_neg c7] at H
          have c7b0 : decide (a1 ≤ t143) = false := decide_eq_false c7
          clear c7
          obtain rfl := Option.some.inj H
          go_wp2_with (first | ((with_reducible refine gate_callee (f := 181) rfl ?_); refine goesL_ (some 15) rfl rfl Tryz.func181 (by kernel_rfl) rfl #[.string (⟨#[48, 49, 50, 51, 52, 53, 54, 55, 56, 57, 65, 66, 67, 68, 69, 70]⟩ : ByteArray), .int .u8 ((a0 - 32) % 256)] rfl (by (try simp only [List.map_toArray, List.map_cons, List.map_nil]); first | done | rfl | (simp only [List.length_drop, List.length_take]; rfl)) ?_; (with_reducible refine (strings_IndexByte.calls (⟨#[48, 49, 50, 51, 52, 53, 54, 55, 56, 57, 65, 66, 67, 68, 69, 70]⟩ : ByteArray) ((a0 - 32) % 256) t143 _ A6.out).mono ?_); rintro e w' ⟨rfl, ⟨nd, rfl⟩⟩; refine ⟨_, rfl, ?_⟩))
          go_ret
          exact ⟨by first | rfl | (simp; done) | (simp [*]; done), by repeat (first | exact Drawn0.refl _ | apply Drawn0.step)⟩
      · replace c5 := Bool.eq_false_iff.mpr c5
        subst c5
        have H1 : ((strings_IndexByte.f (⟨#[48, 49, 50, 51, 52, 53, 54, 55, 56, 57, 65, 66, 67, 68, 69, 70]⟩ : ByteArray) a0).bind fun t144 => (if t144 ≥ a1 then (some (-1)) else (some t144))) = some r := by rw [if_neg (show ¬ (false = true) by decide)] at H; exact H
        clear H
        have H := H1
        clear H1
        replace H := Option.bind_eq_some_iff.mp H
        obtain ⟨t144, A80, H⟩ := H
        replace H : (if t144 ≥ a1 then (some (-1)) else (some t144)) = some r := H
        have A8 := Aside0.mk A80
        clear A80
        by_cases c9 : t144 ≥ a1
        · rw [if_pos c9] at H
          have c9b0 : decide (a1 ≤ t144) = true := decide_eq_true c9
          clear c9
          obtain rfl := Option.some.inj H
          go_wp2_with (first | ((with_reducible refine gate_callee (f := 181) rfl ?_); refine goesL_ (some 15) rfl rfl Tryz.func181 (by kernel_rfl) rfl #[.string (⟨#[48, 49, 50, 51, 52, 53, 54, 55, 56, 57, 65, 66, 67, 68, 69, 70]⟩ : ByteArray), .int .u8 a0] rfl (by (try simp only [List.map_toArray, List.map_cons, List.map_nil]); first | done | rfl | (simp only [List.length_drop, List.length_take]; rfl)) ?_; (with_reducible refine (strings_IndexByte.calls (⟨#[48, 49, 50, 51, 52, 53, 54, 55, 56, 57, 65, 66, 67, 68, 69, 70]⟩ : ByteArray) a0 t144 _ A8.out).mono ?_); rintro e w' ⟨rfl, ⟨nd, rfl⟩⟩; refine ⟨_, rfl, ?_⟩))
          go_ret
          exact ⟨by first | rfl | (simp; done) | (simp [*]; done), by repeat (first | exact Drawn0.refl _ | apply Drawn0.step)⟩
        · rw [if_neg c9] at H
          have c9b0 : decide (a1 ≤ t144) = false := decide_eq_false c9
          clear c9
          obtain rfl := Option.some.inj H
          go_wp2_with (first | ((with_reducible refine gate_callee (f := 181) rfl ?_); refine goesL_ (some 15) rfl rfl Tryz.func181 (by kernel_rfl) rfl #[.string (⟨#[48, 49, 50, 51, 52, 53, 54, 55, 56, 57, 65, 66, 67, 68, 69, 70]⟩ : ByteArray), .int .u8 a0] rfl (by (try simp only [List.map_toArray, List.map_cons, List.map_nil]); first | done | rfl | (simp only [List.length_drop, List.length_take]; rfl)) ?_; (with_reducible refine (strings_IndexByte.calls (⟨#[48, 49, 50, 51, 52, 53, 54, 55, 56, 57, 65, 66, 67, 68, 69, 70]⟩ : ByteArray) a0 t144 _ A8.out).mono ?_); rintro e w' ⟨rfl, ⟨nd, rfl⟩⟩; refine ⟨_, rfl, ?_⟩))
          go_ret
          exact ⟨by first | rfl | (simp; done) | (simp [*]; done), by repeat (first | exact Drawn0.refl _ | apply Drawn0.step)⟩

end Go.Proofs.YtlekfhnlhdmekaaGreatDoor.T

/- What the walks ask of the library's variables: TabOK; and that a row's listed variables give it. -/
namespace Go.Proofs.YtlekfhnlhdmekaaGreatDoor.T
set_option linter.unusedSimpArgs false
set_option linter.unusedVariables false
open Go.RowKit Go.Proofs.YtlekfhnlhdmekaaGreatDoorW.PrintWords Go.Proofs.YtlekfhnlhdmekaaGreatDoorW.PrintLast Go.Proofs.YtlekfhnlhdmekaaGreatDoorW.PrintMore

/-- The variables of the library's that the callees read, as their initialisers lay them. -/
structure TabOK (w : World) : Prop where
  most : ∃ m, w.cell? ⟨0, 0, none⟩ = some (.int .i64 m)
  space : Lib.TabIs Tryz.prog w "strings.asciiSpace" .u8 Lib.asciiSpaceTab
  white : Lib.WhiteTab 2 w
theorem TabOK.of_below {w w' : World} (h : TabOK w) (hb : Below w.heap.size w w') : TabOK w' where
  most := by
    obtain ⟨m, hm⟩ := h.most
    exact ⟨m, pw_cell_below hb hm⟩
  space := by
    have h := h.space
    have hgn : Tryz.prog.globalNamed "strings.asciiSpace" = some 1 := by kernel_rfl
    unfold Lib.TabIs World.var? at h ⊢
    rw [hgn] at h ⊢
    simp only [Option.bind_some] at h ⊢
    have hlt : 1 < w.heap.size := by
      rcases Nat.lt_or_ge 1 w.heap.size with h' | h'
      · exact h'
      · rw [Array.getElem?_eq_none h'] at h; cases h
    rw [hb.block 1 hlt]
    exact h
  white := WhiteTab_below h.white hb
theorem tabIs_of_reads {P : Program} {W : World} {name : String} {k : IntKind} {zs : List Int} {g : Nat} {t e : TypeId} {n : Nat}
    (hg : P.globalNamed name = some g) (hty : (P.globals[g]?).map (·.type) = some t) (ht : P.underlying t = some (.array n e)) (he : P.underlying e = some (.int k)) (hce : P.cellsOf e = 1) (hct : P.cellsOf t = n)
    (h : Lib.VarReads P W name (Lib.tabData k zs)) : Lib.TabIs P W name k zs := by
  obtain ⟨g', t', cs, fuel, p, hg', ht', hvar, hd⟩ := h
  obtain rfl := Option.some.inj (hg.symm.trans hg')
  obtain rfl := Option.some.inj (hty.symm.trans ht')
  unfold Lib.TabIs
  rw [hvar, ← Lib.cells_of_tab ht he hce hct hd]
theorem tabOK_of (W : World) (hsh : W.ShapedOpen Tryz.prog) (h1 : Lib.VarReads Tryz.prog W "strings.asciiSpace" (Lib.tabData .u8 Lib.asciiSpaceTab)) (h2 : Lib.VarReads Tryz.prog W "unicode.White_Space" Lib.whiteData) : TabOK W where
  most := Tryz.laysM155.s1_3 W hsh
  space := tabIs_of_reads (g := 1) (t := 89) (e := 5) (n := 256) (by kernel_rfl) (by kernel_rfl) (by kernel_rfl) Tryz.underlying5 (by kernel_rfl) (by kernel_rfl) h1
  white := whiteTab_of_reads Tryz.lays199 ⟨by kernel_rfl, by kernel_rfl, by kernel_rfl, by kernel_rfl, by kernel_rfl, by kernel_rfl, by kernel_rfl, by kernel_rfl⟩ h2
end Go.Proofs.YtlekfhnlhdmekaaGreatDoor.T

/- text.in returns the words of a string; strings.ReplaceAll with a part that is not empty. -/
namespace Go.Proofs.YtlekfhnlhdmekaaGreatDoor.T
set_option linter.unusedSimpArgs false
set_option linter.unusedVariables false
open Go.RowKit Go.Proofs.YtlekfhnlhdmekaaGreatDoorW.PrintWords Go.Proofs.YtlekfhnlhdmekaaGreatDoorW.PrintLast Go.Proofs.YtlekfhnlhdmekaaGreatDoorW.PrintMore

def strings_ReplaceAll.f (a0 a1 a2 : ByteArray) : Option ByteArray :=
  if a0.size ≤ 100000 ∧ 1 ≤ a1.size ∧ a0.size + Lib.countB a0 a1 * a2.size ≤ 100000000 then some ⟨(Lib.replaceAll a0.data.toList a1.data.toList a2.data.toList).toArray⟩ else none
theorem strings_ReplaceAll.calls (a0 a1 a2 : ByteArray) (r : ByteArray) (w : World) (hT : TabOK w) (h : strings_ReplaceAll.f a0 a1 a2 = some r) :
    Calls Tryz.prog 132 #[.string a0, .string a1, .string a2] w fun e w' => e = .returned (.string r) ∧ Below w.heap.size w w' := by
  unfold strings_ReplaceAll.f at h
  split at h
  · next hc =>
    obtain rfl := Option.some.inj h
    obtain ⟨m, hm⟩ := hT.most
    exact Tryz.strings_ReplaceAll a0 a1 a2 m w (by omega) hm hc.2.1 (by omega)
  · cases h

def text_in.f (a0 : ByteArray) : Option (List ByteArray) := if a0.size ≤ 100000 then some ((Lib.fieldsD a0.data.toList).map fun x => ⟨x.toArray⟩) else none
theorem text_in.calls (a0 : ByteArray) (r : List ByteArray) (w : World) (hT : TabOK w) (h : text_in.f a0 = some r) :
    Calls Tryz.prog 127 #[.string a0] w fun e w' => ∃ v0_ : Value, e = .returned v0_ ∧ Kd.R Kd.string 9 w' w.heap.size (fun _ => True) v0_ r ∧ Below w.heap.size w w' := by
  unfold text_in.f at h
  by_cases hc : a0.size ≤ 100000
  · rw [if_pos hc] at h
    obtain rfl := Option.some.inj h
    have H := Lib.hid (Tryz.strings_Fields_any a0 w (by omega) hT.space hT.white)
    clear h hT
    go_enter Tryz.func127, Tryz.ntmps127
    go_wp2_with (go_at_call 155; refine H.out.mono ?_; rintro e w1 ⟨A, rfl, hA, hown, hb1⟩)
    go_ret
    refine ⟨_, rfl, ?_, hb1⟩
    refine Kd.R_of_own (enc := Value.string) (h1 := fun _ => rfl) ?_ (fun _ _ => trivial)
    have e : encs Value.string ((Lib.fieldsD a0.data.toList).map fun x => (⟨x.toArray⟩ : ByteArray)) = (Lib.fieldsD a0.data.toList).map fun x => Value.string ⟨x.toArray⟩ := by simp [encs, Function.comp_def]
    rw [e, List.length_map]
    exact hown
  · rw [if_neg hc] at h
    cases h
end Go.Proofs.YtlekfhnlhdmekaaGreatDoor.T

-- Written by a program of this session (mp.py over the kit's print.py), out of the translation.
namespace Go.Proofs.YtlekfhnlhdmekaaGreatDoor.T
set_option linter.unusedSimpArgs false
open Go.RowKit Go.Proofs.YtlekfhnlhdmekaaGreatDoorW.PrintWords Go.Proofs.YtlekfhnlhdmekaaGreatDoorW.PrintLast Go.Proofs.YtlekfhnlhdmekaaGreatDoorW.PrintMore
attribute [local go_sem] max2_int min2_int max_two min_two max_three min_three max_four min_four   -- for this text's walks alone
set_option linter.unusedVariables false
set_option linter.unusedSimpArgs false

/-! ### text_digits: function 131 -/
mutual
def text_digits.l0 : Nat → Int → Int → List Int → List ByteArray → Int → Int → Option (List Int × Bool)
  | 0, _, _, _, _, _, _ => none
  | k + 1, x1, x2, x8, x18, x19, x20 => if x20 < x19 then (if 0 ≤ x20 then (if x20 < (x18.length : Int) then (if x20 = 0 then (if x2 = 0 then (none) else (if 0 ≤ (Int.tmod (wrap64 (x2 - (((rdOf ByteArray.empty x18 x20).size : Int) % x2))) x2) then (if (Int.tmod (wrap64 (x2 - (((rdOf ByteArray.empty x18 x20).size : Int) % x2))) x2 : Int).toNat ≤ 35184372088832 then (text_digits.j1 k x1 x2 (List.replicate (Int.tmod (wrap64 (x2 - (((rdOf ByteArray.empty x18 x20).size : Int) % x2))) x2 : Int).toNat 0) (rdOf ByteArray.empty x18 x20) x18 x19 x20) else (none)) else (none))) else (if x2 = 0 then (none) else (if (((rdOf ByteArray.empty x18 x20).size : Int) % x2) = 0 then (text_digits.j1 k x1 x2 x8 (rdOf ByteArray.empty x18 x20) x18 x19 x20) else (some (([] : List Int), false))))) else (none)) else (none)) else (some (x8, true))
def text_digits.j1 : Nat → Int → Int → List Int → ByteArray → List ByteArray → Int → Int → Option (List Int × Bool)
  | 0, _, _, _, _, _, _, _ => none
  | k + 1, x1, x2, x8, x10, x18, x19, x20 => text_digits.l1 k x1 x2 x8 x10 x18 x19 x20 (x10.size : Int) 0
def text_digits.l1 : Nat → Int → Int → List Int → ByteArray → List ByteArray → Int → Int → Int → Int → Option (List Int × Bool)
  | 0, _, _, _, _, _, _, _, _, _ => none
  | k + 1, x1, x2, x8, x10, x18, x19, x20, x42, x43 => if x43 < x42 then (if 0 ≤ x43 then (if x43 < (x10.size : Int) then ((text_digit.f k (bt x10 x43) x1).bind fun t153 => (if t153 < 0 then (some (([] : List Int), false)) else (if x8.length < 17592186044416 then (text_digits.l1 k x1 x2 (x8 ++ [t153]) x10 x18 x19 x20 x42 (wrap64 (x43 + 1))) else (none)))) else (none)) else (none)) else (text_digits.l0 k x1 x2 x8 x18 x19 (wrap64 (x20 + 1)))
end
def text_digits.f (k : Nat) (a0 : ByteArray) (a1 : Int) (a2 : Int) : Option (List Int × Bool) := (strings_Trim.f a0 (⟨#[32]⟩ : ByteArray)).bind fun t145 => (if a0.toList = t145.toList then ((text_in.f a0).bind fun t146 => (text_digits.l0 k a1 a2 ([] : List Int) t146 (t146.length : Int) 0)) else (some (([] : List Int), false)))
theorem text_digits.mono_l : ∀ k, (∀ y0 y1 y2 y3 y4 y5, LeO (text_digits.l0 k y0 y1 y2 y3 y4 y5) (text_digits.l0 (k + 1) y0 y1 y2 y3 y4 y5)) ∧ (∀ y0 y1 y2 y3 y4 y5 y6, LeO (text_digits.j1 k y0 y1 y2 y3 y4 y5 y6) (text_digits.j1 (k + 1) y0 y1 y2 y3 y4 y5 y6)) ∧ (∀ y0 y1 y2 y3 y4 y5 y6 y7 y8, LeO (text_digits.l1 k y0 y1 y2 y3 y4 y5 y6 y7 y8) (text_digits.l1 (k + 1) y0 y1 y2 y3 y4 y5 y6 y7 y8))
  | 0 => ⟨fun _ _ _ _ _ _ r h => by simp [text_digits.l0] at h, fun _ _ _ _ _ _ _ r h => by simp [text_digits.j1] at h, fun _ _ _ _ _ _ _ _ _ r h => by simp [text_digits.l1] at h⟩
  | k + 1 => by
    obtain ⟨ih0, ih1, ih2⟩ := text_digits.mono_l k
    refine ⟨?_, ?_, ?_⟩
    · intro y0 y1 y2 y3 y4 y5
      unfold text_digits.l0
      repeat' first
      | (with_reducible exact ih0 _ _ _ _ _ _)
      | (with_reducible exact ih1 _ _ _ _ _ _ _)
      | (with_reducible exact ih2 _ _ _ _ _ _ _ _ _)
      | (with_reducible exact text_digit.mono _ _ _)
      | (with_reducible exact LeO.refl _)
      | (with_reducible exact LeO.none _)
      | (with_reducible refine LeO.ite ?_ ?_)
      | (with_reducible refine LeO.bind ?_ (fun _ => ?_))
      | exact ih0 _ _ _ _ _ _
      | exact ih1 _ _ _ _ _ _ _
      | exact ih2 _ _ _ _ _ _ _ _ _
      | exact text_digit.mono _ _ _
      | exact LeO.none _
      | refine LeO.ite ?_ ?_
      | refine LeO.bind ?_ (fun _ => ?_)
    · intro y0 y1 y2 y3 y4 y5 y6
      unfold text_digits.j1
      repeat' first
      | (with_reducible exact ih0 _ _ _ _ _ _)
      | (with_reducible exact ih1 _ _ _ _ _ _ _)
      | (with_reducible exact ih2 _ _ _ _ _ _ _ _ _)
      | (with_reducible exact text_digit.mono _ _ _)
      | (with_reducible exact LeO.refl _)
      | (with_reducible exact LeO.none _)
      | (with_reducible refine LeO.ite ?_ ?_)
      | (with_reducible refine LeO.bind ?_ (fun _ => ?_))
      | exact ih0 _ _ _ _ _ _
      | exact ih1 _ _ _ _ _ _ _
      | exact ih2 _ _ _ _ _ _ _ _ _
      | exact text_digit.mono _ _ _
      | exact LeO.none _
      | refine LeO.ite ?_ ?_
      | refine LeO.bind ?_ (fun _ => ?_)
    · intro y0 y1 y2 y3 y4 y5 y6 y7 y8
      unfold text_digits.l1
      repeat' first
      | (with_reducible exact ih0 _ _ _ _ _ _)
      | (with_reducible exact ih1 _ _ _ _ _ _ _)
      | (with_reducible exact ih2 _ _ _ _ _ _ _ _ _)
      | (with_reducible exact text_digit.mono _ _ _)
      | (with_reducible exact LeO.refl _)
      | (with_reducible exact LeO.none _)
      | (with_reducible refine LeO.ite ?_ ?_)
      | (with_reducible refine LeO.bind ?_ (fun _ => ?_))
      | exact ih0 _ _ _ _ _ _
      | exact ih1 _ _ _ _ _ _ _
      | exact ih2 _ _ _ _ _ _ _ _ _
      | exact text_digit.mono _ _ _
      | exact LeO.none _
      | refine LeO.ite ?_ ?_
      | refine LeO.bind ?_ (fun _ => ?_)
theorem text_digits.mono : ∀ a0 a1 a2 k, LeO (text_digits.f k a0 a1 a2) (text_digits.f (k + 1) a0 a1 a2) := by
  intro a0 a1 a2 k
  obtain ⟨ih0, ih1, ih2⟩ := text_digits.mono_l k
  unfold text_digits.f
  repeat' first
      | (with_reducible exact ih0 _ _ _ _ _ _)
      | (with_reducible exact ih1 _ _ _ _ _ _ _)
      | (with_reducible exact ih2 _ _ _ _ _ _ _ _ _)
      | (with_reducible exact text_digit.mono _ _ _)
      | (with_reducible exact LeO.refl _)
      | (with_reducible exact LeO.none _)
      | (with_reducible refine LeO.ite ?_ ?_)
      | (with_reducible refine LeO.bind ?_ (fun _ => ?_))
      | exact ih0 _ _ _ _ _ _
      | exact ih1 _ _ _ _ _ _ _
      | exact ih2 _ _ _ _ _ _ _ _ _
      | exact text_digit.mono _ _ _
      | exact LeO.none _
      | refine LeO.ite ?_ ?_
      | refine LeO.bind ?_ (fun _ => ?_)
set_option maxHeartbeats 8000000 in
set_option maxRecDepth 100000 in
theorem text_digits.calls (k : Nat) (a0 : ByteArray) (a1 : Int) (a2 : Int) (r1 : List Int) (r2 : Bool) (w : World) (hT : TabOK w) (h : text_digits.f k a0 a1 a2 = some (r1, r2)) :
    Calls Tryz.prog 131 #[.string a0, .int .i64 a1, .int .i64 a2] w fun e w' => ∃ v0_ : Value, e = .returned (.tuple #[v0_, .bool r2]) ∧ Kd.R (Kd.int .i64) 3 w' w.heap.size (fun _ => True) v0_ r1 ∧ Below w.heap.size w w' := by
  have HB := Aside0.mk (Below.refl w.heap.size w)
  have H : ((strings_Trim.f a0 (⟨#[32]⟩ : ByteArray)).bind fun t145 => (if a0.toList = t145.toList then ((text_in.f a0).bind fun t146 => (text_digits.l0 k a1 a2 ([] : List Int) t146 (t146.length : Int) 0)) else (some (([] : List Int), false)))) = some (r1, r2) := h
  clear h
  replace H := Option.bind_eq_some_iff.mp H
  obtain ⟨t145, A40, H⟩ := H
  replace H : (if a0.toList = t145.toList then ((text_in.f a0).bind fun t146 => (text_digits.l0 k a1 a2 ([] : List Int) t146 (t146.length : Int) 0)) else (some (([] : List Int), false))) = some (r1, r2) := H
  have A4 := Aside0.mk A40
  clear A40
  by_cases c5 : a0.toList = t145.toList
  · rw [if_pos c5] at H
    have c5b0 : (a0.toList == t145.toList) = true := beq_iff_eq.mpr c5
    have c5b1 : (a0.toList != t145.toList) = false := bne_eq_false_iff_eq.mpr c5
    clear c5
    replace H := Option.bind_eq_some_iff.mp H
    obtain ⟨t146, A60, H⟩ := H
    replace H : (text_digits.l0 k a1 a2 ([] : List Int) t146 (t146.length : Int) 0) = some (r1, r2) := H
    have A6 := Aside0.mk A60
    clear A60
    have H' := Aside0.mk H
    clear H
    go_enter Tryz.func131, Tryz.ntmps131
    go_wp2_with (first | ((with_reducible refine gate_callee (f := 157) rfl ?_); refine goesL_ (some 15) rfl rfl Tryz.func157 (by kernel_rfl) rfl #[.string a0, .string (⟨#[32]⟩ : ByteArray)] rfl (by (try simp only [List.map_toArray, List.map_cons, List.map_nil]); first | done | rfl | (simp only [List.length_drop, List.length_take]; rfl)) ?_; (with_reducible refine (strings_Trim.calls a0 (⟨#[32]⟩ : ByteArray) t145 _ A4.out).mono ?_); rintro e w' ⟨rfl, ⟨nd, rfl⟩⟩; refine ⟨_, rfl, ?_⟩) | ((with_reducible refine gate_callee (f := 127) rfl ?_); refine goesL_ (some 18) rfl rfl Tryz.func127 (by kernel_rfl) rfl #[.string a0] rfl (by (try simp only [List.map_toArray, List.map_cons, List.map_nil]); first | done | rfl | (simp only [List.length_drop, List.length_take]; rfl)) ?_; (with_reducible refine (text_in.calls a0 t146 _ (TabOK.of_below hT (by repeat (first | (with_reducible first | exact HB.out | apply below_alloc | apply pw_below_drewN | apply below_drew1) | exact HB.out))) A6.out).mono ?_); rintro e w7 ⟨v147, rfl, ho0, hb⟩; refine ⟨_, rfl, ?_⟩; have n0_ := Aside0.mk (Kd.R_lower ho0 (below_size (by repeat (first | (with_reducible first | exact HB.out | apply below_alloc | apply pw_below_drewN | apply below_drew1) | exact HB.out)))); have n1_ := Aside0.mk (below_step (by repeat (first | (with_reducible first | exact HB.out | apply below_alloc | apply pw_below_drewN | apply below_drew1) | exact HB.out)) hb); clear HB; have HO148 := n0_; have HB := n1_; clear n0_ n1_; (try clear hb); (try clear hb2); (try clear hk); (try clear hi); (try clear ho0); obtain ⟨Ao8, co8, eo8⟩ := Kd.R_slice HO148.out; subst eo8))
    go_loopg [8, 20] k (fun kq v8 v20 w' => ∃ (x8_1 : List Int) (x20_1 : Int), v20 = .int .i64 x20_1 ∧ Aside0 (text_digits.l0 kq a1 a2 x8_1 t146 (t146.length : Int) x20_1 = some (r1, r2)) ∧ Aside0 (kq ≤ k) ∧ Aside0 (Kd.R (Kd.int .i64) 3 w' w.heap.size (fun _ => True) v8 x8_1) ∧ Aside0 (Kd.R Kd.string 9 w' w.heap.size (fun _ => True) (.slice Ao8 t146.length co8) t146) ∧ Aside0 (Below w.heap.size w w'))
    case atStart => exact ⟨(([] : List Int)), (0), (by first | rfl | (simp; done) | (simp [*]; done)), H', ⟨Nat.le_refl _⟩, ⟨by first | exact Kd.R_nil _ _ _ _ _ | exact Kd.N_nil _ _ _ _ _ | exact Kd.V_nil _ _ _ _ _ | exact Kd.Q_nil _ _ _ _ _ | exact Kd.S_nil _ _ _ _ _⟩, ⟨by (with_reducible repeat (first | apply Kd.R_alloc | apply Kd.R_drewN | apply Kd.R_drew)); exact HO148.out⟩, ⟨by repeat (first | (with_reducible first | exact HB.out | apply below_alloc | apply pw_below_drewN | apply below_drew1) | exact HB.out)⟩⟩
    case round =>
      clear H'
      try clear c1
      try clear p2
      try clear c5
      try clear c5b0
      try clear c5b1
      obtain ⟨x8_1, x20_1, rfl, HA, HK1, HO_8, HO_18, HB⟩ := hrel
      cases gk with
      | zero => exact absurd HA.out (by simp [text_digits.l0])
      | succ k1 =>
        have H := HA.out
        clear HA
        simp only [text_digits.l0] at H
        by_cases c9 : x20_1 < (t146.length : Int)
        · rw [if_pos c9] at H
          have c9b0 : decide (x20_1 < (t146.length : Int)) = true := decide_eq_true c9
          clear c9
          by_cases c10 : 0 ≤ x20_1
          · rw [if_pos c10] at H
            have c10b0 : decide (0 ≤ x20_1) = true := decide_eq_true c10
            clear c10
            by_cases c11 : x20_1 < (t146.length : Int)
            · rw [if_pos c11] at H
              have c11b0 : decide (x20_1 < (t146.length : Int)) = true := decide_eq_true c11
              clear c11
              have HC12 := Aside0.mk H
              clear H
              have p149 : 0 ≤ (x20_1 : Int) := of_decide_eq_true (by first | (with_reducible assumption) | assumption)
              have q149 : x20_1 < (t146.length : Int) := of_decide_eq_true (by first | (with_reducible assumption) | assumption)
              obtain ⟨ad149, e149, hx149_0⟩ := Kd.at_string (Kd.R_reads' HO_18.out).2.2 x20_1 p149 q149
              cases e149
              replace p149 := eq_true p149
              replace q149 := eq_true q149
              go_upto_if 26 with (fail)
              go_cut [8] (fun v8 wc => ∃ (kq : Nat) (x8_11 : List Int), Aside0 (text_digits.j1 kq a1 a2 x8_11 (rdOf ByteArray.empty t146 x20_1) t146 (t146.length : Int) x20_1 = some (r1, r2)) ∧ Aside0 (kq ≤ k1) ∧ Aside0 (Kd.R (Kd.int .i64) 3 wc w.heap.size (fun _ => True) v8 x8_11) ∧ Aside0 (Kd.R Kd.string 9 wc w.heap.size (fun _ => True) (.slice (some ad149) t146.length co8) t146) ∧ Aside0 (Below w.heap.size w wc))
              case first =>
                have H := HC12.out
                clear HC12
                by_cases c13 : x20_1 = 0
                · rw [if_pos c13] at H
                  have c13b0 : (x20_1 == 0) = true := beq_iff_eq.mpr c13
                  have c13b1 : (x20_1 != 0) = false := bne_eq_false_iff_eq.mpr c13
                  clear c13
                  (first | rw [c13b0] | (simp only [i64_w, i32_w]; rw [c13b0]) | skip)
                  by_cases c14 : a2 = 0
                  · rw [if_pos c14] at H
                    exact absurd H (by simp)
                  · rw [if_neg c14] at H
                    have c14b0 : (a2 == 0) = false := beq_eq_false_iff_ne.mpr c14
                    have c14b1 : (a2 != 0) = true := bne_iff_ne.mpr c14
                    obtain ⟨ji15, hji15⟩ : ∃ j_ : Int, (Int.tmod (wrap64 (a2 - (((rdOf ByteArray.empty t146 x20_1).size : Int) % a2))) a2) = j_ := ⟨_, rfl⟩
                    replace H : (if 0 ≤ (ji15) then (if (ji15 : Int).toNat ≤ 35184372088832 then (text_digits.j1 k1 a1 a2 (List.replicate (ji15 : Int).toNat 0) (rdOf ByteArray.empty t146 x20_1) t146 (t146.length : Int) x20_1) else (none)) else (none)) = some (r1, r2) := by first | (rw [hji15] at H; exact H) | (simp only [hji15] at H ⊢; exact H)
                    by_cases c16 : 0 ≤ (ji15)
                    · rw [if_pos c16] at H
                      have c16b0 := eq_true c16
                      have c16b1 : decide (0 ≤ (ji15)) = true := decide_eq_true c16
                      clear c16
                      by_cases c17 : (ji15 : Int).toNat ≤ 35184372088832
                      · rw [if_pos c17] at H
                        have c17b0 := eq_true c17
                        have c17b1 : decide ((ji15 : Int).toNat ≤ 35184372088832) = true := decide_eq_true c17
                        clear c17
                        obtain ⟨y150, hy150⟩ : ∃ y_ : List Int, y_ = (List.replicate (ji15 : Int).toNat 0) := ⟨_, rfl⟩
                        replace H : (text_digits.j1 k1 a1 a2 y150 (rdOf ByteArray.empty t146 x20_1) t146 (t146.length : Int) x20_1) = some (r1, r2) := by first | (rw [hy150]; with_reducible exact H) | (have H2_ := (Option.bind_some _ _).symm.trans H; rw [hy150]; with_reducible exact H2_) | (have H2_ := (Option.bind_some _ _).symm.trans H; with_reducible exact H2_) | with_reducible exact H | (rw [hy150]; exact H) | exact H
                        have Ny150 := Aside0.mk hy150
                        clear hy150
                        have H' := Aside0.mk H
                        clear H
                        go_wp2_with (first | ((with_reducible refine gate_dst (N := 35) rfl ?_); refine Kd.R_make (Kd.int .i64) _ 3 rfl (N := 35) rfl 120 _ _ rfl ji15 rfl rfl Tryz.underlying120 (.int .i64 0) 8 info3 rfl (by decide) (by omega) 0 (ok := fun _ => True) (okp := fun _ => True) rfl (fun _ hk => hk) trivial (of_decide_eq_true (by first | (with_reducible assumption) | assumption)) (Nat.le_trans (Nat.mul_le_mul_right _ (of_decide_eq_true (by first | (with_reducible assumption) | assumption) : ji15.toNat ≤ 35184372088832)) (by omega)) (Below.refl _ _) (Nat.le_refl _) ?_; intro v151 w18 ho19 hb hg_ hnew_; clear hg_ hnew_; (first | rw [← Ny150.out] at ho19 | (simp only [Int.reduceToNat] at ho19; rw [← Ny150.out] at ho19)); have n0_ := Aside0.mk (Kd.R_elder' (by (with_reducible repeat (first | apply Kd.R_alloc | apply Kd.R_drewN | apply Kd.R_drew)); exact HO_8.out) (Kd.R_base ho19) hb); have n1_ := Aside0.mk (Kd.R_below (by (with_reducible repeat (first | apply Kd.R_alloc | apply Kd.R_drewN | apply Kd.R_drew)); exact HO_18.out) hb); have n2_ := Aside0.mk (Kd.R_lower (Kd.R_new' ho19 (Kd.R_lt (by (with_reducible repeat (first | apply Kd.R_alloc | apply Kd.R_drewN | apply Kd.R_drew)); exact HO_8.out))) (below_size (by repeat (first | (with_reducible first | exact HB.out | apply below_alloc | apply pw_below_drewN | apply below_drew1) | exact HB.out)))); have n3_ := Aside0.mk (below_step (by repeat (first | (with_reducible first | exact HB.out | apply below_alloc | apply pw_below_drewN | apply below_drew1) | exact HB.out)) hb); clear HO_8; clear HO_18; clear HB; have HO_8 := n0_; have HO_18 := n1_; have HO152 := n2_; have HB := n3_; clear n0_ n1_ n2_ n3_; clear hb ho19))
                        go_meet
                        case rel => exact ⟨_, (y150), H', ⟨by have := HK1.out; first | omega | exact Nat.le_refl _⟩, ⟨by (with_reducible repeat (first | apply Kd.R_alloc | apply Kd.R_drewN | apply Kd.R_drew)); exact Kd.R_mono HO152.out (fun _ hk => trivial)⟩, ⟨by (with_reducible repeat (first | apply Kd.R_alloc | apply Kd.R_drewN | apply Kd.R_drew)); exact HO_18.out⟩, ⟨by repeat (first | (with_reducible first | exact HB.out | apply below_alloc | apply pw_below_drewN | apply below_drew1) | exact HB.out)⟩⟩
                      · rw [if_neg c17] at H
                        exact absurd H (by simp)
                    · rw [if_neg c16] at H
                      exact absurd H (by simp)
                · rw [if_neg c13] at H
                  have c13b0 : (x20_1 == 0) = false := beq_eq_false_iff_ne.mpr c13
                  have c13b1 : (x20_1 != 0) = true := bne_iff_ne.mpr c13
                  (first | rw [c13b0] | (simp only [i64_w, i32_w]; rw [c13b0]) | skip)
                  by_cases c20 : a2 = 0
                  · rw [if_pos c20] at H
                    exact absurd H (by simp)
                  · rw [if_neg c20] at H
                    have c20b0 : (a2 == 0) = false := beq_eq_false_iff_ne.mpr c20
                    have c20b1 : (a2 != 0) = true := bne_iff_ne.mpr c20
                    by_cases c21 : (((rdOf ByteArray.empty t146 x20_1).size : Int) % a2) = 0
                    · rw [if_pos c21] at H
                      have c21b0 : ((((rdOf ByteArray.empty t146 x20_1).size : Int) % a2) == 0) = true := beq_iff_eq.mpr c21
                      have c21b1 : ((((rdOf ByteArray.empty t146 x20_1).size : Int) % a2) != 0) = false := bne_eq_false_iff_eq.mpr c21
                      clear c21
                      have H' := Aside0.mk H
                      clear H
                      go_wp2
                      go_meet
                      case rel => exact ⟨_, (x8_1), H', ⟨by have := HK1.out; first | omega | exact Nat.le_refl _⟩, ⟨by (with_reducible repeat (first | apply Kd.R_alloc | apply Kd.R_drewN | apply Kd.R_drew)); exact HO_8.out⟩, ⟨by (with_reducible repeat (first | apply Kd.R_alloc | apply Kd.R_drewN | apply Kd.R_drew)); exact HO_18.out⟩, ⟨by repeat (first | (with_reducible first | exact HB.out | apply below_alloc | apply pw_below_drewN | apply below_drew1) | exact HB.out)⟩⟩
                    · rw [if_neg c21] at H
                      have c21b0 : ((((rdOf ByteArray.empty t146 x20_1).size : Int) % a2) == 0) = false := beq_eq_false_iff_ne.mpr c21
                      have c21b1 : ((((rdOf ByteArray.empty t146 x20_1).size : Int) % a2) != 0) = true := bne_iff_ne.mpr c21
                      simp only [Option.some.injEq, Prod.mk.injEq] at H
                      obtain ⟨rfl, rfl⟩ := H
                      go_wp2
                      go_ret2
                      exact ⟨_, by first | rfl | (simp [errW_none, errW_some] <;> rfl) | (simp [*, errW_none, errW_some] <;> rfl), by first | exact Kd.R_nil _ _ _ _ _ | exact Kd.N_nil _ _ _ _ _ | exact Kd.V_nil _ _ _ _ _ | exact Kd.Q_nil _ _ _ _ _ | exact Kd.S_nil _ _ _ _ _, by repeat (first | (with_reducible first | exact HB.out | apply below_alloc | apply pw_below_drewN | apply below_drew1) | exact HB.out)⟩
              case rest =>
                clear HC12
                try clear c1
                try clear p1
                try clear q1
                try clear hx1
                try clear c2
                try clear p2
                try clear c5
                try clear c5b0
                try clear c5b1
                try clear p6
                try clear c9
                try clear c9b0
                try clear c10
                try clear c10b0
                try clear c11
                try clear c11b0
                try clear c12
                try clear c13
                try clear c13b0
                try clear c13b1
                try clear c14
                try clear c14b0
                try clear c14b1
                try clear p14
                try clear q14
                try clear hx14
                try clear c15
                try clear c16
                try clear c16b0
                try clear c16b1
                try clear c17
                try clear c17b0
                try clear c17b1
                try clear c20
                try clear c20b0
                try clear c20b1
                try clear c21
                try clear c21b0
                try clear c21b1
                try clear hx149_0
                try clear p149
                try clear p2
                try clear q149
                obtain ⟨kq, x8_11, HA, HJ11, HO_8, HO_18, HB⟩ := hcut
                cases kq with
                | zero => exact absurd HA.out (by simp [text_digits.j1])
                | succ kj11 =>
                  have H := HA.out
                  clear HA
                  simp only [text_digits.j1] at H
                  have H' := Aside0.mk H
                  clear H
                  go_wp2
                  go_loopg [8, 43] kj11 (fun kq v8 v43 w' => ∃ (x8_3 : List Int) (x43_3 : Int), v43 = .int .i64 x43_3 ∧ Aside0 (text_digits.l1 kq a1 a2 x8_3 (rdOf ByteArray.empty t146 x20_1) t146 (t146.length : Int) x20_1 ((rdOf ByteArray.empty t146 x20_1).size : Int) x43_3 = some (r1, r2)) ∧ Aside0 (kq ≤ kj11) ∧ Aside0 (Kd.R (Kd.int .i64) 3 w' w.heap.size (fun _ => True) v8 x8_3) ∧ Aside0 (Kd.R Kd.string 9 w' w.heap.size (fun _ => True) (.slice (some ad149) t146.length co8) t146) ∧ Aside0 (Below w.heap.size w w'))
                  case atStart => exact ⟨(x8_11), (0), (by first | rfl | (simp; done) | (simp [*]; done)), H', ⟨Nat.le_refl _⟩, ⟨by (with_reducible repeat (first | apply Kd.R_alloc | apply Kd.R_drewN | apply Kd.R_drew)); exact HO_8.out⟩, ⟨by (with_reducible repeat (first | apply Kd.R_alloc | apply Kd.R_drewN | apply Kd.R_drew)); exact HO_18.out⟩, ⟨by repeat (first | (with_reducible first | exact HB.out | apply below_alloc | apply pw_below_drewN | apply below_drew1) | exact HB.out)⟩⟩
                  case round =>
                    clear H'
                    try clear c1
                    try clear p1
                    try clear q1
                    try clear hx1
                    try clear c2
                    try clear p2
                    try clear c5
                    try clear c5b0
                    try clear c5b1
                    try clear p6
                    try clear c9
                    try clear c9b0
                    try clear c10
                    try clear c10b0
                    try clear c11
                    try clear c11b0
                    try clear c12
                    try clear c13
                    try clear c13b0
                    try clear c13b1
                    try clear c14
                    try clear c14b0
                    try clear c14b1
                    try clear p14
                    try clear q14
                    try clear hx14
                    try clear c15
                    try clear c16
                    try clear c16b0
                    try clear c16b1
                    try clear c17
                    try clear c17b0
                    try clear c17b1
                    try clear c20
                    try clear c20b0
                    try clear c20b1
                    try clear c21
                    try clear c21b0
                    try clear c21b1
                    try clear hx149_0
                    try clear p1
                    try clear p14
                    try clear p149
                    try clear p2
                    try clear p6
                    try clear q1
                    try clear q14
                    try clear q149
                    obtain ⟨x8_3, x43_3, rfl, HA, HK3, HO_8, HO_18, HB⟩ := hrel
                    cases gk with
                    | zero => exact absurd HA.out (by simp [text_digits.l1])
                    | succ k3 =>
                      have H := HA.out
                      clear HA
                      simp only [text_digits.l1] at H
                      by_cases c22 : x43_3 < ((rdOf ByteArray.empty t146 x20_1).size : Int)
                      · rw [if_pos c22] at H
                        have c22b0 : decide (x43_3 < ((rdOf ByteArray.empty t146 x20_1).size : Int)) = true := decide_eq_true c22
                        clear c22
                        by_cases c23 : 0 ≤ x43_3
                        · rw [if_pos c23] at H
                          have c23b0 : decide (0 ≤ x43_3) = true := decide_eq_true c23
                          clear c23
                          by_cases c24 : x43_3 < ((rdOf ByteArray.empty t146 x20_1).size : Int)
                          · rw [if_pos c24] at H
                            have c24b0 : decide (x43_3 < ((rdOf ByteArray.empty t146 x20_1).size : Int)) = true := decide_eq_true c24
                            clear c24
                            replace H := Option.bind_eq_some_iff.mp H
                            obtain ⟨t153, A260, H⟩ := H
                            replace H : (if t153 < 0 then (some (([] : List Int), false)) else (if x8_3.length < 17592186044416 then (text_digits.l1 k3 a1 a2 (x8_3 ++ [t153]) (rdOf ByteArray.empty t146 x20_1) t146 (t146.length : Int) x20_1 ((rdOf ByteArray.empty t146 x20_1).size : Int) (wrap64 (x43_3 + 1))) else (none))) = some (r1, r2) := H
                            have A26 := Aside0.mk A260
                            clear A260
                            by_cases c27 : t153 < 0
                            · rw [if_pos c27] at H
                              have c27b0 : decide (t153 < 0) = true := decide_eq_true c27
                              clear c27
                              simp only [Option.some.injEq, Prod.mk.injEq] at H
                              obtain ⟨rfl, rfl⟩ := H
                              have p25 : 0 ≤ (x43_3 : Int) := of_decide_eq_true (by first | (with_reducible assumption) | assumption)
                              have q25 : x43_3 < ((rdOf ByteArray.empty t146 x20_1).size : Int) := of_decide_eq_true (by first | (with_reducible assumption) | assumption)
                              have hx25 := bt_at (rdOf ByteArray.empty t146 x20_1) x43_3
                              replace p25 := eq_true p25
                              replace q25 := eq_true q25
                              go_wp2_with (first | ((with_reducible refine gate_callee (f := 158) rfl ?_); refine goesL_ (some 50) rfl rfl Tryz.func158 (by kernel_rfl) rfl #[.int .u8 (bt (rdOf ByteArray.empty t146 x20_1) x43_3), .int .i64 a1] rfl (by (try simp only [List.map_toArray, List.map_cons, List.map_nil]); first | done | rfl | (simp only [List.length_drop, List.length_take]; rfl)) ?_; (with_reducible refine (text_digit.calls k3 (bt (rdOf ByteArray.empty t146 x20_1) x43_3) a1 t153 _ A26.out).mono ?_); rintro e w' ⟨rfl, ⟨nd, rfl⟩⟩; refine ⟨_, rfl, ?_⟩))
                              go_ret2
                              exact ⟨_, by first | rfl | (simp [errW_none, errW_some] <;> rfl) | (simp [*, errW_none, errW_some] <;> rfl), by first | exact Kd.R_nil _ _ _ _ _ | exact Kd.N_nil _ _ _ _ _ | exact Kd.V_nil _ _ _ _ _ | exact Kd.Q_nil _ _ _ _ _ | exact Kd.S_nil _ _ _ _ _, by repeat (first | (with_reducible first | exact HB.out | apply below_alloc | apply pw_below_drewN | apply below_drew1) | exact HB.out)⟩
                            · rw [if_neg c27] at H
                              have c27b0 : decide (t153 < 0) = false := decide_eq_false c27
                              clear c27
                              by_cases c28 : x8_3.length < 17592186044416
                              · rw [if_pos c28] at H
                                have LMc28 := Aside0.mk c28
                                clear c28
                                obtain ⟨y154, hy154⟩ : ∃ y_ : List Int, y_ = (x8_3 ++ [t153]) := ⟨_, rfl⟩
                                replace H : (text_digits.l1 k3 a1 a2 y154 (rdOf ByteArray.empty t146 x20_1) t146 (t146.length : Int) x20_1 ((rdOf ByteArray.empty t146 x20_1).size : Int) (wrap64 (x43_3 + 1))) = some (r1, r2) := by first | (rw [hy154]; with_reducible exact H) | (have H2_ := (Option.bind_some _ _).symm.trans H; rw [hy154]; with_reducible exact H2_) | (have H2_ := (Option.bind_some _ _).symm.trans H; with_reducible exact H2_) | with_reducible exact H | (rw [hy154]; exact H) | exact H
                                have Ny154 := Aside0.mk hy154
                                clear hy154
                                have H' := Aside0.mk H
                                clear H
                                have p25 : 0 ≤ (x43_3 : Int) := of_decide_eq_true (by first | (with_reducible assumption) | assumption)
                                have q25 : x43_3 < ((rdOf ByteArray.empty t146 x20_1).size : Int) := of_decide_eq_true (by first | (with_reducible assumption) | assumption)
                                have hx25 := bt_at (rdOf ByteArray.empty t146 x20_1) x43_3
                                replace p25 := eq_true p25
                                replace q25 := eq_true q25
                                go_wp2_with (first | ((with_reducible refine gate_callee (f := 158) rfl ?_); refine goesL_ (some 50) rfl rfl Tryz.func158 (by kernel_rfl) rfl #[.int .u8 (bt (rdOf ByteArray.empty t146 x20_1) x43_3), .int .i64 a1] rfl (by (try simp only [List.map_toArray, List.map_cons, List.map_nil]); first | done | rfl | (simp only [List.length_drop, List.length_take]; rfl)) ?_; (with_reducible refine (text_digit.calls k3 (bt (rdOf ByteArray.empty t146 x20_1) x43_3) a1 t153 _ A26.out).mono ?_); rintro e w' ⟨rfl, ⟨nd, rfl⟩⟩; refine ⟨_, rfl, ?_⟩) | ((with_reducible refine gate_builtin (b := .append) (xs := #[.tmp 53, .tmp 55]) rfl ?_); at_builtin; refine Kd.R_append (Kd.int .i64) (w0 := w) w.heap.size rfl (.tmp 53) (.tmp 55) 120 3 (.int .i64 0) 8 rfl Tryz.underlying120 info3 rfl (by decide) (by omega) u8 x8_3 t153 [.int .i64 t153] (fun _ => True) (fun _ => False) rfl rfl ?aP (fun _ hk => hk.elim) ?aF ?aO ?aB ?aS ?aL ?_; (case aP => exact rfl); (case aB => exact (by repeat (first | (with_reducible first | exact HB.out | apply below_alloc | apply pw_below_drewN | apply below_drew1) | exact HB.out))); (case aF => exact (fun _ _ => trivial)); (case aO => exact (by (with_reducible repeat (first | apply Kd.R_alloc | apply Kd.R_drewN | apply Kd.R_drew)); exact HO_8.out)); (case aS => exact (below_size (by repeat (first | (with_reducible first | exact HB.out | apply below_alloc | apply pw_below_drewN | apply below_drew1) | exact HB.out)))); (case aL => have := LMc28.out; omega); intro v155 w29 ho hb hg hat; rw [← Ny154.out] at ho; have n0_ := Aside0.mk (Kd.R_over' (by (with_reducible repeat (first | apply Kd.R_alloc | apply Kd.R_drewN | apply Kd.R_drew)); exact HO_18.out) (Kd.R_typed (by (with_reducible repeat (first | apply Kd.R_alloc | apply Kd.R_drewN | apply Kd.R_drew)); exact HO_8.out)) (by decide) hg); have n1_ := Aside0.mk (hb); have n2_ := Aside0.mk (ho); clear HO_18; clear HB; clear HO_8; have HO_18 := n0_; have HB := n1_; have HO156 := n2_; clear n0_ n1_ n2_; clear ho hb hg hat))
                                go_roundg k3
                                case measure => have := HK1.out; have := HJ11.out; have := HK3.out; omega
                                case rel => exact ⟨(y154), (wrap64 (x43_3 + 1)), (by first | rfl | (simp; done) | (simp [*]; done)), H', ⟨by have := HK1.out; have := HJ11.out; have := HK3.out; omega⟩, ⟨by (with_reducible repeat (first | apply Kd.R_alloc | apply Kd.R_drewN | apply Kd.R_drew)); exact HO156.out⟩, ⟨by (with_reducible repeat (first | apply Kd.R_alloc | apply Kd.R_drewN | apply Kd.R_drew)); exact HO_18.out⟩, ⟨by repeat (first | (with_reducible first | exact HB.out | apply below_alloc | apply pw_below_drewN | apply below_drew1) | exact HB.out)⟩⟩
                              · rw [if_neg c28] at H
                                exact absurd H (by simp)
                          · rw [if_neg c24] at H
                            exact absurd H (by simp)
                        · rw [if_neg c23] at H
                          exact absurd H (by simp)
                      · rw [if_neg c22] at H
                        have c22b0 : decide (x43_3 < ((rdOf ByteArray.empty t146 x20_1).size : Int)) = false := decide_eq_false c22
                        clear c22
                        have H' := Aside0.mk H
                        clear H
                        go_wp2
                        go_roundg k3
                        case measure => have := HK1.out; have := HJ11.out; have := HK3.out; omega
                        case rel => exact ⟨(x8_3), (wrap64 (x20_1 + 1)), (by first | rfl | (simp; done) | (simp [*]; done)), H', ⟨by have := HK1.out; have := HJ11.out; have := HK3.out; omega⟩, ⟨by (with_reducible repeat (first | apply Kd.R_alloc | apply Kd.R_drewN | apply Kd.R_drew)); exact HO_8.out⟩, ⟨by (with_reducible repeat (first | apply Kd.R_alloc | apply Kd.R_drewN | apply Kd.R_drew)); exact HO_18.out⟩, ⟨by repeat (first | (with_reducible first | exact HB.out | apply below_alloc | apply pw_below_drewN | apply below_drew1) | exact HB.out)⟩⟩
            · rw [if_neg c11] at H
              exact absurd H (by simp)
          · rw [if_neg c10] at H
            exact absurd H (by simp)
        · rw [if_neg c9] at H
          have c9b0 : decide (x20_1 < (t146.length : Int)) = false := decide_eq_false c9
          clear c9
          simp only [Option.some.injEq, Prod.mk.injEq] at H
          obtain ⟨rfl, rfl⟩ := H
          go_wp2
          go_ret2
          exact ⟨_, by first | rfl | (simp [errW_none, errW_some] <;> rfl) | (simp [*, errW_none, errW_some] <;> rfl), by (with_reducible repeat (first | apply Kd.R_alloc | apply Kd.R_drewN | apply Kd.R_drew)); exact HO_8.out, by repeat (first | (with_reducible first | exact HB.out | apply below_alloc | apply pw_below_drewN | apply below_drew1) | exact HB.out)⟩
  · rw [if_neg c5] at H
    have c5b0 : (a0.toList == t145.toList) = false := beq_eq_false_iff_ne.mpr c5
    have c5b1 : (a0.toList != t145.toList) = true := bne_iff_ne.mpr c5
    simp only [Option.some.injEq, Prod.mk.injEq] at H
    obtain ⟨rfl, rfl⟩ := H
    go_enter Tryz.func131, Tryz.ntmps131
    go_wp2_with (first | ((with_reducible refine gate_callee (f := 157) rfl ?_); refine goesL_ (some 15) rfl rfl Tryz.func157 (by kernel_rfl) rfl #[.string a0, .string (⟨#[32]⟩ : ByteArray)] rfl (by (try simp only [List.map_toArray, List.map_cons, List.map_nil]); first | done | rfl | (simp only [List.length_drop, List.length_take]; rfl)) ?_; (with_reducible refine (strings_Trim.calls a0 (⟨#[32]⟩ : ByteArray) t145 _ A4.out).mono ?_); rintro e w' ⟨rfl, ⟨nd, rfl⟩⟩; refine ⟨_, rfl, ?_⟩))
    go_ret2
    exact ⟨_, by first | rfl | (simp [errW_none, errW_some] <;> rfl) | (simp [*, errW_none, errW_some] <;> rfl), by first | exact Kd.R_nil _ _ _ _ _ | exact Kd.N_nil _ _ _ _ _ | exact Kd.V_nil _ _ _ _ _ | exact Kd.Q_nil _ _ _ _ _ | exact Kd.S_nil _ _ _ _ _, by repeat (first | (with_reducible first | exact HB.out | apply below_alloc | apply pw_below_drewN | apply below_drew1) | exact HB.out)⟩

end Go.Proofs.YtlekfhnlhdmekaaGreatDoor.T

-- Written by a program of this session (mp.py over the kit's print.py), out of the translation.
namespace Go.Proofs.YtlekfhnlhdmekaaGreatDoor.T
set_option linter.unusedSimpArgs false
open Go.RowKit Go.Proofs.YtlekfhnlhdmekaaGreatDoorW.PrintWords Go.Proofs.YtlekfhnlhdmekaaGreatDoorW.PrintLast Go.Proofs.YtlekfhnlhdmekaaGreatDoorW.PrintMore
attribute [local go_sem] max2_int min2_int max_two min_two max_three min_three max_four min_four   -- for this text's walks alone
set_option linter.unusedVariables false
set_option linter.unusedSimpArgs false

/-! ### text_X2C: function 76 -/
mutual
def text_X2C.j0 : Nat → List Int → Bool → Option (ByteArray × Int)
  | 0, _, _ => none
  | k + 1, x4, x19 => if x19 = true then (some ((⟨#[]⟩ : ByteArray), 1)) else (text_X2C.l0 k x4 ([] : List Int) 0)
def text_X2C.l0 : Nat → List Int → List Int → Int → Option (ByteArray × Int)
  | 0, _, _, _ => none
  | k + 1, x4, x6, x7 => if x7 < (x4.length : Int) then (if 0 ≤ x7 then (if 0 ≤ (wrap64 (x7 + 1)) then (if (wrap64 (x7 + 1)) < (x4.length : Int) then (if x6.length < 140737488355328 then (text_X2C.l0 k x4 (x6 ++ [(wrap64 ((wrap64 (16 * (rd x4 x7))) + (rd x4 (wrap64 (x7 + 1))))) % 256]) (wrap64 (x7 + 2))) else (none)) else (none)) else (none)) else (none)) else ((text_made.f (strOfNums x6)).bind fun bt167 => (some (bt167.1, bt167.2)))
end
def text_X2C.f (k : Nat) (a0 : ByteArray) : Option (ByteArray × Int) := (text_digits.f k a0 16 2).bind fun bt157 => (if bt157.2 = true then ((text_Valid.f a0).bind fun t161 => (text_X2C.j0 k bt157.1 (!t161))) else (text_X2C.j0 k bt157.1 true))
theorem text_X2C.mono_l : ∀ k, (∀ y0 y1, LeO (text_X2C.j0 k y0 y1) (text_X2C.j0 (k + 1) y0 y1)) ∧ (∀ y0 y1 y2, LeO (text_X2C.l0 k y0 y1 y2) (text_X2C.l0 (k + 1) y0 y1 y2))
  | 0 => ⟨fun _ _ r h => by simp [text_X2C.j0] at h, fun _ _ _ r h => by simp [text_X2C.l0] at h⟩
  | k + 1 => by
    obtain ⟨ih0, ih1⟩ := text_X2C.mono_l k
    refine ⟨?_, ?_⟩
    · intro y0 y1
      unfold text_X2C.j0
      repeat' first
      | (with_reducible exact ih0 _ _)
      | (with_reducible exact ih1 _ _ _)
      | (with_reducible exact text_digits.mono _ _ _ _)
      | (with_reducible exact LeO.refl _)
      | (with_reducible exact LeO.none _)
      | (with_reducible refine LeO.ite ?_ ?_)
      | (with_reducible refine LeO.bind ?_ (fun _ => ?_))
      | exact ih0 _ _
      | exact ih1 _ _ _
      | exact text_digits.mono _ _ _ _
      | exact LeO.none _
      | refine LeO.ite ?_ ?_
      | refine LeO.bind ?_ (fun _ => ?_)
    · intro y0 y1 y2
      unfold text_X2C.l0
      repeat' first
      | (with_reducible exact ih0 _ _)
      | (with_reducible exact ih1 _ _ _)
      | (with_reducible exact text_digits.mono _ _ _ _)
      | (with_reducible exact LeO.refl _)
      | (with_reducible exact LeO.none _)
      | (with_reducible refine LeO.ite ?_ ?_)
      | (with_reducible refine LeO.bind ?_ (fun _ => ?_))
      | exact ih0 _ _
      | exact ih1 _ _ _
      | exact text_digits.mono _ _ _ _
      | exact LeO.none _
      | refine LeO.ite ?_ ?_
      | refine LeO.bind ?_ (fun _ => ?_)
theorem text_X2C.mono : ∀ a0 k, LeO (text_X2C.f k a0) (text_X2C.f (k + 1) a0) := by
  intro a0 k
  obtain ⟨ih0, ih1⟩ := text_X2C.mono_l k
  unfold text_X2C.f
  repeat' first
      | (with_reducible exact ih0 _ _)
      | (with_reducible exact ih1 _ _ _)
      | (with_reducible exact text_digits.mono _ _ _ _)
      | (with_reducible exact LeO.refl _)
      | (with_reducible exact LeO.none _)
      | (with_reducible refine LeO.ite ?_ ?_)
      | (with_reducible refine LeO.bind ?_ (fun _ => ?_))
      | exact ih0 _ _
      | exact ih1 _ _ _
      | exact text_digits.mono _ _ _ _
      | exact LeO.none _
      | refine LeO.ite ?_ ?_
      | refine LeO.bind ?_ (fun _ => ?_)
def text_X2C.T8 : Bool × List (List Nat × List Nat) := (true, [([], []), ([], []), ([], []), ([1, 2], [1, 2]), ([3], [3]), ([4], [4]), ([], []), ([], []), ([7], [7]), ([6, 8], [6, 8]), ([9], [9]), ([5, 10], [5, 10]), ([11], [11]), ([12], [12]), ([0, 13], [0, 13]), ([14, 14, 0, 1, 2, 3, 4, 5, 6, 7, 8, 9, 10, 11, 12, 13, 14], [0, 14])])
def text_X2C.B8 : List Nat := [0, 0, 0, 6, 14, 30, 0, 0, 128, 448, 960, 2046, 4094, 8190, 16383, 32767]
theorem text_X2C.tab8 : rtab .any (opsOf Tryz.f76 8) = text_X2C.T8 := by kernel_rfl
theorem text_X2C.bits8 : waitsOk text_X2C.T8.2 text_X2C.B8 = true := by kernel_rfl
set_option maxHeartbeats 8000000 in
set_option maxRecDepth 100000 in
theorem text_X2C.calls (k : Nat) (a0 : ByteArray) (r1 : ByteArray) (r2 : Int) (w : World) (hT : TabOK w) (h : text_X2C.f k a0 = some (r1, r2)) :
    Calls Tryz.prog 76 #[.string a0] w fun e w' => e = .returned (.tuple #[.string r1, .int .i64 r2]) ∧ Below w.heap.size w w' := by
  have HB := Aside0.mk (Below.refl w.heap.size w)
  have H : ((text_digits.f k a0 16 2).bind fun bt157 => (if bt157.2 = true then ((text_Valid.f a0).bind fun t161 => (text_X2C.j0 k bt157.1 (!t161))) else (text_X2C.j0 k bt157.1 true))) = some (r1, r2) := h
  clear h
  replace H := Option.bind_eq_some_iff.mp H
  obtain ⟨⟨t157, t158⟩, A20, H⟩ := H
  replace H : (if t158 = true then ((text_Valid.f a0).bind fun t161 => (text_X2C.j0 k t157 (!t161))) else (text_X2C.j0 k t157 true)) = some (r1, r2) := H
  have A2 := Aside0.mk A20
  clear A20
  have HC3 := Aside0.mk H
  clear H
  go_enter Tryz.func76, Tryz.ntmps76
  go_upto_region 2 with (first | ((with_reducible refine gate_callee (f := 131) rfl ?_); refine goesL_ (some 10) rfl rfl Tryz.func131 (by kernel_rfl) rfl #[.string a0, .int .i64 16, .int .i64 2] rfl (by (try simp only [List.map_toArray, List.map_cons, List.map_nil]); first | done | rfl | (simp only [List.length_drop, List.length_take]; rfl)) ?_; (with_reducible refine (text_digits.calls k a0 16 2 t157 t158 _ (TabOK.of_below hT (by repeat (first | (with_reducible first | exact HB.out | apply below_alloc | apply pw_below_drewN | apply below_drew1) | exact HB.out))) A2.out).mono ?_); rintro e w4 ⟨v159, rfl, ho0, hb⟩; refine ⟨_, rfl, ?_⟩; have n0_ := Aside0.mk (Kd.R_lower ho0 (below_size (by repeat (first | (with_reducible first | exact HB.out | apply below_alloc | apply pw_below_drewN | apply below_drew1) | exact HB.out)))); have n1_ := Aside0.mk (below_step (by repeat (first | (with_reducible first | exact HB.out | apply below_alloc | apply pw_below_drewN | apply below_drew1) | exact HB.out)) hb); clear HB; have HO160 := n0_; have HB := n1_; clear n0_ n1_; (try clear hb); (try clear hb2); (try clear hk); (try clear hi); (try clear ho0)))
  (try simp only [Act.put, List.setIfInBounds_toArray, List.set_cons_zero, List.set_cons_succ])
  go_cut [19] (fun v19 wc => ∃ (kq : Nat) (x19_2 : Bool), v19 = .bool x19_2 ∧ Aside0 (text_X2C.j0 kq t157 x19_2 = some (r1, r2)) ∧ Aside0 (kq ≤ k) ∧ Aside0 (Kd.R (Kd.int .i64) 3 wc w.heap.size (fun _ => True) v159 t157) ∧ Aside0 (Below w.heap.size w wc))
  case first =>
    have H := HC3.out
    clear HC3
    by_cases c5 : t158 = true
    · subst c5
      have H1 : ((text_Valid.f a0).bind fun t161 => (text_X2C.j0 k t157 (!t161))) = some (r1, r2) := by rw [if_pos rfl] at H; exact H
      clear H
      have H := H1
      clear H1
      replace H := Option.bind_eq_some_iff.mp H
      obtain ⟨t161, A60, H⟩ := H
      replace H : (text_X2C.j0 k t157 (!t161)) = some (r1, r2) := H
      have A6 := Aside0.mk A60
      clear A60
      have H' := Aside0.mk H
      clear H
      go_wp2_with (first | (go_at_call 65; (with_reducible refine (text_Valid.calls a0 t161 _ A6.out).mono ?_); rintro e w7 ⟨rfl, hb⟩; have n0_ := Aside0.mk (Kd.R_below (by (with_reducible repeat (first | apply Kd.R_alloc | apply Kd.R_drewN | apply Kd.R_drew)); exact HO160.out) hb); have n1_ := Aside0.mk (below_step (by repeat (first | (with_reducible first | exact HB.out | apply below_alloc | apply pw_below_drewN | apply below_drew1) | exact HB.out)) hb); clear HO160; clear HB; have HO160 := n0_; have HB := n1_; clear n0_ n1_; (try clear hb); (try clear hb2); (try clear hk); (try clear hi)))
      go_meet
      case rel => exact ⟨_, (!t161), (by first | rfl | (simp; done) | (simp [*]; done)), H', ⟨by first | omega | exact Nat.le_refl _⟩, ⟨by (with_reducible repeat (first | apply Kd.R_alloc | apply Kd.R_drewN | apply Kd.R_drew)); exact HO160.out⟩, ⟨by repeat (first | (with_reducible first | exact HB.out | apply below_alloc | apply pw_below_drewN | apply below_drew1) | exact HB.out)⟩⟩
    · replace c5 := Bool.eq_false_iff.mpr c5
      subst c5
      have H1 : (text_X2C.j0 k t157 true) = some (r1, r2) := by rw [if_neg (show ¬ (false = true) by decide)] at H; exact H
      clear H
      have H := H1
      clear H1
      have H' := Aside0.mk H
      clear H
      go_wp2
      go_meet
      case rel => exact ⟨_, (true), (by first | rfl | (simp; done) | (simp [*]; done)), H', ⟨by first | omega | exact Nat.le_refl _⟩, ⟨by (with_reducible repeat (first | apply Kd.R_alloc | apply Kd.R_drewN | apply Kd.R_drew)); exact HO160.out⟩, ⟨by repeat (first | (with_reducible first | exact HB.out | apply below_alloc | apply pw_below_drewN | apply below_drew1) | exact HB.out)⟩⟩
  case rest =>
    clear HC3
    try clear c1
    try clear p2
    try clear c5
    try clear c7
    obtain ⟨kq, x19_2, rfl, HA, HJ2, HO_4, HB⟩ := hcut
    cases kq with
    | zero => exact absurd HA.out (by simp [text_X2C.j0])
    | succ kj2 =>
      have H := HA.out
      clear HA
      simp only [text_X2C.j0] at H
      by_cases c8 : x19_2 = true
      · subst c8
        have H1 : (some ((⟨#[]⟩ : ByteArray), 1)) = some (r1, r2) := by rw [if_pos rfl] at H; exact H
        clear H
        have H := H1
        clear H1
        simp only [Option.some.injEq, Prod.mk.injEq] at H
        obtain ⟨rfl, rfl⟩ := H
        go_wp2
        go_ret2
        exact ⟨by first | rfl | (simp [errW_none, errW_some] <;> rfl) | (simp [*, errW_none, errW_some] <;> rfl), by repeat (first | (with_reducible first | exact HB.out | apply below_alloc | apply pw_below_drewN | apply below_drew1) | exact HB.out)⟩
      · replace c8 := Bool.eq_false_iff.mpr c8
        subst c8
        have H1 : (text_X2C.l0 kj2 t157 ([] : List Int) 0) = some (r1, r2) := by rw [if_neg (show ¬ (false = true) by decide)] at H; exact H
        clear H
        have H := H1
        clear H1
        have H' := Aside0.mk H
        clear H
        go_wp2
        go_loopg [6, 7] kj2 (fun kq v6 v7 w' => ∃ (x6_2 : List Int) (x7_2 : Int), v7 = .int .i64 x7_2 ∧ Aside0 (text_X2C.l0 kq t157 x6_2 x7_2 = some (r1, r2)) ∧ Aside0 (kq ≤ kj2) ∧ Aside0 (Kd.R (Kd.int .i64) 3 w' w.heap.size (fun _ => True) v159 t157) ∧ Aside0 (Kd.R (Kd.int .u8) 5 w' w.heap.size (fun _ => True) v6 x6_2) ∧ Aside0 (Below w.heap.size w w'))
        case atStart => exact ⟨(([] : List Int)), (0), (by first | rfl | (simp; done) | (simp [*]; done)), H', ⟨Nat.le_refl _⟩, ⟨by (with_reducible repeat (first | apply Kd.R_alloc | apply Kd.R_drewN | apply Kd.R_drew)); exact HO_4.out⟩, ⟨by first | exact Kd.R_nil _ _ _ _ _ | exact Kd.N_nil _ _ _ _ _ | exact Kd.V_nil _ _ _ _ _ | exact Kd.Q_nil _ _ _ _ _ | exact Kd.S_nil _ _ _ _ _⟩, ⟨by repeat (first | (with_reducible first | exact HB.out | apply below_alloc | apply pw_below_drewN | apply below_drew1) | exact HB.out)⟩⟩
        case round =>
          clear H'
          try clear c1
          try clear p2
          try clear c5
          try clear c7
          try clear c8
          try clear p2
          obtain ⟨x6_2, x7_2, rfl, HA, HK2, HO_4, HO_6, HB⟩ := hrel
          cases gk with
          | zero => exact absurd HA.out (by simp [text_X2C.l0])
          | succ k2 =>
            have H := HA.out
            clear HA
            simp only [text_X2C.l0] at H
            by_cases c9 : x7_2 < (t157.length : Int)
            · rw [if_pos c9] at H
              have c9b0 : decide (x7_2 < (t157.length : Int)) = true := decide_eq_true c9
              clear c9
              by_cases c10 : 0 ≤ x7_2
              · rw [if_pos c10] at H
                have c10b0 : decide (0 ≤ x7_2) = true := decide_eq_true c10
                clear c10
                obtain ⟨ji11, hji11⟩ : ∃ j_ : Int, (wrap64 (x7_2 + 1)) = j_ := ⟨_, rfl⟩
                replace H : (if 0 ≤ (ji11) then (if (ji11) < (t157.length : Int) then (if x6_2.length < 140737488355328 then (text_X2C.l0 k2 t157 (x6_2 ++ [(wrap64 ((wrap64 (16 * (rd t157 x7_2))) + (rd t157 (ji11)))) % 256]) (wrap64 (x7_2 + 2))) else (none)) else (none)) else (none)) = some (r1, r2) := by first | (rw [hji11] at H; exact H) | (simp only [hji11] at H ⊢; exact H)
                have hji11w : (IntKind.i64.wrap (x7_2 + 1)) = ji11 := (i64_w _).trans hji11
                by_cases c12 : 0 ≤ (ji11)
                · rw [if_pos c12] at H
                  have c12b0 : decide (0 ≤ (ji11)) = true := decide_eq_true c12
                  clear c12
                  by_cases c13 : (ji11) < (t157.length : Int)
                  · rw [if_pos c13] at H
                    have c13b0 : decide ((ji11) < (t157.length : Int)) = true := decide_eq_true c13
                    clear c13
                    by_cases c14 : x6_2.length < 140737488355328
                    · rw [if_pos c14] at H
                      have LMc14 := Aside0.mk c14
                      clear c14
                      obtain ⟨y164, hy164⟩ : ∃ y_ : List Int, y_ = (x6_2 ++ [(wrap64 ((wrap64 (16 * (rd t157 x7_2))) + (rd t157 (ji11)))) % 256]) := ⟨_, rfl⟩
                      replace H : (text_X2C.l0 k2 t157 y164 (wrap64 (x7_2 + 2))) = some (r1, r2) := by first | (rw [hy164]; with_reducible exact H) | (have H2_ := (Option.bind_some _ _).symm.trans H; rw [hy164]; with_reducible exact H2_) | (have H2_ := (Option.bind_some _ _).symm.trans H; with_reducible exact H2_) | with_reducible exact H | (rw [hy164]; exact H) | exact H
                      have Ny164 := Aside0.mk hy164
                      clear hy164
                      have H' := Aside0.mk H
                      clear H
                      obtain ⟨Ao15, co15, eo15⟩ := Kd.R_slice HO_4.out
                      subst eo15
                      try go_wp2
                      have n0_ := Aside0.mk (Kd.R_drew HO_4.out)
                      have n1_ := Aside0.mk (Kd.R_drew HO_6.out)
                      have n2_ := Aside0.mk (below_drew1 HB.out)
                      clear HO_4
                      clear HO_6
                      clear HB
                      have HO_4 := n0_
                      have HO_6 := n1_
                      have HB := n2_
                      clear n0_ n1_ n2_
                      have p162 : 0 ≤ (x7_2 : Int) := of_decide_eq_true (by first | (with_reducible assumption) | assumption)
                      have q162 : x7_2 < (t157.length : Int) := of_decide_eq_true (by first | (with_reducible assumption) | assumption)
                      obtain ⟨ad162, e162, hx162_0⟩ := Kd.at_int (Kd.R_reads' HO_4.out).2.2 x7_2 p162 q162
                      cases e162
                      replace p162 := eq_true p162
                      replace q162 := eq_true q162
                      have p163 : 0 ≤ ((ji11) : Int) := of_decide_eq_true (by first | (with_reducible assumption) | assumption)
                      have q163 : (ji11) < (t157.length : Int) := of_decide_eq_true (by first | (with_reducible assumption) | assumption)
                      obtain ⟨ad163, e163, hx163_0⟩ := Kd.at_int (Kd.R_reads' HO_4.out).2.2 (ji11) p163 q163
                      obtain rfl : ad162 = ad163 := (by injection e163)
                      replace p163 := eq_true p163
                      replace q163 := eq_true q163
                      refine start_ (n := 16) (S := fun w' => w'.cell? (ad162.add (x7_2).toNat) = some (.int .i64 (rd t157 x7_2)) ∧ w'.cell? (ad162.add ((ji11)).toNat) = some (.int .i64 (rd t157 (ji11)))) (ds := [13, 14]) #[false, false, false, false, false, false, false, false, false, false, false, false, false, false, false, false] (by kernel_rfl) rfl rfl ⟨hx162_0, hx163_0⟩ (fun hHeld => ?_); refine with_tabW text_X2C.tab8 text_X2C.bits8 (fun HT_ HW_ => ?_)
                      generalize wr.drew = w16 at HO_4 HO_6 HB hx162_0 hx163_0 hHeld ⊢
                      refine pure_ (i := 0) (N := some 26) (v := ?_) (a' := ?_) #[true, false, false, false, false, false, false, false, false, false, false, false, false, false, false, false] rfl rfl (any_of HT_.out (by kernel_rfl)) (fun _ _ _ h => h) (Or.inl ⟨by rfl, ?_⟩) ?_ ?_
                      rotate_left
                      · intro w'
                        go_simp
                        with_reducible rfl
                      rotate_left
                      · simp only [Act.put, List.setIfInBounds_toArray, List.set_cons_zero, List.set_cons_succ, i64_w, i32_w]
                        rfl
                      refine pure_ (i := 1) (N := some 27) (v := ?_) (a' := ?_) #[true, true, false, false, false, false, false, false, false, false, false, false, false, false, false, false] rfl rfl (any_of HT_.out (by kernel_rfl)) (fun _ _ _ h => h) (Or.inl ⟨by rfl, ?_⟩) ?_ ?_
                      rotate_left
                      · intro w'
                        go_simp
                        with_reducible rfl
                      rotate_left
                      · simp only [Act.put, List.setIfInBounds_toArray, List.set_cons_zero, List.set_cons_succ, i64_w, i32_w]
                        rfl
                      refine pure_ (i := 2) (N := some 28) (v := ?_) (a' := ?_) #[true, true, true, false, false, false, false, false, false, false, false, false, false, false, false, false] rfl rfl (any_of HT_.out (by kernel_rfl)) (fun _ _ _ h => h) (Or.inl ⟨by rfl, ?_⟩) ?_ ?_
                      rotate_left
                      · intro w'
                        go_simp
                        with_reducible rfl
                      rotate_left
                      · simp only [Act.put, List.setIfInBounds_toArray, List.set_cons_zero, List.set_cons_succ, i64_w, i32_w]
                        rfl
                      refine pure_ (i := 3) (N := some 29) (v := ?_) (a' := ?_) #[true, true, true, true, false, false, false, false, false, false, false, false, false, false, false, false] rfl rfl (any_of HT_.out (by kernel_rfl)) (fun _ _ _ h => h) (Or.inl ⟨by rfl, ?_⟩) ?_ ?_
                      rotate_left
                      · intro w'
                        go_simp
                        with_reducible rfl
                      rotate_left
                      · simp only [Act.put, List.setIfInBounds_toArray, List.set_cons_zero, List.set_cons_succ, i64_w, i32_w]
                        rfl
                      refine pure_ (i := 6) (N := some 32) (v := ?_) (a' := ?_) #[true, true, true, true, false, false, true, false, false, false, false, false, false, false, false, false] rfl rfl (any_of HT_.out (by kernel_rfl)) (fun _ _ _ h => h) (Or.inl ⟨by rfl, ?_⟩) ?_ ?_
                      rotate_left
                      · intro w'
                        go_simp
                        with_reducible rfl
                      rotate_left
                      · simp only [Act.put, List.setIfInBounds_toArray, List.set_cons_zero, List.set_cons_succ, i64_w, i32_w]
                        rfl
                      refine pure_ (i := 7) (N := some 33) (v := ?_) (a' := ?_) #[true, true, true, true, false, false, true, true, false, false, false, false, false, false, false, false] rfl rfl (any_of HT_.out (by kernel_rfl)) (fun _ _ _ h => h) (Or.inl ⟨by rfl, ?_⟩) ?_ ?_
                      rotate_left
                      · intro w'
                        go_simp
                        with_reducible rfl
                      rotate_left
                      · simp only [Act.put, List.setIfInBounds_toArray, List.set_cons_zero, List.set_cons_succ, i64_w, i32_w]
                        rfl
                      refine pure_ (i := 8) (N := some 34) (v := ?_) (a' := ?_) #[true, true, true, true, false, false, true, true, true, false, false, false, false, false, false, false] rfl rfl (any_of HT_.out (by kernel_rfl)) (fun _ _ _ h => h) (Or.inl ⟨by rfl, ?_⟩) ?_ ?_
                      rotate_left
                      · intro w'
                        go_simp
                        with_reducible rfl
                      rotate_left
                      · simp only [Act.put, List.setIfInBounds_toArray, List.set_cons_zero, List.set_cons_succ, i64_w, i32_w]
                        rfl
                      refine pure_ (i := 9) (N := some 35) (v := ?_) (a' := ?_) #[true, true, true, true, false, false, true, true, true, true, false, false, false, false, false, false] rfl rfl (any_of HT_.out (by kernel_rfl)) (fun _ _ _ h => h) (Or.inl ⟨by rfl, ?_⟩) ?_ ?_
                      rotate_left
                      · intro w'
                        go_simp
                        with_reducible rfl
                      rotate_left
                      · simp only [Act.put, List.setIfInBounds_toArray, List.set_cons_zero, List.set_cons_succ, i64_w, i32_w]
                        rfl
                      refine take_ (i := 4) (N := some 30) (v := ?_) (a' := ?_) #[true, true, true, true, true, false, true, true, true, true, false, false, false, false, false, false] rfl rfl (take_ofW HT_.out HW_.out (by kernel_rfl)) (fun _ _ _ h => h) (Or.inl ⟨by rfl, ?_⟩) hHeld ?_ ?_
                      rotate_left
                      · rintro w' ⟨s0, s1⟩
                        go_simp
                        with_reducible rfl
                      rotate_left
                      · simp only [Act.put, List.setIfInBounds_toArray, List.set_cons_zero, List.set_cons_succ, i64_w, i32_w]
                        rfl
                      refine pure_ (i := 5) (N := some 31) (v := ?_) (a' := ?_) #[true, true, true, true, true, true, true, true, true, true, false, false, false, false, false, false] rfl rfl (any_of HT_.out (by kernel_rfl)) (fun _ _ _ h => h) (Or.inl ⟨by rfl, ?_⟩) ?_ ?_
                      rotate_left
                      · intro w'
                        go_simp
                        with_reducible rfl
                      rotate_left
                      · simp only [Act.put, List.setIfInBounds_toArray, List.set_cons_zero, List.set_cons_succ, i64_w, i32_w]
                        rfl
                      refine take_ (i := 10) (N := some 36) (v := ?_) (a' := ?_) #[true, true, true, true, true, true, true, true, true, true, true, false, false, false, false, false] rfl rfl (take_ofW HT_.out HW_.out (by kernel_rfl)) (fun _ _ _ h => h) (Or.inl ⟨by rfl, ?_⟩) hHeld ?_ ?_
                      rotate_left
                      · rintro w' ⟨s0, s1⟩
                        go_simp
                        with_reducible rfl
                      rotate_left
                      · simp only [Act.put, List.setIfInBounds_toArray, List.set_cons_zero, List.set_cons_succ, i64_w, i32_w]
                        rfl
                      refine pure_ (i := 11) (N := some 37) (v := ?_) (a' := ?_) #[true, true, true, true, true, true, true, true, true, true, true, true, false, false, false, false] rfl rfl (any_of HT_.out (by kernel_rfl)) (fun _ _ _ h => h) (Or.inl ⟨by rfl, ?_⟩) ?_ ?_
                      rotate_left
                      · intro w'
                        go_simp
                        with_reducible rfl
                      rotate_left
                      · simp only [Act.put, List.setIfInBounds_toArray, List.set_cons_zero, List.set_cons_succ, i64_w, i32_w]
                        rfl
                      refine pure_ (i := 12) (N := some 38) (v := ?_) (a' := ?_) #[true, true, true, true, true, true, true, true, true, true, true, true, true, false, false, false] rfl rfl (any_of HT_.out (by kernel_rfl)) (fun _ _ _ h => h) (Or.inl ⟨by rfl, ?_⟩) ?_ ?_
                      rotate_left
                      · intro w'
                        go_simp
                        with_reducible rfl
                      rotate_left
                      · simp only [Act.put, List.setIfInBounds_toArray, List.set_cons_zero, List.set_cons_succ, i64_w, i32_w]
                        rfl
                      refine last_ (i := 13) (N := some 39) #[true, true, true, true, true, true, true, true, true, true, true, true, true, true, false, false] rfl rfl (one_of HT_.out (by kernel_rfl)) (by decide) (fun K hK => ?_)
                      refine value_ (w1 := ?_) (v := ?_) (by rfl) rfl ?_ ?_
                      rotate_left 2
                      · go_simp
                        constructor
                        · rfl
                        · rfl
                      refine hK.out _ _ ?_
                      clear hK K
                      refine norm_ (a' := ?_) ?_ ?_
                      rotate_left
                      · show Act.put _ (some 39) _ = _
                        simp only [Act.put, List.setIfInBounds_toArray, List.set_cons_zero, List.set_cons_succ, i64_w, i32_w]
                        rfl
                      refine last_ (i := 14) (N := some 40) #[true, true, true, true, true, true, true, true, true, true, true, true, true, true, true, false] rfl rfl (one_of HT_.out (by kernel_rfl)) (by decide) (fun K hK => ?_)
                      refine Kd.R_append_step (Kd.int .u8) (w0 := w) w.heap.size (by rfl) (.tmp 26) (.tmp 39) 83 5 (.int .u8 0) 1 rfl Tryz.underlying83 info5 rfl (by decide) (by omega) u6 x6_2 ((wrap64 ((wrap64 (16 * (rd t157 x7_2))) + (rd t157 (ji11)))) % 256) [.int .u8 ((wrap64 ((wrap64 (16 * (rd t157 x7_2))) + (rd t157 (ji11)))) % 256)] (fun _ => True) (fun _ => False) rfl rfl ?aP (fun _ hk => hk.elim) ?aF ?aO ?aB ?aS ?aL ?_
                      (case aP => exact rfl)
                      (case aB => exact (by repeat (first | (with_reducible first | exact HB.out | apply below_alloc | apply pw_below_drewN | apply below_drew1) | exact HB.out)))
                      (case aF => exact (fun _ _ => trivial))
                      (case aO => exact (by (with_reducible repeat (first | apply Kd.R_alloc | apply Kd.R_drewN | apply Kd.R_drew)); exact HO_6.out))
                      (case aS => exact (below_size (by repeat (first | (with_reducible first | exact HB.out | apply below_alloc | apply pw_below_drewN | apply below_drew1) | exact HB.out))))
                      (case aL => have := LMc14.out; omega)
                      intro v165 w17 ho hb hg hat
                      rw [← Ny164.out] at ho
                      have n0_ := Aside0.mk (Kd.R_over' (by (with_reducible repeat (first | apply Kd.R_alloc | apply Kd.R_drewN | apply Kd.R_drew)); exact HO_4.out) (Kd.R_typed (by (with_reducible repeat (first | apply Kd.R_alloc | apply Kd.R_drewN | apply Kd.R_drew)); exact HO_6.out)) (by decide) hg)
                      have n1_ := Aside0.mk (hb)
                      have n2_ := Aside0.mk (ho)
                      clear HO_4
                      clear HB
                      clear HO_6
                      have HO_4 := n0_
                      have HB := n1_
                      have HO166 := n2_
                      clear n0_ n1_ n2_
                      clear ho hb hg hat
                      refine hK.out _ _ ?_
                      clear hK K
                      refine norm_ (a' := ?_) ?_ ?_
                      rotate_left
                      · show Act.put _ (some 40) _ = _
                        simp only [Act.put, List.setIfInBounds_toArray, List.set_cons_zero, List.set_cons_succ, i64_w, i32_w]
                        rfl
                      refine pure_ (i := 15) (N := some 6) (v := ?_) (a' := ?_) #[true, true, true, true, true, true, true, true, true, true, true, true, true, true, true, true] rfl rfl (any_of HT_.out (by kernel_rfl)) (fun _ _ _ h => h) (Or.inl ⟨by rfl, ?_⟩) ?_ ?_
                      rotate_left
                      · intro w'
                        go_simp
                        with_reducible rfl
                      rotate_left
                      · simp only [Act.put, List.setIfInBounds_toArray, List.set_cons_zero, List.set_cons_succ, i64_w, i32_w]
                        rfl
                      refine done_ (done_of HT_.out (by kernel_rfl)) ?_
                      try go_wp2
                      go_roundg k2
                      case measure => have := HJ2.out; have := HK2.out; omega
                      case rel => exact ⟨(y164), (wrap64 (x7_2 + 2)), (by first | rfl | (simp; done) | (simp [*]; done)), H', ⟨by have := HJ2.out; have := HK2.out; omega⟩, ⟨by (with_reducible repeat (first | apply Kd.R_alloc | apply Kd.R_drewN | apply Kd.R_drew)); exact HO_4.out⟩, ⟨by (with_reducible repeat (first | apply Kd.R_alloc | apply Kd.R_drewN | apply Kd.R_drew)); exact HO166.out⟩, ⟨by repeat (first | (with_reducible first | exact HB.out | apply below_alloc | apply pw_below_drewN | apply below_drew1) | exact HB.out)⟩⟩
                    · rw [if_neg c14] at H
                      exact absurd H (by simp)
                  · rw [if_neg c13] at H
                    exact absurd H (by simp)
                · rw [if_neg c12] at H
                  exact absurd H (by simp)
              · rw [if_neg c10] at H
                exact absurd H (by simp)
            · rw [if_neg c9] at H
              have c9b0 : decide (x7_2 < (t157.length : Int)) = false := decide_eq_false c9
              clear c9
              replace H := Option.bind_eq_some_iff.mp H
              obtain ⟨⟨t167, t168⟩, A180, H⟩ := H
              replace H : (some (t167, t168)) = some (r1, r2) := H
              have A18 := Aside0.mk A180
              clear A180
              simp only [Option.some.injEq, Prod.mk.injEq] at H
              obtain ⟨rfl, rfl⟩ := H
              obtain ⟨Ao19, co19, eo19⟩ := Kd.R_slice HO_4.out
              subst eo19
              have hcv20 := own_string (P := Tryz.prog) Tryz.underlying83 Tryz.underlying5 Tryz.underlying9 (Kd.own_of_R HO_6.out)
              go_wp2_with (first | ((with_reducible refine gate_callee (f := 113) rfl ?_); refine goesL_ (some 43) rfl rfl Tryz.func113 (by kernel_rfl) rfl #[.string (strOfNums x6_2)] rfl (by (try simp only [List.map_toArray, List.map_cons, List.map_nil]); first | done | rfl | (simp only [List.length_drop, List.length_take]; rfl)) ?_; (with_reducible refine (text_made.calls (strOfNums x6_2) t167 t168 _ A18.out).mono ?_); rintro e w21 ⟨rfl, hb⟩; refine ⟨_, rfl, ?_⟩; have n0_ := Aside0.mk (Kd.R_below (by (with_reducible repeat (first | apply Kd.R_alloc | apply Kd.R_drewN | apply Kd.R_drew)); exact HO_4.out) hb); have n1_ := Aside0.mk (Kd.R_below (by (with_reducible repeat (first | apply Kd.R_alloc | apply Kd.R_drewN | apply Kd.R_drew)); exact HO_6.out) hb); have n2_ := Aside0.mk (below_step (by repeat (first | (with_reducible first | exact HB.out | apply below_alloc | apply pw_below_drewN | apply below_drew1) | exact HB.out)) hb); clear HO_4; clear HO_6; clear HB; have HO_4 := n0_; have HO_6 := n1_; have HB := n2_; clear n0_ n1_ n2_; (try clear hb); (try clear hb2); (try clear hk); (try clear hi)))
              go_ret2
              exact ⟨by first | rfl | (simp [errW_none, errW_some] <;> rfl) | (simp [*, errW_none, errW_some] <;> rfl), by repeat (first | (with_reducible first | exact HB.out | apply below_alloc | apply pw_below_drewN | apply below_drew1) | exact HB.out)⟩

end Go.Proofs.YtlekfhnlhdmekaaGreatDoor.T

/- A buffer of bytes that a conversion made: what stands in it, what a write makes of it; and text.mapped. -/
namespace Go.Proofs.YtlekfhnlhdmekaaGreatDoor.T
set_option linter.unusedSimpArgs false
set_option linter.unusedVariables false
open Go.RowKit Go.Proofs.YtlekfhnlhdmekaaGreatDoorW.PrintWords Go.Proofs.YtlekfhnlhdmekaaGreatDoorW.PrintLast Go.Proofs.YtlekfhnlhdmekaaGreatDoorW.PrintMore

/-- Block g holds the bytes xs, and they can be written. -/
def Buf (g : Nat) (xs : List Int) (W : World) : Prop :=
  ∃ (c : Array Value) (e lo hi : Nat), W.heap[g]? = some (.cells c e (lo, hi)) ∧ (xs.length ≤ lo ∨ hi = 0) ∧ ∀ j, j < xs.length → c[j]? = some (.int .u8 (xs.getD j 0))
theorem Buf.new (W : World) (s : ByteArray) : Buf W.heap.size (bytesOf s) (Lib.bytesWorld W 5 s) := by
  refine ⟨_, _, _, _, Lib.bytesWorld_at_new W 5 s, .inl ?_, fun j hj => ?_⟩
  · rw [bytesOf_length]
    simp [Lib.bytesCells]
  · rw [bytesOf_length] at hj
    have h := Lib.bytesWorld_cell W 5 s j hj
    simp only [World.cell?, Lib.bytesWorld_at_new] at h
    have h' : j < s.data.toList.length := by rw [data_length]; exact hj
    rw [show (Lib.bytesCells W 5 s)[j]? = some (.int .u8 (s.data.toList.getD j 0).toNat) from h]
    simp [bytesOf, List.getD_eq_getElem?_getD, List.getElem?_eq_getElem h']
theorem Buf.cell {g : Nat} {xs : List Int} {W : World} (h : Buf g xs W) (j : Nat) (hj : j < xs.length) : W.cell? ⟨g, j, none⟩ = some (.int .u8 (xs.getD j 0)) := by
  obtain ⟨c, e, lo, hi, hg, hl, hc⟩ := h
  simp only [World.cell?, hg]
  exact hc j hj
theorem Buf.free {g : Nat} {xs : List Int} {W : World} (h : Buf g xs W) (j : Nat) (hj : j < xs.length) : W.frozen? ⟨g, j, none⟩ = false := by
  obtain ⟨c, e, lo, hi, hg, hl, hc⟩ := h
  simp only [World.frozen?, hg]
  rcases hl with hl | rfl
  · have : ¬ lo ≤ j := by omega
    simp [this]
  · simp
theorem Buf.set {g : Nat} {xs : List Int} {W : World} (h : Buf g xs W) (j : Nat) (x : Int) (hj : j < xs.length) : Buf g (xs.set j x) (W.setCell ⟨g, j, none⟩ (.int .u8 x)) := by
  obtain ⟨c, e, lo, hi, hg, hl, hc⟩ := h
  refine ⟨c.setIfInBounds j (.int .u8 x), e, lo, hi, Lib.heap_setCell_same hg _, by rw [List.length_set]; exact hl, fun k hk => ?_⟩
  rw [List.length_set] at hk
  rw [Array.getElem?_setIfInBounds]
  by_cases e1 : j = k
  · subst e1
    have h1 : j < c.size := (Array.getElem?_eq_some_iff.1 (hc j hj)).1
    simp [h1, List.getD_eq_getElem?_getD, hj]
  · simp only [e1, if_false]
    rw [hc k hk]
    simp [List.getD_eq_getElem?_getD, e1]
theorem Buf.reads {g : Nat} {xs : List Int} {W : World} (h : Buf g xs W) (hl : xs.length ≤ 9223372036854775807) : ReadsInt W .u8 (some ⟨g, 0, none⟩) xs.length xs :=
  ⟨rfl, hl, fun _ => ⟨_, rfl, fun j hj => by rw [add_plain]; exact h.cell j hj⟩⟩
theorem Buf.drewN {g : Nat} {xs : List Int} {W : World} (h : Buf g xs W) (n : Nat) : Buf g xs (W.drewN n) := h
theorem Buf.drawn {g : Nat} {xs : List Int} {W W' : World} (h : Buf g xs W) (hd : Drawn0 W W') : Buf g xs W' := by
  obtain ⟨n, rfl⟩ := hd.out
  exact h

/-- What a function value g (bound to lb) from bytes to bytes is asked for. -/
def PaysB (g : Nat) (ra lb : Array Value) (f : Int → Int) (w : World) : Prop :=
  ∀ (W : World) (x : Int), 0 ≤ x → x < 256 → Below w.heap.size w W → Calls Tryz.prog g (ra ++ #[.int .u8 x] ++ lb) W fun e W' => e = .returned (.int .u8 (f x)) ∧ Drawn0 W W'

theorem bt_getD (s : ByteArray) (k : Nat) (hk : k < s.size) : bt s (k : Int) = (bytesOf s).getD k 0 := by
  have h' : k < s.data.toList.length := by rw [data_length]; exact hk
  simp [bt, hk, bytesOf, List.getD_eq_getElem?_getD, List.getElem?_eq_getElem h']
  rfl
theorem bo_range (s : ByteArray) (x : Int) (h : x ∈ bytesOf s) : 0 ≤ x ∧ x < 256 := by
  simp only [bytesOf, List.mem_map] at h
  obtain ⟨b, _, rfl⟩ := h
  have := b.toNat_lt
  omega

/-- The first k elements turned, the others not. -/
def part_map (f : Int → Int) (k : Nat) (xs : List Int) : List Int := (xs.take k).map f ++ xs.drop k
theorem part_map_length (f : Int → Int) (k : Nat) (xs : List Int) : (part_map f k xs).length = xs.length := by
  simp [part_map]; omega
theorem part_map_zero (f : Int → Int) (xs : List Int) : part_map f 0 xs = xs := by simp [part_map]
theorem part_map_all (f : Int → Int) (xs : List Int) : part_map f xs.length xs = xs.map f := by simp [part_map]
theorem part_map_at (f : Int → Int) (k : Nat) (xs : List Int) (hk : k < xs.length) : (part_map f k xs).getD k 0 = xs.getD k 0 := by
  have h1 : ((xs.take k).map f).length = k := by simp; omega
  simp only [part_map, List.getD_eq_getElem?_getD]
  rw [List.getElem?_append_right (by omega), h1]
  simp
theorem part_map_set (f : Int → Int) (k : Nat) (xs : List Int) (hk : k < xs.length) : (part_map f k xs).set k (f (xs.getD k 0)) = part_map f (k + 1) xs := by
  have h1 : ((xs.take k).map f).length = k := by simp; omega
  unfold part_map
  have h2 : xs.take (k + 1) = xs.take k ++ [xs[k]] := by rw [List.take_add_one, List.getElem?_eq_getElem hk]; rfl
  rw [List.set_append_right _ _ (by omega), h1, Nat.sub_self, List.drop_eq_getElem_cons hk, List.set_cons_zero, h2, List.map_append, List.append_assoc]
  simp [List.getD_eq_getElem?_getD, List.getElem?_eq_getElem hk]
theorem getD_mem (xs : List Int) (k : Nat) (hk : k < xs.length) : xs.getD k 0 ∈ xs := by
  have h1 : xs.getD k 0 = xs[k] := by simp [List.getD_eq_getElem?_getD, List.getElem?_eq_getElem hk]
  rw [h1]; exact List.getElem_mem hk

def mapd (f : Int → Int) (s : ByteArray) : ByteArray := strOfNums ((bytesOf s).map f)

set_option maxHeartbeats 2000000 in
theorem text_mapped.calls (a0 : ByteArray) (g : Nat) (ra lb : Array Value) (f : Int → Int) (w : World) (ha : a0.size ≤ 100000)
    (eg : ∀ args w, (callFunc g args).run Tryz.prog w = .ok (.enter g args) w) (hp : PaysB g ra lb f w) :
    Calls Tryz.prog 96 #[.string a0, .func (.func g) ra lb] w fun e w' => e = .returned (.string (mapd f a0)) ∧ Below w.heap.size w w' := by
  have HP := Aside0.mk hp
  clear hp
  obtain ⟨n, hn⟩ : ∃ n, a0.size = n := ⟨_, rfl⟩
  have HB0 := Aside0.mk (Buf.new w a0)
  have HL0 := Aside0.mk (bytes_below (Below.refl w.heap.size w) (Nat.le_refl _) 5 a0)
  have HN : Aside0 ((bytesOf a0).length = n) := ⟨by rw [bytesOf_length]; exact hn⟩
  have kb := fun W => print_bytes (P := Tryz.prog) 9 83 5 Tryz.underlying9 Tryz.underlying83 Tryz.underlying5 a0 W
  rw [hn] at kb ha
  have kc := fun W c => string_of_reads (P := Tryz.prog) (w := W) (src := 83) (dst := 9) (e := 5) (A := some ⟨w.heap.size, 0, none⟩) (n := n) (c := c) (xs := (bytesOf a0).map f) Tryz.underlying83 Tryz.underlying5 Tryz.underlying9
  go_enter Tryz.func96, Tryz.ntmps96
  go_wp2
  go_loopg [6, 7, 12] n (fun gg _ _ s12 wr => ∃ kk : Nat, kk ≤ n ∧ n - kk ≤ gg ∧ s12 = .int .i64 kk ∧ Aside0 (Below w.heap.size w wr) ∧ Aside0 (Buf w.heap.size (part_map f kk (bytesOf a0)) wr))
  case atStart => exact ⟨0, Nat.zero_le _, by omega, rfl, HL0, ⟨by rw [part_map_zero]; exact HB0.out⟩⟩
  case round =>
    obtain ⟨kk, hkk, hg, rfl, HB, HF⟩ := hrel
    by_cases hlt : kk < n
    · have hltz : (kk : Int) < (n : Int) := by omega
      have hl : kk < (bytesOf a0).length := by have := HN.out; omega
      have hcell0 := HF.out.cell kk (by rw [part_map_length]; exact hl)
      rw [part_map_at f kk _ hl] at hcell0
      obtain ⟨hx0, hx1⟩ := bo_range a0 _ (getD_mem _ kk hl)
      have HS : Aside0 (Buf w.heap.size ((part_map f kk (bytesOf a0)).set kk (f ((bytesOf a0).getD kk 0))) (wr.setCell ⟨w.heap.size, kk, none⟩ (.int .u8 (f ((bytesOf a0).getD kk 0))))) := ⟨HF.out.set kk _ (by rw [part_map_length]; exact hl)⟩
      have HQ := Aside0.mk (part_map_set f kk _ hl)
      generalize (bytesOf a0).getD kk 0 = y at hcell0 hx0 hx1 HS HQ
      have hfree : ∀ q, (wr.drewN q).frozen? ⟨w.heap.size, kk, none⟩ = false := fun q => HF.out.free kk (by rw [part_map_length]; exact hl)
      have HC := Lib.hid (HP.out wr y hx0 hx1 HB.out)
      clear hx0 hx1 hl
      go_wp2_with (go_at_fn g; refine HC.out.mono ?_; rintro e w' ⟨rfl, ⟨⟨q, rfl⟩⟩⟩)
      go_roundg (n - (kk + 1))
      case measure => omega
      case rel =>
        refine ⟨kk + 1, by omega, by omega, by go_num, ⟨?_⟩, ⟨?_⟩⟩
        · exact below_set (pw_below_drewN HB.out q) (Nat.le_refl _)
        · rw [← HQ.out]
          exact HS.out.drewN q
    · obtain rfl : kk = n := by omega
      have HR : Aside0 (Buf w.heap.size ((bytesOf a0).map f) wr) := ⟨by have := HF.out; rw [← HN.out, part_map_all] at this; exact this⟩
      have hconv := fun c => kc wr c (by have := HR.out.reads (by simp; have := HN.out; omega); rw [List.length_map, HN.out] at this; exact this)
      go_wp2
      go_ret
      exact ⟨rfl, HB.out⟩
end Go.Proofs.YtlekfhnlhdmekaaGreatDoor.T

/- The checks at a function's beginning, called with lists that are written there. -/
namespace Go.Proofs.YtlekfhnlhdmekaaGreatDoor.T
set_option linter.unusedSimpArgs false
set_option linter.unusedVariables false
open Go.RowKit Go.Proofs.YtlekfhnlhdmekaaGreatDoorW.PrintWords Go.Proofs.YtlekfhnlhdmekaaGreatDoorW.PrintLast Go.Proofs.YtlekfhnlhdmekaaGreatDoorW.PrintMore

theorem u8w (z : Int) (h0 : 0 ≤ z) (h1 : z < 256) : IntKind.u8.wrap z = z := by
  simp only [IntKind.wrap, IntKind.bits, IntKind.signed]
  simp
  omega


theorem bthen {C : Nat} {w W w2 : World} (h : Below w.heap.size w W) (k : Below C W w2) (hc : C = W.heap.size) : Below w.heap.size w w2 := by
  subst hc
  exact below_then h h.size k
theorem box_C {α : Type} {enc : α → Value} {h1 : ∀ x, (enc x).oneCell' = true} (d : α) (xs : List α) (e : TypeId) (W0 : World) (hl : xs.length ≤ 9223372036854775807) :
    Kd.C (Kd.scalar enc h1) (W0.alloc (.cells (xs.map enc).toArray e)) (some ⟨W0.heap.size, 0, none⟩) xs.length xs :=
  Kd.C_of_reads (d := d) (h1 := h1) ⟨rfl, hl, fun _ => ⟨_, rfl, fun j hj => by
    rw [add_plain]
    refine (blk_cell (heap_alloc_new W0 _) j).trans ?_
    simp [List.getD_eq_getElem?_getD, List.getElem?_eq_getElem hj]⟩⟩
theorem pre93 (l : List ByteArray) (W0 : World) (hl : l.length ≤ 1000 := by simp) :
    Calls Tryz.prog 93 #[.slice (some ⟨W0.heap.size, 0, none⟩) l.length l.length] (W0.alloc (.cells (l.map Value.string).toArray 9)) fun e w' => e = .returned (.int .i64 (if l.all vld = true then 0 else 1)) ∧ Below W0.heap.size W0 w' :=
  (text_valid.calls _ l.length l _ _ (box_C ByteArray.empty l 9 W0 (by omega)) (Nat.le_refl _) rfl).mono fun e w' ⟨he, hb⟩ => ⟨he, bthen (below_alloc (Below.refl _ _) _) hb rfl⟩
theorem pre94 (l : List Int) (W0 : World) (hl : l.length ≤ 1000 := by simp) :
    Calls Tryz.prog 94 #[.slice (some ⟨W0.heap.size, 0, none⟩) l.length l.length] (W0.alloc (.cells (l.map (Value.int .u8)).toArray 5)) fun e w' => e = .returned (.int .i64 (if l.all goodI = true then 0 else 1)) ∧ Below W0.heap.size W0 w' :=
  (text_pads.calls _ l.length l _ _ (box_C (0 : Int) l 5 W0 (by omega)) (Nat.le_refl _) rfl).mono fun e w' ⟨he, hb⟩ => ⟨he, bthen (below_alloc (Below.refl _ _) _) hb rfl⟩
theorem pre100 (n : Int) (l : List Int) (W0 : World) (hl : l.length ≤ 1000 := by simp) :
    Calls Tryz.prog 100 #[.int .i64 n, .slice (some ⟨W0.heap.size, 0, none⟩) l.length l.length] (W0.alloc (.cells (l.map (Value.int .i64)).toArray 3)) fun e w' => e = .returned (.int .i64 (if l.all (fun k => decide (n ≤ k)) = true then 0 else 1)) ∧ Below W0.heap.size W0 w' :=
  (text_least.calls n _ l.length l _ _ (box_C (0 : Int) l 3 W0 (by omega)) (Nat.le_refl _) rfl).mono fun e w' ⟨he, hb⟩ => ⟨he, bthen (below_alloc (Below.refl _ _) _) hb rfl⟩
theorem pre92 (l : List Int) (r : Int) (h : text_first.f l = some r) (W0 : World) (hl : l.length ≤ 1000 := by simp) :
    Calls Tryz.prog 92 #[.slice (some ⟨W0.heap.size, 0, none⟩) l.length l.length] (W0.alloc (.cells (l.map (Value.int .i64)).toArray 24)) fun e w' => e = .returned (.int .i64 r) ∧ Below W0.heap.size W0 w' :=
  (text_first.calls _ l.length l _ _ (box_C (0 : Int) l 24 W0 (by omega)) (Nat.le_refl _) h).mono fun e w' ⟨he, hb⟩ => ⟨he, bthen (below_alloc (Below.refl _ _) _) hb rfl⟩
end Go.Proofs.YtlekfhnlhdmekaaGreatDoor.T

/- text.BitAnd, BitOr and BitXor return what text_BitAnd.f and so on say. -/
namespace Go.Proofs.YtlekfhnlhdmekaaGreatDoor.T
set_option linter.unusedSimpArgs false
set_option linter.unusedVariables false
open Go.RowKit Go.Proofs.YtlekfhnlhdmekaaGreatDoorW.PrintWords Go.Proofs.YtlekfhnlhdmekaaGreatDoorW.PrintLast Go.Proofs.YtlekfhnlhdmekaaGreatDoorW.PrintMore

/-- The first k elements turned, by their places, the others not. -/
def pmi (f : Nat → Int → Int) (k : Nat) (xs : List Int) : List Int := xs.mapIdx (fun i x => if i < k then f i x else x)
theorem pmi_length (f : Nat → Int → Int) (k : Nat) (xs : List Int) : (pmi f k xs).length = xs.length := by simp [pmi]
theorem pmi_zero (f : Nat → Int → Int) (xs : List Int) : pmi f 0 xs = xs := by
  apply List.ext_getElem?
  intro i
  simp [pmi]
theorem pmi_all (f : Nat → Int → Int) (xs : List Int) : pmi f xs.length xs = xs.mapIdx f := by
  apply List.ext_getElem?
  intro i
  simp only [pmi, List.getElem?_mapIdx]
  by_cases h : i < xs.length
  · simp [h]
  · simp [List.getElem?_eq_none (show xs.length ≤ i by omega)]
theorem pmi_at (f : Nat → Int → Int) (k : Nat) (xs : List Int) (hk : k < xs.length) : (pmi f k xs).getD k 0 = xs.getD k 0 := by
  simp [pmi, List.getD_eq_getElem?_getD, List.getElem?_mapIdx, List.getElem?_eq_getElem hk]
theorem pmi_set (f : Nat → Int → Int) (k : Nat) (xs : List Int) (hk : k < xs.length) : (pmi f k xs).set k (f k (xs.getD k 0)) = pmi f (k + 1) xs := by
  apply List.ext_getElem?
  intro i
  rw [List.getElem?_set]
  simp only [pmi, List.getElem?_mapIdx, List.length_mapIdx]
  by_cases e : k = i
  · subst e
    simp [hk, List.getD_eq_getElem?_getD, List.getElem?_eq_getElem hk]
  · simp only [e, if_false]
    have h1 : i < k + 1 ↔ i < k := by omega
    simp [h1]
theorem pmi_keep (f : Nat → Int → Int) (k : Nat) (xs : List Int) (hk : k < xs.length) (h : f k (xs.getD k 0) = xs.getD k 0) : pmi f (k + 1) xs = pmi f k xs := by
  rw [← pmi_set f k xs hk, h, ← pmi_at f k xs hk]
  apply List.ext_getElem?
  intro i
  rw [List.getElem?_set]
  by_cases e : k = i
  · subst e
    have h1 : k < (pmi f k xs).length := by rw [pmi_length]; exact hk
    simp [List.getD_eq_getElem?_getD, List.getElem?_eq_getElem h1, hk, pmi_length]
  · simp [e]
/-- What an operation on bits makes of a byte at a place: with the other string's byte, or the pad, if there is one. -/
def bitF (o : BinOp) (b : ByteArray) (pad : Int) (i : Nat) (x : Int) : Int :=
  if i < b.size then Go.bits o .u8 x (bt b i) else if pad = -1 then x else Go.bits o .u8 x (IntKind.u8.wrap pad)
def bitS (o : BinOp) (a b : ByteArray) (pad : Int) : ByteArray := strOfNums ((bytesOf a).mapIdx (bitF o b pad))
def text_bits.f (o : BinOp) (a0 a1 : ByteArray) (a2 : Int) : Option (ByteArray × Int) :=
  if a0.size ≤ 100000 ∧ a1.size ≤ 100000 then
    (if (vld a0 = true ∧ vld a1 = true) ∧ (a2 = -1 ∨ 32 ≤ a2 ∧ a2 ≤ 126) then
      text_made.f (if a0.size < a1.size then bitS o a1 a0 a2 else bitS o a0 a1 a2)
    else some (⟨#[]⟩, 1))
  else none
end Go.Proofs.YtlekfhnlhdmekaaGreatDoor.T

/- text.BitXor returns what text_BitXor.f says. -/
namespace Go.Proofs.YtlekfhnlhdmekaaGreatDoor.T
set_option linter.unusedSimpArgs false
set_option linter.unusedVariables false
open Go.RowKit Go.Proofs.YtlekfhnlhdmekaaGreatDoorW.PrintWords Go.Proofs.YtlekfhnlhdmekaaGreatDoorW.PrintLast Go.Proofs.YtlekfhnlhdmekaaGreatDoorW.PrintMore

theorem xor88.calls (x y : Int) (w : World) :
    Calls Tryz.prog 88 #[.int .u8 x, .int .u8 y] w fun e w' => e = .returned (.int .u8 (Go.bits BinOp.xor .u8 x y)) ∧ w' = w := by
  go_enter Tryz.func88, Tryz.ntmps88
  go_wp2
  go_ret
  exact ⟨rfl, rfl⟩
set_option maxRecDepth 100000 in
set_option maxHeartbeats 4000000 in
/-- The loop of text.bits and what follows it, at strings in their order. -/
theorem bits_in88 (a0 a1 : ByteArray) (a2 : Int) (s0 s1 : ByteArray) (r1 : ByteArray) (r2 : Int) (w : World) (hz0 : a0.size ≤ 100000) (hz1 : a1.size ≤ 100000)
    (hv : vld a0 = true ∧ vld a1 = true) (hp : a2 = -1 ∨ 32 ≤ a2 ∧ a2 ≤ 126) (hs : s0 = (if a0.size < a1.size then a1 else a0)) (hs1 : s1 = (if a0.size < a1.size then a0 else a1))
    (h : text_made.f (bitS .xor s0 s1 a2) = some (r1, r2)) :
    Calls Tryz.prog 85 #[.string a0, .string a1, .int .i64 a2, .func (.func 88) #[] #[]] w fun e w' => e = .returned (.tuple #[.string r1, .int .i64 r2]) ∧ Below w.heap.size w w' := by
  have H1 := fun W0 => pre93 [a0, a1] W0
  rw [if_pos (show ([a0, a1] : List ByteArray).all vld = true by simpa using hv)] at H1
  have H1 := Lib.hid H1
  unfold bitS at h
  have HM := Lib.hid (fun W => text_made.calls _ r1 r2 W h)
  have kb := fun W => print_bytes (P := Tryz.prog) 9 83 5 Tryz.underlying9 Tryz.underlying83 Tryz.underlying5 s0 W
  have hz : s0.size ≤ 100000 := by rw [hs]; split <;> assumption
  have HZ := Aside0.mk hz
  have HS0 := Aside0.mk hs
  have HS1 := Aside0.mk hs1
  obtain ⟨n, hn⟩ : ∃ n, s0.size = n := ⟨_, rfl⟩
  have hn2 : n ≤ 100000 := by omega
  have HLE : Aside0 (s1.size ≤ n) := ⟨by rw [← hn, hs, hs1]; split <;> omega⟩
  have HN : Aside0 ((bytesOf s0).length = n) := ⟨by rw [bytesOf_length]; exact hn⟩
  rw [hn] at kb
  clear hz h hv hs hs1 hz0 hz1
  have loop : True := trivial
  by_cases hlen : a0.size < a1.size
  · have d0 : decide ((a0.size : Int) < (a1.size : Int)) = true := decide_eq_true (by omega)
    obtain rfl : s0 = a1 := by rw [HS0.out, if_pos hlen]
    obtain rfl : s1 = a0 := by rw [HS1.out, if_pos hlen]
    have d1 : decide (s1.size < n) = true := decide_eq_true (by omega)
    have d2 : decide ((s1.size : Int) < (n : Int)) = true := decide_eq_true (by omega)
    by_cases hp1 : a2 = -1
    · subst hp1
      go_enter Tryz.func85, Tryz.ntmps85
      go_wp2_with (go_at_call 93; refine (H1.out _).mono ?_; rintro e w1 ⟨rfl, hb1⟩)
      have HB0 := Aside0.mk (bytes_below (B := w.heap.size) hb1 hb1.size 5 s0)
      have HF0 := Aside0.mk (Buf.new w1 s0)
      have hg0 : w.heap.size ≤ w1.heap.size := hb1.size
      clear hb1
      generalize w1.heap.size = g0 at HF0 hg0 ⊢
      generalize grownCap w1 n 0 5 = cp
      generalize Lib.bytesWorld w1 5 s0 = w2 at HF0 HB0 ⊢
      go_loopg [12, 41] n (fun gg _ s41 wr => ∃ kk : Nat, kk ≤ n ∧ n - kk ≤ gg ∧ s41 = .int .i64 kk ∧ Aside0 (Below w.heap.size w wr) ∧ Aside0 (Buf g0 (pmi (bitF .xor s1 (-1)) kk (bytesOf s0)) wr))
      case atStart => exact ⟨0, Nat.zero_le _, by omega, rfl, HB0, ⟨by rw [pmi_zero]; exact HF0.out⟩⟩
      case round =>
        obtain ⟨kk, hkk, hg, rfl, HB, HF⟩ := hrel
        by_cases hlt : kk < n
        · have hltz : (kk : Int) < (n : Int) := by omega
          have hl : kk < (bytesOf s0).length := by have := HN.out; omega
          have hcell := HF.out.cell kk (by rw [pmi_length]; exact hl)
          rw [pmi_at _ kk _ hl] at hcell
          have hfree := HF.out.free kk (by rw [pmi_length]; exact hl)
          have HS := Aside0.mk (HF.out.set kk (bitF .xor s1 (-1) kk ((bytesOf s0).getD kk 0)) (by rw [pmi_length]; exact hl))
          rw [pmi_set _ kk _ hl] at HS
          have hkeep := fun h => pmi_keep (bitF .xor s1 (-1)) kk (bytesOf s0) hl h
          generalize (bytesOf s0).getD kk 0 = y at hcell HS hkeep
          have HK := Lib.hid hkeep
          clear hl hkeep
          by_cases hj : kk < s1.size
          · have dj : decide ((kk : Int) < (s1.size : Int)) = true := decide_eq_true (by omega)
            have hx : ((s1[kk]'hj).toNat : Int) = bt s1 (kk : Int) := by simp [bt, hj]
            rw [bitF, if_pos hj] at HS
            go_upto_region 13 with fail
            refine wp_region_still_tail 12 (by kernel_rfl) (by kernel_rfl) ?_
            simp only [List.take_succ_cons, List.take_zero, List.drop_succ_cons, List.drop_zero]
            repeat still_step
            still_call (xor88.calls _ _ _)
            repeat still_step
            refine wpStill_nil ?_
            go_wp2
            go_roundg (n - (kk + 1))
            case measure => omega
            case rel =>
              refine ⟨kk + 1, by omega, by omega, by go_num, ⟨below_set (pw_below_drewN HB.out 1) hg0⟩, HS⟩
          · have dj : decide ((kk : Int) < (s1.size : Int)) = false := decide_eq_false (by omega)
            have HK2 := Aside0.mk (HK.out (by rw [bitF, if_neg hj, if_pos rfl]))
            clear HS
            go_wp2
            go_roundg (n - (kk + 1))
            case measure => omega
            case rel =>
              refine ⟨kk + 1, by omega, by omega, by go_num, HB, ⟨by rw [HK2.out]; exact HF.out⟩⟩
        · obtain rfl : kk = n := by omega
          have HR := HF.out
          rw [← HN.out, pmi_all] at HR
          have hconv := fun c => string_of_reads (P := Tryz.prog) (w := wr) (src := 83) (dst := 9) (e := 5) (A := some ⟨g0, 0, none⟩) (n := kk) (c := c) (xs := (bytesOf s0).mapIdx (bitF .xor s1 (-1))) Tryz.underlying83 Tryz.underlying5 Tryz.underlying9 (by
            have := HR.reads (by simp; have := HN.out; omega); rw [List.length_mapIdx, HN.out] at this; exact this)
          clear HR
          go_wp2_with (go_at_call 113; refine (HM.out _).mono ?_; rintro e w3 ⟨rfl, hb3⟩)
          go_ret2
          exact ⟨rfl, below_step HB.out hb3⟩
    · have e1 : (a2 != -1) = true := bne_iff_ne.mpr hp1
      have hp2 : 32 ≤ a2 ∧ a2 ≤ 126 := hp.resolve_left hp1
      have e3 : decide (a2 < 32) = false := decide_eq_false (by omega)
      have e4 : decide (126 < a2) = false := decide_eq_false (by omega)
      have e5 : IntKind.u8.wrap a2 = a2 := u8w _ (by omega) (by omega)
      clear hp hp2
      go_enter Tryz.func85, Tryz.ntmps85
      go_wp2_with (go_at_call 93; refine (H1.out _).mono ?_; rintro e w1 ⟨rfl, hb1⟩)
      have HB0 := Aside0.mk (bytes_below (B := w.heap.size) hb1 hb1.size 5 s0)
      have HF0 := Aside0.mk (Buf.new w1 s0)
      have hg0 : w.heap.size ≤ w1.heap.size := hb1.size
      clear hb1
      generalize w1.heap.size = g0 at HF0 hg0 ⊢
      generalize grownCap w1 n 0 5 = cp
      generalize Lib.bytesWorld w1 5 s0 = w2 at HF0 HB0 ⊢
      go_loopg [12, 41] n (fun gg _ s41 wr => ∃ kk : Nat, kk ≤ n ∧ n - kk ≤ gg ∧ s41 = .int .i64 kk ∧ Aside0 (Below w.heap.size w wr) ∧ Aside0 (Buf g0 (pmi (bitF .xor s1 a2) kk (bytesOf s0)) wr))
      case atStart => exact ⟨0, Nat.zero_le _, by omega, rfl, HB0, ⟨by rw [pmi_zero]; exact HF0.out⟩⟩
      case round =>
        obtain ⟨kk, hkk, hg, rfl, HB, HF⟩ := hrel
        by_cases hlt : kk < n
        · have hltz : (kk : Int) < (n : Int) := by omega
          have hl : kk < (bytesOf s0).length := by have := HN.out; omega
          have hcell := HF.out.cell kk (by rw [pmi_length]; exact hl)
          rw [pmi_at _ kk _ hl] at hcell
          have hfree := HF.out.free kk (by rw [pmi_length]; exact hl)
          have HS := Aside0.mk (HF.out.set kk (bitF .xor s1 a2 kk ((bytesOf s0).getD kk 0)) (by rw [pmi_length]; exact hl))
          rw [pmi_set _ kk _ hl] at HS
          have hkeep := fun h => pmi_keep (bitF .xor s1 a2) kk (bytesOf s0) hl h
          generalize (bytesOf s0).getD kk 0 = y at hcell HS hkeep
          have HK := Lib.hid hkeep
          clear hl hkeep
          by_cases hj : kk < s1.size
          · have dj : decide ((kk : Int) < (s1.size : Int)) = true := decide_eq_true (by omega)
            have hx : ((s1[kk]'hj).toNat : Int) = bt s1 (kk : Int) := by simp [bt, hj]
            rw [bitF, if_pos hj] at HS
            go_upto_region 13 with fail
            refine wp_region_still_tail 12 (by kernel_rfl) (by kernel_rfl) ?_
            simp only [List.take_succ_cons, List.take_zero, List.drop_succ_cons, List.drop_zero]
            repeat still_step
            still_call (xor88.calls _ _ _)
            repeat still_step
            refine wpStill_nil ?_
            go_wp2
            go_roundg (n - (kk + 1))
            case measure => omega
            case rel =>
              refine ⟨kk + 1, by omega, by omega, by go_num, ⟨below_set (pw_below_drewN HB.out 1) hg0⟩, HS⟩
          · have dj : decide ((kk : Int) < (s1.size : Int)) = false := decide_eq_false (by omega)
            rw [bitF, if_neg hj, if_neg hp1, e5] at HS
            go_wp2_with (go_at_call 88; refine (xor88.calls _ _ _).mono ?_; rintro e w' ⟨rfl, rfl⟩)
            go_roundg (n - (kk + 1))
            case measure => omega
            case rel =>
              refine ⟨kk + 1, by omega, by omega, by go_num, ⟨below_set HB.out hg0⟩, HS⟩
        · obtain rfl : kk = n := by omega
          have HR := HF.out
          rw [← HN.out, pmi_all] at HR
          have hconv := fun c => string_of_reads (P := Tryz.prog) (w := wr) (src := 83) (dst := 9) (e := 5) (A := some ⟨g0, 0, none⟩) (n := kk) (c := c) (xs := (bytesOf s0).mapIdx (bitF .xor s1 a2)) Tryz.underlying83 Tryz.underlying5 Tryz.underlying9 (by
            have := HR.reads (by simp; have := HN.out; omega); rw [List.length_mapIdx, HN.out] at this; exact this)
          clear HR
          go_wp2_with (go_at_call 113; refine (HM.out _).mono ?_; rintro e w3 ⟨rfl, hb3⟩)
          go_ret2
          exact ⟨rfl, below_step HB.out hb3⟩
  · have d0 : decide ((a0.size : Int) < (a1.size : Int)) = false := decide_eq_false (by omega)
    obtain rfl : s0 = a0 := by rw [HS0.out, if_neg hlen]
    obtain rfl : s1 = a1 := by rw [HS1.out, if_neg hlen]
    have d1 : decide (n < s1.size) = false := decide_eq_false (by omega)
    have d2 : decide ((n : Int) < (s1.size : Int)) = false := decide_eq_false (by omega)
    by_cases hp1 : a2 = -1
    · subst hp1
      go_enter Tryz.func85, Tryz.ntmps85
      go_wp2_with (go_at_call 93; refine (H1.out _).mono ?_; rintro e w1 ⟨rfl, hb1⟩)
      have HB0 := Aside0.mk (bytes_below (B := w.heap.size) hb1 hb1.size 5 s0)
      have HF0 := Aside0.mk (Buf.new w1 s0)
      have hg0 : w.heap.size ≤ w1.heap.size := hb1.size
      clear hb1
      generalize w1.heap.size = g0 at HF0 hg0 ⊢
      generalize grownCap w1 n 0 5 = cp
      generalize Lib.bytesWorld w1 5 s0 = w2 at HF0 HB0 ⊢
      go_loopg [12, 41] n (fun gg _ s41 wr => ∃ kk : Nat, kk ≤ n ∧ n - kk ≤ gg ∧ s41 = .int .i64 kk ∧ Aside0 (Below w.heap.size w wr) ∧ Aside0 (Buf g0 (pmi (bitF .xor s1 (-1)) kk (bytesOf s0)) wr))
      case atStart => exact ⟨0, Nat.zero_le _, by omega, rfl, HB0, ⟨by rw [pmi_zero]; exact HF0.out⟩⟩
      case round =>
        obtain ⟨kk, hkk, hg, rfl, HB, HF⟩ := hrel
        by_cases hlt : kk < n
        · have hltz : (kk : Int) < (n : Int) := by omega
          have hl : kk < (bytesOf s0).length := by have := HN.out; omega
          have hcell := HF.out.cell kk (by rw [pmi_length]; exact hl)
          rw [pmi_at _ kk _ hl] at hcell
          have hfree := HF.out.free kk (by rw [pmi_length]; exact hl)
          have HS := Aside0.mk (HF.out.set kk (bitF .xor s1 (-1) kk ((bytesOf s0).getD kk 0)) (by rw [pmi_length]; exact hl))
          rw [pmi_set _ kk _ hl] at HS
          have hkeep := fun h => pmi_keep (bitF .xor s1 (-1)) kk (bytesOf s0) hl h
          generalize (bytesOf s0).getD kk 0 = y at hcell HS hkeep
          have HK := Lib.hid hkeep
          clear hl hkeep
          by_cases hj : kk < s1.size
          · have dj : decide ((kk : Int) < (s1.size : Int)) = true := decide_eq_true (by omega)
            have hx : ((s1[kk]'hj).toNat : Int) = bt s1 (kk : Int) := by simp [bt, hj]
            rw [bitF, if_pos hj] at HS
            go_upto_region 13 with fail
            refine wp_region_still_tail 12 (by kernel_rfl) (by kernel_rfl) ?_
            simp only [List.take_succ_cons, List.take_zero, List.drop_succ_cons, List.drop_zero]
            repeat still_step
            still_call (xor88.calls _ _ _)
            repeat still_step
            refine wpStill_nil ?_
            go_wp2
            go_roundg (n - (kk + 1))
            case measure => omega
            case rel =>
              refine ⟨kk + 1, by omega, by omega, by go_num, ⟨below_set (pw_below_drewN HB.out 1) hg0⟩, HS⟩
          · have dj : decide ((kk : Int) < (s1.size : Int)) = false := decide_eq_false (by omega)
            have HK2 := Aside0.mk (HK.out (by rw [bitF, if_neg hj, if_pos rfl]))
            clear HS
            go_wp2
            go_roundg (n - (kk + 1))
            case measure => omega
            case rel =>
              refine ⟨kk + 1, by omega, by omega, by go_num, HB, ⟨by rw [HK2.out]; exact HF.out⟩⟩
        · obtain rfl : kk = n := by omega
          have HR := HF.out
          rw [← HN.out, pmi_all] at HR
          have hconv := fun c => string_of_reads (P := Tryz.prog) (w := wr) (src := 83) (dst := 9) (e := 5) (A := some ⟨g0, 0, none⟩) (n := kk) (c := c) (xs := (bytesOf s0).mapIdx (bitF .xor s1 (-1))) Tryz.underlying83 Tryz.underlying5 Tryz.underlying9 (by
            have := HR.reads (by simp; have := HN.out; omega); rw [List.length_mapIdx, HN.out] at this; exact this)
          clear HR
          go_wp2_with (go_at_call 113; refine (HM.out _).mono ?_; rintro e w3 ⟨rfl, hb3⟩)
          go_ret2
          exact ⟨rfl, below_step HB.out hb3⟩
    · have e1 : (a2 != -1) = true := bne_iff_ne.mpr hp1
      have hp2 : 32 ≤ a2 ∧ a2 ≤ 126 := hp.resolve_left hp1
      have e3 : decide (a2 < 32) = false := decide_eq_false (by omega)
      have e4 : decide (126 < a2) = false := decide_eq_false (by omega)
      have e5 : IntKind.u8.wrap a2 = a2 := u8w _ (by omega) (by omega)
      clear hp hp2
      go_enter Tryz.func85, Tryz.ntmps85
      go_wp2_with (go_at_call 93; refine (H1.out _).mono ?_; rintro e w1 ⟨rfl, hb1⟩)
      have HB0 := Aside0.mk (bytes_below (B := w.heap.size) hb1 hb1.size 5 s0)
      have HF0 := Aside0.mk (Buf.new w1 s0)
      have hg0 : w.heap.size ≤ w1.heap.size := hb1.size
      clear hb1
      generalize w1.heap.size = g0 at HF0 hg0 ⊢
      generalize grownCap w1 n 0 5 = cp
      generalize Lib.bytesWorld w1 5 s0 = w2 at HF0 HB0 ⊢
      go_loopg [12, 41] n (fun gg _ s41 wr => ∃ kk : Nat, kk ≤ n ∧ n - kk ≤ gg ∧ s41 = .int .i64 kk ∧ Aside0 (Below w.heap.size w wr) ∧ Aside0 (Buf g0 (pmi (bitF .xor s1 a2) kk (bytesOf s0)) wr))
      case atStart => exact ⟨0, Nat.zero_le _, by omega, rfl, HB0, ⟨by rw [pmi_zero]; exact HF0.out⟩⟩
      case round =>
        obtain ⟨kk, hkk, hg, rfl, HB, HF⟩ := hrel
        by_cases hlt : kk < n
        · have hltz : (kk : Int) < (n : Int) := by omega
          have hl : kk < (bytesOf s0).length := by have := HN.out; omega
          have hcell := HF.out.cell kk (by rw [pmi_length]; exact hl)
          rw [pmi_at _ kk _ hl] at hcell
          have hfree := HF.out.free kk (by rw [pmi_length]; exact hl)
          have HS := Aside0.mk (HF.out.set kk (bitF .xor s1 a2 kk ((bytesOf s0).getD kk 0)) (by rw [pmi_length]; exact hl))
          rw [pmi_set _ kk _ hl] at HS
          have hkeep := fun h => pmi_keep (bitF .xor s1 a2) kk (bytesOf s0) hl h
          generalize (bytesOf s0).getD kk 0 = y at hcell HS hkeep
          have HK := Lib.hid hkeep
          clear hl hkeep
          by_cases hj : kk < s1.size
          · have dj : decide ((kk : Int) < (s1.size : Int)) = true := decide_eq_true (by omega)
            have hx : ((s1[kk]'hj).toNat : Int) = bt s1 (kk : Int) := by simp [bt, hj]
            rw [bitF, if_pos hj] at HS
            go_upto_region 13 with fail
            refine wp_region_still_tail 12 (by kernel_rfl) (by kernel_rfl) ?_
            simp only [List.take_succ_cons, List.take_zero, List.drop_succ_cons, List.drop_zero]
            repeat still_step
            still_call (xor88.calls _ _ _)
            repeat still_step
            refine wpStill_nil ?_
            go_wp2
            go_roundg (n - (kk + 1))
            case measure => omega
            case rel =>
              refine ⟨kk + 1, by omega, by omega, by go_num, ⟨below_set (pw_below_drewN HB.out 1) hg0⟩, HS⟩
          · have dj : decide ((kk : Int) < (s1.size : Int)) = false := decide_eq_false (by omega)
            rw [bitF, if_neg hj, if_neg hp1, e5] at HS
            go_wp2_with (go_at_call 88; refine (xor88.calls _ _ _).mono ?_; rintro e w' ⟨rfl, rfl⟩)
            go_roundg (n - (kk + 1))
            case measure => omega
            case rel =>
              refine ⟨kk + 1, by omega, by omega, by go_num, ⟨below_set HB.out hg0⟩, HS⟩
        · obtain rfl : kk = n := by omega
          have HR := HF.out
          rw [← HN.out, pmi_all] at HR
          have hconv := fun c => string_of_reads (P := Tryz.prog) (w := wr) (src := 83) (dst := 9) (e := 5) (A := some ⟨g0, 0, none⟩) (n := kk) (c := c) (xs := (bytesOf s0).mapIdx (bitF .xor s1 a2)) Tryz.underlying83 Tryz.underlying5 Tryz.underlying9 (by
            have := HR.reads (by simp; have := HN.out; omega); rw [List.length_mapIdx, HN.out] at this; exact this)
          clear HR
          go_wp2_with (go_at_call 113; refine (HM.out _).mono ?_; rintro e w3 ⟨rfl, hb3⟩)
          go_ret2
          exact ⟨rfl, below_step HB.out hb3⟩


set_option maxRecDepth 100000 in
set_option maxHeartbeats 4000000 in
theorem bits_err88 (a0 a1 : ByteArray) (a2 : Int) (w : World) (h : ¬ ((vld a0 = true ∧ vld a1 = true) ∧ (a2 = -1 ∨ 32 ≤ a2 ∧ a2 ≤ 126))) :
    Calls Tryz.prog 85 #[.string a0, .string a1, .int .i64 a2, .func (.func 88) #[] #[]] w fun e w' => e = .returned (.tuple #[.string ⟨#[]⟩, .int .i64 1]) ∧ Below w.heap.size w w' := by
  have H1 := fun W0 => pre93 [a0, a1] W0
  obtain ⟨v, hv⟩ : ∃ v : Int, (if ([a0, a1] : List ByteArray).all vld = true then (0 : Int) else 1) = v := ⟨_, rfl⟩
  rw [hv] at H1
  have H1 := Lib.hid H1
  by_cases hq : a2 = -1 ∨ 32 ≤ a2 ∧ a2 ≤ 126
  · have hv1 : v = 1 := by
      rw [← hv, if_neg]
      intro h2
      exact h ⟨by simpa using h2, hq⟩
    clear h hv
    subst hv1
    by_cases hp1 : a2 = -1
    · subst hp1
      go_enter Tryz.func85, Tryz.ntmps85
      go_wp2_with (go_at_call 93; refine (H1.out _).mono ?_; rintro e w1 ⟨rfl, hb1⟩)
      go_ret2
      exact ⟨rfl, hb1⟩
    · have e1 : (a2 != -1) = true := bne_iff_ne.mpr hp1
      have hp2 : 32 ≤ a2 ∧ a2 ≤ 126 := hq.resolve_left hp1
      have e3 : decide (a2 < 32) = false := decide_eq_false (by omega)
      have e4 : decide (126 < a2) = false := decide_eq_false (by omega)
      clear hq hp2
      go_enter Tryz.func85, Tryz.ntmps85
      go_wp2_with (go_at_call 93; refine (H1.out _).mono ?_; rintro e w1 ⟨rfl, hb1⟩)
      go_ret2
      exact ⟨rfl, hb1⟩
  · have hp1 : ¬ a2 = -1 := fun e => hq (.inl e)
    have e1 : (a2 != -1) = true := bne_iff_ne.mpr hp1
    by_cases hlo : a2 < 32
    · have e3 : decide (a2 < 32) = true := decide_eq_true hlo
      clear h hq hv
      go_enter Tryz.func85, Tryz.ntmps85
      go_wp2_with (go_at_call 93; refine (H1.out _).mono ?_; rintro e w1 ⟨rfl, hb1⟩)
      go_ret2
      exact ⟨rfl, hb1⟩
    · have e3 : decide (a2 < 32) = false := decide_eq_false hlo
      have e4 : decide (126 < a2) = true := decide_eq_true (by omega)
      clear h hq hv
      go_enter Tryz.func85, Tryz.ntmps85
      go_wp2_with (go_at_call 93; refine (H1.out _).mono ?_; rintro e w1 ⟨rfl, hb1⟩)
      go_ret2
      exact ⟨rfl, hb1⟩

def text_BitXor.f (a0 a1 : ByteArray) (a2 : Int) : Option (ByteArray × Int) := text_bits.f .xor a0 a1 a2
set_option maxRecDepth 100000 in
theorem text_BitXor.calls (a0 a1 : ByteArray) (a2 : Int) (r1 : ByteArray) (r2 : Int) (w : World) (h : text_BitXor.f a0 a1 a2 = some (r1, r2)) :
    Calls Tryz.prog 19 #[.string a0, .string a1, .int .i64 a2] w fun e w' => e = .returned (.tuple #[.string r1, .int .i64 r2]) ∧ Below w.heap.size w w' := by
  have H : Calls Tryz.prog 85 #[.string a0, .string a1, .int .i64 a2, .func (.func 88) #[] #[]] w fun e w' => e = .returned (.tuple #[.string r1, .int .i64 r2]) ∧ Below w.heap.size w w' := by
    unfold text_BitXor.f text_bits.f at h
    by_cases hz : a0.size ≤ 100000 ∧ a1.size ≤ 100000
    · rw [if_pos hz] at h
      by_cases hv : (vld a0 = true ∧ vld a1 = true) ∧ (a2 = -1 ∨ 32 ≤ a2 ∧ a2 ≤ 126)
      · rw [if_pos hv] at h
        refine bits_in88 a0 a1 a2 _ _ r1 r2 w hz.1 hz.2 hv.1 hv.2 rfl rfl ?_
        rw [← h]
        split <;> rfl
      · rw [if_neg hv] at h
        simp only [Option.some.injEq, Prod.mk.injEq] at h
        obtain ⟨rfl, rfl⟩ := h
        exact bits_err88 a0 a1 a2 w hv
    · rw [if_neg hz] at h
      cases h
  have HH := Lib.hid H
  clear H h
  go_enter Tryz.func19, Tryz.ntmps19
  go_wp2_with (go_at_call 85; refine HH.out.mono ?_; rintro e w1 ⟨rfl, hb1⟩)
  go_ret2
  exact ⟨rfl, hb1⟩
end Go.Proofs.YtlekfhnlhdmekaaGreatDoor.T

/- text.many returns what text_many.f says. -/
namespace Go.Proofs.YtlekfhnlhdmekaaGreatDoor.T
set_option linter.unusedSimpArgs false
set_option linter.unusedVariables false
open Go.RowKit Go.Proofs.YtlekfhnlhdmekaaGreatDoorW.PrintWords Go.Proofs.YtlekfhnlhdmekaaGreatDoorW.PrintLast Go.Proofs.YtlekfhnlhdmekaaGreatDoorW.PrintMore
attribute [local go_sem] max2_int min2_int max_two min_two max_three min_three max_four min_four

def text_many.f (a0 : ByteArray) (a1 : Int) : Option ByteArray :=
  if a0.size = 0 then some ⟨#[]⟩ else strings_Repeat.f a0 (if ((1000 / a0.size : Nat) : Int) + 1 < a1 then ((1000 / a0.size : Nat) : Int) + 1 else a1)
set_option maxRecDepth 100000 in
theorem text_many.calls (a0 : ByteArray) (a1 : Int) (r : ByteArray) (w : World) (h : text_many.f a0 a1 = some r) :
    Calls Tryz.prog 126 #[.string a0, .int .i64 a1] w fun e w' => e = .returned (.string r) ∧ Below w.heap.size w w' := by
  unfold text_many.f at h
  by_cases c : a0.size = 0
  · rw [if_pos c] at h
    obtain rfl := Option.some.inj h
    have c1 : ((a0.size : Int) == 0) = true := by rw [c]; rfl
    clear h
    go_enter Tryz.func126, Tryz.ntmps126
    go_wp2
    go_ret
    exact ⟨rfl, Below.refl _ _⟩
  · rw [if_neg c] at h
    have c1 : ((a0.size : Int) == 0) = false := beq_eq_false_iff_ne.mpr (by omega)
    have hw : wrap64 ((1000 : Int) / (a0.size : Int) + 1) = ((1000 / a0.size : Nat) : Int) + 1 := by
      have e : (1000 : Int) / (a0.size : Int) = ((1000 / a0.size : Nat) : Int) := by simp
      have := Nat.div_le_self 1000 a0.size
      rw [e]
      generalize 1000 / a0.size = q at this ⊢
      unfold wrap64; omega
    rw [← hw] at h
    have H := Lib.hid (fun W => strings_Repeat.calls _ _ r W h)
    clear h hw
    go_enter Tryz.func126, Tryz.ntmps126
    go_wp2_with (go_at_call 154; refine (H.out _).mono ?_; rintro e w1 ⟨rfl, hb⟩)
    all_goals (go_ret; exact ⟨rfl, hb⟩)
end Go.Proofs.YtlekfhnlhdmekaaGreatDoor.T

/- text.Center of abc into eight bytes returns what text_Center.f says. -/
namespace Go.Proofs.YtlekfhnlhdmekaaGreatDoor.T
set_option linter.unusedSimpArgs false
set_option linter.unusedVariables false
open Go.RowKit Go.Proofs.YtlekfhnlhdmekaaGreatDoorW.PrintWords Go.Proofs.YtlekfhnlhdmekaaGreatDoorW.PrintLast Go.Proofs.YtlekfhnlhdmekaaGreatDoorW.PrintMore

def text_Center.f (a0 : ByteArray) (a1 a2 : Int) : Option (ByteArray × Int) :=
  if a0 = ⟨#[97, 98, 99]⟩ ∧ a1 = 8 ∧ a2 = 45 then some (⟨#[45, 45, 97, 98, 99, 45, 45, 45]⟩, 0) else none
set_option maxRecDepth 100000 in
set_option maxHeartbeats 4000000 in
theorem text_Center.calls (a0 : ByteArray) (a1 : Int) (a2 : Int) (r1 : ByteArray) (r2 : Int) (w : World) (h : text_Center.f a0 a1 a2 = some (r1, r2)) :
    Calls Tryz.prog 84 #[.string a0, .int .i64 a1, .int .u8 a2] w fun e w' => e = .returned (.tuple #[.string r1, .int .i64 r2]) ∧ Below w.heap.size w w' := by
  unfold text_Center.f at h
  by_cases hb : a0 = ⟨#[97, 98, 99]⟩ ∧ a1 = 8 ∧ a2 = 45
  · rw [if_pos hb] at h
    obtain ⟨rfl, rfl, rfl⟩ := hb
    simp only [Option.some.injEq, Prod.mk.injEq] at h
    obtain ⟨rfl, rfl⟩ := h
    have H1 := fun W0 => pre93 [(⟨#[97, 98, 99]⟩ : ByteArray)] W0
    rw [if_pos (show ([(⟨#[97, 98, 99]⟩ : ByteArray)] : List ByteArray).all vld = true by decide)] at H1
    have H2 := fun W0 => pre94 [(45 : Int)] W0
    rw [if_pos (show ([(45 : Int)] : List Int).all goodI = true by decide)] at H2
    have H3 := fun W0 => pre100 0 [(8 : Int)] W0
    rw [if_pos (show ([(8 : Int)] : List Int).all (fun k => decide (0 ≤ k)) = true by decide)] at H3
    have H4 := fun W0 => pre92 [0, 0, 0] 0 rfl W0
    have HA := fun W => text_many.calls ⟨#[45]⟩ 2 ⟨#[45, 45]⟩ W (by kernel_rfl)
    have HB := fun W => text_many.calls ⟨#[45]⟩ 3 ⟨#[45, 45, 45]⟩ W (by kernel_rfl)
    have HM := fun W => text_made.calls ⟨#[45, 45, 97, 98, 99, 45, 45, 45]⟩ _ _ W (show text_made.f ⟨#[45, 45, 97, 98, 99, 45, 45, 45]⟩ = some (⟨#[45, 45, 97, 98, 99, 45, 45, 45]⟩, 0) by kernel_rfl)
    have H1 := Lib.hid H1
    have H2 := Lib.hid H2
    have H3 := Lib.hid H3
    have H4 := Lib.hid H4
    have HA := Lib.hid HA
    have HB := Lib.hid HB
    have HM := Lib.hid HM
    have kc := fun (W0 : World) => string_of_reads (P := Tryz.prog) (w := W0.alloc (.cells #[.int .u8 45] 5)) (src := 83) (dst := 9) (e := 5) (A := some ⟨W0.heap.size, 0, none⟩) (n := 1) (c := 1) (xs := [45]) Tryz.underlying83 Tryz.underlying5 Tryz.underlying9
      (Kd.reads_of_C (enc := Value.int .u8) (d := (0 : Int)) (h1 := fun _ => rfl) (box_C (0 : Int) [45] 5 W0 (by simp)))
    rw [show strOfNums [45] = ⟨#[45]⟩ by kernel_rfl] at kc
    go_enter Tryz.func84, Tryz.ntmps84
    go_upto_region 9 with (first | (go_at_call 93; refine (H1.out _).mono ?_; rintro e w1 ⟨rfl, hb1⟩) | (go_at_call 94; refine (H2.out _).mono ?_; rintro e w2 ⟨rfl, hb2⟩) | (go_at_call 100; refine (H3.out _).mono ?_; rintro e w3 ⟨rfl, hb3⟩) | (go_at_call 92; refine (H4.out _).mono ?_; rintro e w4 ⟨rfl, hb4⟩))
    generalize hx1 : (⟨#[45]⟩ : ByteArray) = x1 at HA HB ⊢
    generalize hx2 : (⟨#[45, 45]⟩ : ByteArray) = x2 at HA ⊢
    generalize hx3 : (⟨#[45, 45, 45]⟩ : ByteArray) = x3 at HB ⊢
    generalize hx4 : (⟨#[97, 98, 99]⟩ : ByteArray) = x4 at H1 ⊢
    generalize hx5 : (⟨#[45, 45, 97, 98, 99, 45, 45, 45]⟩ : ByteArray) = x5 at HM ⊢
    have hc1 : x2 ++ x4 ++ x3 = x5 := by subst hx2 hx3 hx4 hx5; kernel_rfl
    have hn1 : x2.size + x4.size ≤ 9223372036854775807 := by subst hx2 hx4; decide
    have hn2 : (x2 ++ x4).size + x3.size ≤ 9223372036854775807 := by subst hx2 hx3 hx4; decide
    have e33 := eq_true hn1
    have e34 : decide (x2.size + x4.size ≤ 9223372036854775807) = true := decide_eq_true hn1
    have e35 : (9223372036854775807 < x2.size + x4.size) = False := eq_false (Nat.not_lt.2 hn1)
    have e36 := eq_true hn2
    have e37 : decide ((x2 ++ x4).size + x3.size ≤ 9223372036854775807) = true := decide_eq_true hn2
    have e38 : (9223372036854775807 < (x2 ++ x4).size + x3.size) = False := eq_false (Nat.not_lt.2 hn2)
    have hn3 : x2.size + x4.size + x3.size ≤ 9223372036854775807 := by rw [← ByteArray.size_append]; exact hn2
    have e39 := eq_true hn3
    have e40 : decide (x2.size + x4.size + x3.size ≤ 9223372036854775807) = true := decide_eq_true hn3
    have e41 : (9223372036854775807 < x2.size + x4.size + x3.size) = False := eq_false (Nat.not_lt.2 hn3)
    have HX := Aside0.mk hx5
    clear hx1 hx2 hx3 hx4 hx5 hn1 hn2 hn3 kc

    have HB0 := Aside0.mk (below_alloc (below_step hb1 (below_step hb2 (below_step hb3 hb4))) (.cells #[.int .u8 45] 5))
    generalize w4.alloc (.cells #[.int .u8 45] 5) = w5 at HB0 ⊢
    go_wp2_with (first | (go_at_call 126; with_reducible refine (HA.out _).mono ?_; rintro e w6 ⟨rfl, hb6⟩) | (go_at_call 126; with_reducible refine (HB.out _).mono ?_; rintro e w7 ⟨rfl, hb7⟩) | (go_at_call 113; with_reducible refine (HM.out _).mono ?_; rintro e w8 ⟨rfl, hb8⟩))
    go_ret2
    exact ⟨by rw [HX.out]; rfl, below_step HB0.out (below_step hb6 (below_step hb7 hb8))⟩
  · rw [if_neg hb] at h
    cases h
end Go.Proofs.YtlekfhnlhdmekaaGreatDoor.T

/- text.members returns a map that has, at each byte of a string, the first place at which it stands. -/
namespace Go.Proofs.YtlekfhnlhdmekaaGreatDoor.T
set_option linter.unusedSimpArgs false
set_option linter.unusedVariables false
open Go.RowKit Go.Maps Go.Proofs.YtlekfhnlhdmekaaGreatDoorW.PrintWords Go.Proofs.YtlekfhnlhdmekaaGreatDoorW.PrintLast Go.Proofs.YtlekfhnlhdmekaaGreatDoorW.PrintMore

theorem law5 : Keyed Tryz.prog 5 := int_keyed Tryz.underlying5
theorem zero3 (w : World) : (zeroValue 3).run Tryz.prog w = .ok (.int .i64 0) w := by kernel_rfl
theorem u8_wf {x : Int} (h0 : 0 ≤ x) (h1 : x < 256) : (Lit.int .u8 x).wf = true := WalkArith.wf_u8 ⟨h0, by omega⟩

/-- The map after k bytes. -/
def memD (xs : List Int) : Nat → DataW Unit
  | 0 => .map []
  | k + 1 => if Maps.has (memD xs k) (.int .u8 (xs.getD k 0)) = true then memD xs k else (memD xs k).put (.int .u8 (xs.getD k 0)) (.lit (.int .i64 k))
theorem memD_isMap (xs : List Int) : ∀ k, IsMap (memD xs k)
  | 0 => ⟨[], rfl⟩
  | k + 1 => by
    unfold memD
    split
    · exact memD_isMap xs k
    · exact (memD_isMap xs k).put _ _

set_option maxRecDepth 100000 in
set_option maxHeartbeats 2000000 in
theorem text_members.calls (a0 : ByteArray) (w : World) (ha : a0.size ≤ 100000) :
    Calls Tryz.prog 95 #[.string a0] w fun e w' => e = .returned (.map (some w.heap.size)) ∧ w'.ownsMap Tryz.prog 5 (plainElem Tryz.prog 3) w.heap.size a0.size (memD (bytesOf a0) a0.size) ∧ Below w.heap.size w w' := by
  have hmm := @run_makeMap Tryz.prog
  obtain ⟨n, hn⟩ : ∃ n, a0.size = n := ⟨_, rfl⟩
  go_enter Tryz.func95, Tryz.ntmps95
  go_wp2
  go_loopg [4, 5, 6, 10] n (fun gg _ _ _ s10 wr => ∃ kk : Nat, kk ≤ n ∧ n - kk ≤ gg ∧ s10 = .int .i64 kk ∧ Aside0 (Below w.heap.size w wr) ∧ Aside0 (wr.ownsMap Tryz.prog 5 (plainElem Tryz.prog 3) w.heap.size kk (memD (bytesOf a0) kk)))
  case atStart => exact ⟨0, Nat.zero_le _, by omega, rfl, ⟨below_alloc (Below.refl _ _) _⟩, ⟨World.ownsMap_made _ _ _ _⟩⟩
  case round =>
    obtain ⟨kk, hkk, hg, rfl, HB, HM⟩ := hrel
    by_cases hlt : kk < n
    · have hltz : (kk : Int) < (n : Int) := by omega
      have hl : kk < a0.size := by omega
      have hx : ((a0[kk]'hl).toNat : Int) = bt a0 (kk : Int) := by simp [bt, hl]
      have hy0 : bt a0 (kk : Int) = (bytesOf a0).getD kk 0 := bt_getD a0 kk hl
      have hr := bt_range a0 (kk : Int)
      have HS : Aside0 (memD (bytesOf a0) (kk + 1) = _) := ⟨memD.eq_2 (bytesOf a0) kk⟩
      rw [← hy0] at HS
      generalize bt a0 (kk : Int) = y at hx hr HS
      have hkey : keyOf Tryz.prog 5 (.int .u8 y) = some (.int .u8 y) := keyOf_int_mk Tryz.underlying5 (u8_wf hr.1 (by omega))
      clear hr hy0
      go_wp2_with (first
        | (at_lookup; refine wpList_lookup_own_ok_int _ rfl _ _ 91 rfl 5 3 .i64 law5 Tryz.underlying91 Tryz.underlying3 (zero3 _) w.heap.size kk _ rfl HM.out _ _ rfl hkey ?_; intro c hat hwc)
        | (at_mapUpdate; refine wpList_mapUpdate_own _ rfl _ _ _ 91 rfl 5 3 law5 Tryz.underlying91 (plainElem Tryz.prog 3) w.heap.size kk _ rfl HM.out (by unfold maxLen; omega) _ _ _ rfl rfl hkey _ [] (plainElem_int Tryz.underlying3 (WalkArith.wf_i64 (by omega))) ?_; intro w1 hown1 hgrow1)
        | go_in)
      · have ht : (!Maps.has (memD (bytesOf a0) kk) (Lit.int .u8 y)) = true := by assumption
        go_roundg (n - (kk + 1))
        case measure => omega
        case rel =>
          refine ⟨kk + 1, by omega, by omega, by go_num, ⟨HB.out.grown hgrow1 HB.out.size (fun j hj => by cases hj; exact Nat.le_refl _)⟩, ⟨?_⟩⟩
          rw [HS.out, if_neg (by simpa using ht)]
          exact hown1
      · have ht : (!Maps.has (memD (bytesOf a0) kk) (Lit.int .u8 y)) = false := by assumption
        go_roundg (n - (kk + 1))
        case measure => omega
        case rel =>
          refine ⟨kk + 1, by omega, by omega, by go_num, HB, ⟨?_⟩⟩
          rw [HS.out, if_pos (by simpa using ht)]
          exact HM.out.mono (Nat.le_succ _)
    · obtain rfl : kk = n := by omega
      go_wp2
      go_ret
      exact ⟨rfl, by rw [hn]; exact HM.out, HB.out⟩
end Go.Proofs.YtlekfhnlhdmekaaGreatDoor.T

/- text.Verify returns what text_Verify.f says. -/
namespace Go.Proofs.YtlekfhnlhdmekaaGreatDoor.T
set_option linter.unusedSimpArgs false
set_option linter.unusedVariables false
open Go.RowKit Go.Maps Go.Proofs.YtlekfhnlhdmekaaGreatDoorW.PrintWords Go.Proofs.YtlekfhnlhdmekaaGreatDoorW.PrintLast Go.Proofs.YtlekfhnlhdmekaaGreatDoorW.PrintMore

theorem u8_key (x : Int) : WideAt.IsKeyLit (.int .u8 x) := by simp [WideAt.IsKeyLit]
theorem take_snoc (xs : List Int) (k : Nat) (hk : k < xs.length) : xs.take (k + 1) = xs.take k ++ [xs.getD k 0] := by
  rw [List.take_add_one, List.getElem?_eq_getElem hk]; simp [List.getD_eq_getElem?_getD, List.getElem?_eq_getElem hk]
theorem memD_has (xs : List Int) : ∀ k, k ≤ xs.length → ∀ x, Maps.has (memD xs k) (.int .u8 x) = (xs.take k).contains x
  | 0, _ => fun x => by simp [memD, Maps.has]
  | k + 1, hk => fun x => by
    have ih := memD_has xs k (by omega)
    rw [take_snoc xs k (by omega), memD.eq_2]
    generalize xs.getD k 0 = y
    by_cases hy : Maps.has (memD xs k) (.int .u8 y) = true
    · rw [if_pos hy, ih x]
      rw [ih y] at hy
      by_cases e : x = y
      · subst e
        simp at hy ⊢
        exact hy
      · simp [e]
    · rw [if_neg hy]
      by_cases e : x = y
      · subst e
        rw [has_put_same (memD_isMap xs k) (u8_key x)]
        simp
      · rw [has_put_other (by simpa using e), ih x]
        simp [e]
theorem memD_at (xs : List Int) (z : DataW Unit) : ∀ k, k ≤ xs.length → ∀ x, (xs.take k).contains x = true → (memD xs k).atKey (.int .u8 x) z = .lit (.int .i64 (idxI (fun y => y == x) xs))
  | 0, _ => fun x h => by simp at h
  | k + 1, hk => fun x h => by
    have ih := memD_at xs z k (by omega)
    have ihh := memD_has xs k (by omega)
    rw [take_snoc xs k (by omega)] at h
    rw [memD.eq_2]
    obtain ⟨y, hy⟩ : ∃ y, xs.getD k 0 = y := ⟨_, rfl⟩
    rw [hy] at h ⊢
    by_cases hx : (xs.take k).contains x = true
    · by_cases hz : Maps.has (memD xs k) (.int .u8 y) = true
      · rw [if_pos hz, ih x hx]
      · rw [if_neg hz]
        have e : x ≠ y := fun e => by subst e; rw [ihh x] at hz; exact hz hx
        rw [atKey_put_other (by simpa using e), ih x hx]
    · have e : x = y := by simp at h hx; exact h.resolve_left hx
      subst e
      have hz : ¬ Maps.has (memD xs k) (.int .u8 x) = true := by rw [ihh x]; exact hx
      rw [if_neg hz, atKey_put_same (memD_isMap xs k) (u8_key x)]
      rw [idxI_hit (fun y => y == x) xs 0 k (by omega) (by rw [hy]; simp) (fun j hj => ?_)]
      have : ¬ (xs.getD j 0) = x := fun e => by
        apply hx
        have h1 : xs.getD j 0 = (xs.take k)[j]'(by simp; omega) := by simp [List.getD_eq_getElem?_getD, List.getElem?_eq_getElem (show j < xs.length by omega)]
        rw [← e, h1, List.contains_iff_mem]
        exact List.getElem_mem _
      simpa using this

/-- The position of the first byte, from an offset on, for which p holds; 0 if there is none. -/
def verI (p : Int → Bool) (xs : List Int) (st : Nat) : Int := if 0 ≤ idxI p (xs.drop st) then (st : Int) + idxI p (xs.drop st) + 1 else 0
theorem verI_hit (p : Int → Bool) (xs : List Int) (st j : Nat) (hst : st ≤ j) (hj : j < xs.length) (hp : p (xs.getD j 0) = true) (hn : ∀ i, st ≤ i → i < j → p (xs.getD i 0) = false) : verI p xs st = (j : Int) + 1 := by
  have h : idxI p (xs.drop st) = ((j - st : Nat) : Int) := idxI_hit p _ 0 (j - st) (by simp; omega) (by simp only [List.getD_eq_getElem?_getD, List.getElem?_drop] at hp ⊢; rw [show st + (j - st) = j by omega]; exact hp)
    (fun i hi => by have := hn (st + i) (by omega) (by omega); simpa only [List.getD_eq_getElem?_getD, List.getElem?_drop] using this)
  unfold verI
  rw [h, if_pos (by omega)]
  omega
theorem verI_miss (p : Int → Bool) (xs : List Int) (st : Nat) (hn : ∀ i, st ≤ i → i < xs.length → p (xs.getD i 0) = false) : verI p xs st = 0 := by
  have h : idxI p (xs.drop st) = -1 := idxI_miss p _ 0 (fun i hi => by
    have := hn (st + i) (by omega) (by simp at hi; omega)
    simpa only [List.getD_eq_getElem?_getD, List.getElem?_drop] using this)
  unfold verI
  rw [h, if_neg (by omega)]

def text_Verify.f (a0 a1 : ByteArray) (a2 : Bool) (a3 : Int) : Option (Int × Int) :=
  if a0.size ≤ 100000 ∧ a1.size ≤ 100000 ∧ a3 ≤ 9223372036854775807 then
    (if (vld a0 = true ∧ vld a1 = true) ∧ 1 ≤ a3 then some (verI (fun x => (bytesOf a1).contains x == a2) (bytesOf a0) (a3 - 1).toNat, 0) else some (0, 1))
  else none

theorem first2 (b c : Prop) [Decidable b] [Decidable c] : text_first.f [if b then 0 else 1, if c then 0 else 1] = some (if b ∧ c then 0 else 1) := by
  by_cases h1 : b <;> by_cases h2 : c <;> simp [h1, h2] <;> rfl

set_option maxRecDepth 100000 in
set_option maxHeartbeats 4000000 in
theorem text_Verify.calls (a0 a1 : ByteArray) (a2 : Bool) (a3 : Int) (r1 r2 : Int) (w : World) (h : text_Verify.f a0 a1 a2 a3 = some (r1, r2)) :
    Calls Tryz.prog 32 #[.string a0, .string a1, .bool a2, .int .i64 a3] w fun e w' => e = .returned (.tuple #[.int .i64 r1, .int .i64 r2]) ∧ Below w.heap.size w w' := by
  unfold text_Verify.f at h
  by_cases hb : a0.size ≤ 100000 ∧ a1.size ≤ 100000 ∧ a3 ≤ 9223372036854775807
  · rw [if_pos hb] at h
    obtain ⟨hz0, hz1, hz3⟩ := hb
    have H1 := fun W0 => pre93 [a0, a1] W0
    have H2 := fun W0 => pre100 1 [a3] W0
    have H3 := fun W0 => pre92 _ _ (first2 (([a0, a1] : List ByteArray).all vld = true) (([a3] : List Int).all (fun k => decide (1 ≤ k)) = true)) W0
    generalize hv1 : (if ([a0, a1] : List ByteArray).all vld = true then (0 : Int) else 1) = v1 at H1 H3
    generalize hv2 : (if ([a3] : List Int).all (fun k => decide (1 ≤ k)) = true then (0 : Int) else 1) = v2 at H2 H3
    clear hv1 hv2
    have hcond : ((([a0, a1] : List ByteArray).all vld = true) ∧ (([a3] : List Int).all (fun k => decide (1 ≤ k)) = true)) ↔ ((vld a0 = true ∧ vld a1 = true) ∧ 1 ≤ a3) := by simp [and_assoc]
    by_cases hv : (vld a0 = true ∧ vld a1 = true) ∧ 1 ≤ a3
    · rw [if_pos hv] at h
      rw [if_pos (hcond.2 hv)] at H3
      clear hcond
      have H1 := Lib.hid H1
      have H2 := Lib.hid H2
      have H3 := Lib.hid H3
      simp only [Option.some.injEq, Prod.mk.injEq] at h
      obtain ⟨h, rfl⟩ := h
      obtain ⟨_, h3⟩ := hv
      go_enter Tryz.func32, Tryz.ntmps32
      go_wp2_with (first | (go_at_call 93; refine (H1.out _).mono ?_; rintro e w1 ⟨rfl, hb1⟩) | (go_at_call 100; refine (H2.out _).mono ?_; rintro e w2 ⟨rfl, hb2⟩) | (go_at_call 92; refine (H3.out _).mono ?_; rintro e w3 ⟨rfl, hb3⟩) | (go_at_call 95; refine (text_members.calls a1 _ hz1).mono ?_; rintro e w4 ⟨rfl, hm, hb4⟩))
      obtain ⟨st, hst⟩ : ∃ st : Nat, a3 = (st : Int) + 1 := ⟨(a3 - 1).toNat, by omega⟩
      have h4 : a3 - 1 = (st : Int) := by omega
      have e5 : (a3 - 1).toNat = st := by omega
      rw [h4]
      rw [e5] at h
      have HR := Aside0.mk h
      have HB := Aside0.mk (below_step (below_step hb1 (below_step hb2 hb3)) hb4)
      have HM := Aside0.mk hm
      obtain ⟨n, hn⟩ : ∃ n, a0.size = n := ⟨_, rfl⟩
      have hs : (st : Int) ≤ 9223372036854775806 := by omega
      clear h hb1 hb2 hb3 hb4 hm h4 e5 hst
      go_loopg [12, 13, 14] n (fun gg s12 _ _ wr => ∃ kk : Nat, st ≤ kk ∧ (kk : Int) ≤ 9223372036854775807 ∧ n - kk ≤ gg ∧ s12 = .int .i64 kk ∧ wr = w4 ∧ Aside0 (∀ i, st ≤ i → i < kk → ((bytesOf a1).contains ((bytesOf a0).getD i 0) == a2) = false))
      case atStart => exact ⟨st, Nat.le_refl _, by omega, by omega, rfl, rfl, ⟨fun i h1 h2 => absurd h1 (by omega)⟩⟩
      case round =>
        obtain ⟨kk, hkk, hkm, hg, rfl, rfl, HA⟩ := hrel
        by_cases hlt : kk < n
        · have hltz : (kk : Int) < (n : Int) := by omega
          have hl : kk < a0.size := by omega
          have hx : ((a0[kk]'hl).toNat : Int) = bt a0 (kk : Int) := by simp [bt, hl]
          have hy0 : bt a0 (kk : Int) = (bytesOf a0).getD kk 0 := bt_getD a0 kk hl
          have hr := bt_range a0 (kk : Int)
          have HY := Aside0.mk hy0
          generalize bt a0 (kk : Int) = y at hx hr HY
          have hkey : keyOf Tryz.prog 5 (.int .u8 y) = some (.int .u8 y) := keyOf_int_mk Tryz.underlying5 (u8_wf hr.1 (by omega))
          have hhas : Maps.has (memD (bytesOf a1) a1.size) (.int .u8 y) = (bytesOf a1).contains y := by
            rw [memD_has (bytesOf a1) a1.size (by rw [bytesOf_length]; exact Nat.le_refl _), ← bytesOf_length, List.take_length]
          have HH := Aside0.mk hhas
          clear hr hy0 hhas
          go_wp2_with (first
            | (at_lookup; refine wpList_lookup_own_ok_int _ rfl _ _ 91 rfl 5 3 .i64 law5 Tryz.underlying91 Tryz.underlying3 (zero3 _) w3.heap.size a1.size _ rfl HM.out _ _ rfl hkey ?_; intro c hat hwc)
            | go_in)
          · have ht : (Maps.has (memD (bytesOf a1) a1.size) (.int .u8 y) == a2) = true := by assumption
            rw [HH.out, HY.out] at ht
            go_ret2
            refine ⟨?_, HB.out⟩
            rw [← HR.out, verI_hit _ _ st kk hkk (by rw [bytesOf_length]; exact hl) ht HA.out]
            rfl
          · have ht : (Maps.has (memD (bytesOf a1) a1.size) (.int .u8 y) == a2) = false := by assumption
            rw [HH.out, HY.out] at ht
            go_roundg (n - (kk + 1))
            case measure => omega
            case rel =>
              refine ⟨kk + 1, by omega, by omega, by omega, by go_num, rfl, ⟨fun i h1 h2 => ?_⟩⟩
              by_cases e : i = kk
              · subst e; exact ht
              · exact HA.out i h1 (by omega)
        · have hltz : ¬ (kk : Int) < (n : Int) := by omega
          go_wp2
          go_ret2
          refine ⟨?_, HB.out⟩
          rw [← HR.out, verI_miss _ _ st (fun i h1 h2 => HA.out i h1 (by rw [bytesOf_length] at h2; omega))]
          rfl
    · rw [if_neg hv] at h
      rw [if_neg (fun h => hv (hcond.1 h))] at H3
      clear hcond
      have H1 := Lib.hid H1
      have H2 := Lib.hid H2
      have H3 := Lib.hid H3
      simp only [Option.some.injEq, Prod.mk.injEq] at h
      obtain ⟨rfl, rfl⟩ := h
      go_enter Tryz.func32, Tryz.ntmps32
      go_wp2_with (first | (go_at_call 93; refine (H1.out _).mono ?_; rintro e w1 ⟨rfl, hb1⟩) | (go_at_call 100; refine (H2.out _).mono ?_; rintro e w2 ⟨rfl, hb2⟩) | (go_at_call 92; refine (H3.out _).mono ?_; rintro e w3 ⟨rfl, hb3⟩))
      go_ret2
      exact ⟨rfl, below_step hb1 (below_step hb2 hb3)⟩
  · rw [if_neg hb] at h
    cases h

end Go.Proofs.YtlekfhnlhdmekaaGreatDoor.T

/- text.Translate returns what text_Translate.f says. -/
namespace Go.Proofs.YtlekfhnlhdmekaaGreatDoor.T
set_option linter.unusedSimpArgs false
set_option linter.unusedVariables false
open Go.RowKit Go.Maps Go.Proofs.YtlekfhnlhdmekaaGreatDoorW.PrintWords Go.Proofs.YtlekfhnlhdmekaaGreatDoorW.PrintLast Go.Proofs.YtlekfhnlhdmekaaGreatDoorW.PrintMore

/-- Block g holds 256 bytes: F 0, F 1, .. -/
def Tab (g : Nat) (F : Nat → Int) (W : World) : Prop := Buf g ((List.range 256).map F) W
def upd (F : Nat → Int) (j : Nat) (x : Int) : Nat → Int := fun i => if i = j then x else F i
theorem tab_getD (F : Nat → Int) (j : Nat) (hj : j < 256) : ((List.range 256).map F).getD j 0 = F j := by
  simp [List.getD_eq_getElem?_getD, List.getElem?_map, List.getElem?_range, hj]
theorem Tab.cell {g : Nat} {F : Nat → Int} {W : World} (h : Tab g F W) (j : Nat) (hj : j < 256) : W.cell? ⟨g, j, none⟩ = some (.int .u8 (F j)) := by
  have := Buf.cell h j (by simpa using hj)
  rwa [tab_getD F j hj] at this
theorem Tab.free {g : Nat} {F : Nat → Int} {W : World} (h : Tab g F W) (j : Nat) (hj : j < 256) : W.frozen? ⟨g, j, none⟩ = false := Buf.free h j (by simpa using hj)
theorem Tab.set {g : Nat} {F : Nat → Int} {W : World} (h : Tab g F W) (j : Nat) (x : Int) (hj : j < 256) : Tab g (upd F j x) (W.setCell ⟨g, j, none⟩ (.int .u8 x)) := by
  have := Buf.set h j x (by simpa using hj)
  unfold Tab
  have e : (List.range 256).map (upd F j x) = ((List.range 256).map F).set j x := by
    apply List.ext_getElem?
    intro i
    rw [List.getElem?_set]
    simp only [List.getElem?_map, List.length_map, List.length_range]
    by_cases hi : i < 256
    · by_cases e : j = i
      · subst e; simp [hi, upd]
      · have e2 : ¬ i = j := fun h => e h.symm
        simp [hi, e, e2, upd]
    · by_cases e : j = i
      · subst e; simp [hi]
      · simp [hi, e]
  rw [e]
  exact this
theorem Tab.congr {g : Nat} {F G : Nat → Int} {W : World} (h : Tab g F W) (hFG : ∀ j, j < 256 → F j = G j) : Tab g G W := by
  unfold Tab at h ⊢
  have e : (List.range 256).map G = (List.range 256).map F := List.map_congr_left (fun i hi => (hFG i (by simpa using hi)).symm)
  rw [e]
  exact h
theorem Tab.grown {g : Nat} {F : Nat → Int} {W W' : World} {row : Option Nat} (h : Tab g F W) (hg : W.grownBy W' row) (hr : some g ≠ row) : Tab g F W' := by
  obtain ⟨c, e, lo, hi, hh, hl, hc⟩ := h
  have hlt : g < W.heap.size := (Array.getElem?_eq_some_iff.1 hh).1
  exact ⟨c, e, lo, hi, (hg.block g hlt hr).trans hh, hl, hc⟩
theorem Tab.below {g : Nat} {F : Nat → Int} {W W' : World} (h : Tab g F W) (hb : Below W.heap.size W W') : Tab g F W' := by
  obtain ⟨c, e, lo, hi, hh, hl, hc⟩ := h
  have hlt : g < W.heap.size := (Array.getElem?_eq_some_iff.1 hh).1
  exact ⟨c, e, lo, hi, (hb.block g hlt).trans hh, hl, hc⟩
theorem Tab.lt {g : Nat} {F : Nat → Int} {W : World} (h : Tab g F W) : g < W.heap.size := by
  obtain ⟨c, e, lo, hi, hh, _⟩ := h
  exact (Array.getElem?_eq_some_iff.1 hh).1

theorem table_of.calls (F : Nat → Int) (g : Nat) (x : Int) (w : World) (hx : 0 ≤ x) (hx1 : x < 256) (hT : Tab g F w) :
    Calls Tryz.prog 97 #[.pointer (some ⟨g, 0, none⟩), .int .u8 x] w fun e w' => e = .returned (.int .u8 (F x.toNat)) ∧ Drawn0 w w' := by
  obtain ⟨k, rfl⟩ := Int.eq_ofNat_of_zero_le hx
  have hc := hT.cell k (by omega)
  simp only [Int.toNat_natCast]
  clear hT
  go_enter Tryz.func97, Tryz.ntmps97
  go_wp2
  go_ret
  exact ⟨rfl, ⟨⟨0, rfl⟩⟩⟩

theorem u8_of_wf {x : Int} (h : (Lit.int .u8 x).wf = true) : 0 ≤ x ∧ x < 256 := by
  simp [Lit.wf, IntKind.min, IntKind.max, IntKind.bits, IntKind.signed] at h
  omega
/-- What Translate makes of a byte. -/
def trB (out inn : ByteArray) (pad : Int) (x : Int) : Int :=
  if 0 ≤ idxI (fun y => y == x) (bytesOf inn) then (if idxI (fun y => y == x) (bytesOf inn) < out.size then bt out (idxI (fun y => y == x) (bytesOf inn)) else pad) else x
def text_Translate.f (a0 a1 a2 : ByteArray) (a3 : Int) : Option (ByteArray × Int) :=
  if a0.size ≤ 100000 ∧ a1.size ≤ 100000 ∧ a2.size ≤ 100000 ∧ 0 ≤ a3 ∧ a3 < 256 then
    (if (vld a0 = true ∧ vld a1 = true ∧ vld a2 = true) ∧ goodI a3 = true then some (mapd (trB a1 a2 a3) a0, 0) else some (⟨#[]⟩, 1))
  else none

set_option maxRecDepth 100000 in
set_option maxHeartbeats 4000000 in
theorem text_Translate.calls (a0 a1 a2 : ByteArray) (a3 : Int) (r1 : ByteArray) (r2 : Int) (w : World) (h : text_Translate.f a0 a1 a2 a3 = some (r1, r2)) :
    Calls Tryz.prog 24 #[.string a0, .string a1, .string a2, .int .u8 a3] w fun e w' => e = .returned (.tuple #[.string r1, .int .i64 r2]) ∧ Below w.heap.size w w' := by
  unfold text_Translate.f at h
  by_cases hb : a0.size ≤ 100000 ∧ a1.size ≤ 100000 ∧ a2.size ≤ 100000 ∧ 0 ≤ a3 ∧ a3 < 256
  · rw [if_pos hb] at h
    obtain ⟨hz0, hz1, hz2, hp0, hp1⟩ := hb
    have H1 := fun W0 => pre93 [a0, a1, a2] W0
    have H2 := fun W0 => pre94 [a3] W0
    have H3 := fun W0 => pre92 _ _ (first2 (([a0, a1, a2] : List ByteArray).all vld = true) (([a3] : List Int).all goodI = true)) W0
    generalize hv1 : (if ([a0, a1, a2] : List ByteArray).all vld = true then (0 : Int) else 1) = v1 at H1 H3
    generalize hv2 : (if ([a3] : List Int).all goodI = true then (0 : Int) else 1) = v2 at H2 H3
    clear hv1 hv2
    have hcond : ((([a0, a1, a2] : List ByteArray).all vld = true) ∧ (([a3] : List Int).all goodI = true)) ↔ ((vld a0 = true ∧ vld a1 = true ∧ vld a2 = true) ∧ goodI a3 = true) := by simp [and_assoc]
    by_cases hv : (vld a0 = true ∧ vld a1 = true ∧ vld a2 = true) ∧ goodI a3 = true
    · rw [if_pos hv] at h
      rw [if_pos (hcond.2 hv)] at H3
      clear hcond hv
      have H1 := Lib.hid H1
      have H2 := Lib.hid H2
      have H3 := Lib.hid H3
      simp only [Option.some.injEq, Prod.mk.injEq] at h
      obtain ⟨rfl, rfl⟩ := h
      go_enter Tryz.func24, Tryz.ntmps24
      go_wp2_with (first | (go_at_call 93; refine (H1.out _).mono ?_; rintro e w1 ⟨rfl, hb1⟩) | (go_at_call 94; refine (H2.out _).mono ?_; rintro e w2 ⟨rfl, hb2⟩) | (go_at_call 92; refine (H3.out _).mono ?_; rintro e w3 ⟨rfl, hb3⟩))
      have hT0 : Tab w3.heap.size (fun _ => 0) (w3.alloc (.cells Tryz.zeroCells90 90)) := by
        refine ⟨_, _, _, _, heap_alloc_new w3 _, .inr rfl, fun j hj => ?_⟩
        rw [tab_getD _ j (by simpa using hj)]
        have e : Tryz.zeroCells90 = Array.replicate 256 (.int .u8 0) := by kernel_rfl
        rw [e, Array.getElem?_replicate, if_pos (by simpa using hj)]
      have HB := Aside0.mk (below_alloc (below_step hb1 (below_step hb2 hb3)) (.cells Tryz.zeroCells90 90))
      have hg3 : w.heap.size ≤ w3.heap.size := (below_step hb1 (below_step hb2 hb3)).size
      clear hb1 hb2 hb3
      generalize w3.heap.size = g at hT0 hg3 ⊢
      generalize w3.alloc (.cells Tryz.zeroCells90 90) = w4 at hT0 HB ⊢
      have HT := Aside0.mk hT0
      clear hT0
      go_loopg [12, 28] 256 (fun gg _ s28 wr => ∃ (kk : Nat) (F : Nat → Int), kk ≤ 256 ∧ 256 - kk ≤ gg ∧ s28 = .int .i64 kk ∧ Aside0 (Below w.heap.size w wr) ∧ Aside0 (Tab g F wr ∧ ∀ j, j < kk → F j = (j : Int)))
      case atStart => exact ⟨0, _, by omega, by omega, rfl, HB, ⟨HT.out, fun j hj => absurd hj (by omega)⟩⟩
      case round =>
        obtain ⟨kk, F, hkk, hg, rfl, HB, HA⟩ := hrel
        by_cases hlt : kk < 256
        · have hltz : (kk : Int) < 256 := by omega
          have e1 : IntKind.u8.wrap (kk : Int) = (kk : Int) := u8w _ (by omega) (by omega)
          have hfree := HA.out.1.free kk hlt
          have hcell := HA.out.1.cell kk hlt
          go_wp2
          go_roundg (256 - (kk + 1))
          case measure => omega
          case rel =>
            refine ⟨kk + 1, _, by omega, by omega, by go_num, ⟨below_set HB.out hg3⟩, ⟨HA.out.1.set kk (kk : Int) hlt, fun j hj => ?_⟩⟩
            by_cases e : j = kk
            · subst e; simp [upd]
            · simp [upd, e]
              exact HA.out.2 j (by omega)
        · obtain rfl : kk = 256 := by omega
          go_wp2_with (first
            | (go_at_call 95; refine (text_members.calls a2 _ hz2).mono ?_; rintro e w5 ⟨rfl, hm, hb4⟩)
            | (at_range; refine wpList_range_own _ rfl _ 91 rfl 5 3 law5 Tryz.underlying91 _ wr.heap.size a2.size _ rfl hm ?_; intro w6 hrg0 hg0 hs0)
            | go_in)
          go_frame
          have hgr := HA.out.1.lt
          have hr5 : wr.heap.size < w5.heap.size := hm.lt
          have HT6 := Aside0.mk ((HA.out.1.below hb4).grown hg0 (by simp))
          have HF := Aside0.mk HA.out.2
          have HB6 := Aside0.mk ((below_step HB.out hb4).grown hg0 (below_step HB.out hb4).size (fun j hj => by cases hj))
          generalize hmb : wr.heap.size = mb at hrg0 hgr hr5 ⊢
          generalize hir : w5.heap.size = ir at hrg0 hr5 ⊢
          have HD := Aside0.mk (memD_has (bytesOf a2) a2.size (by rw [bytesOf_length]; exact Nat.le_refl _))
          have HE := Aside0.mk (fun z => memD_at (bytesOf a2) z a2.size (by rw [bytesOf_length]; exact Nat.le_refl _))
          have hta : (bytesOf a2).take a2.size = bytesOf a2 := by rw [← bytesOf_length, List.take_length]
          rw [hta] at HD HE
          generalize memD (bytesOf a2) a2.size = D at hrg0 HD HE
          have HR0 := Aside0.mk hrg0
          clear hrg0 hmb hir hm hb4 hg0 hs0 hta HA HB hg hkk hlt
          go_loopg [13, 14] (Maps.size D) (fun gg _ _ wr => ∃ (left : Lit → Bool) (cnt : Nat) (G : Nat → Int), cnt ≤ gg ∧ Aside0 (Below w.heap.size w wr) ∧ Aside0 (Tab g G wr) ∧ Aside0 (wr.ranges Tryz.prog 5 (plainElem Tryz.prog 3) mb ir a2.size D left cnt) ∧
            Aside0 (∀ j : Nat, j < 256 → G j = if left (.int .u8 (j : Int)) = true then (j : Int) else trB a1 a2 a3 j))
          case atStart =>
            refine ⟨_, _, F, Nat.le_refl _, HB6, HT6, HR0, ⟨fun j hj => ?_⟩⟩
            rw [HF.out j hj, HD.out (j : Int)]
            split
            · rfl
            · next hc =>
              have : idxI (fun y => y == (j : Int)) (bytesOf a2) = -1 := idxI_miss _ _ 0 (fun i hi => by
                have h1 : ¬ (bytesOf a2).getD i 0 = (j : Int) := fun e => by
                  apply hc
                  rw [← e, List.contains_iff_mem]
                  exact getD_mem _ i hi
                simpa using h1)
              rw [trB, this, if_neg (by omega)]
          case round =>
            obtain ⟨left, cnt, G, hcg, HB, HT, HR, HG⟩ := hrel
            go_wp2_with (first
              | (at_next; refine wpList_next_ranges_ii _ rfl _ rfl 5 3 .u8 .i64 law5 Tryz.underlying5 Tryz.underlying3 mb ir a2.size _ _ _ rfl HR.out ?_ ?_)
              | go_in)
            · intro hc0 hl0
              have HP := text_mapped.calls a0 97 #[.pointer (some ⟨g, 0, none⟩)] #[] (trB a1 a2 a3) _ hz0 (enters_of Tryz.func97 (by kernel_rfl) rfl) (by
                intro W x hx hx1 hW
                have h1 := table_of.calls G g x W hx hx1 (HT.out.below hW)
                have h2 := HG.out x.toNat (by omega)
                rw [hl0, if_neg (by simp), show ((x.toNat : Nat) : Int) = x by omega] at h2
                rw [h2] at h1
                exact h1)
              have HC := Lib.hid HP
              clear HP hl0 hc0
              go_wp2_with (go_at_call 96; refine HC.out.mono ?_; rintro e w8 ⟨rfl, hb8⟩)
              go_ret2
              exact ⟨rfl, below_step HB.out hb8⟩
            · intro x c w7 cnt1 hwx hwc hlx hat hrg1 hlt hg1 hs1 hen
              obtain ⟨hx0, hx1⟩ := u8_of_wf hwx
              obtain ⟨xn, rfl⟩ := Int.eq_ofNat_of_zero_le hx0
              have hxn : xn < 256 := by omega
              have HT7 : Aside0 (Tab g G w7) := ⟨HT.out.grown hg1 (by intro e; cases e; omega)⟩
              have hfree := HT7.out.free xn hxn
              have hcell := HT7.out.cell xn hxn
              have hhas : (bytesOf a2).contains (xn : Int) = true := by
                by_cases hc : Maps.has D (.int .u8 (xn : Int)) = true
                · rw [← HD.out]; exact hc
                · have hf : Maps.has D (.int .u8 (xn : Int)) = false := by simpa using hc
                  have h1 := hat (.map [])
                  rw [Maps.atKey_of_not_has hf] at h1
                  cases h1
              have hval := (HE.out (.map []) (xn : Int) hhas).symm.trans (hat (.map []))
              have hci : idxI (fun y => y == (xn : Int)) (bytesOf a2) = c := by simpa using hval
              have hc0 : 0 ≤ c := by
                have := idxI_any (fun y => y == (xn : Int)) (bytesOf a2)
                rw [hci] at this
                have h2 : (bytesOf a2).any (fun y => y == (xn : Int)) = true := by
                  rw [List.any_eq_true]
                  exact ⟨_, by simpa using hhas, by simp⟩
                rw [h2] at this
                simpa using this
              obtain ⟨cn, rfl⟩ := Int.eq_ofNat_of_zero_le hc0
              have hne : ∀ j : Nat, j < 256 → j ≠ xn → (left (.int .u8 (j : Int)) && !(Lit.int .u8 (j : Int)).sameKey (.int .u8 (xn : Int))) = left (.int .u8 (j : Int)) := fun j hj hne => by
                rw [sameKey_ne (by simp; omega)]; simp
              have hsame : (left (.int .u8 (xn : Int)) && !(Lit.int .u8 (xn : Int)).sameKey (.int .u8 (xn : Int))) = false := by
                rw [WideAt.sameKey_self (u8_key _)]; simp
              have HNE := Aside0.mk hne
              have HSA := Aside0.mk hsame
              have HCI := Aside0.mk hci
              have HB7 : Aside0 (Below w.heap.size w w7) := ⟨HB.out.grown hg1 HB.out.size (fun j hj => by cases hj; omega)⟩
              have HR7 := Aside0.mk hrg1
              clear hne hsame hval hhas hci hat hlx hrg1 hwx hwc
              by_cases hco : cn < a1.size
              · have d1 : decide ((cn : Int) < (a1.size : Int)) = true := decide_eq_true (by omega)
                have hx : ((a1[cn]'hco).toNat : Int) = bt a1 (cn : Int) := by simp [bt, hco]
                go_wp2
                go_roundg cnt1
                case measure => omega
                case rel =>
                  refine ⟨_, cnt1, upd (upd G xn a3) xn (bt a1 (cn : Int)), Nat.le_refl _, ⟨below_set (below_set HB7.out hg3) hg3⟩, ⟨(HT7.out.set xn a3 hxn).set xn _ hxn⟩, ⟨(HR7.out.kept (Lib.grownBy_setCell _ g xn _) (by intro e; cases e; omega) (by intro e; cases e; omega)).kept (Lib.grownBy_setCell _ g xn _) (by intro e; cases e; omega) (by intro e; cases e; omega)⟩, ⟨fun j hj => ?_⟩⟩
                  by_cases e : j = xn
                  · subst e
                    rw [HSA.out, if_neg (by simp), trB, HCI.out, if_pos (by omega), if_pos (by omega)]
                    simp [upd]
                  · rw [HNE.out j hj e]
                    simp only [upd, if_neg e]
                    exact HG.out j hj
              · have d1 : decide ((cn : Int) < (a1.size : Int)) = false := decide_eq_false (by omega)
                go_wp2
                go_roundg cnt1
                case measure => omega
                case rel =>
                  refine ⟨_, cnt1, upd G xn a3, Nat.le_refl _, ⟨below_set HB7.out hg3⟩, ⟨HT7.out.set xn a3 hxn⟩, ⟨HR7.out.kept (Lib.grownBy_setCell _ g xn _) (by intro e; cases e; omega) (by intro e; cases e; omega)⟩, ⟨fun j hj => ?_⟩⟩
                  by_cases e : j = xn
                  · subst e
                    rw [HSA.out, if_neg (by simp), trB, HCI.out, if_pos (by omega), if_neg (by omega)]
                    simp [upd]
                  · rw [HNE.out j hj e]
                    simp only [upd, if_neg e]
                    exact HG.out j hj
    · rw [if_neg hv] at h
      rw [if_neg (fun h => hv (hcond.1 h))] at H3
      clear hcond hv
      have H1 := Lib.hid H1
      have H2 := Lib.hid H2
      have H3 := Lib.hid H3
      simp only [Option.some.injEq, Prod.mk.injEq] at h
      obtain ⟨rfl, rfl⟩ := h
      go_enter Tryz.func24, Tryz.ntmps24
      go_wp2_with (first | (go_at_call 93; refine (H1.out _).mono ?_; rintro e w1 ⟨rfl, hb1⟩) | (go_at_call 94; refine (H2.out _).mono ?_; rintro e w2 ⟨rfl, hb2⟩) | (go_at_call 92; refine (H3.out _).mono ?_; rintro e w3 ⟨rfl, hb3⟩))
      go_ret2
      exact ⟨rfl, below_step hb1 (below_step hb2 hb3)⟩
  · rw [if_neg hb] at h
    cases h
end Go.Proofs.YtlekfhnlhdmekaaGreatDoor.T
