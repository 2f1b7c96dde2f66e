/- Part 5 of the proof of ScanLiterals: the functions that it calls return what their plain descriptions say. -/
import Derived.Test.YtkkpjonfaflkmaaGreatDoorCScanLiterals3
import Derived.Test.YtkkpjonfaflkmaaGreatDoorCScanLiterals4

namespace Go.Proofs.YtkkpjonfaflkmaaGreatDoor.T
set_option linter.unusedSimpArgs false
open Go.RowKit Go.Proofs.YtkkpjonfaflkmaaGreatDoorW.PrintWords Go.Proofs.YtkkpjonfaflkmaaGreatDoorW.PrintLast Go.Proofs.YtkkpjonfaflkmaaGreatDoorW.PrintMore
attribute [local go_sem] max2_int min2_int max_two min_two max_three min_three max_four min_four   -- for this text's walks alone
set_option linter.unusedVariables false
set_option linter.unusedSimpArgs false
mutual
def qanatref03_literal.l0 : Nat → ByteArray → Int → Int → List Int → Int → Int → Int → Option (Int × ByteArray × Int × Int × Int)
  | 0, _, _, _, _, _, _, _ => none
  | k + 1, x0, x2, x7, x8, x9, x10, x11 => if x10 < 0 then (if x11 ≥ (x0.size : Int) then (qanatref03_literal.j1 k x0 x2 x7 x8 x9 x10 x11 true) else (if 0 ≤ x11 then (if x11 < (x0.size : Int) then (qanatref03_literal.j1 k x0 x2 x7 x8 x9 x10 x11 ((bt x0 x11) == 10)) else (none)) else (none))) else (if 0 ≤ x9 then (if x9 ≤ (wrap64 (x10 - 1)) then (if (wrap64 (x10 - 1)) ≤ (x0.size : Int) then ((qanatref03_Plain.f k (x0.extract (x9 : Int).toNat ((wrap64 (x10 - 1)) : Int).toNat)).bind fun t181 => (if t181 = true then (if x10 < (x0.size : Int) then (if 0 ≤ x10 then (if (bt x0 x10) = 88 then (if (wrap64 (x10 + 1)) ≥ (x0.size : Int) then (qanatref03_literal.j3 k x0 x2 x10 (strOfNums x8) (x0.extract (x9 : Int).toNat ((wrap64 (x10 - 1)) : Int).toNat) true) else (if 0 ≤ (wrap64 (x10 + 1)) then (if (wrap64 (x10 + 1)) < (x0.size : Int) then ((qanatref03_Char.f (bt x0 (wrap64 (x10 + 1)))).bind fun t182 => (qanatref03_literal.j3 k x0 x2 x10 (strOfNums x8) (x0.extract (x9 : Int).toNat ((wrap64 (x10 - 1)) : Int).toNat) (!t182))) else (none)) else (none))) else (if (bt x0 x10) = 120 then (if (wrap64 (x10 + 1)) ≥ (x0.size : Int) then (qanatref03_literal.j3 k x0 x2 x10 (strOfNums x8) (x0.extract (x9 : Int).toNat ((wrap64 (x10 - 1)) : Int).toNat) true) else (if 0 ≤ (wrap64 (x10 + 1)) then (if (wrap64 (x10 + 1)) < (x0.size : Int) then ((qanatref03_Char.f (bt x0 (wrap64 (x10 + 1)))).bind fun t183 => (qanatref03_literal.j3 k x0 x2 x10 (strOfNums x8) (x0.extract (x9 : Int).toNat ((wrap64 (x10 - 1)) : Int).toNat) (!t183))) else (none)) else (none))) else (if (bt x0 x10) = 66 then (if (wrap64 (x10 + 1)) ≥ (x0.size : Int) then (qanatref03_literal.j3 k x0 x2 x10 (strOfNums x8) (x0.extract (x9 : Int).toNat ((wrap64 (x10 - 1)) : Int).toNat) true) else (if 0 ≤ (wrap64 (x10 + 1)) then (if (wrap64 (x10 + 1)) < (x0.size : Int) then ((qanatref03_Char.f (bt x0 (wrap64 (x10 + 1)))).bind fun t184 => (qanatref03_literal.j3 k x0 x2 x10 (strOfNums x8) (x0.extract (x9 : Int).toNat ((wrap64 (x10 - 1)) : Int).toNat) (!t184))) else (none)) else (none))) else (if (bt x0 x10) = 98 then (if (wrap64 (x10 + 1)) ≥ (x0.size : Int) then (qanatref03_literal.j3 k x0 x2 x10 (strOfNums x8) (x0.extract (x9 : Int).toNat ((wrap64 (x10 - 1)) : Int).toNat) true) else (if 0 ≤ (wrap64 (x10 + 1)) then (if (wrap64 (x10 + 1)) < (x0.size : Int) then ((qanatref03_Char.f (bt x0 (wrap64 (x10 + 1)))).bind fun t185 => (qanatref03_literal.j3 k x0 x2 x10 (strOfNums x8) (x0.extract (x9 : Int).toNat ((wrap64 (x10 - 1)) : Int).toNat) (!t185))) else (none)) else (none))) else (qanatref03_literal.j3 k x0 x2 x10 (strOfNums x8) (x0.extract (x9 : Int).toNat ((wrap64 (x10 - 1)) : Int).toNat) false))))) else (none)) else (qanatref03_literal.j3 k x0 x2 x10 (strOfNums x8) (x0.extract (x9 : Int).toNat ((wrap64 (x10 - 1)) : Int).toNat) false)) else (some (0, (⟨#[]⟩ : ByteArray), 0, 13, x2)))) else (none)) else (none)) else (none))
def qanatref03_literal.j1 : Nat → ByteArray → Int → Int → List Int → Int → Int → Int → Bool → Option (Int × ByteArray × Int × Int × Int)
  | 0, _, _, _, _, _, _, _, _ => none
  | k + 1, x0, x2, x7, x8, x9, x10, x11, x37 => if x37 = true then (some (0, (⟨#[]⟩ : ByteArray), 0, 6, x2)) else (if 0 ≤ x11 then (if x11 < (x0.size : Int) then (if (bt x0 x11) = x7 then (if (wrap64 (x11 + 1)) < (x0.size : Int) then (if 0 ≤ (wrap64 (x11 + 1)) then (qanatref03_literal.j2 k x0 x2 x7 x8 x9 x10 x11 ((bt x0 (wrap64 (x11 + 1))) == x7)) else (none)) else (qanatref03_literal.j2 k x0 x2 x7 x8 x9 x10 x11 false)) else (qanatref03_literal.j2 k x0 x2 x7 x8 x9 x10 x11 false)) else (none)) else (none))
def qanatref03_literal.j2 : Nat → ByteArray → Int → Int → List Int → Int → Int → Int → Bool → Option (Int × ByteArray × Int × Int × Int)
  | 0, _, _, _, _, _, _, _, _ => none
  | k + 1, x0, x2, x7, x8, x9, x10, x11, x48 => if x48 = true then (if x8.length < 140737488355328 then (qanatref03_literal.l0 k x0 x2 x7 (x8 ++ [x7]) x9 x10 (wrap64 (x11 + 2))) else (none)) else (if 0 ≤ x11 then (if x11 < (x0.size : Int) then (if (bt x0 x11) = x7 then (qanatref03_literal.l0 k x0 x2 x7 x8 x9 (wrap64 (x11 + 1)) x11) else (if x8.length < 140737488355328 then (qanatref03_literal.l0 k x0 x2 x7 (x8 ++ [bt x0 x11]) x9 x10 (wrap64 (x11 + 1))) else (none))) else (none)) else (none))
def qanatref03_literal.j3 : Nat → ByteArray → Int → Int → ByteArray → ByteArray → Bool → Option (Int × ByteArray × Int × Int × Int)
  | 0, _, _, _, _, _, _ => none
  | k + 1, x0, x2, x10, x12, x13, x14 => if x14 = true then (if 0 ≤ x10 then (if x10 < (x0.size : Int) then (if (bt x0 x10) = 66 then (qanatref03_literal.j4 k x2 x10 x13 16 2 true) else (qanatref03_literal.j4 k x2 x10 x13 16 2 ((bt x0 x10) == 98))) else (none)) else (none)) else (if (x12.size : Int) > 1000 then (some (0, (⟨#[]⟩ : ByteArray), 0, 30, x2)) else (some (2, x12, x10, 0, 0)))
def qanatref03_literal.j4 : Nat → Int → Int → ByteArray → Int → Int → Bool → Option (Int × ByteArray × Int × Int × Int)
  | 0, _, _, _, _, _, _ => none
  | k + 1, x2, x10, x13, x15, x16, x148 => if x148 = true then (qanatref03_literal.j5 k x2 x10 x13 2 8) else (qanatref03_literal.j5 k x2 x10 x13 x15 x16)
def qanatref03_literal.j5 : Nat → Int → Int → ByteArray → Int → Int → Option (Int × ByteArray × Int × Int × Int)
  | 0, _, _, _, _, _ => none
  | k + 1, x2, x10, x13, x15, x16 => (qanatref03_Bytes.f k x13 x15 x16).bind fun bt186 => (if bt186.2 = true then (if (bt186.1.size : Int) > 1000 then (some (0, (⟨#[]⟩ : ByteArray), 0, 30, x2)) else (some (2, bt186.1, wrap64 (x10 + 1), 0, 0))) else (some (0, (⟨#[]⟩ : ByteArray), 0, 15, x2)))
end
def qanatref03_literal.f (k : Nat) (a0 : ByteArray) (a1 : Int) (a2 : Int) : Option (Int × ByteArray × Int × Int × Int) := if 0 ≤ a1 then (if a1 < (a0.size : Int) then (qanatref03_literal.l0 k a0 a2 (bt a0 a1) ([] : List Int) (wrap64 (a1 + 1)) (-1) (wrap64 (a1 + 1))) else (none)) else (none)
theorem qanatref03_literal.mono_l : ∀ k, (∀ y0 y1 y2 y3 y4 y5 y6, LeO (qanatref03_literal.l0 k y0 y1 y2 y3 y4 y5 y6) (qanatref03_literal.l0 (k + 1) y0 y1 y2 y3 y4 y5 y6)) ∧ (∀ y0 y1 y2 y3 y4 y5 y6 y7, LeO (qanatref03_literal.j1 k y0 y1 y2 y3 y4 y5 y6 y7) (qanatref03_literal.j1 (k + 1) y0 y1 y2 y3 y4 y5 y6 y7)) ∧ (∀ y0 y1 y2 y3 y4 y5 y6 y7, LeO (qanatref03_literal.j2 k y0 y1 y2 y3 y4 y5 y6 y7) (qanatref03_literal.j2 (k + 1) y0 y1 y2 y3 y4 y5 y6 y7)) ∧ (∀ y0 y1 y2 y3 y4 y5, LeO (qanatref03_literal.j3 k y0 y1 y2 y3 y4 y5) (qanatref03_literal.j3 (k + 1) y0 y1 y2 y3 y4 y5)) ∧ (∀ y0 y1 y2 y3 y4 y5, LeO (qanatref03_literal.j4 k y0 y1 y2 y3 y4 y5) (qanatref03_literal.j4 (k + 1) y0 y1 y2 y3 y4 y5)) ∧ (∀ y0 y1 y2 y3 y4, LeO (qanatref03_literal.j5 k y0 y1 y2 y3 y4) (qanatref03_literal.j5 (k + 1) y0 y1 y2 y3 y4))
  | 0 => ⟨fun _ _ _ _ _ _ _ r h => by simp [qanatref03_literal.l0] at h, fun _ _ _ _ _ _ _ _ r h => by simp [qanatref03_literal.j1] at h, fun _ _ _ _ _ _ _ _ r h => by simp [qanatref03_literal.j2] at h, fun _ _ _ _ _ _ r h => by simp [qanatref03_literal.j3] at h, fun _ _ _ _ _ _ r h => by simp [qanatref03_literal.j4] at h, fun _ _ _ _ _ r h => by simp [qanatref03_literal.j5] at h⟩
  | k + 1 => by
    obtain ⟨ih0, ih1, ih2, ih3, ih4, ih5⟩ := qanatref03_literal.mono_l k
    refine ⟨?_, ?_, ?_, ?_, ?_, ?_⟩
    · intro y0 y1 y2 y3 y4 y5 y6
      unfold qanatref03_literal.l0
      repeat' first
      | (with_reducible exact ih0 _ _ _ _ _ _ _)
      | (with_reducible exact ih1 _ _ _ _ _ _ _ _)
      | (with_reducible exact ih2 _ _ _ _ _ _ _ _)
      | (with_reducible exact ih3 _ _ _ _ _ _)
      | (with_reducible exact ih4 _ _ _ _ _ _)
      | (with_reducible exact ih5 _ _ _ _ _)
      | (with_reducible exact qanatref03_Bytes.mono _ _ _ _)
      | (with_reducible exact qanatref03_Plain.mono _ _)
      | (with_reducible exact LeO.refl _)
      | (with_reducible exact LeO.none _)
      | (with_reducible refine LeO.ite ?_ ?_)
      | (with_reducible refine LeO.bind ?_ (fun _ => ?_))
      | exact ih0 _ _ _ _ _ _ _
      | exact ih1 _ _ _ _ _ _ _ _
      | exact ih2 _ _ _ _ _ _ _ _
      | exact ih3 _ _ _ _ _ _
      | exact ih4 _ _ _ _ _ _
      | exact ih5 _ _ _ _ _
      | exact qanatref03_Bytes.mono _ _ _ _
      | exact qanatref03_Plain.mono _ _
      | exact LeO.none _
      | refine LeO.ite ?_ ?_
      | refine LeO.bind ?_ (fun _ => ?_)
    · intro y0 y1 y2 y3 y4 y5 y6 y7
      unfold qanatref03_literal.j1
      repeat' first
      | (with_reducible exact ih0 _ _ _ _ _ _ _)
      | (with_reducible exact ih1 _ _ _ _ _ _ _ _)
      | (with_reducible exact ih2 _ _ _ _ _ _ _ _)
      | (with_reducible exact ih3 _ _ _ _ _ _)
      | (with_reducible exact ih4 _ _ _ _ _ _)
      | (with_reducible exact ih5 _ _ _ _ _)
      | (with_reducible exact qanatref03_Bytes.mono _ _ _ _)
      | (with_reducible exact qanatref03_Plain.mono _ _)
      | (with_reducible exact LeO.refl _)
      | (with_reducible exact LeO.none _)
      | (with_reducible refine LeO.ite ?_ ?_)
      | (with_reducible refine LeO.bind ?_ (fun _ => ?_))
      | exact ih0 _ _ _ _ _ _ _
      | exact ih1 _ _ _ _ _ _ _ _
      | exact ih2 _ _ _ _ _ _ _ _
      | exact ih3 _ _ _ _ _ _
      | exact ih4 _ _ _ _ _ _
      | exact ih5 _ _ _ _ _
      | exact qanatref03_Bytes.mono _ _ _ _
      | exact qanatref03_Plain.mono _ _
      | exact LeO.none _
      | refine LeO.ite ?_ ?_
      | refine LeO.bind ?_ (fun _ => ?_)
    · intro y0 y1 y2 y3 y4 y5 y6 y7
      unfold qanatref03_literal.j2
      repeat' first
      | (with_reducible exact ih0 _ _ _ _ _ _ _)
      | (with_reducible exact ih1 _ _ _ _ _ _ _ _)
      | (with_reducible exact ih2 _ _ _ _ _ _ _ _)
      | (with_reducible exact ih3 _ _ _ _ _ _)
      | (with_reducible exact ih4 _ _ _ _ _ _)
      | (with_reducible exact ih5 _ _ _ _ _)
      | (with_reducible exact qanatref03_Bytes.mono _ _ _ _)
      | (with_reducible exact qanatref03_Plain.mono _ _)
      | (with_reducible exact LeO.refl _)
      | (with_reducible exact LeO.none _)
      | (with_reducible refine LeO.ite ?_ ?_)
      | (with_reducible refine LeO.bind ?_ (fun _ => ?_))
      | exact ih0 _ _ _ _ _ _ _
      | exact ih1 _ _ _ _ _ _ _ _
      | exact ih2 _ _ _ _ _ _ _ _
      | exact ih3 _ _ _ _ _ _
      | exact ih4 _ _ _ _ _ _
      | exact ih5 _ _ _ _ _
      | exact qanatref03_Bytes.mono _ _ _ _
      | exact qanatref03_Plain.mono _ _
      | exact LeO.none _
      | refine LeO.ite ?_ ?_
      | refine LeO.bind ?_ (fun _ => ?_)
    · intro y0 y1 y2 y3 y4 y5
      unfold qanatref03_literal.j3
      repeat' first
      | (with_reducible exact ih0 _ _ _ _ _ _ _)
      | (with_reducible exact ih1 _ _ _ _ _ _ _ _)
      | (with_reducible exact ih2 _ _ _ _ _ _ _ _)
      | (with_reducible exact ih3 _ _ _ _ _ _)
      | (with_reducible exact ih4 _ _ _ _ _ _)
      | (with_reducible exact ih5 _ _ _ _ _)
      | (with_reducible exact qanatref03_Bytes.mono _ _ _ _)
      | (with_reducible exact qanatref03_Plain.mono _ _)
      | (with_reducible exact LeO.refl _)
      | (with_reducible exact LeO.none _)
      | (with_reducible refine LeO.ite ?_ ?_)
      | (with_reducible refine LeO.bind ?_ (fun _ => ?_))
      | exact ih0 _ _ _ _ _ _ _
      | exact ih1 _ _ _ _ _ _ _ _
      | exact ih2 _ _ _ _ _ _ _ _
      | exact ih3 _ _ _ _ _ _
      | exact ih4 _ _ _ _ _ _
      | exact ih5 _ _ _ _ _
      | exact qanatref03_Bytes.mono _ _ _ _
      | exact qanatref03_Plain.mono _ _
      | exact LeO.none _
      | refine LeO.ite ?_ ?_
      | refine LeO.bind ?_ (fun _ => ?_)
    · intro y0 y1 y2 y3 y4 y5
      unfold qanatref03_literal.j4
      repeat' first
      | (with_reducible exact ih0 _ _ _ _ _ _ _)
      | (with_reducible exact ih1 _ _ _ _ _ _ _ _)
      | (with_reducible exact ih2 _ _ _ _ _ _ _ _)
      | (with_reducible exact ih3 _ _ _ _ _ _)
      | (with_reducible exact ih4 _ _ _ _ _ _)
      | (with_reducible exact ih5 _ _ _ _ _)
      | (with_reducible exact qanatref03_Bytes.mono _ _ _ _)
      | (with_reducible exact qanatref03_Plain.mono _ _)
      | (with_reducible exact LeO.refl _)
      | (with_reducible exact LeO.none _)
      | (with_reducible refine LeO.ite ?_ ?_)
      | (with_reducible refine LeO.bind ?_ (fun _ => ?_))
      | exact ih0 _ _ _ _ _ _ _
      | exact ih1 _ _ _ _ _ _ _ _
      | exact ih2 _ _ _ _ _ _ _ _
      | exact ih3 _ _ _ _ _ _
      | exact ih4 _ _ _ _ _ _
      | exact ih5 _ _ _ _ _
      | exact qanatref03_Bytes.mono _ _ _ _
      | exact qanatref03_Plain.mono _ _
      | exact LeO.none _
      | refine LeO.ite ?_ ?_
      | refine LeO.bind ?_ (fun _ => ?_)
    · intro y0 y1 y2 y3 y4
      unfold qanatref03_literal.j5
      repeat' first
      | (with_reducible exact ih0 _ _ _ _ _ _ _)
      | (with_reducible exact ih1 _ _ _ _ _ _ _ _)
      | (with_reducible exact ih2 _ _ _ _ _ _ _ _)
      | (with_reducible exact ih3 _ _ _ _ _ _)
      | (with_reducible exact ih4 _ _ _ _ _ _)
      | (with_reducible exact ih5 _ _ _ _ _)
      | (with_reducible exact qanatref03_Bytes.mono _ _ _ _)
      | (with_reducible exact qanatref03_Plain.mono _ _)
      | (with_reducible exact LeO.refl _)
      | (with_reducible exact LeO.none _)
      | (with_reducible refine LeO.ite ?_ ?_)
      | (with_reducible refine LeO.bind ?_ (fun _ => ?_))
      | exact ih0 _ _ _ _ _ _ _
      | exact ih1 _ _ _ _ _ _ _ _
      | exact ih2 _ _ _ _ _ _ _ _
      | exact ih3 _ _ _ _ _ _
      | exact ih4 _ _ _ _ _ _
      | exact ih5 _ _ _ _ _
      | exact qanatref03_Bytes.mono _ _ _ _
      | exact qanatref03_Plain.mono _ _
      | exact LeO.none _
      | refine LeO.ite ?_ ?_
      | refine LeO.bind ?_ (fun _ => ?_)
theorem qanatref03_literal.mono : ∀ a0 a1 a2 k, LeO (qanatref03_literal.f k a0 a1 a2) (qanatref03_literal.f (k + 1) a0 a1 a2) := by
  intro a0 a1 a2 k
  obtain ⟨ih0, ih1, ih2, ih3, ih4, ih5⟩ := qanatref03_literal.mono_l k
  unfold qanatref03_literal.f
  repeat' first
      | (with_reducible exact ih0 _ _ _ _ _ _ _)
      | (with_reducible exact ih1 _ _ _ _ _ _ _ _)
      | (with_reducible exact ih2 _ _ _ _ _ _ _ _)
      | (with_reducible exact ih3 _ _ _ _ _ _)
      | (with_reducible exact ih4 _ _ _ _ _ _)
      | (with_reducible exact ih5 _ _ _ _ _)
      | (with_reducible exact qanatref03_Bytes.mono _ _ _ _)
      | (with_reducible exact qanatref03_Plain.mono _ _)
      | (with_reducible exact LeO.refl _)
      | (with_reducible exact LeO.none _)
      | (with_reducible refine LeO.ite ?_ ?_)
      | (with_reducible refine LeO.bind ?_ (fun _ => ?_))
      | exact ih0 _ _ _ _ _ _ _
      | exact ih1 _ _ _ _ _ _ _ _
      | exact ih2 _ _ _ _ _ _ _ _
      | exact ih3 _ _ _ _ _ _
      | exact ih4 _ _ _ _ _ _
      | exact ih5 _ _ _ _ _
      | exact qanatref03_Bytes.mono _ _ _ _
      | exact qanatref03_Plain.mono _ _
      | exact LeO.none _
      | refine LeO.ite ?_ ?_
      | refine LeO.bind ?_ (fun _ => ?_)
set_option maxHeartbeats 8000000 in
set_option maxRecDepth 100000 in
theorem qanatref03_literal.calls (k : Nat) (a0 : ByteArray) (a1 : Int) (a2 : Int) (r1 : Int) (r2 : ByteArray) (r3 : Int) (r4 : Int) (r5 : Int) (w : World) (h : qanatref03_literal.f k a0 a1 a2 = some (r1, r2, r3, r4, r5)) :
    Calls Tryz.prog 71 #[.string a0, .int .i64 a1, .int .i64 a2] w fun e w' => e = .returned (.agg #[.int .i64 r1, .string r2, .int .i64 r3, .int .i64 r4, .int .i64 r5]) ∧ Below w.heap.size w w' := by
  have hu82 := Tryz.underlying82
  have HB := Aside0.mk (Below.refl w.heap.size w)
  have H : (if 0 ≤ a1 then (if a1 < (a0.size : Int) then (qanatref03_literal.l0 k a0 a2 (bt a0 a1) ([] : List Int) (wrap64 (a1 + 1)) (-1) (wrap64 (a1 + 1))) else (none)) else (none)) = some (r1, r2, r3, r4, r5) := h
  clear h
  by_cases c4 : 0 ≤ a1
  · rw [if_pos c4] at H
    have c4b0 : decide (0 ≤ a1) = true := decide_eq_true c4
    clear c4
    by_cases c5 : a1 < (a0.size : Int)
    · rw [if_pos c5] at H
      have c5b0 : decide (a1 < (a0.size : Int)) = true := decide_eq_true c5
      clear c5
      have H' := Aside0.mk H
      clear H
      go_enter Tryz.func71, Tryz.ntmps71
      go_wp2_with (first | ((with_reducible refine gate_dst (N := 6) rfl ?_); (try (refine gate_guard (by rfl) ?_; dsimp only)); refine box_event ?hg (N := 6) ?hd (cs := #[.int .i64 0, .string (⟨#[]⟩ : ByteArray), .int .i64 0, .int .i64 0, .int .i64 0]) (t := 82) ?hr ?_; (case hd => rfl); (case hg => rfl); (case hr => first | (go_simp; done) | (go_simp; rfl)); intro gb174 hg w7 hbox hb; have n0_ := Aside0.mk (below_step (by repeat (first | (with_reducible first | exact HB.out | apply below_alloc | apply pw_below_drewN | apply below_drew1) | exact HB.out)) hb); have n1_ := Aside0.mk (hbox); have n2_ := Aside0.mk ((by rw [hg]; exact (below_size (by repeat (first | (with_reducible first | exact HB.out | apply below_alloc | apply pw_below_drewN | apply below_drew1) | exact HB.out))) : w.heap.size ≤ gb174)); have n3_ := Aside0.mk ((by rw [hg]; exact (below_size (by repeat (first | (with_reducible first | exact HB.out | apply below_alloc | apply pw_below_drewN | apply below_drew1) | exact HB.out))) : w.heap.size ≤ gb174)); clear HB; have HB := n0_; have BK174 := n1_; have GW174 := n2_; have GE174 := n3_; clear n0_ n1_ n2_ n3_; clear hb hbox hg; have p6 : 0 ≤ (a1 : Int) := of_decide_eq_true (by first | (with_reducible assumption) | assumption); have q6 : a1 < (a0.size : Int) := of_decide_eq_true (by first | (with_reducible assumption) | assumption); have hx6 := bt_at a0 a1; replace p6 := eq_true p6; replace q6 := eq_true q6))
      go_loopg [8, 10, 11] k (fun kq v8 v10 v11 w' => ∃ (x8_1 : List Int) (x10_1 : Int) (x11_1 : Int) (x175000_1 : Int) (x175001_1 : ByteArray) (x175002_1 : Int) (x175003_1 : Int) (x175004_1 : Int), v10 = .int .i64 x10_1 ∧ v11 = .int .i64 x11_1 ∧ Aside0 (qanatref03_literal.l0 kq a0 a2 (bt a0 a1) x8_1 (wrap64 (a1 + 1)) x10_1 x11_1 = some (r1, r2, r3, r4, r5)) ∧ Aside0 (kq ≤ k) ∧ Aside0 (Kd.R (Kd.int .u8) 5 w' w.heap.size (fun _ => True) v8 x8_1) ∧ Aside0 (w'.heap[gb174]? = some (.cells #[.int .i64 x175000_1, .string x175001_1, .int .i64 x175002_1, .int .i64 x175003_1, .int .i64 x175004_1] 82 (0, 0))) ∧ Aside0 (Below w.heap.size w w'))
      case atStart => exact ⟨(([] : List Int)), ((-1)), (wrap64 (a1 + 1)), (0), ((⟨#[]⟩ : ByteArray)), (0), (0), (0), (by first | rfl | (simp; done) | (simp [*]; done)), (by first | rfl | (simp; done) | (simp [*]; done)), H', ⟨Nat.le_refl _⟩, ⟨by first | exact Kd.R_nil _ _ _ _ _ | exact Kd.N_nil _ _ _ _ _ | exact Kd.V_nil _ _ _ _ _ | exact Kd.Q_nil _ _ _ _ _ | exact Kd.S_nil _ _ _ _ _⟩, ⟨by (with_reducible repeat (first | refine blk_drewN ?_ _ | refine blk_drew ?_ | refine blk_alloc ?_ _)); exact BK174.out⟩, ⟨by repeat (first | (with_reducible first | exact HB.out | apply below_alloc | apply pw_below_drewN | apply below_drew1 | refine below_set ?_ GE174.out) | exact HB.out)⟩⟩
      case round =>
        clear H'
        try clear p2
        try clear c4
        try clear c4b0
        try clear c5
        try clear c5b0
        try clear p6
        try clear q6
        try clear hx6
        try clear c7
        try clear p6
        try clear q6
        obtain ⟨x8_1, x10_1, x11_1, x175000_1, x175001_1, x175002_1, x175003_1, x175004_1, rfl, rfl, HA, HK1, HO_8, BK174, HB⟩ := hrel
        cases gk with
        | zero => exact absurd HA.out (by simp [qanatref03_literal.l0])
        | succ k1 =>
          have H := HA.out
          clear HA
          simp only [qanatref03_literal.l0] at H
          by_cases c8 : x10_1 < 0
          · rw [if_pos c8] at H
            have c8b0 : decide (x10_1 < 0) = true := decide_eq_true c8
            clear c8
            have HC9 := Aside0.mk H
            clear H
            go_upto_region 7 with (fail)
            go_cut [37] (fun v37 wc => ∃ (kq : Nat) (x37_8 : Bool), v37 = .bool x37_8 ∧ Aside0 (qanatref03_literal.j1 kq a0 a2 (bt a0 a1) x8_1 (wrap64 (a1 + 1)) x10_1 x11_1 x37_8 = some (r1, r2, r3, r4, r5)) ∧ Aside0 (kq ≤ k1) ∧ Aside0 (Kd.R (Kd.int .u8) 5 wc w.heap.size (fun _ => True) u8 x8_1) ∧ Aside0 (wc.heap[gb174]? = some (.cells #[.int .i64 x175000_1, .string x175001_1, .int .i64 x175002_1, .int .i64 x175003_1, .int .i64 x175004_1] 82 (0, 0))) ∧ Aside0 (Below w.heap.size w wc))
            case first =>
              have H := HC9.out
              clear HC9
              by_cases c10 : x11_1 ≥ (a0.size : Int)
              · rw [if_pos c10] at H
                have c10b0 : decide ((a0.size : Int) ≤ x11_1) = true := decide_eq_true c10
                clear c10
                (first | rw [c10b0] | (simp only [i64_w, i32_w]; rw [c10b0]) | skip)
                have H' := Aside0.mk H
                clear H
                go_wp2
                go_meet
                case rel => exact ⟨_, (true), (by first | rfl | (simp; done) | (simp [*]; done)), H', ⟨by have := HK1.out; first | omega | exact Nat.le_refl _⟩, ⟨by (with_reducible repeat (first | apply Kd.R_alloc | apply Kd.R_drewN | apply Kd.R_drew)); exact HO_8.out⟩, ⟨by (with_reducible repeat (first | refine blk_drewN ?_ _ | refine blk_drew ?_ | refine blk_alloc ?_ _)); exact BK174.out⟩, ⟨by repeat (first | (with_reducible first | exact HB.out | apply below_alloc | apply pw_below_drewN | apply below_drew1 | refine below_set ?_ GE174.out) | exact HB.out)⟩⟩
              · rw [if_neg c10] at H
                have c10b0 : decide ((a0.size : Int) ≤ x11_1) = false := decide_eq_false c10
                clear c10
                (first | rw [c10b0] | (simp only [i64_w, i32_w]; rw [c10b0]) | skip)
                by_cases c11 : 0 ≤ x11_1
                · rw [if_pos c11] at H
                  have c11b0 : decide (0 ≤ x11_1) = true := decide_eq_true c11
                  clear c11
                  by_cases c12 : x11_1 < (a0.size : Int)
                  · rw [if_pos c12] at H
                    have c12b0 : decide (x11_1 < (a0.size : Int)) = true := decide_eq_true c12
                    clear c12
                    have H' := Aside0.mk H
                    clear H
                    have p13 : 0 ≤ (x11_1 : Int) := of_decide_eq_true (by first | (with_reducible assumption) | assumption)
                    have q13 : x11_1 < (a0.size : Int) := of_decide_eq_true (by first | (with_reducible assumption) | assumption)
                    have hx13 := bt_at a0 x11_1
                    replace p13 := eq_true p13
                    replace q13 := eq_true q13
                    go_wp2
                    go_meet
                    case rel => exact ⟨_, (((bt a0 x11_1) == 10)), (by first | rfl | (simp; done) | (simp [*]; done)), H', ⟨by have := HK1.out; first | omega | exact Nat.le_refl _⟩, ⟨by (with_reducible repeat (first | apply Kd.R_alloc | apply Kd.R_drewN | apply Kd.R_drew)); exact HO_8.out⟩, ⟨by (with_reducible repeat (first | refine blk_drewN ?_ _ | refine blk_drew ?_ | refine blk_alloc ?_ _)); exact BK174.out⟩, ⟨by repeat (first | (with_reducible first | exact HB.out | apply below_alloc | apply pw_below_drewN | apply below_drew1 | refine below_set ?_ GE174.out) | exact HB.out)⟩⟩
                  · rw [if_neg c12] at H
                    exact absurd H (by simp)
                · rw [if_neg c11] at H
                  exact absurd H (by simp)
            case rest =>
              clear HC9
              try clear c1
              try clear p1
              try clear q1
              try clear hx1
              try clear p2
              try clear c4
              try clear c4b0
              try clear c5
              try clear c5b0
              try clear p6
              try clear q6
              try clear hx6
              try clear c7
              try clear c8
              try clear c8b0
              try clear c10
              try clear c10b0
              try clear c11
              try clear c11b0
              try clear c12
              try clear c12b0
              try clear p13
              try clear q13
              try clear hx13
              try clear p13
              try clear p2
              try clear p6
              try clear q13
              try clear q6
              obtain ⟨kq, x37_8, rfl, HA, HJ8, HO_8, BK174, HB⟩ := hcut
              cases kq with
              | zero => exact absurd HA.out (by simp [qanatref03_literal.j1])
              | succ kj8 =>
                have H := HA.out
                clear HA
                simp only [qanatref03_literal.j1] at H
                by_cases c14 : x37_8 = true
                · subst c14
                  have H1 : (some (0, (⟨#[]⟩ : ByteArray), 0, 6, a2)) = some (r1, r2, r3, r4, r5) := by rw [if_pos rfl] at H; exact H
                  clear H
                  have H := H1
                  clear H1
                  simp only [Option.some.injEq, Prod.mk.injEq] at H
                  obtain ⟨rfl, rfl, rfl, rfl, rfl⟩ := H
                  have hcz15_0 : wc.cell? ⟨gb174, 0, none⟩ = some (.int .i64 x175000_1) := (blk_cell BK174.out 0).trans rfl
                  have hcz15_1 : wc.cell? ⟨gb174, 1, none⟩ = some (.string x175001_1) := (blk_cell BK174.out 1).trans rfl
                  have hcz15_2 : wc.cell? ⟨gb174, 2, none⟩ = some (.int .i64 x175002_1) := (blk_cell BK174.out 2).trans rfl
                  have hcz15_3 : wc.cell? ⟨gb174, 3, none⟩ = some (.int .i64 x175003_1) := (blk_cell BK174.out 3).trans rfl
                  have hcz15_4 : wc.cell? ⟨gb174, 4, none⟩ = some (.int .i64 x175004_1) := (blk_cell BK174.out 4).trans rfl
                  have hfz15_0 := blk_frozen BK174.out 0
                  have hfz15_1 := blk_frozen BK174.out 1
                  have hfz15_2 := blk_frozen BK174.out 2
                  have hfz15_3 := blk_frozen BK174.out 3
                  have hfz15_4 := blk_frozen BK174.out 4
                  go_wp2
                  refine bodyPost_ret (results_cell_row rfl _ _ gb174 82 #[.int .i64 0, .string (⟨#[]⟩ : ByteArray), .int .i64 0, .int .i64 6, .int .i64 a2] (0, 0) _ rfl (by (with_reducible repeat (first | refine blk_drewN ?_ _ | refine blk_drew ?_ | refine blk_alloc ?_ _)); refine blk_put (cs := #[.int .i64 0, .string (⟨#[]⟩ : ByteArray), .int .i64 0, .int .i64 6, .int .i64 x175004_1]) ?_ 4 _ rfl; (with_reducible repeat (first | refine blk_drewN ?_ _ | refine blk_drew ?_ | refine blk_alloc ?_ _)); refine blk_put (cs := #[.int .i64 0, .string (⟨#[]⟩ : ByteArray), .int .i64 0, .int .i64 x175003_1, .int .i64 x175004_1]) ?_ 3 _ rfl; (with_reducible repeat (first | refine blk_drewN ?_ _ | refine blk_drew ?_ | refine blk_alloc ?_ _)); refine blk_put (cs := #[.int .i64 0, .string (⟨#[]⟩ : ByteArray), .int .i64 x175002_1, .int .i64 x175003_1, .int .i64 x175004_1]) ?_ 2 _ rfl; (with_reducible repeat (first | refine blk_drewN ?_ _ | refine blk_drew ?_ | refine blk_alloc ?_ _)); refine blk_put (cs := #[.int .i64 0, .string x175001_1, .int .i64 x175002_1, .int .i64 x175003_1, .int .i64 x175004_1]) ?_ 1 _ rfl; (with_reducible repeat (first | refine blk_drewN ?_ _ | refine blk_drew ?_ | refine blk_alloc ?_ _)); refine blk_put (cs := #[.int .i64 x175000_1, .string x175001_1, .int .i64 x175002_1, .int .i64 x175003_1, .int .i64 x175004_1]) ?_ 0 _ rfl; (with_reducible repeat (first | refine blk_drewN ?_ _ | refine blk_drew ?_ | refine blk_alloc ?_ _)); exact BK174.out) Tryz.underlying82 rfl (by kernel_rfl)) rfl ?_
                  exact ⟨by first | rfl | (simp [errW_none, errW_some] <;> rfl) | (simp [*, errW_none, errW_some] <;> rfl), by repeat (first | (with_reducible first | exact HB.out | apply below_alloc | apply pw_below_drewN | apply below_drew1 | refine below_set ?_ GE174.out) | exact HB.out)⟩
                · replace c14 := Bool.eq_false_iff.mpr c14
                  subst c14
                  have H1 : (if 0 ≤ x11_1 then (if x11_1 < (a0.size : Int) then (if (bt a0 x11_1) = (bt a0 a1) then (if (wrap64 (x11_1 + 1)) < (a0.size : Int) then (if 0 ≤ (wrap64 (x11_1 + 1)) then (qanatref03_literal.j2 kj8 a0 a2 (bt a0 a1) x8_1 (wrap64 (a1 + 1)) x10_1 x11_1 ((bt a0 (wrap64 (x11_1 + 1))) == (bt a0 a1))) else (none)) else (qanatref03_literal.j2 kj8 a0 a2 (bt a0 a1) x8_1 (wrap64 (a1 + 1)) x10_1 x11_1 false)) else (qanatref03_literal.j2 kj8 a0 a2 (bt a0 a1) x8_1 (wrap64 (a1 + 1)) x10_1 x11_1 false)) else (none)) else (none)) = some (r1, r2, r3, r4, r5) := by rw [if_neg (show ¬ (false = true) by decide)] at H; exact H
                  clear H
                  have H := H1
                  clear H1
                  have HC16 := Aside0.mk H
                  clear H
                  go_upto_region 11 with (fail)
                  go_cut [48] (fun v48 wc => ∃ (kq : Nat) (x48_15 : Bool), v48 = .bool x48_15 ∧ Aside0 (qanatref03_literal.j2 kq a0 a2 (bt a0 a1) x8_1 (wrap64 (a1 + 1)) x10_1 x11_1 x48_15 = some (r1, r2, r3, r4, r5)) ∧ Aside0 (kq ≤ kj8) ∧ Aside0 (Kd.R (Kd.int .u8) 5 wc w.heap.size (fun _ => True) u8 x8_1) ∧ Aside0 (wc.heap[gb174]? = some (.cells #[.int .i64 x175000_1, .string x175001_1, .int .i64 x175002_1, .int .i64 x175003_1, .int .i64 x175004_1] 82 (0, 0))) ∧ Aside0 (Below w.heap.size w wc))
                  case first =>
                    have H := HC16.out
                    clear HC16
                    by_cases c17 : 0 ≤ x11_1
                    · rw [if_pos c17] at H
                      have c17b0 : decide (0 ≤ x11_1) = true := decide_eq_true c17
                      clear c17
                      (first | rw [c17b0] | (simp only [i64_w, i32_w]; rw [c17b0]) | skip)
                      by_cases c18 : x11_1 < (a0.size : Int)
                      · rw [if_pos c18] at H
                        have c18b0 : decide (x11_1 < (a0.size : Int)) = true := decide_eq_true c18
                        clear c18
                        by_cases c20 : (bt a0 x11_1) = (bt a0 a1)
                        · rw [if_pos c20] at H
                          have c20b0 : ((bt a0 x11_1) == (bt a0 a1)) = true := beq_iff_eq.mpr c20
                          have c20b1 : ((bt a0 x11_1) != (bt a0 a1)) = false := bne_eq_false_iff_eq.mpr c20
                          clear c20
                          by_cases c21 : (wrap64 (x11_1 + 1)) < (a0.size : Int)
                          · rw [if_pos c21] at H
                            have c21b0 : decide ((wrap64 (x11_1 + 1)) < (a0.size : Int)) = true := decide_eq_true c21
                            clear c21
                            obtain ⟨ji22, hji22⟩ : ∃ j_ : Int, (wrap64 (x11_1 + 1)) = j_ := ⟨_, rfl⟩
                            replace H : (if 0 ≤ (ji22) then (qanatref03_literal.j2 kj8 a0 a2 (bt a0 a1) x8_1 (wrap64 (a1 + 1)) x10_1 x11_1 ((bt a0 (ji22)) == (bt a0 a1))) else (none)) = some (r1, r2, r3, r4, r5) := by first | (rw [hji22] at H; exact H) | (simp only [hji22] at H ⊢; exact H)
                            (try rw [hji22] at c21b0)
                            have hji22w : (IntKind.i64.wrap (x11_1 + 1)) = ji22 := (i64_w _).trans hji22
                            by_cases c23 : 0 ≤ (ji22)
                            · rw [if_pos c23] at H
                              have c23b0 : decide (0 ≤ (ji22)) = true := decide_eq_true c23
                              clear c23
                              have H' := Aside0.mk H
                              clear H
                              have p19 : 0 ≤ (x11_1 : Int) := of_decide_eq_true (by first | (with_reducible assumption) | assumption)
                              have q19 : x11_1 < (a0.size : Int) := of_decide_eq_true (by first | (with_reducible assumption) | assumption)
                              have hx19 := bt_at a0 x11_1
                              replace p19 := eq_true p19
                              replace q19 := eq_true q19
                              have p24 : 0 ≤ ((ji22) : Int) := of_decide_eq_true (by first | (with_reducible assumption) | assumption)
                              have q24 : (ji22) < (a0.size : Int) := of_decide_eq_true (by first | (with_reducible assumption) | assumption)
                              have hx24 := bt_at a0 (ji22)
                              replace p24 := eq_true p24
                              replace q24 := eq_true q24
                              go_wp2
                              go_meet
                              case rel => exact ⟨_, (((bt a0 (ji22)) == (bt a0 a1))), (by first | rfl | (simp; done) | (simp only [← hji22] <;> (first | rfl | simp)) | (simp [*]; done)), H', ⟨by have := HK1.out; have := HJ8.out; first | omega | exact Nat.le_refl _⟩, ⟨by (with_reducible repeat (first | apply Kd.R_alloc | apply Kd.R_drewN | apply Kd.R_drew)); exact HO_8.out⟩, ⟨by (with_reducible repeat (first | refine blk_drewN ?_ _ | refine blk_drew ?_ | refine blk_alloc ?_ _)); exact BK174.out⟩, ⟨by repeat (first | (with_reducible first | exact HB.out | apply below_alloc | apply pw_below_drewN | apply below_drew1 | refine below_set ?_ GE174.out) | exact HB.out)⟩⟩
                            · rw [if_neg c23] at H
                              exact absurd H (by simp)
                          · rw [if_neg c21] at H
                            have c21b0 : decide ((wrap64 (x11_1 + 1)) < (a0.size : Int)) = false := decide_eq_false c21
                            clear c21
                            have H' := Aside0.mk H
                            clear H
                            have p19 : 0 ≤ (x11_1 : Int) := of_decide_eq_true (by first | (with_reducible assumption) | assumption)
                            have q19 : x11_1 < (a0.size : Int) := of_decide_eq_true (by first | (with_reducible assumption) | assumption)
                            have hx19 := bt_at a0 x11_1
                            replace p19 := eq_true p19
                            replace q19 := eq_true q19
                            go_wp2
                            go_meet
                            case rel => exact ⟨_, (false), (by first | rfl | (simp; done) | (simp [*]; done)), H', ⟨by have := HK1.out; have := HJ8.out; first | omega | exact Nat.le_refl _⟩, ⟨by (with_reducible repeat (first | apply Kd.R_alloc | apply Kd.R_drewN | apply Kd.R_drew)); exact HO_8.out⟩, ⟨by (with_reducible repeat (first | refine blk_drewN ?_ _ | refine blk_drew ?_ | refine blk_alloc ?_ _)); exact BK174.out⟩, ⟨by repeat (first | (with_reducible first | exact HB.out | apply below_alloc | apply pw_below_drewN | apply below_drew1 | refine below_set ?_ GE174.out) | exact HB.out)⟩⟩
                        · rw [if_neg c20] at H
                          have c20b0 : ((bt a0 x11_1) == (bt a0 a1)) = false := beq_eq_false_iff_ne.mpr c20
                          have c20b1 : ((bt a0 x11_1) != (bt a0 a1)) = true := bne_iff_ne.mpr c20
                          have H' := Aside0.mk H
                          clear H
                          have p19 : 0 ≤ (x11_1 : Int) := of_decide_eq_true (by first | (with_reducible assumption) | assumption)
                          have q19 : x11_1 < (a0.size : Int) := of_decide_eq_true (by first | (with_reducible assumption) | assumption)
                          have hx19 := bt_at a0 x11_1
                          replace p19 := eq_true p19
                          replace q19 := eq_true q19
                          go_wp2
                          go_meet
                          case rel => exact ⟨_, (false), (by first | rfl | (simp; done) | (simp [*]; done)), H', ⟨by have := HK1.out; have := HJ8.out; first | omega | exact Nat.le_refl _⟩, ⟨by (with_reducible repeat (first | apply Kd.R_alloc | apply Kd.R_drewN | apply Kd.R_drew)); exact HO_8.out⟩, ⟨by (with_reducible repeat (first | refine blk_drewN ?_ _ | refine blk_drew ?_ | refine blk_alloc ?_ _)); exact BK174.out⟩, ⟨by repeat (first | (with_reducible first | exact HB.out | apply below_alloc | apply pw_below_drewN | apply below_drew1 | refine below_set ?_ GE174.out) | exact HB.out)⟩⟩
                      · rw [if_neg c18] at H
                        exact absurd H (by simp)
                    · rw [if_neg c17] at H
                      exact absurd H (by simp)
                  case rest =>
                    clear HC16
                    try clear c1
                    try clear p1
                    try clear q1
                    try clear hx1
                    try clear c2
                    try clear p2
                    try clear q2
                    try clear hx2
                    try clear c4
                    try clear c4b0
                    try clear c5
                    try clear c5b0
                    try clear p6
                    try clear q6
                    try clear hx6
                    try clear c7
                    try clear c8
                    try clear c8b0
                    try clear c10
                    try clear c10b0
                    try clear c11
                    try clear c11b0
                    try clear c12
                    try clear c12b0
                    try clear p13
                    try clear q13
                    try clear hx13
                    try clear c14
                    try clear c17
                    try clear c17b0
                    try clear c18
                    try clear c18b0
                    try clear p19
                    try clear q19
                    try clear hx19
                    try clear c20
                    try clear c20b0
                    try clear c20b1
                    try clear c21
                    try clear c21b0
                    try clear c23
                    try clear c23b0
                    try clear p24
                    try clear q24
                    try clear hx24
                    try clear hcz15_0
                    try clear hcz15_1
                    try clear hcz15_2
                    try clear hcz15_3
                    try clear hcz15_4
                    try clear hfz15_0
                    try clear hfz15_1
                    try clear hfz15_2
                    try clear hfz15_3
                    try clear hfz15_4
                    try clear p1
                    try clear p13
                    try clear p19
                    try clear p2
                    try clear p24
                    try clear p6
                    try clear q1
                    try clear q13
                    try clear q19
                    try clear q24
                    try clear q6
                    obtain ⟨kq, x48_15, rfl, HA, HJ15, HO_8, BK174, HB⟩ := hcut
                    cases kq with
                    | zero => exact absurd HA.out (by simp [qanatref03_literal.j2])
                    | succ kj15 =>
                      have H := HA.out
                      clear HA
                      simp only [qanatref03_literal.j2] at H
                      by_cases c25 : x48_15 = true
                      · subst c25
                        have H1 : (if x8_1.length < 140737488355328 then (qanatref03_literal.l0 kj15 a0 a2 (bt a0 a1) (x8_1 ++ [(bt a0 a1)]) (wrap64 (a1 + 1)) x10_1 (wrap64 (x11_1 + 2))) else (none)) = some (r1, r2, r3, r4, r5) := by rw [if_pos rfl] at H; exact H
                        clear H
                        have H := H1
                        clear H1
                        by_cases c26 : x8_1.length < 140737488355328
                        · rw [if_pos c26] at H
                          have LMc26 := Aside0.mk c26
                          clear c26
                          obtain ⟨y175, hy175⟩ : ∃ y_ : List Int, y_ = (x8_1 ++ [(bt a0 a1)]) := ⟨_, rfl⟩
                          replace H : (qanatref03_literal.l0 kj15 a0 a2 (bt a0 a1) y175 (wrap64 (a1 + 1)) x10_1 (wrap64 (x11_1 + 2))) = some (r1, r2, r3, r4, r5) := by first | (rw [hy175]; with_reducible exact H) | (have H2_ := (Option.bind_some _ _).symm.trans H; rw [hy175]; with_reducible exact H2_) | (have H2_ := (Option.bind_some _ _).symm.trans H; with_reducible exact H2_) | with_reducible exact H | (rw [hy175]; exact H) | exact H
                          have Ny175 := Aside0.mk hy175
                          clear hy175
                          have H' := Aside0.mk H
                          clear H
                          go_wp2_with (first | ((with_reducible refine gate_builtin (b := .append) (xs := #[.tmp 69, .tmp 71]) rfl ?_); (try (refine gate_guard (by rfl) ?_; dsimp only)); at_builtin; refine Kd.R_append (Kd.int .u8) (w0 := w) w.heap.size rfl (.tmp 69) (.tmp 71) 100 5 (.int .u8 0) 1 rfl Tryz.underlying100 info5 rfl (by decide) (by omega) u8 x8_1 (bt a0 a1) [.int .u8 (bt a0 a1)] (fun _ => True) (fun _ => False) rfl rfl ?aP (fun _ hk => hk.elim) ?aF ?aO ?aB ?aS ?aL ?_; (case aP => exact rfl); (case aB => exact (by repeat (first | (with_reducible first | exact HB.out | apply below_alloc | apply pw_below_drewN | apply below_drew1 | refine below_set ?_ GE174.out) | exact HB.out))); (case aF => exact (fun _ _ => trivial)); (case aO => exact (by (with_reducible repeat (first | apply Kd.R_alloc | apply Kd.R_drewN | apply Kd.R_drew)); exact HO_8.out)); (case aS => exact (below_size (by repeat (first | (with_reducible first | exact HB.out | apply below_alloc | apply pw_below_drewN | apply below_drew1 | refine below_set ?_ GE174.out) | exact HB.out)))); (case aL => have := LMc26.out; omega); intro v176 w27 ho hb hg hat; rw [← Ny175.out] at ho; have n0_ := Aside0.mk (blk_grown (g := gb174) (o := .cells #[.int .i64 x175000_1, .string x175001_1, .int .i64 x175002_1, .int .i64 x175003_1, .int .i64 x175004_1] 82 (0, 0)) (by (with_reducible repeat (first | refine blk_drewN ?_ _ | refine blk_drew ?_ | refine blk_alloc ?_ _)); exact BK174.out) hg (Kd.R_ne HO_8.out BK174.out (by decide))); have n1_ := Aside0.mk (hb); have n2_ := Aside0.mk (ho); clear BK174; clear HB; clear HO_8; have BK174 := n0_; have HB := n1_; have HO177 := n2_; clear n0_ n1_ n2_; clear ho hb hg hat))
                          go_roundg kj15
                          case measure => have := HK1.out; have := HJ8.out; have := HJ15.out; omega
                          case rel => exact ⟨(y175), (x10_1), (wrap64 (x11_1 + 2)), (x175000_1), (x175001_1), (x175002_1), (x175003_1), (x175004_1), (by first | rfl | (simp; done) | (simp [*]; done)), (by first | rfl | (simp; done) | (simp [*]; done)), H', ⟨by have := HK1.out; have := HJ8.out; have := HJ15.out; omega⟩, ⟨by (with_reducible repeat (first | apply Kd.R_alloc | apply Kd.R_drewN | apply Kd.R_drew)); exact HO177.out⟩, ⟨by (with_reducible repeat (first | refine blk_drewN ?_ _ | refine blk_drew ?_ | refine blk_alloc ?_ _)); exact BK174.out⟩, ⟨by repeat (first | (with_reducible first | exact HB.out | apply below_alloc | apply pw_below_drewN | apply below_drew1 | refine below_set ?_ GE174.out) | exact HB.out)⟩⟩
                        · rw [if_neg c26] at H
                          exact absurd H (by simp)
                      · replace c25 := Bool.eq_false_iff.mpr c25
                        subst c25
                        have H1 : (if 0 ≤ x11_1 then (if x11_1 < (a0.size : Int) then (if (bt a0 x11_1) = (bt a0 a1) then (qanatref03_literal.l0 kj15 a0 a2 (bt a0 a1) x8_1 (wrap64 (a1 + 1)) (wrap64 (x11_1 + 1)) x11_1) else (if x8_1.length < 140737488355328 then (qanatref03_literal.l0 kj15 a0 a2 (bt a0 a1) (x8_1 ++ [bt a0 x11_1]) (wrap64 (a1 + 1)) x10_1 (wrap64 (x11_1 + 1))) else (none))) else (none)) else (none)) = some (r1, r2, r3, r4, r5) := by rw [if_neg (show ¬ (false = true) by decide)] at H; exact H
                        clear H
                        have H := H1
                        clear H1
                        by_cases c28 : 0 ≤ x11_1
                        · rw [if_pos c28] at H
                          have c28b0 : decide (0 ≤ x11_1) = true := decide_eq_true c28
                          clear c28
                          by_cases c29 : x11_1 < (a0.size : Int)
                          · rw [if_pos c29] at H
                            have c29b0 : decide (x11_1 < (a0.size : Int)) = true := decide_eq_true c29
                            clear c29
                            by_cases c31 : (bt a0 x11_1) = (bt a0 a1)
                            · rw [if_pos c31] at H
                              have c31b0 : ((bt a0 x11_1) == (bt a0 a1)) = true := beq_iff_eq.mpr c31
                              have c31b1 : ((bt a0 x11_1) != (bt a0 a1)) = false := bne_eq_false_iff_eq.mpr c31
                              clear c31
                              have H' := Aside0.mk H
                              clear H
                              have p30 : 0 ≤ (x11_1 : Int) := of_decide_eq_true (by first | (with_reducible assumption) | assumption)
                              have q30 : x11_1 < (a0.size : Int) := of_decide_eq_true (by first | (with_reducible assumption) | assumption)
                              have hx30 := bt_at a0 x11_1
                              replace p30 := eq_true p30
                              replace q30 := eq_true q30
                              go_wp2
                              go_roundg kj15
                              case measure => have := HK1.out; have := HJ8.out; have := HJ15.out; omega
                              case rel => exact ⟨(x8_1), (wrap64 (x11_1 + 1)), (x11_1), (x175000_1), (x175001_1), (x175002_1), (x175003_1), (x175004_1), (by first | rfl | (simp; done) | (simp [*]; done)), (by first | rfl | (simp; done) | (simp [*]; done)), H', ⟨by have := HK1.out; have := HJ8.out; have := HJ15.out; omega⟩, ⟨by (with_reducible repeat (first | apply Kd.R_alloc | apply Kd.R_drewN | apply Kd.R_drew)); exact HO_8.out⟩, ⟨by (with_reducible repeat (first | refine blk_drewN ?_ _ | refine blk_drew ?_ | refine blk_alloc ?_ _)); exact BK174.out⟩, ⟨by repeat (first | (with_reducible first | exact HB.out | apply below_alloc | apply pw_below_drewN | apply below_drew1 | refine below_set ?_ GE174.out) | exact HB.out)⟩⟩
                            · rw [if_neg c31] at H
                              have c31b0 : ((bt a0 x11_1) == (bt a0 a1)) = false := beq_eq_false_iff_ne.mpr c31
                              have c31b1 : ((bt a0 x11_1) != (bt a0 a1)) = true := bne_iff_ne.mpr c31
                              by_cases c33 : x8_1.length < 140737488355328
                              · rw [if_pos c33] at H
                                have LMc33 := Aside0.mk c33
                                clear c33
                                obtain ⟨y178, hy178⟩ : ∃ y_ : List Int, y_ = (x8_1 ++ [bt a0 x11_1]) := ⟨_, rfl⟩
                                replace H : (qanatref03_literal.l0 kj15 a0 a2 (bt a0 a1) y178 (wrap64 (a1 + 1)) x10_1 (wrap64 (x11_1 + 1))) = some (r1, r2, r3, r4, r5) := by first | (rw [hy178]; with_reducible exact H) | (have H2_ := (Option.bind_some _ _).symm.trans H; rw [hy178]; with_reducible exact H2_) | (have H2_ := (Option.bind_some _ _).symm.trans H; with_reducible exact H2_) | with_reducible exact H | (rw [hy178]; exact H) | exact H
                                have Ny178 := Aside0.mk hy178
                                clear hy178
                                have H' := Aside0.mk H
                                clear H
                                have p30 : 0 ≤ (x11_1 : Int) := of_decide_eq_true (by first | (with_reducible assumption) | assumption)
                                have q30 : x11_1 < (a0.size : Int) := of_decide_eq_true (by first | (with_reducible assumption) | assumption)
                                have hx30 := bt_at a0 x11_1
                                replace p30 := eq_true p30
                                replace q30 := eq_true q30
                                have p32 : 0 ≤ (x11_1 : Int) := of_decide_eq_true (by first | (with_reducible assumption) | assumption)
                                have q32 : x11_1 < (a0.size : Int) := of_decide_eq_true (by first | (with_reducible assumption) | assumption)
                                have hx32 := bt_at a0 x11_1
                                replace p32 := eq_true p32
                                replace q32 := eq_true q32
                                go_wp2_with (first | ((with_reducible refine gate_builtin (b := .append) (xs := #[.tmp 40, .tmp 44]) rfl ?_); (try (refine gate_guard (by rfl) ?_; dsimp only)); at_builtin; refine Kd.R_append (Kd.int .u8) (w0 := w) w.heap.size rfl (.tmp 40) (.tmp 44) 100 5 (.int .u8 0) 1 rfl Tryz.underlying100 info5 rfl (by decide) (by omega) u8 x8_1 (bt a0 x11_1) [.int .u8 (bt a0 x11_1)] (fun _ => True) (fun _ => False) rfl rfl ?aP (fun _ hk => hk.elim) ?aF ?aO ?aB ?aS ?aL ?_; (case aP => exact rfl); (case aB => exact (by repeat (first | (with_reducible first | exact HB.out | apply below_alloc | apply pw_below_drewN | apply below_drew1 | refine below_set ?_ GE174.out) | exact HB.out))); (case aF => exact (fun _ _ => trivial)); (case aO => exact (by (with_reducible repeat (first | apply Kd.R_alloc | apply Kd.R_drewN | apply Kd.R_drew)); exact HO_8.out)); (case aS => exact (below_size (by repeat (first | (with_reducible first | exact HB.out | apply below_alloc | apply pw_below_drewN | apply below_drew1 | refine below_set ?_ GE174.out) | exact HB.out)))); (case aL => have := LMc33.out; omega); intro v179 w34 ho hb hg hat; rw [← Ny178.out] at ho; have n0_ := Aside0.mk (blk_grown (g := gb174) (o := .cells #[.int .i64 x175000_1, .string x175001_1, .int .i64 x175002_1, .int .i64 x175003_1, .int .i64 x175004_1] 82 (0, 0)) (by (with_reducible repeat (first | refine blk_drewN ?_ _ | refine blk_drew ?_ | refine blk_alloc ?_ _)); exact BK174.out) hg (Kd.R_ne HO_8.out BK174.out (by decide))); have n1_ := Aside0.mk (hb); have n2_ := Aside0.mk (ho); clear BK174; clear HB; clear HO_8; have BK174 := n0_; have HB := n1_; have HO180 := n2_; clear n0_ n1_ n2_; clear ho hb hg hat))
                                go_roundg kj15
                                case measure => have := HK1.out; have := HJ8.out; have := HJ15.out; omega
                                case rel => exact ⟨(y178), (x10_1), (wrap64 (x11_1 + 1)), (x175000_1), (x175001_1), (x175002_1), (x175003_1), (x175004_1), (by first | rfl | (simp; done) | (simp [*]; done)), (by first | rfl | (simp; done) | (simp [*]; done)), H', ⟨by have := HK1.out; have := HJ8.out; have := HJ15.out; omega⟩, ⟨by (with_reducible repeat (first | apply Kd.R_alloc | apply Kd.R_drewN | apply Kd.R_drew)); exact HO180.out⟩, ⟨by (with_reducible repeat (first | refine blk_drewN ?_ _ | refine blk_drew ?_ | refine blk_alloc ?_ _)); exact BK174.out⟩, ⟨by repeat (first | (with_reducible first | exact HB.out | apply below_alloc | apply pw_below_drewN | apply below_drew1 | refine below_set ?_ GE174.out) | exact HB.out)⟩⟩
                              · rw [if_neg c33] at H
                                exact absurd H (by simp)
                          · rw [if_neg c29] at H
                            exact absurd H (by simp)
                        · rw [if_neg c28] at H
                          exact absurd H (by simp)
          · rw [if_neg c8] at H
            have c8b0 : decide (x10_1 < 0) = false := decide_eq_false c8
            clear c8
            obtain ⟨ji35, hji35⟩ : ∃ j_ : Int, (wrap64 (a1 + 1)) = j_ := ⟨_, rfl⟩
            replace H : (if 0 ≤ (ji35) then (if (ji35) ≤ (wrap64 (x10_1 - 1)) then (if (wrap64 (x10_1 - 1)) ≤ (a0.size : Int) then ((qanatref03_Plain.f k1 (a0.extract ((ji35) : Int).toNat ((wrap64 (x10_1 - 1)) : Int).toNat)).bind fun t181 => (if t181 = true then (if x10_1 < (a0.size : Int) then (if 0 ≤ x10_1 then (if (bt a0 x10_1) = 88 then (if (wrap64 (x10_1 + 1)) ≥ (a0.size : Int) then (qanatref03_literal.j3 k1 a0 a2 x10_1 (strOfNums x8_1) (a0.extract ((ji35) : Int).toNat ((wrap64 (x10_1 - 1)) : Int).toNat) true) else (if 0 ≤ (wrap64 (x10_1 + 1)) then (if (wrap64 (x10_1 + 1)) < (a0.size : Int) then ((qanatref03_Char.f (bt a0 (wrap64 (x10_1 + 1)))).bind fun t182 => (qanatref03_literal.j3 k1 a0 a2 x10_1 (strOfNums x8_1) (a0.extract ((ji35) : Int).toNat ((wrap64 (x10_1 - 1)) : Int).toNat) (!t182))) else (none)) else (none))) else (if (bt a0 x10_1) = 120 then (if (wrap64 (x10_1 + 1)) ≥ (a0.size : Int) then (qanatref03_literal.j3 k1 a0 a2 x10_1 (strOfNums x8_1) (a0.extract ((ji35) : Int).toNat ((wrap64 (x10_1 - 1)) : Int).toNat) true) else (if 0 ≤ (wrap64 (x10_1 + 1)) then (if (wrap64 (x10_1 + 1)) < (a0.size : Int) then ((qanatref03_Char.f (bt a0 (wrap64 (x10_1 + 1)))).bind fun t183 => (qanatref03_literal.j3 k1 a0 a2 x10_1 (strOfNums x8_1) (a0.extract ((ji35) : Int).toNat ((wrap64 (x10_1 - 1)) : Int).toNat) (!t183))) else (none)) else (none))) else (if (bt a0 x10_1) = 66 then (if (wrap64 (x10_1 + 1)) ≥ (a0.size : Int) then (qanatref03_literal.j3 k1 a0 a2 x10_1 (strOfNums x8_1) (a0.extract ((ji35) : Int).toNat ((wrap64 (x10_1 - 1)) : Int).toNat) true) else (if 0 ≤ (wrap64 (x10_1 + 1)) then (if (wrap64 (x10_1 + 1)) < (a0.size : Int) then ((qanatref03_Char.f (bt a0 (wrap64 (x10_1 + 1)))).bind fun t184 => (qanatref03_literal.j3 k1 a0 a2 x10_1 (strOfNums x8_1) (a0.extract ((ji35) : Int).toNat ((wrap64 (x10_1 - 1)) : Int).toNat) (!t184))) else (none)) else (none))) else (if (bt a0 x10_1) = 98 then (if (wrap64 (x10_1 + 1)) ≥ (a0.size : Int) then (qanatref03_literal.j3 k1 a0 a2 x10_1 (strOfNums x8_1) (a0.extract ((ji35) : Int).toNat ((wrap64 (x10_1 - 1)) : Int).toNat) true) else (if 0 ≤ (wrap64 (x10_1 + 1)) then (if (wrap64 (x10_1 + 1)) < (a0.size : Int) then ((qanatref03_Char.f (bt a0 (wrap64 (x10_1 + 1)))).bind fun t185 => (qanatref03_literal.j3 k1 a0 a2 x10_1 (strOfNums x8_1) (a0.extract ((ji35) : Int).toNat ((wrap64 (x10_1 - 1)) : Int).toNat) (!t185))) else (none)) else (none))) else (qanatref03_literal.j3 k1 a0 a2 x10_1 (strOfNums x8_1) (a0.extract ((ji35) : Int).toNat ((wrap64 (x10_1 - 1)) : Int).toNat) false))))) else (none)) else (qanatref03_literal.j3 k1 a0 a2 x10_1 (strOfNums x8_1) (a0.extract ((ji35) : Int).toNat ((wrap64 (x10_1 - 1)) : Int).toNat) false)) else (some (0, (⟨#[]⟩ : ByteArray), 0, 13, a2)))) else (none)) else (none)) else (none)) = some (r1, r2, r3, r4, r5) := by first | (rw [hji35] at H; exact H) | (simp only [hji35] at H ⊢; exact H)
            have hji35w : (IntKind.i64.wrap (a1 + 1)) = ji35 := (i64_w _).trans hji35
            by_cases c36 : 0 ≤ (ji35)
            · rw [if_pos c36] at H
              have c36b0 := eq_true c36
              have c36b1 : decide (0 ≤ (ji35)) = true := decide_eq_true c36
              clear c36
              by_cases c37 : (ji35) ≤ (wrap64 (x10_1 - 1))
              · rw [if_pos c37] at H
                have c37b0 := eq_true c37
                have c37b1 : decide ((ji35) ≤ (wrap64 (x10_1 - 1))) = true := decide_eq_true c37
                clear c37
                by_cases c38 : (wrap64 (x10_1 - 1)) ≤ (a0.size : Int)
                · rw [if_pos c38] at H
                  have c38b0 := eq_true c38
                  have c38b1 : decide ((wrap64 (x10_1 - 1)) ≤ (a0.size : Int)) = true := decide_eq_true c38
                  clear c38
                  replace H := Option.bind_eq_some_iff.mp H
                  obtain ⟨t181, A390, H⟩ := H
                  replace H : (if t181 = true then (if x10_1 < (a0.size : Int) then (if 0 ≤ x10_1 then (if (bt a0 x10_1) = 88 then (if (wrap64 (x10_1 + 1)) ≥ (a0.size : Int) then (qanatref03_literal.j3 k1 a0 a2 x10_1 (strOfNums x8_1) (a0.extract ((ji35) : Int).toNat ((wrap64 (x10_1 - 1)) : Int).toNat) true) else (if 0 ≤ (wrap64 (x10_1 + 1)) then (if (wrap64 (x10_1 + 1)) < (a0.size : Int) then ((qanatref03_Char.f (bt a0 (wrap64 (x10_1 + 1)))).bind fun t182 => (qanatref03_literal.j3 k1 a0 a2 x10_1 (strOfNums x8_1) (a0.extract ((ji35) : Int).toNat ((wrap64 (x10_1 - 1)) : Int).toNat) (!t182))) else (none)) else (none))) else (if (bt a0 x10_1) = 120 then (if (wrap64 (x10_1 + 1)) ≥ (a0.size : Int) then (qanatref03_literal.j3 k1 a0 a2 x10_1 (strOfNums x8_1) (a0.extract ((ji35) : Int).toNat ((wrap64 (x10_1 - 1)) : Int).toNat) true) else (if 0 ≤ (wrap64 (x10_1 + 1)) then (if (wrap64 (x10_1 + 1)) < (a0.size : Int) then ((qanatref03_Char.f (bt a0 (wrap64 (x10_1 + 1)))).bind fun t183 => (qanatref03_literal.j3 k1 a0 a2 x10_1 (strOfNums x8_1) (a0.extract ((ji35) : Int).toNat ((wrap64 (x10_1 - 1)) : Int).toNat) (!t183))) else (none)) else (none))) else (if (bt a0 x10_1) = 66 then (if (wrap64 (x10_1 + 1)) ≥ (a0.size : Int) then (qanatref03_literal.j3 k1 a0 a2 x10_1 (strOfNums x8_1) (a0.extract ((ji35) : Int).toNat ((wrap64 (x10_1 - 1)) : Int).toNat) true) else (if 0 ≤ (wrap64 (x10_1 + 1)) then (if (wrap64 (x10_1 + 1)) < (a0.size : Int) then ((qanatref03_Char.f (bt a0 (wrap64 (x10_1 + 1)))).bind fun t184 => (qanatref03_literal.j3 k1 a0 a2 x10_1 (strOfNums x8_1) (a0.extract ((ji35) : Int).toNat ((wrap64 (x10_1 - 1)) : Int).toNat) (!t184))) else (none)) else (none))) else (if (bt a0 x10_1) = 98 then (if (wrap64 (x10_1 + 1)) ≥ (a0.size : Int) then (qanatref03_literal.j3 k1 a0 a2 x10_1 (strOfNums x8_1) (a0.extract ((ji35) : Int).toNat ((wrap64 (x10_1 - 1)) : Int).toNat) true) else (if 0 ≤ (wrap64 (x10_1 + 1)) then (if (wrap64 (x10_1 + 1)) < (a0.size : Int) then ((qanatref03_Char.f (bt a0 (wrap64 (x10_1 + 1)))).bind fun t185 => (qanatref03_literal.j3 k1 a0 a2 x10_1 (strOfNums x8_1) (a0.extract ((ji35) : Int).toNat ((wrap64 (x10_1 - 1)) : Int).toNat) (!t185))) else (none)) else (none))) else (qanatref03_literal.j3 k1 a0 a2 x10_1 (strOfNums x8_1) (a0.extract ((ji35) : Int).toNat ((wrap64 (x10_1 - 1)) : Int).toNat) false))))) else (none)) else (qanatref03_literal.j3 k1 a0 a2 x10_1 (strOfNums x8_1) (a0.extract ((ji35) : Int).toNat ((wrap64 (x10_1 - 1)) : Int).toNat) false)) else (some (0, (⟨#[]⟩ : ByteArray), 0, 13, a2))) = some (r1, r2, r3, r4, r5) := H
                  have A39 := Aside0.mk A390
                  clear A390
                  by_cases c40 : t181 = true
                  · subst c40
                    have H1 : (if x10_1 < (a0.size : Int) then (if 0 ≤ x10_1 then (if (bt a0 x10_1) = 88 then (if (wrap64 (x10_1 + 1)) ≥ (a0.size : Int) then (qanatref03_literal.j3 k1 a0 a2 x10_1 (strOfNums x8_1) (a0.extract ((ji35) : Int).toNat ((wrap64 (x10_1 - 1)) : Int).toNat) true) else (if 0 ≤ (wrap64 (x10_1 + 1)) then (if (wrap64 (x10_1 + 1)) < (a0.size : Int) then ((qanatref03_Char.f (bt a0 (wrap64 (x10_1 + 1)))).bind fun t182 => (qanatref03_literal.j3 k1 a0 a2 x10_1 (strOfNums x8_1) (a0.extract ((ji35) : Int).toNat ((wrap64 (x10_1 - 1)) : Int).toNat) (!t182))) else (none)) else (none))) else (if (bt a0 x10_1) = 120 then (if (wrap64 (x10_1 + 1)) ≥ (a0.size : Int) then (qanatref03_literal.j3 k1 a0 a2 x10_1 (strOfNums x8_1) (a0.extract ((ji35) : Int).toNat ((wrap64 (x10_1 - 1)) : Int).toNat) true) else (if 0 ≤ (wrap64 (x10_1 + 1)) then (if (wrap64 (x10_1 + 1)) < (a0.size : Int) then ((qanatref03_Char.f (bt a0 (wrap64 (x10_1 + 1)))).bind fun t183 => (qanatref03_literal.j3 k1 a0 a2 x10_1 (strOfNums x8_1) (a0.extract ((ji35) : Int).toNat ((wrap64 (x10_1 - 1)) : Int).toNat) (!t183))) else (none)) else (none))) else (if (bt a0 x10_1) = 66 then (if (wrap64 (x10_1 + 1)) ≥ (a0.size : Int) then (qanatref03_literal.j3 k1 a0 a2 x10_1 (strOfNums x8_1) (a0.extract ((ji35) : Int).toNat ((wrap64 (x10_1 - 1)) : Int).toNat) true) else (if 0 ≤ (wrap64 (x10_1 + 1)) then (if (wrap64 (x10_1 + 1)) < (a0.size : Int) then ((qanatref03_Char.f (bt a0 (wrap64 (x10_1 + 1)))).bind fun t184 => (qanatref03_literal.j3 k1 a0 a2 x10_1 (strOfNums x8_1) (a0.extract ((ji35) : Int).toNat ((wrap64 (x10_1 - 1)) : Int).toNat) (!t184))) else (none)) else (none))) else (if (bt a0 x10_1) = 98 then (if (wrap64 (x10_1 + 1)) ≥ (a0.size : Int) then (qanatref03_literal.j3 k1 a0 a2 x10_1 (strOfNums x8_1) (a0.extract ((ji35) : Int).toNat ((wrap64 (x10_1 - 1)) : Int).toNat) true) else (if 0 ≤ (wrap64 (x10_1 + 1)) then (if (wrap64 (x10_1 + 1)) < (a0.size : Int) then ((qanatref03_Char.f (bt a0 (wrap64 (x10_1 + 1)))).bind fun t185 => (qanatref03_literal.j3 k1 a0 a2 x10_1 (strOfNums x8_1) (a0.extract ((ji35) : Int).toNat ((wrap64 (x10_1 - 1)) : Int).toNat) (!t185))) else (none)) else (none))) else (qanatref03_literal.j3 k1 a0 a2 x10_1 (strOfNums x8_1) (a0.extract ((ji35) : Int).toNat ((wrap64 (x10_1 - 1)) : Int).toNat) false))))) else (none)) else (qanatref03_literal.j3 k1 a0 a2 x10_1 (strOfNums x8_1) (a0.extract ((ji35) : Int).toNat ((wrap64 (x10_1 - 1)) : Int).toNat) false)) = some (r1, r2, r3, r4, r5) := by rw [if_pos rfl] at H; exact H
                    clear H
                    have H := H1
                    clear H1
                    have HC41 := Aside0.mk H
                    clear H
                    have hcv42 := own_string (P := Tryz.prog) Tryz.underlying100 Tryz.underlying5 Tryz.underlying9 (Kd.own_of_R HO_8.out)
                    go_upto_region 20 with (first | ((with_reducible refine gate_callee (f := 43) rfl ?_); refine goesL_ (some 91) rfl rfl Tryz.func43 (by kernel_rfl) rfl #[.string (a0.extract ((ji35) : Int).toNat ((wrap64 (x10_1 - 1)) : Int).toNat)] rfl (by (try simp only [List.map_toArray, List.map_cons, List.map_nil]); first | done | (simp only [hji35]; rfl) | rfl | (simp only [List.length_drop, List.length_take]; rfl)) ?_; (with_reducible refine (qanatref03_Plain.calls k1 (a0.extract ((ji35) : Int).toNat ((wrap64 (x10_1 - 1)) : Int).toNat) true _ A39.out).mono ?_); rintro e w' ⟨rfl, ⟨nd, rfl⟩⟩; refine ⟨_, rfl, ?_⟩))
                    (try simp only [Act.put, List.setIfInBounds_toArray, List.set_cons_zero, List.set_cons_succ])
                    go_cut [14] (fun v14 wc => ∃ (kq : Nat) (x14_40 : Bool), v14 = .bool x14_40 ∧ Aside0 (qanatref03_literal.j3 kq a0 a2 x10_1 (strOfNums x8_1) (a0.extract ((ji35) : Int).toNat ((wrap64 (x10_1 - 1)) : Int).toNat) x14_40 = some (r1, r2, r3, r4, r5)) ∧ Aside0 (kq ≤ k1) ∧ Aside0 (wc.heap[gb174]? = some (.cells #[.int .i64 x175000_1, .string x175001_1, .int .i64 x175002_1, .int .i64 x175003_1, .int .i64 x175004_1] 82 (0, 0))) ∧ Aside0 (Below w.heap.size w wc))
                    case first =>
                      have H := HC41.out
                      clear HC41
                      by_cases c43 : x10_1 < (a0.size : Int)
                      · rw [if_pos c43] at H
                        have c43b0 : decide (x10_1 < (a0.size : Int)) = true := decide_eq_true c43
                        clear c43
                        (first | rw [c43b0] | (simp only [i64_w, i32_w]; rw [c43b0]) | skip)
                        by_cases c44 : 0 ≤ x10_1
                        · rw [if_pos c44] at H
                          have c44b0 : decide (0 ≤ x10_1) = true := decide_eq_true c44
                          clear c44
                          by_cases c46 : (bt a0 x10_1) = 88
                          · rw [if_pos c46] at H
                            have c46b0 : ((bt a0 x10_1) == 88) = true := beq_iff_eq.mpr c46
                            have c46b1 : ((bt a0 x10_1) != 88) = false := bne_eq_false_iff_eq.mpr c46
                            clear c46
                            by_cases c47 : (wrap64 (x10_1 + 1)) ≥ (a0.size : Int)
                            · rw [if_pos c47] at H
                              have c47b0 : decide ((a0.size : Int) ≤ (wrap64 (x10_1 + 1))) = true := decide_eq_true c47
                              clear c47
                              have H' := Aside0.mk H
                              clear H
                              have p45 : 0 ≤ (x10_1 : Int) := of_decide_eq_true (by first | (with_reducible assumption) | assumption)
                              have q45 : x10_1 < (a0.size : Int) := of_decide_eq_true (by first | (with_reducible assumption) | assumption)
                              have hx45 := bt_at a0 x10_1
                              replace p45 := eq_true p45
                              replace q45 := eq_true q45
                              go_wp2
                              go_meet
                              case rel => exact ⟨_, (true), (by first | rfl | (simp; done) | (simp [*]; done)), H', ⟨by have := HK1.out; first | omega | exact Nat.le_refl _⟩, ⟨by (with_reducible repeat (first | refine blk_drewN ?_ _ | refine blk_drew ?_ | refine blk_alloc ?_ _)); exact BK174.out⟩, ⟨by repeat (first | (with_reducible first | exact HB.out | apply below_alloc | apply pw_below_drewN | apply below_drew1 | refine below_set ?_ GE174.out) | exact HB.out)⟩⟩
                            · rw [if_neg c47] at H
                              have c47b0 : decide ((a0.size : Int) ≤ (wrap64 (x10_1 + 1))) = false := decide_eq_false c47
                              clear c47
                              obtain ⟨ji48, hji48⟩ : ∃ j_ : Int, (wrap64 (x10_1 + 1)) = j_ := ⟨_, rfl⟩
                              replace H : (if 0 ≤ (ji48) then (if (ji48) < (a0.size : Int) then ((qanatref03_Char.f (bt a0 (ji48))).bind fun t182 => (qanatref03_literal.j3 k1 a0 a2 x10_1 (strOfNums x8_1) (a0.extract ((ji35) : Int).toNat ((wrap64 (x10_1 - 1)) : Int).toNat) (!t182))) else (none)) else (none)) = some (r1, r2, r3, r4, r5) := by first | (rw [hji48] at H; exact H) | (simp only [hji48] at H ⊢; exact H)
                              (try rw [hji48] at c47b0)
                              have hji48w : (IntKind.i64.wrap (x10_1 + 1)) = ji48 := (i64_w _).trans hji48
                              by_cases c49 : 0 ≤ (ji48)
                              · rw [if_pos c49] at H
                                have c49b0 : decide (0 ≤ (ji48)) = true := decide_eq_true c49
                                clear c49
                                by_cases c50 : (ji48) < (a0.size : Int)
                                · rw [if_pos c50] at H
                                  have c50b0 : decide ((ji48) < (a0.size : Int)) = true := decide_eq_true c50
                                  clear c50
                                  replace H := Option.bind_eq_some_iff.mp H
                                  obtain ⟨t182, A520, H⟩ := H
                                  replace H : (qanatref03_literal.j3 k1 a0 a2 x10_1 (strOfNums x8_1) (a0.extract ((ji35) : Int).toNat ((wrap64 (x10_1 - 1)) : Int).toNat) (!t182)) = some (r1, r2, r3, r4, r5) := H
                                  have A52 := Aside0.mk A520
                                  clear A520
                                  have H' := Aside0.mk H
                                  clear H
                                  have p45 : 0 ≤ (x10_1 : Int) := of_decide_eq_true (by first | (with_reducible assumption) | assumption)
                                  have q45 : x10_1 < (a0.size : Int) := of_decide_eq_true (by first | (with_reducible assumption) | assumption)
                                  have hx45 := bt_at a0 x10_1
                                  replace p45 := eq_true p45
                                  replace q45 := eq_true q45
                                  have p51 : 0 ≤ ((ji48) : Int) := of_decide_eq_true (by first | (with_reducible assumption) | assumption)
                                  have q51 : (ji48) < (a0.size : Int) := of_decide_eq_true (by first | (with_reducible assumption) | assumption)
                                  have hx51 := bt_at a0 (ji48)
                                  replace p51 := eq_true p51
                                  replace q51 := eq_true q51
                                  go_wp2_with (first | (go_at_call 58; (with_reducible refine (qanatref03_Char.calls (bt a0 (ji48)) t182 _ A52.out).mono ?_); rintro e w' ⟨rfl, ⟨nd, rfl⟩⟩))
                                  go_meet
                                  case rel => exact ⟨_, (!t182), (by first | rfl | (simp; done) | (simp [*]; done)), H', ⟨by have := HK1.out; first | omega | exact Nat.le_refl _⟩, ⟨by (with_reducible repeat (first | refine blk_drewN ?_ _ | refine blk_drew ?_ | refine blk_alloc ?_ _)); exact BK174.out⟩, ⟨by repeat (first | (with_reducible first | exact HB.out | apply below_alloc | apply pw_below_drewN | apply below_drew1 | refine below_set ?_ GE174.out) | exact HB.out)⟩⟩
                                · rw [if_neg c50] at H
                                  exact absurd H (by simp)
                              · rw [if_neg c49] at H
                                exact absurd H (by simp)
                          · rw [if_neg c46] at H
                            have c46b0 : ((bt a0 x10_1) == 88) = false := beq_eq_false_iff_ne.mpr c46
                            have c46b1 : ((bt a0 x10_1) != 88) = true := bne_iff_ne.mpr c46
                            by_cases c54 : (bt a0 x10_1) = 120
                            · rw [if_pos c54] at H
                              have c54b0 : ((bt a0 x10_1) == 120) = true := beq_iff_eq.mpr c54
                              have c54b1 : ((bt a0 x10_1) != 120) = false := bne_eq_false_iff_eq.mpr c54
                              clear c54
                              by_cases c55 : (wrap64 (x10_1 + 1)) ≥ (a0.size : Int)
                              · rw [if_pos c55] at H
                                have c55b0 : decide ((a0.size : Int) ≤ (wrap64 (x10_1 + 1))) = true := decide_eq_true c55
                                clear c55
                                have H' := Aside0.mk H
                                clear H
                                have p45 : 0 ≤ (x10_1 : Int) := of_decide_eq_true (by first | (with_reducible assumption) | assumption)
                                have q45 : x10_1 < (a0.size : Int) := of_decide_eq_true (by first | (with_reducible assumption) | assumption)
                                have hx45 := bt_at a0 x10_1
                                replace p45 := eq_true p45
                                replace q45 := eq_true q45
                                have p53 : 0 ≤ (x10_1 : Int) := of_decide_eq_true (by first | (with_reducible assumption) | assumption)
                                have q53 : x10_1 < (a0.size : Int) := of_decide_eq_true (by first | (with_reducible assumption) | assumption)
                                have hx53 := bt_at a0 x10_1
                                replace p53 := eq_true p53
                                replace q53 := eq_true q53
                                go_wp2
                                go_meet
                                case rel => exact ⟨_, (true), (by first | rfl | (simp; done) | (simp [*]; done)), H', ⟨by have := HK1.out; first | omega | exact Nat.le_refl _⟩, ⟨by (with_reducible repeat (first | refine blk_drewN ?_ _ | refine blk_drew ?_ | refine blk_alloc ?_ _)); exact BK174.out⟩, ⟨by repeat (first | (with_reducible first | exact HB.out | apply below_alloc | apply pw_below_drewN | apply below_drew1 | refine below_set ?_ GE174.out) | exact HB.out)⟩⟩
                              · rw [if_neg c55] at H
                                have c55b0 : decide ((a0.size : Int) ≤ (wrap64 (x10_1 + 1))) = false := decide_eq_false c55
                                clear c55
                                obtain ⟨ji56, hji56⟩ : ∃ j_ : Int, (wrap64 (x10_1 + 1)) = j_ := ⟨_, rfl⟩
                                replace H : (if 0 ≤ (ji56) then (if (ji56) < (a0.size : Int) then ((qanatref03_Char.f (bt a0 (ji56))).bind fun t183 => (qanatref03_literal.j3 k1 a0 a2 x10_1 (strOfNums x8_1) (a0.extract ((ji35) : Int).toNat ((wrap64 (x10_1 - 1)) : Int).toNat) (!t183))) else (none)) else (none)) = some (r1, r2, r3, r4, r5) := by first | (rw [hji56] at H; exact H) | (simp only [hji56] at H ⊢; exact H)
                                (try rw [hji56] at c55b0)
                                have hji56w : (IntKind.i64.wrap (x10_1 + 1)) = ji56 := (i64_w _).trans hji56
                                by_cases c57 : 0 ≤ (ji56)
                                · rw [if_pos c57] at H
                                  have c57b0 : decide (0 ≤ (ji56)) = true := decide_eq_true c57
                                  clear c57
                                  by_cases c58 : (ji56) < (a0.size : Int)
                                  · rw [if_pos c58] at H
                                    have c58b0 : decide ((ji56) < (a0.size : Int)) = true := decide_eq_true c58
                                    clear c58
                                    replace H := Option.bind_eq_some_iff.mp H
                                    obtain ⟨t183, A600, H⟩ := H
                                    replace H : (qanatref03_literal.j3 k1 a0 a2 x10_1 (strOfNums x8_1) (a0.extract ((ji35) : Int).toNat ((wrap64 (x10_1 - 1)) : Int).toNat) (!t183)) = some (r1, r2, r3, r4, r5) := H
                                    have A60 := Aside0.mk A600
                                    clear A600
                                    have H' := Aside0.mk H
                                    clear H
                                    have p45 : 0 ≤ (x10_1 : Int) := of_decide_eq_true (by first | (with_reducible assumption) | assumption)
                                    have q45 : x10_1 < (a0.size : Int) := of_decide_eq_true (by first | (with_reducible assumption) | assumption)
                                    have hx45 := bt_at a0 x10_1
                                    replace p45 := eq_true p45
                                    replace q45 := eq_true q45
                                    have p53 : 0 ≤ (x10_1 : Int) := of_decide_eq_true (by first | (with_reducible assumption) | assumption)
                                    have q53 : x10_1 < (a0.size : Int) := of_decide_eq_true (by first | (with_reducible assumption) | assumption)
                                    have hx53 := bt_at a0 x10_1
                                    replace p53 := eq_true p53
                                    replace q53 := eq_true q53
                                    have p59 : 0 ≤ ((ji56) : Int) := of_decide_eq_true (by first | (with_reducible assumption) | assumption)
                                    have q59 : (ji56) < (a0.size : Int) := of_decide_eq_true (by first | (with_reducible assumption) | assumption)
                                    have hx59 := bt_at a0 (ji56)
                                    replace p59 := eq_true p59
                                    replace q59 := eq_true q59
                                    go_wp2_with (first | (go_at_call 58; (with_reducible refine (qanatref03_Char.calls (bt a0 (ji56)) t183 _ A60.out).mono ?_); rintro e w' ⟨rfl, ⟨nd, rfl⟩⟩))
                                    go_meet
                                    case rel => exact ⟨_, (!t183), (by first | rfl | (simp; done) | (simp [*]; done)), H', ⟨by have := HK1.out; first | omega | exact Nat.le_refl _⟩, ⟨by (with_reducible repeat (first | refine blk_drewN ?_ _ | refine blk_drew ?_ | refine blk_alloc ?_ _)); exact BK174.out⟩, ⟨by repeat (first | (with_reducible first | exact HB.out | apply below_alloc | apply pw_below_drewN | apply below_drew1 | refine below_set ?_ GE174.out) | exact HB.out)⟩⟩
                                  · rw [if_neg c58] at H
                                    exact absurd H (by simp)
                                · rw [if_neg c57] at H
                                  exact absurd H (by simp)
                            · rw [if_neg c54] at H
                              have c54b0 : ((bt a0 x10_1) == 120) = false := beq_eq_false_iff_ne.mpr c54
                              have c54b1 : ((bt a0 x10_1) != 120) = true := bne_iff_ne.mpr c54
                              by_cases c62 : (bt a0 x10_1) = 66
                              · rw [if_pos c62] at H
                                have c62b0 : ((bt a0 x10_1) == 66) = true := beq_iff_eq.mpr c62
                                have c62b1 : ((bt a0 x10_1) != 66) = false := bne_eq_false_iff_eq.mpr c62
                                clear c62
                                by_cases c63 : (wrap64 (x10_1 + 1)) ≥ (a0.size : Int)
                                · rw [if_pos c63] at H
                                  have c63b0 : decide ((a0.size : Int) ≤ (wrap64 (x10_1 + 1))) = true := decide_eq_true c63
                                  clear c63
                                  have H' := Aside0.mk H
                                  clear H
                                  have p45 : 0 ≤ (x10_1 : Int) := of_decide_eq_true (by first | (with_reducible assumption) | assumption)
                                  have q45 : x10_1 < (a0.size : Int) := of_decide_eq_true (by first | (with_reducible assumption) | assumption)
                                  have hx45 := bt_at a0 x10_1
                                  replace p45 := eq_true p45
                                  replace q45 := eq_true q45
                                  have p53 : 0 ≤ (x10_1 : Int) := of_decide_eq_true (by first | (with_reducible assumption) | assumption)
                                  have q53 : x10_1 < (a0.size : Int) := of_decide_eq_true (by first | (with_reducible assumption) | assumption)
                                  have hx53 := bt_at a0 x10_1
                                  replace p53 := eq_true p53
                                  replace q53 := eq_true q53
                                  have p61 : 0 ≤ (x10_1 : Int) := of_decide_eq_true (by first | (with_reducible assumption) | assumption)
                                  have q61 : x10_1 < (a0.size : Int) := of_decide_eq_true (by first | (with_reducible assumption) | assumption)
                                  have hx61 := bt_at a0 x10_1
                                  replace p61 := eq_true p61
                                  replace q61 := eq_true q61
                                  go_wp2
                                  go_meet
                                  case rel => exact ⟨_, (true), (by first | rfl | (simp; done) | (simp [*]; done)), H', ⟨by have := HK1.out; first | omega | exact Nat.le_refl _⟩, ⟨by (with_reducible repeat (first | refine blk_drewN ?_ _ | refine blk_drew ?_ | refine blk_alloc ?_ _)); exact BK174.out⟩, ⟨by repeat (first | (with_reducible first | exact HB.out | apply below_alloc | apply pw_below_drewN | apply below_drew1 | refine below_set ?_ GE174.out) | exact HB.out)⟩⟩
                                · rw [if_neg c63] at H
                                  have c63b0 : decide ((a0.size : Int) ≤ (wrap64 (x10_1 + 1))) = false := decide_eq_false c63
                                  clear c63
                                  obtain ⟨ji64, hji64⟩ : ∃ j_ : Int, (wrap64 (x10_1 + 1)) = j_ := ⟨_, rfl⟩
                                  replace H : (if 0 ≤ (ji64) then (if (ji64) < (a0.size : Int) then ((qanatref03_Char.f (bt a0 (ji64))).bind fun t184 => (qanatref03_literal.j3 k1 a0 a2 x10_1 (strOfNums x8_1) (a0.extract ((ji35) : Int).toNat ((wrap64 (x10_1 - 1)) : Int).toNat) (!t184))) else (none)) else (none)) = some (r1, r2, r3, r4, r5) := by first | (rw [hji64] at H; exact H) | (simp only [hji64] at H ⊢; exact H)
                                  (try rw [hji64] at c63b0)
                                  have hji64w : (IntKind.i64.wrap (x10_1 + 1)) = ji64 := (i64_w _).trans hji64
                                  by_cases c65 : 0 ≤ (ji64)
                                  · rw [if_pos c65] at H
                                    have c65b0 : decide (0 ≤ (ji64)) = true := decide_eq_true c65
                                    clear c65
                                    by_cases c66 : (ji64) < (a0.size : Int)
                                    · rw [if_pos c66] at H
                                      have c66b0 : decide ((ji64) < (a0.size : Int)) = true := decide_eq_true c66
                                      clear c66
                                      replace H := Option.bind_eq_some_iff.mp H
                                      obtain ⟨t184, A680, H⟩ := H
                                      replace H : (qanatref03_literal.j3 k1 a0 a2 x10_1 (strOfNums x8_1) (a0.extract ((ji35) : Int).toNat ((wrap64 (x10_1 - 1)) : Int).toNat) (!t184)) = some (r1, r2, r3, r4, r5) := H
                                      have A68 := Aside0.mk A680
                                      clear A680
                                      have H' := Aside0.mk H
                                      clear H
                                      have p45 : 0 ≤ (x10_1 : Int) := of_decide_eq_true (by first | (with_reducible assumption) | assumption)
                                      have q45 : x10_1 < (a0.size : Int) := of_decide_eq_true (by first | (with_reducible assumption) | assumption)
                                      have hx45 := bt_at a0 x10_1
                                      replace p45 := eq_true p45
                                      replace q45 := eq_true q45
                                      have p53 : 0 ≤ (x10_1 : Int) := of_decide_eq_true (by first | (with_reducible assumption) | assumption)
                                      have q53 : x10_1 < (a0.size : Int) := of_decide_eq_true (by first | (with_reducible assumption) | assumption)
                                      have hx53 := bt_at a0 x10_1
                                      replace p53 := eq_true p53
                                      replace q53 := eq_true q53
                                      have p61 : 0 ≤ (x10_1 : Int) := of_decide_eq_true (by first | (with_reducible assumption) | assumption)
                                      have q61 : x10_1 < (a0.size : Int) := of_decide_eq_true (by first | (with_reducible assumption) | assumption)
                                      have hx61 := bt_at a0 x10_1
                                      replace p61 := eq_true p61
                                      replace q61 := eq_true q61
                                      have p67 : 0 ≤ ((ji64) : Int) := of_decide_eq_true (by first | (with_reducible assumption) | assumption)
                                      have q67 : (ji64) < (a0.size : Int) := of_decide_eq_true (by first | (with_reducible assumption) | assumption)
                                      have hx67 := bt_at a0 (ji64)
                                      replace p67 := eq_true p67
                                      replace q67 := eq_true q67
                                      go_wp2_with (first | (go_at_call 58; (with_reducible refine (qanatref03_Char.calls (bt a0 (ji64)) t184 _ A68.out).mono ?_); rintro e w' ⟨rfl, ⟨nd, rfl⟩⟩))
                                      go_meet
                                      case rel => exact ⟨_, (!t184), (by first | rfl | (simp; done) | (simp [*]; done)), H', ⟨by have := HK1.out; first | omega | exact Nat.le_refl _⟩, ⟨by (with_reducible repeat (first | refine blk_drewN ?_ _ | refine blk_drew ?_ | refine blk_alloc ?_ _)); exact BK174.out⟩, ⟨by repeat (first | (with_reducible first | exact HB.out | apply below_alloc | apply pw_below_drewN | apply below_drew1 | refine below_set ?_ GE174.out) | exact HB.out)⟩⟩
                                    · rw [if_neg c66] at H
                                      exact absurd H (by simp)
                                  · rw [if_neg c65] at H
                                    exact absurd H (by simp)
                              · rw [if_neg c62] at H
                                have c62b0 : ((bt a0 x10_1) == 66) = false := beq_eq_false_iff_ne.mpr c62
                                have c62b1 : ((bt a0 x10_1) != 66) = true := bne_iff_ne.mpr c62
                                by_cases c70 : (bt a0 x10_1) = 98
                                · rw [if_pos c70] at H
                                  have c70b0 : ((bt a0 x10_1) == 98) = true := beq_iff_eq.mpr c70
                                  have c70b1 : ((bt a0 x10_1) != 98) = false := bne_eq_false_iff_eq.mpr c70
                                  clear c70
                                  by_cases c71 : (wrap64 (x10_1 + 1)) ≥ (a0.size : Int)
                                  · rw [if_pos c71] at H
                                    have c71b0 : decide ((a0.size : Int) ≤ (wrap64 (x10_1 + 1))) = true := decide_eq_true c71
                                    clear c71
                                    have H' := Aside0.mk H
                                    clear H
                                    have p45 : 0 ≤ (x10_1 : Int) := of_decide_eq_true (by first | (with_reducible assumption) | assumption)
                                    have q45 : x10_1 < (a0.size : Int) := of_decide_eq_true (by first | (with_reducible assumption) | assumption)
                                    have hx45 := bt_at a0 x10_1
                                    replace p45 := eq_true p45
                                    replace q45 := eq_true q45
                                    have p53 : 0 ≤ (x10_1 : Int) := of_decide_eq_true (by first | (with_reducible assumption) | assumption)
                                    have q53 : x10_1 < (a0.size : Int) := of_decide_eq_true (by first | (with_reducible assumption) | assumption)
                                    have hx53 := bt_at a0 x10_1
                                    replace p53 := eq_true p53
                                    replace q53 := eq_true q53
                                    have p61 : 0 ≤ (x10_1 : Int) := of_decide_eq_true (by first | (with_reducible assumption) | assumption)
                                    have q61 : x10_1 < (a0.size : Int) := of_decide_eq_true (by first | (with_reducible assumption) | assumption)
                                    have hx61 := bt_at a0 x10_1
                                    replace p61 := eq_true p61
                                    replace q61 := eq_true q61
                                    have p69 : 0 ≤ (x10_1 : Int) := of_decide_eq_true (by first | (with_reducible assumption) | assumption)
                                    have q69 : x10_1 < (a0.size : Int) := of_decide_eq_true (by first | (with_reducible assumption) | assumption)
                                    have hx69 := bt_at a0 x10_1
                                    replace p69 := eq_true p69
                                    replace q69 := eq_true q69
                                    go_wp2
                                    go_meet
                                    case rel => exact ⟨_, (true), (by first | rfl | (simp; done) | (simp [*]; done)), H', ⟨by have := HK1.out; first | omega | exact Nat.le_refl _⟩, ⟨by (with_reducible repeat (first | refine blk_drewN ?_ _ | refine blk_drew ?_ | refine blk_alloc ?_ _)); exact BK174.out⟩, ⟨by repeat (first | (with_reducible first | exact HB.out | apply below_alloc | apply pw_below_drewN | apply below_drew1 | refine below_set ?_ GE174.out) | exact HB.out)⟩⟩
                                  · rw [if_neg c71] at H
                                    have c71b0 : decide ((a0.size : Int) ≤ (wrap64 (x10_1 + 1))) = false := decide_eq_false c71
                                    clear c71
                                    obtain ⟨ji72, hji72⟩ : ∃ j_ : Int, (wrap64 (x10_1 + 1)) = j_ := ⟨_, rfl⟩
                                    replace H : (if 0 ≤ (ji72) then (if (ji72) < (a0.size : Int) then ((qanatref03_Char.f (bt a0 (ji72))).bind fun t185 => (qanatref03_literal.j3 k1 a0 a2 x10_1 (strOfNums x8_1) (a0.extract ((ji35) : Int).toNat ((wrap64 (x10_1 - 1)) : Int).toNat) (!t185))) else (none)) else (none)) = some (r1, r2, r3, r4, r5) := by first | (rw [hji72] at H; exact H) | (simp only [hji72] at H ⊢; exact H)
                                    (try rw [hji72] at c71b0)
                                    have hji72w : (IntKind.i64.wrap (x10_1 + 1)) = ji72 := (i64_w _).trans hji72
                                    by_cases c73 : 0 ≤ (ji72)
                                    · rw [if_pos c73] at H
                                      have c73b0 : decide (0 ≤ (ji72)) = true := decide_eq_true c73
                                      clear c73
                                      by_cases c74 : (ji72) < (a0.size : Int)
                                      · rw [if_pos c74] at H
                                        have c74b0 : decide ((ji72) < (a0.size : Int)) = true := decide_eq_true c74
                                        clear c74
                                        replace H := Option.bind_eq_some_iff.mp H
                                        obtain ⟨t185, A760, H⟩ := H
                                        replace H : (qanatref03_literal.j3 k1 a0 a2 x10_1 (strOfNums x8_1) (a0.extract ((ji35) : Int).toNat ((wrap64 (x10_1 - 1)) : Int).toNat) (!t185)) = some (r1, r2, r3, r4, r5) := H
                                        have A76 := Aside0.mk A760
                                        clear A760
                                        have H' := Aside0.mk H
                                        clear H
                                        have p45 : 0 ≤ (x10_1 : Int) := of_decide_eq_true (by first | (with_reducible assumption) | assumption)
                                        have q45 : x10_1 < (a0.size : Int) := of_decide_eq_true (by first | (with_reducible assumption) | assumption)
                                        have hx45 := bt_at a0 x10_1
                                        replace p45 := eq_true p45
                                        replace q45 := eq_true q45
                                        have p53 : 0 ≤ (x10_1 : Int) := of_decide_eq_true (by first | (with_reducible assumption) | assumption)
                                        have q53 : x10_1 < (a0.size : Int) := of_decide_eq_true (by first | (with_reducible assumption) | assumption)
                                        have hx53 := bt_at a0 x10_1
                                        replace p53 := eq_true p53
                                        replace q53 := eq_true q53
                                        have p61 : 0 ≤ (x10_1 : Int) := of_decide_eq_true (by first | (with_reducible assumption) | assumption)
                                        have q61 : x10_1 < (a0.size : Int) := of_decide_eq_true (by first | (with_reducible assumption) | assumption)
                                        have hx61 := bt_at a0 x10_1
                                        replace p61 := eq_true p61
                                        replace q61 := eq_true q61
                                        have p69 : 0 ≤ (x10_1 : Int) := of_decide_eq_true (by first | (with_reducible assumption) | assumption)
                                        have q69 : x10_1 < (a0.size : Int) := of_decide_eq_true (by first | (with_reducible assumption) | assumption)
                                        have hx69 := bt_at a0 x10_1
                                        replace p69 := eq_true p69
                                        replace q69 := eq_true q69
                                        have p75 : 0 ≤ ((ji72) : Int) := of_decide_eq_true (by first | (with_reducible assumption) | assumption)
                                        have q75 : (ji72) < (a0.size : Int) := of_decide_eq_true (by first | (with_reducible assumption) | assumption)
                                        have hx75 := bt_at a0 (ji72)
                                        replace p75 := eq_true p75
                                        replace q75 := eq_true q75
                                        go_wp2_with (first | (go_at_call 58; (with_reducible refine (qanatref03_Char.calls (bt a0 (ji72)) t185 _ A76.out).mono ?_); rintro e w' ⟨rfl, ⟨nd, rfl⟩⟩))
                                        go_meet
                                        case rel => exact ⟨_, (!t185), (by first | rfl | (simp; done) | (simp [*]; done)), H', ⟨by have := HK1.out; first | omega | exact Nat.le_refl _⟩, ⟨by (with_reducible repeat (first | refine blk_drewN ?_ _ | refine blk_drew ?_ | refine blk_alloc ?_ _)); exact BK174.out⟩, ⟨by repeat (first | (with_reducible first | exact HB.out | apply below_alloc | apply pw_below_drewN | apply below_drew1 | refine below_set ?_ GE174.out) | exact HB.out)⟩⟩
                                      · rw [if_neg c74] at H
                                        exact absurd H (by simp)
                                    · rw [if_neg c73] at H
                                      exact absurd H (by simp)
                                · rw [if_neg c70] at H
                                  have c70b0 : ((bt a0 x10_1) == 98) = false := beq_eq_false_iff_ne.mpr c70
                                  have c70b1 : ((bt a0 x10_1) != 98) = true := bne_iff_ne.mpr c70
                                  have H' := Aside0.mk H
                                  clear H
                                  have p45 : 0 ≤ (x10_1 : Int) := of_decide_eq_true (by first | (with_reducible assumption) | assumption)
                                  have q45 : x10_1 < (a0.size : Int) := of_decide_eq_true (by first | (with_reducible assumption) | assumption)
                                  have hx45 := bt_at a0 x10_1
                                  replace p45 := eq_true p45
                                  replace q45 := eq_true q45
                                  have p53 : 0 ≤ (x10_1 : Int) := of_decide_eq_true (by first | (with_reducible assumption) | assumption)
                                  have q53 : x10_1 < (a0.size : Int) := of_decide_eq_true (by first | (with_reducible assumption) | assumption)
                                  have hx53 := bt_at a0 x10_1
                                  replace p53 := eq_true p53
                                  replace q53 := eq_true q53
                                  have p61 : 0 ≤ (x10_1 : Int) := of_decide_eq_true (by first | (with_reducible assumption) | assumption)
                                  have q61 : x10_1 < (a0.size : Int) := of_decide_eq_true (by first | (with_reducible assumption) | assumption)
                                  have hx61 := bt_at a0 x10_1
                                  replace p61 := eq_true p61
                                  replace q61 := eq_true q61
                                  have p69 : 0 ≤ (x10_1 : Int) := of_decide_eq_true (by first | (with_reducible assumption) | assumption)
                                  have q69 : x10_1 < (a0.size : Int) := of_decide_eq_true (by first | (with_reducible assumption) | assumption)
                                  have hx69 := bt_at a0 x10_1
                                  replace p69 := eq_true p69
                                  replace q69 := eq_true q69
                                  go_wp2
                                  go_meet
                                  case rel => exact ⟨_, (false), (by first | rfl | (simp; done) | (simp [*]; done)), H', ⟨by have := HK1.out; first | omega | exact Nat.le_refl _⟩, ⟨by (with_reducible repeat (first | refine blk_drewN ?_ _ | refine blk_drew ?_ | refine blk_alloc ?_ _)); exact BK174.out⟩, ⟨by repeat (first | (with_reducible first | exact HB.out | apply below_alloc | apply pw_below_drewN | apply below_drew1 | refine below_set ?_ GE174.out) | exact HB.out)⟩⟩
                        · rw [if_neg c44] at H
                          exact absurd H (by simp)
                      · rw [if_neg c43] at H
                        have c43b0 : decide (x10_1 < (a0.size : Int)) = false := decide_eq_false c43
                        clear c43
                        (first | rw [c43b0] | (simp only [i64_w, i32_w]; rw [c43b0]) | skip)
                        have H' := Aside0.mk H
                        clear H
                        go_wp2
                        go_meet
                        case rel => exact ⟨_, (false), (by first | rfl | (simp; done) | (simp [*]; done)), H', ⟨by have := HK1.out; first | omega | exact Nat.le_refl _⟩, ⟨by (with_reducible repeat (first | refine blk_drewN ?_ _ | refine blk_drew ?_ | refine blk_alloc ?_ _)); exact BK174.out⟩, ⟨by repeat (first | (with_reducible first | exact HB.out | apply below_alloc | apply pw_below_drewN | apply below_drew1 | refine below_set ?_ GE174.out) | exact HB.out)⟩⟩
                    case rest =>
                      clear HC41
                      try clear c1
                      try clear p1
                      try clear q1
                      try clear hx1
                      try clear c2
                      try clear p2
                      try clear q2
                      try clear hx2
                      try clear c3
                      try clear p3
                      try clear q3
                      try clear hx3
                      try clear c4
                      try clear c4b0
                      try clear p4
                      try clear q4
                      try clear hx4
                      try clear hcv4
                      try clear c5
                      try clear c5b0
                      try clear p5
                      try clear q5
                      try clear hx5
                      try clear c6
                      try clear p6
                      try clear q6
                      try clear hx6
                      try clear c7
                      try clear p7
                      try clear q7
                      try clear hx7
                      try clear c8
                      try clear c8b0
                      try clear c10
                      try clear c10b0
                      try clear c11
                      try clear c11b0
                      try clear c12
                      try clear c12b0
                      try clear p13
                      try clear q13
                      try clear hx13
                      try clear c14
                      try clear c17
                      try clear c17b0
                      try clear c18
                      try clear c18b0
                      try clear p19
                      try clear q19
                      try clear hx19
                      try clear c20
                      try clear c20b0
                      try clear c20b1
                      try clear c21
                      try clear c21b0
                      try clear c23
                      try clear c23b0
                      try clear p24
                      try clear q24
                      try clear hx24
                      try clear c25
                      try clear c26
                      try clear c28
                      try clear c28b0
                      try clear c29
                      try clear c29b0
                      try clear p30
                      try clear q30
                      try clear hx30
                      try clear c31
                      try clear c31b0
                      try clear c31b1
                      try clear p32
                      try clear q32
                      try clear hx32
                      try clear c33
                      try clear c36
                      try clear c36b0
                      try clear c36b1
                      try clear c37
                      try clear c37b0
                      try clear c37b1
                      try clear c38
                      try clear c38b0
                      try clear c38b1
                      try clear c40
                      try clear hcv42
                      try clear c43
                      try clear c43b0
                      try clear c44
                      try clear c44b0
                      try clear p45
                      try clear q45
                      try clear hx45
                      try clear c46
                      try clear c46b0
                      try clear c46b1
                      try clear c47
                      try clear c47b0
                      try clear c49
                      try clear c49b0
                      try clear c50
                      try clear c50b0
                      try clear p51
                      try clear q51
                      try clear hx51
                      try clear p53
                      try clear q53
                      try clear hx53
                      try clear c54
                      try clear c54b0
                      try clear c54b1
                      try clear c55
                      try clear c55b0
                      try clear c57
                      try clear c57b0
                      try clear c58
                      try clear c58b0
                      try clear p59
                      try clear q59
                      try clear hx59
                      try clear p61
                      try clear q61
                      try clear hx61
                      try clear c62
                      try clear c62b0
                      try clear c62b1
                      try clear c63
                      try clear c63b0
                      try clear p64
                      try clear c65
                      try clear c65b0
                      try clear c66
                      try clear c66b0
                      try clear p67
                      try clear q67
                      try clear hx67
                      try clear p69
                      try clear q69
                      try clear hx69
                      try clear c70
                      try clear c70b0
                      try clear c70b1
                      try clear c71
                      try clear c71b0
                      try clear c73
                      try clear c73b0
                      try clear c74
                      try clear c74b0
                      try clear p75
                      try clear q75
                      try clear hx75
                      try clear hcz15_0
                      try clear hcz15_1
                      try clear hcz15_2
                      try clear hcz15_3
                      try clear hcz15_4
                      try clear hfz15_0
                      try clear hfz15_1
                      try clear hfz15_2
                      try clear hfz15_3
                      try clear hfz15_4
                      try clear p1
                      try clear p13
                      try clear p19
                      try clear p2
                      try clear p24
                      try clear p30
                      try clear p32
                      try clear p45
                      try clear p51
                      try clear p53
                      try clear p59
                      try clear p6
                      try clear p61
                      try clear p67
                      try clear p69
                      try clear p75
                      try clear q1
                      try clear q13
                      try clear q19
                      try clear q2
                      try clear q24
                      try clear q30
                      try clear q32
                      try clear q45
                      try clear q51
                      try clear q53
                      try clear q59
                      try clear q6
                      try clear q61
                      try clear q67
                      try clear q69
                      try clear q75
                      obtain ⟨kq, x14_40, rfl, HA, HJ40, BK174, HB⟩ := hcut
                      cases kq with
                      | zero => exact absurd HA.out (by simp [qanatref03_literal.j3])
                      | succ kj40 =>
                        have H := HA.out
                        clear HA
                        simp only [qanatref03_literal.j3] at H
                        by_cases c77 : x14_40 = true
                        · subst c77
                          have H1 : (if 0 ≤ x10_1 then (if x10_1 < (a0.size : Int) then (if (bt a0 x10_1) = 66 then (qanatref03_literal.j4 kj40 a2 x10_1 (a0.extract ((ji35) : Int).toNat ((wrap64 (x10_1 - 1)) : Int).toNat) 16 2 true) else (qanatref03_literal.j4 kj40 a2 x10_1 (a0.extract ((ji35) : Int).toNat ((wrap64 (x10_1 - 1)) : Int).toNat) 16 2 ((bt a0 x10_1) == 98))) else (none)) else (none)) = some (r1, r2, r3, r4, r5) := by rw [if_pos rfl] at H; exact H
                          clear H
                          have H := H1
                          clear H1
                          have HC78 := Aside0.mk H
                          clear H
                          go_upto_region 24 with (fail)
                          go_cut [148] (fun v148 wc => ∃ (kq : Nat) (x148_77 : Bool), v148 = .bool x148_77 ∧ Aside0 (qanatref03_literal.j4 kq a2 x10_1 (a0.extract ((ji35) : Int).toNat ((wrap64 (x10_1 - 1)) : Int).toNat) 16 2 x148_77 = some (r1, r2, r3, r4, r5)) ∧ Aside0 (kq ≤ kj40) ∧ Aside0 (wc.heap[gb174]? = some (.cells #[.int .i64 x175000_1, .string x175001_1, .int .i64 x175002_1, .int .i64 x175003_1, .int .i64 x175004_1] 82 (0, 0))) ∧ Aside0 (Below w.heap.size w wc))
                          case first =>
                            have H := HC78.out
                            clear HC78
                            by_cases c79 : 0 ≤ x10_1
                            · rw [if_pos c79] at H
                              have c79b0 : decide (0 ≤ x10_1) = true := decide_eq_true c79
                              clear c79
                              (first | rw [c79b0] | (simp only [i64_w, i32_w]; rw [c79b0]) | skip)
                              by_cases c80 : x10_1 < (a0.size : Int)
                              · rw [if_pos c80] at H
                                have c80b0 : decide (x10_1 < (a0.size : Int)) = true := decide_eq_true c80
                                clear c80
                                by_cases c82 : (bt a0 x10_1) = 66
                                · rw [if_pos c82] at H
                                  have c82b0 : ((bt a0 x10_1) == 66) = true := beq_iff_eq.mpr c82
                                  have c82b1 : ((bt a0 x10_1) != 66) = false := bne_eq_false_iff_eq.mpr c82
                                  clear c82
                                  have H' := Aside0.mk H
                                  clear H
                                  have p81 : 0 ≤ (x10_1 : Int) := of_decide_eq_true (by first | (with_reducible assumption) | assumption)
                                  have q81 : x10_1 < (a0.size : Int) := of_decide_eq_true (by first | (with_reducible assumption) | assumption)
                                  have hx81 := bt_at a0 x10_1
                                  replace p81 := eq_true p81
                                  replace q81 := eq_true q81
                                  go_wp2
                                  go_meet
                                  case rel => exact ⟨_, (true), (by first | rfl | (simp; done) | (simp [*]; done)), H', ⟨by have := HK1.out; have := HJ40.out; first | omega | exact Nat.le_refl _⟩, ⟨by (with_reducible repeat (first | refine blk_drewN ?_ _ | refine blk_drew ?_ | refine blk_alloc ?_ _)); exact BK174.out⟩, ⟨by repeat (first | (with_reducible first | exact HB.out | apply below_alloc | apply pw_below_drewN | apply below_drew1 | refine below_set ?_ GE174.out) | exact HB.out)⟩⟩
                                · rw [if_neg c82] at H
                                  have c82b0 : ((bt a0 x10_1) == 66) = false := beq_eq_false_iff_ne.mpr c82
                                  have c82b1 : ((bt a0 x10_1) != 66) = true := bne_iff_ne.mpr c82
                                  have H' := Aside0.mk H
                                  clear H
                                  have p81 : 0 ≤ (x10_1 : Int) := of_decide_eq_true (by first | (with_reducible assumption) | assumption)
                                  have q81 : x10_1 < (a0.size : Int) := of_decide_eq_true (by first | (with_reducible assumption) | assumption)
                                  have hx81 := bt_at a0 x10_1
                                  replace p81 := eq_true p81
                                  replace q81 := eq_true q81
                                  have p83 : 0 ≤ (x10_1 : Int) := of_decide_eq_true (by first | (with_reducible assumption) | assumption)
                                  have q83 : x10_1 < (a0.size : Int) := of_decide_eq_true (by first | (with_reducible assumption) | assumption)
                                  have hx83 := bt_at a0 x10_1
                                  replace p83 := eq_true p83
                                  replace q83 := eq_true q83
                                  go_wp2
                                  go_meet
                                  case rel => exact ⟨_, (((bt a0 x10_1) == 98)), (by first | rfl | (simp; done) | (simp [*]; done)), H', ⟨by have := HK1.out; have := HJ40.out; first | omega | exact Nat.le_refl _⟩, ⟨by (with_reducible repeat (first | refine blk_drewN ?_ _ | refine blk_drew ?_ | refine blk_alloc ?_ _)); exact BK174.out⟩, ⟨by repeat (first | (with_reducible first | exact HB.out | apply below_alloc | apply pw_below_drewN | apply below_drew1 | refine below_set ?_ GE174.out) | exact HB.out)⟩⟩
                              · rw [if_neg c80] at H
                                exact absurd H (by simp)
                            · rw [if_neg c79] at H
                              exact absurd H (by simp)
                          case rest =>
                            clear HC78
                            try clear c1
                            try clear p1
                            try clear q1
                            try clear hx1
                            try clear c2
                            try clear p2
                            try clear q2
                            try clear hx2
                            try clear c3
                            try clear p3
                            try clear q3
                            try clear hx3
                            try clear c4
                            try clear c4b0
                            try clear p4
                            try clear q4
                            try clear hx4
                            try clear hcv4
                            try clear c5
                            try clear c5b0
                            try clear p5
                            try clear q5
                            try clear hx5
                            try clear c6
                            try clear p6
                            try clear q6
                            try clear hx6
                            try clear c7
                            try clear p7
                            try clear q7
                            try clear hx7
                            try clear c8
                            try clear c8b0
                            try clear p8
                            try clear q8
                            try clear hx8
                            try clear c10
                            try clear c10b0
                            try clear c11
                            try clear c11b0
                            try clear c12
                            try clear c12b0
                            try clear p13
                            try clear q13
                            try clear hx13
                            try clear c14
                            try clear c17
                            try clear c17b0
                            try clear c18
                            try clear c18b0
                            try clear p19
                            try clear q19
                            try clear hx19
                            try clear c20
                            try clear c20b0
                            try clear c20b1
                            try clear c21
                            try clear c21b0
                            try clear c23
                            try clear c23b0
                            try clear p24
                            try clear q24
                            try clear hx24
                            try clear c25
                            try clear c26
                            try clear c28
                            try clear c28b0
                            try clear c29
                            try clear c29b0
                            try clear p30
                            try clear q30
                            try clear hx30
                            try clear c31
                            try clear c31b0
                            try clear c31b1
                            try clear p32
                            try clear q32
                            try clear hx32
                            try clear c33
                            try clear c36
                            try clear c36b0
                            try clear c36b1
                            try clear c37
                            try clear c37b0
                            try clear c37b1
                            try clear c38
                            try clear c38b0
                            try clear c38b1
                            try clear c40
                            try clear hcv42
                            try clear c43
                            try clear c43b0
                            try clear c44
                            try clear c44b0
                            try clear p45
                            try clear q45
                            try clear hx45
                            try clear c46
                            try clear c46b0
                            try clear c46b1
                            try clear c47
                            try clear c47b0
                            try clear c49
                            try clear c49b0
                            try clear c50
                            try clear c50b0
                            try clear p51
                            try clear q51
                            try clear hx51
                            try clear p53
                            try clear q53
                            try clear hx53
                            try clear c54
                            try clear c54b0
                            try clear c54b1
                            try clear c55
                            try clear c55b0
                            try clear c57
                            try clear c57b0
                            try clear c58
                            try clear c58b0
                            try clear p59
                            try clear q59
                            try clear hx59
                            try clear p61
                            try clear q61
                            try clear hx61
                            try clear c62
                            try clear c62b0
                            try clear c62b1
                            try clear c63
                            try clear c63b0
                            try clear p64
                            try clear c65
                            try clear c65b0
                            try clear c66
                            try clear c66b0
                            try clear p67
                            try clear q67
                            try clear hx67
                            try clear p69
                            try clear q69
                            try clear hx69
                            try clear c70
                            try clear c70b0
                            try clear c70b1
                            try clear c71
                            try clear c71b0
                            try clear c73
                            try clear c73b0
                            try clear c74
                            try clear c74b0
                            try clear p75
                            try clear q75
                            try clear hx75
                            try clear c77
                            try clear c79
                            try clear c79b0
                            try clear c80
                            try clear c80b0
                            try clear p81
                            try clear q81
                            try clear hx81
                            try clear c82
                            try clear c82b0
                            try clear c82b1
                            try clear p83
                            try clear q83
                            try clear hx83
                            try clear hcz15_0
                            try clear hcz15_1
                            try clear hcz15_2
                            try clear hcz15_3
                            try clear hcz15_4
                            try clear hfz15_0
                            try clear hfz15_1
                            try clear hfz15_2
                            try clear hfz15_3
                            try clear hfz15_4
                            try clear p1
                            try clear p13
                            try clear p19
                            try clear p2
                            try clear p24
                            try clear p3
                            try clear p30
                            try clear p32
                            try clear p4
                            try clear p45
                            try clear p5
                            try clear p51
                            try clear p53
                            try clear p59
                            try clear p6
                            try clear p61
                            try clear p64
                            try clear p67
                            try clear p69
                            try clear p7
                            try clear p75
                            try clear p81
                            try clear p83
                            try clear q1
                            try clear q13
                            try clear q19
                            try clear q2
                            try clear q24
                            try clear q3
                            try clear q30
                            try clear q32
                            try clear q4
                            try clear q45
                            try clear q5
                            try clear q51
                            try clear q53
                            try clear q59
                            try clear q6
                            try clear q61
                            try clear q67
                            try clear q69
                            try clear q7
                            try clear q75
                            try clear q81
                            try clear q83
                            obtain ⟨kq, x148_77, rfl, HA, HJ77, BK174, HB⟩ := hcut
                            cases kq with
                            | zero => exact absurd HA.out (by simp [qanatref03_literal.j4])
                            | succ kj77 =>
                              have H := HA.out
                              clear HA
                              simp only [qanatref03_literal.j4] at H
                              have HC84 := Aside0.mk H
                              clear H
                              go_upto_if 148 with (fail)
                              go_cut [15, 16] (fun v15 v16 wc => ∃ (kq : Nat) (x15_83 : Int) (x16_83 : Int), v15 = .int .i64 x15_83 ∧ v16 = .int .i64 x16_83 ∧ Aside0 (qanatref03_literal.j5 kq a2 x10_1 (a0.extract ((ji35) : Int).toNat ((wrap64 (x10_1 - 1)) : Int).toNat) x15_83 x16_83 = some (r1, r2, r3, r4, r5)) ∧ Aside0 (kq ≤ kj77) ∧ Aside0 (wc.heap[gb174]? = some (.cells #[.int .i64 x175000_1, .string x175001_1, .int .i64 x175002_1, .int .i64 x175003_1, .int .i64 x175004_1] 82 (0, 0))) ∧ Aside0 (Below w.heap.size w wc))
                              case first =>
                                have H := HC84.out
                                clear HC84
                                by_cases c85 : x148_77 = true
                                · subst c85
                                  have H1 : (qanatref03_literal.j5 kj77 a2 x10_1 (a0.extract ((ji35) : Int).toNat ((wrap64 (x10_1 - 1)) : Int).toNat) 2 8) = some (r1, r2, r3, r4, r5) := by rw [if_pos rfl] at H; exact H
                                  clear H
                                  have H := H1
                                  clear H1
                                  have H' := Aside0.mk H
                                  clear H
                                  go_wp2
                                  go_meet
                                  case rel => exact ⟨_, (2), (8), (by first | rfl | (simp; done) | (simp [*]; done)), (by first | rfl | (simp; done) | (simp [*]; done)), H', ⟨by have := HK1.out; have := HJ40.out; have := HJ77.out; first | omega | exact Nat.le_refl _⟩, ⟨by (with_reducible repeat (first | refine blk_drewN ?_ _ | refine blk_drew ?_ | refine blk_alloc ?_ _)); exact BK174.out⟩, ⟨by repeat (first | (with_reducible first | exact HB.out | apply below_alloc | apply pw_below_drewN | apply below_drew1 | refine below_set ?_ GE174.out) | exact HB.out)⟩⟩
                                · replace c85 := Bool.eq_false_iff.mpr c85
                                  subst c85
                                  have H1 : (qanatref03_literal.j5 kj77 a2 x10_1 (a0.extract ((ji35) : Int).toNat ((wrap64 (x10_1 - 1)) : Int).toNat) 16 2) = some (r1, r2, r3, r4, r5) := by rw [if_neg (show ¬ (false = true) by decide)] at H; exact H
                                  clear H
                                  have H := H1
                                  clear H1
                                  have H' := Aside0.mk H
                                  clear H
                                  go_wp2
                                  go_meet
                                  case rel => exact ⟨_, (16), (2), (by first | rfl | (simp; done) | (simp [*]; done)), (by first | rfl | (simp; done) | (simp [*]; done)), H', ⟨by have := HK1.out; have := HJ40.out; have := HJ77.out; first | omega | exact Nat.le_refl _⟩, ⟨by (with_reducible repeat (first | refine blk_drewN ?_ _ | refine blk_drew ?_ | refine blk_alloc ?_ _)); exact BK174.out⟩, ⟨by repeat (first | (with_reducible first | exact HB.out | apply below_alloc | apply pw_below_drewN | apply below_drew1 | refine below_set ?_ GE174.out) | exact HB.out)⟩⟩
                              case rest =>
                                clear HC84
                                try clear c1
                                try clear p1
                                try clear q1
                                try clear hx1
                                try clear c2
                                try clear p2
                                try clear q2
                                try clear hx2
                                try clear c3
                                try clear p3
                                try clear q3
                                try clear hx3
                                try clear c4
                                try clear c4b0
                                try clear p4
                                try clear q4
                                try clear hx4
                                try clear hcv4
                                try clear c5
                                try clear c5b0
                                try clear p5
                                try clear q5
                                try clear hx5
                                try clear c6
                                try clear p6
                                try clear q6
                                try clear hx6
                                try clear c7
                                try clear p7
                                try clear q7
                                try clear hx7
                                try clear c8
                                try clear c8b0
                                try clear p8
                                try clear q8
                                try clear hx8
                                try clear c10
                                try clear c10b0
                                try clear c11
                                try clear c11b0
                                try clear c12
                                try clear c12b0
                                try clear p13
                                try clear q13
                                try clear hx13
                                try clear c14
                                try clear c17
                                try clear c17b0
                                try clear c18
                                try clear c18b0
                                try clear p19
                                try clear q19
                                try clear hx19
                                try clear c20
                                try clear c20b0
                                try clear c20b1
                                try clear c21
                                try clear c21b0
                                try clear c23
                                try clear c23b0
                                try clear p24
                                try clear q24
                                try clear hx24
                                try clear c25
                                try clear c26
                                try clear c28
                                try clear c28b0
                                try clear c29
                                try clear c29b0
                                try clear p30
                                try clear q30
                                try clear hx30
                                try clear c31
                                try clear c31b0
                                try clear c31b1
                                try clear p32
                                try clear q32
                                try clear hx32
                                try clear c33
                                try clear c36
                                try clear c36b0
                                try clear c36b1
                                try clear c37
                                try clear c37b0
                                try clear c37b1
                                try clear c38
                                try clear c38b0
                                try clear c38b1
                                try clear c40
                                try clear hcv42
                                try clear c43
                                try clear c43b0
                                try clear c44
                                try clear c44b0
                                try clear p45
                                try clear q45
                                try clear hx45
                                try clear c46
                                try clear c46b0
                                try clear c46b1
                                try clear c47
                                try clear c47b0
                                try clear c49
                                try clear c49b0
                                try clear c50
                                try clear c50b0
                                try clear p51
                                try clear q51
                                try clear hx51
                                try clear p53
                                try clear q53
                                try clear hx53
                                try clear c54
                                try clear c54b0
                                try clear c54b1
                                try clear c55
                                try clear c55b0
                                try clear c57
                                try clear c57b0
                                try clear c58
                                try clear c58b0
                                try clear p59
                                try clear q59
                                try clear hx59
                                try clear p61
                                try clear q61
                                try clear hx61
                                try clear c62
                                try clear c62b0
                                try clear c62b1
                                try clear c63
                                try clear c63b0
                                try clear p64
                                try clear c65
                                try clear c65b0
                                try clear c66
                                try clear c66b0
                                try clear p67
                                try clear q67
                                try clear hx67
                                try clear p69
                                try clear q69
                                try clear hx69
                                try clear c70
                                try clear c70b0
                                try clear c70b1
                                try clear c71
                                try clear c71b0
                                try clear c73
                                try clear c73b0
                                try clear c74
                                try clear c74b0
                                try clear p75
                                try clear q75
                                try clear hx75
                                try clear c77
                                try clear c79
                                try clear c79b0
                                try clear c80
                                try clear c80b0
                                try clear p81
                                try clear q81
                                try clear hx81
                                try clear c82
                                try clear c82b0
                                try clear c82b1
                                try clear p83
                                try clear q83
                                try clear hx83
                                try clear c85
                                try clear hcz15_0
                                try clear hcz15_1
                                try clear hcz15_2
                                try clear hcz15_3
                                try clear hcz15_4
                                try clear hfz15_0
                                try clear hfz15_1
                                try clear hfz15_2
                                try clear hfz15_3
                                try clear hfz15_4
                                try clear p1
                                try clear p13
                                try clear p19
                                try clear p2
                                try clear p24
                                try clear p3
                                try clear p30
                                try clear p32
                                try clear p4
                                try clear p45
                                try clear p5
                                try clear p51
                                try clear p53
                                try clear p59
                                try clear p6
                                try clear p61
                                try clear p64
                                try clear p67
                                try clear p69
                                try clear p7
                                try clear p75
                                try clear p8
                                try clear p81
                                try clear p83
                                try clear q1
                                try clear q13
                                try clear q19
                                try clear q2
                                try clear q24
                                try clear q3
                                try clear q30
                                try clear q32
                                try clear q4
                                try clear q45
                                try clear q5
                                try clear q51
                                try clear q53
                                try clear q59
                                try clear q6
                                try clear q61
                                try clear q67
                                try clear q69
                                try clear q7
                                try clear q75
                                try clear q8
                                try clear q81
                                try clear q83
                                obtain ⟨kq, x15_83, x16_83, rfl, rfl, HA, HJ83, BK174, HB⟩ := hcut
                                cases kq with
                                | zero => exact absurd HA.out (by simp [qanatref03_literal.j5])
                                | succ kj83 =>
                                  have H := HA.out
                                  clear HA
                                  simp only [qanatref03_literal.j5] at H
                                  replace H := Option.bind_eq_some_iff.mp H
                                  obtain ⟨⟨t186, t187⟩, A860, H⟩ := H
                                  replace H : (if t187 = true then (if (t186.size : Int) > 1000 then (some (0, (⟨#[]⟩ : ByteArray), 0, 30, a2)) else (some (2, t186, wrap64 (x10_1 + 1), 0, 0))) else (some (0, (⟨#[]⟩ : ByteArray), 0, 15, a2))) = some (r1, r2, r3, r4, r5) := H
                                  have A86 := Aside0.mk A860
                                  clear A860
                                  by_cases c87 : t187 = true
                                  · subst c87
                                    have H1 : (if (t186.size : Int) > 1000 then (some (0, (⟨#[]⟩ : ByteArray), 0, 30, a2)) else (some (2, t186, wrap64 (x10_1 + 1), 0, 0))) = some (r1, r2, r3, r4, r5) := by rw [if_pos rfl] at H; exact H
                                    clear H
                                    have H := H1
                                    clear H1
                                    by_cases c88 : (t186.size : Int) > 1000
                                    · rw [if_pos c88] at H
                                      have c88b0 : decide (1000 < (t186.size : Int)) = true := decide_eq_true c88
                                      have c88b1 : decide (1000 < t186.size) = true := decide_eq_true (by omega)
                                      clear c88
                                      simp only [Option.some.injEq, Prod.mk.injEq] at H
                                      obtain ⟨rfl, rfl, rfl, rfl, rfl⟩ := H
                                      go_wp2_with (first | ((with_reducible refine gate_callee (f := 110) rfl ?_); refine goesL_ (some 153) rfl rfl Tryz.func110 (by kernel_rfl) rfl #[.string (a0.extract ((ji35) : Int).toNat ((wrap64 (x10_1 - 1)) : Int).toNat), .int .i64 x15_83, .int .i64 x16_83] rfl (by (try simp only [List.map_toArray, List.map_cons, List.map_nil]); first | done | (simp only [hji35]; rfl) | rfl | (simp only [List.length_drop, List.length_take]; rfl)) ?_; (with_reducible refine (qanatref03_Bytes.calls kj83 (a0.extract ((ji35) : Int).toNat ((wrap64 (x10_1 - 1)) : Int).toNat) x15_83 x16_83 t186 true _ A86.out).mono ?_); rintro e w89 ⟨rfl, hb⟩; refine ⟨_, rfl, ?_⟩; have n0_ := Aside0.mk (blk_below (g := gb174) (o := .cells #[.int .i64 x175000_1, .string x175001_1, .int .i64 x175002_1, .int .i64 x175003_1, .int .i64 x175004_1] 82 (0, 0)) (by (with_reducible repeat (first | refine blk_drewN ?_ _ | refine blk_drew ?_ | refine blk_alloc ?_ _)); exact BK174.out) hb); have n1_ := Aside0.mk (below_step (by repeat (first | (with_reducible first | exact HB.out | apply below_alloc | apply pw_below_drewN | apply below_drew1 | refine below_set ?_ GE174.out) | exact HB.out)) hb); clear BK174; clear HB; have BK174 := n0_; have HB := n1_; clear n0_ n1_; (try clear hb); (try clear hb2); (try clear hk); (try clear hi); have hcz90_0 : w89.cell? ⟨gb174, 0, none⟩ = some (.int .i64 x175000_1) := (blk_cell BK174.out 0).trans rfl; have hcz90_1 : w89.cell? ⟨gb174, 1, none⟩ = some (.string x175001_1) := (blk_cell BK174.out 1).trans rfl; have hcz90_2 : w89.cell? ⟨gb174, 2, none⟩ = some (.int .i64 x175002_1) := (blk_cell BK174.out 2).trans rfl; have hcz90_3 : w89.cell? ⟨gb174, 3, none⟩ = some (.int .i64 x175003_1) := (blk_cell BK174.out 3).trans rfl; have hcz90_4 : w89.cell? ⟨gb174, 4, none⟩ = some (.int .i64 x175004_1) := (blk_cell BK174.out 4).trans rfl; have hfz90_0 := blk_frozen BK174.out 0; have hfz90_1 := blk_frozen BK174.out 1; have hfz90_2 := blk_frozen BK174.out 2; have hfz90_3 := blk_frozen BK174.out 3; have hfz90_4 := blk_frozen BK174.out 4))
                                      refine bodyPost_ret (results_cell_row rfl _ _ gb174 82 #[.int .i64 0, .string (⟨#[]⟩ : ByteArray), .int .i64 0, .int .i64 30, .int .i64 a2] (0, 0) _ rfl (by (with_reducible repeat (first | refine blk_drewN ?_ _ | refine blk_drew ?_ | refine blk_alloc ?_ _)); refine blk_put (cs := #[.int .i64 0, .string (⟨#[]⟩ : ByteArray), .int .i64 0, .int .i64 30, .int .i64 x175004_1]) ?_ 4 _ rfl; (with_reducible repeat (first | refine blk_drewN ?_ _ | refine blk_drew ?_ | refine blk_alloc ?_ _)); refine blk_put (cs := #[.int .i64 0, .string (⟨#[]⟩ : ByteArray), .int .i64 0, .int .i64 x175003_1, .int .i64 x175004_1]) ?_ 3 _ rfl; (with_reducible repeat (first | refine blk_drewN ?_ _ | refine blk_drew ?_ | refine blk_alloc ?_ _)); refine blk_put (cs := #[.int .i64 0, .string (⟨#[]⟩ : ByteArray), .int .i64 x175002_1, .int .i64 x175003_1, .int .i64 x175004_1]) ?_ 2 _ rfl; (with_reducible repeat (first | refine blk_drewN ?_ _ | refine blk_drew ?_ | refine blk_alloc ?_ _)); refine blk_put (cs := #[.int .i64 0, .string x175001_1, .int .i64 x175002_1, .int .i64 x175003_1, .int .i64 x175004_1]) ?_ 1 _ rfl; (with_reducible repeat (first | refine blk_drewN ?_ _ | refine blk_drew ?_ | refine blk_alloc ?_ _)); refine blk_put (cs := #[.int .i64 x175000_1, .string x175001_1, .int .i64 x175002_1, .int .i64 x175003_1, .int .i64 x175004_1]) ?_ 0 _ rfl; (with_reducible repeat (first | refine blk_drewN ?_ _ | refine blk_drew ?_ | refine blk_alloc ?_ _)); exact BK174.out) Tryz.underlying82 rfl (by kernel_rfl)) rfl ?_
                                      exact ⟨by first | rfl | (simp [errW_none, errW_some] <;> rfl) | (simp only [← hji35]; first | rfl | (simp [errW_none, errW_some] <;> rfl)) | (simp [*, errW_none, errW_some] <;> rfl), by repeat (first | (with_reducible first | exact HB.out | apply below_alloc | apply pw_below_drewN | apply below_drew1 | refine below_set ?_ GE174.out) | exact HB.out)⟩
                                    · rw [if_neg c88] at H
                                      have c88b0 : decide (1000 < (t186.size : Int)) = false := decide_eq_false c88
                                      have c88b1 : decide (1000 < t186.size) = false := decide_eq_false (by omega)
                                      clear c88
                                      simp only [Option.some.injEq, Prod.mk.injEq] at H
                                      obtain ⟨rfl, rfl, rfl, rfl, rfl⟩ := H
                                      go_wp2_with (first | ((with_reducible refine gate_callee (f := 110) rfl ?_); refine goesL_ (some 153) rfl rfl Tryz.func110 (by kernel_rfl) rfl #[.string (a0.extract ((ji35) : Int).toNat ((wrap64 (x10_1 - 1)) : Int).toNat), .int .i64 x15_83, .int .i64 x16_83] rfl (by (try simp only [List.map_toArray, List.map_cons, List.map_nil]); first | done | (simp only [hji35]; rfl) | rfl | (simp only [List.length_drop, List.length_take]; rfl)) ?_; (with_reducible refine (qanatref03_Bytes.calls kj83 (a0.extract ((ji35) : Int).toNat ((wrap64 (x10_1 - 1)) : Int).toNat) x15_83 x16_83 t186 true _ A86.out).mono ?_); rintro e w91 ⟨rfl, hb⟩; refine ⟨_, rfl, ?_⟩; have n0_ := Aside0.mk (blk_below (g := gb174) (o := .cells #[.int .i64 x175000_1, .string x175001_1, .int .i64 x175002_1, .int .i64 x175003_1, .int .i64 x175004_1] 82 (0, 0)) (by (with_reducible repeat (first | refine blk_drewN ?_ _ | refine blk_drew ?_ | refine blk_alloc ?_ _)); exact BK174.out) hb); have n1_ := Aside0.mk (below_step (by repeat (first | (with_reducible first | exact HB.out | apply below_alloc | apply pw_below_drewN | apply below_drew1 | refine below_set ?_ GE174.out) | exact HB.out)) hb); clear BK174; clear HB; have BK174 := n0_; have HB := n1_; clear n0_ n1_; (try clear hb); (try clear hb2); (try clear hk); (try clear hi); have hcz92_0 : w91.cell? ⟨gb174, 0, none⟩ = some (.int .i64 x175000_1) := (blk_cell BK174.out 0).trans rfl; have hcz92_1 : w91.cell? ⟨gb174, 1, none⟩ = some (.string x175001_1) := (blk_cell BK174.out 1).trans rfl; have hcz92_2 : w91.cell? ⟨gb174, 2, none⟩ = some (.int .i64 x175002_1) := (blk_cell BK174.out 2).trans rfl; have hcz92_3 : w91.cell? ⟨gb174, 3, none⟩ = some (.int .i64 x175003_1) := (blk_cell BK174.out 3).trans rfl; have hcz92_4 : w91.cell? ⟨gb174, 4, none⟩ = some (.int .i64 x175004_1) := (blk_cell BK174.out 4).trans rfl; have hfz92_0 := blk_frozen BK174.out 0; have hfz92_1 := blk_frozen BK174.out 1; have hfz92_2 := blk_frozen BK174.out 2; have hfz92_3 := blk_frozen BK174.out 3; have hfz92_4 := blk_frozen BK174.out 4))
                                      refine bodyPost_ret (results_cell_row rfl _ _ gb174 82 #[.int .i64 2, .string t186, .int .i64 (wrap64 (x10_1 + 1)), .int .i64 0, .int .i64 0] (0, 0) _ rfl (by (with_reducible repeat (first | refine blk_drewN ?_ _ | refine blk_drew ?_ | refine blk_alloc ?_ _)); refine blk_put (cs := #[.int .i64 2, .string t186, .int .i64 (wrap64 (x10_1 + 1)), .int .i64 0, .int .i64 x175004_1]) ?_ 4 _ rfl; (with_reducible repeat (first | refine blk_drewN ?_ _ | refine blk_drew ?_ | refine blk_alloc ?_ _)); refine blk_put (cs := #[.int .i64 2, .string t186, .int .i64 (wrap64 (x10_1 + 1)), .int .i64 x175003_1, .int .i64 x175004_1]) ?_ 3 _ rfl; (with_reducible repeat (first | refine blk_drewN ?_ _ | refine blk_drew ?_ | refine blk_alloc ?_ _)); refine blk_put (cs := #[.int .i64 2, .string t186, .int .i64 x175002_1, .int .i64 x175003_1, .int .i64 x175004_1]) ?_ 2 _ rfl; (with_reducible repeat (first | refine blk_drewN ?_ _ | refine blk_drew ?_ | refine blk_alloc ?_ _)); refine blk_put (cs := #[.int .i64 2, .string x175001_1, .int .i64 x175002_1, .int .i64 x175003_1, .int .i64 x175004_1]) ?_ 1 _ rfl; (with_reducible repeat (first | refine blk_drewN ?_ _ | refine blk_drew ?_ | refine blk_alloc ?_ _)); refine blk_put (cs := #[.int .i64 x175000_1, .string x175001_1, .int .i64 x175002_1, .int .i64 x175003_1, .int .i64 x175004_1]) ?_ 0 _ rfl; (with_reducible repeat (first | refine blk_drewN ?_ _ | refine blk_drew ?_ | refine blk_alloc ?_ _)); exact BK174.out) Tryz.underlying82 rfl (by kernel_rfl)) rfl ?_
                                      exact ⟨by first | rfl | (simp [errW_none, errW_some] <;> rfl) | (simp only [← hji35]; first | rfl | (simp [errW_none, errW_some] <;> rfl)) | (simp [*, errW_none, errW_some] <;> rfl), by repeat (first | (with_reducible first | exact HB.out | apply below_alloc | apply pw_below_drewN | apply below_drew1 | refine below_set ?_ GE174.out) | exact HB.out)⟩
                                  · replace c87 := Bool.eq_false_iff.mpr c87
                                    subst c87
                                    have H1 : (some (0, (⟨#[]⟩ : ByteArray), 0, 15, a2)) = some (r1, r2, r3, r4, r5) := by rw [if_neg (show ¬ (false = true) by decide)] at H; exact H
                                    clear H
                                    have H := H1
                                    clear H1
                                    simp only [Option.some.injEq, Prod.mk.injEq] at H
                                    obtain ⟨rfl, rfl, rfl, rfl, rfl⟩ := H
                                    go_wp2_with (first | ((with_reducible refine gate_callee (f := 110) rfl ?_); refine goesL_ (some 153) rfl rfl Tryz.func110 (by kernel_rfl) rfl #[.string (a0.extract ((ji35) : Int).toNat ((wrap64 (x10_1 - 1)) : Int).toNat), .int .i64 x15_83, .int .i64 x16_83] rfl (by (try simp only [List.map_toArray, List.map_cons, List.map_nil]); first | done | (simp only [hji35]; rfl) | rfl | (simp only [List.length_drop, List.length_take]; rfl)) ?_; (with_reducible refine (qanatref03_Bytes.calls kj83 (a0.extract ((ji35) : Int).toNat ((wrap64 (x10_1 - 1)) : Int).toNat) x15_83 x16_83 t186 false _ A86.out).mono ?_); rintro e w93 ⟨rfl, hb⟩; refine ⟨_, rfl, ?_⟩; have n0_ := Aside0.mk (blk_below (g := gb174) (o := .cells #[.int .i64 x175000_1, .string x175001_1, .int .i64 x175002_1, .int .i64 x175003_1, .int .i64 x175004_1] 82 (0, 0)) (by (with_reducible repeat (first | refine blk_drewN ?_ _ | refine blk_drew ?_ | refine blk_alloc ?_ _)); exact BK174.out) hb); have n1_ := Aside0.mk (below_step (by repeat (first | (with_reducible first | exact HB.out | apply below_alloc | apply pw_below_drewN | apply below_drew1 | refine below_set ?_ GE174.out) | exact HB.out)) hb); clear BK174; clear HB; have BK174 := n0_; have HB := n1_; clear n0_ n1_; (try clear hb); (try clear hb2); (try clear hk); (try clear hi); have hcz94_0 : w93.cell? ⟨gb174, 0, none⟩ = some (.int .i64 x175000_1) := (blk_cell BK174.out 0).trans rfl; have hcz94_1 : w93.cell? ⟨gb174, 1, none⟩ = some (.string x175001_1) := (blk_cell BK174.out 1).trans rfl; have hcz94_2 : w93.cell? ⟨gb174, 2, none⟩ = some (.int .i64 x175002_1) := (blk_cell BK174.out 2).trans rfl; have hcz94_3 : w93.cell? ⟨gb174, 3, none⟩ = some (.int .i64 x175003_1) := (blk_cell BK174.out 3).trans rfl; have hcz94_4 : w93.cell? ⟨gb174, 4, none⟩ = some (.int .i64 x175004_1) := (blk_cell BK174.out 4).trans rfl; have hfz94_0 := blk_frozen BK174.out 0; have hfz94_1 := blk_frozen BK174.out 1; have hfz94_2 := blk_frozen BK174.out 2; have hfz94_3 := blk_frozen BK174.out 3; have hfz94_4 := blk_frozen BK174.out 4))
                                    refine bodyPost_ret (results_cell_row rfl _ _ gb174 82 #[.int .i64 0, .string (⟨#[]⟩ : ByteArray), .int .i64 0, .int .i64 15, .int .i64 a2] (0, 0) _ rfl (by (with_reducible repeat (first | refine blk_drewN ?_ _ | refine blk_drew ?_ | refine blk_alloc ?_ _)); refine blk_put (cs := #[.int .i64 0, .string (⟨#[]⟩ : ByteArray), .int .i64 0, .int .i64 15, .int .i64 x175004_1]) ?_ 4 _ rfl; (with_reducible repeat (first | refine blk_drewN ?_ _ | refine blk_drew ?_ | refine blk_alloc ?_ _)); refine blk_put (cs := #[.int .i64 0, .string (⟨#[]⟩ : ByteArray), .int .i64 0, .int .i64 x175003_1, .int .i64 x175004_1]) ?_ 3 _ rfl; (with_reducible repeat (first | refine blk_drewN ?_ _ | refine blk_drew ?_ | refine blk_alloc ?_ _)); refine blk_put (cs := #[.int .i64 0, .string (⟨#[]⟩ : ByteArray), .int .i64 x175002_1, .int .i64 x175003_1, .int .i64 x175004_1]) ?_ 2 _ rfl; (with_reducible repeat (first | refine blk_drewN ?_ _ | refine blk_drew ?_ | refine blk_alloc ?_ _)); refine blk_put (cs := #[.int .i64 0, .string x175001_1, .int .i64 x175002_1, .int .i64 x175003_1, .int .i64 x175004_1]) ?_ 1 _ rfl; (with_reducible repeat (first | refine blk_drewN ?_ _ | refine blk_drew ?_ | refine blk_alloc ?_ _)); refine blk_put (cs := #[.int .i64 x175000_1, .string x175001_1, .int .i64 x175002_1, .int .i64 x175003_1, .int .i64 x175004_1]) ?_ 0 _ rfl; (with_reducible repeat (first | refine blk_drewN ?_ _ | refine blk_drew ?_ | refine blk_alloc ?_ _)); exact BK174.out) Tryz.underlying82 rfl (by kernel_rfl)) rfl ?_
                                    exact ⟨by first | rfl | (simp [errW_none, errW_some] <;> rfl) | (simp only [← hji35]; first | rfl | (simp [errW_none, errW_some] <;> rfl)) | (simp [*, errW_none, errW_some] <;> rfl), by repeat (first | (with_reducible first | exact HB.out | apply below_alloc | apply pw_below_drewN | apply below_drew1 | refine below_set ?_ GE174.out) | exact HB.out)⟩
                        · replace c77 := Bool.eq_false_iff.mpr c77
                          subst c77
                          have H1 : (if ((strOfNums x8_1).size : Int) > 1000 then (some (0, (⟨#[]⟩ : ByteArray), 0, 30, a2)) else (some (2, (strOfNums x8_1), x10_1, 0, 0))) = some (r1, r2, r3, r4, r5) := by rw [if_neg (show ¬ (false = true) by decide)] at H; exact H
                          clear H
                          have H := H1
                          clear H1
                          by_cases c95 : ((strOfNums x8_1).size : Int) > 1000
                          · rw [if_pos c95] at H
                            have c95b0 : decide (1000 < ((strOfNums x8_1).size : Int)) = true := decide_eq_true c95
                            have c95b1 : decide (1000 < (strOfNums x8_1).size) = true := decide_eq_true (by omega)
                            clear c95
                            simp only [Option.some.injEq, Prod.mk.injEq] at H
                            obtain ⟨rfl, rfl, rfl, rfl, rfl⟩ := H
                            have hcz96_0 : wc.cell? ⟨gb174, 0, none⟩ = some (.int .i64 x175000_1) := (blk_cell BK174.out 0).trans rfl
                            have hcz96_1 : wc.cell? ⟨gb174, 1, none⟩ = some (.string x175001_1) := (blk_cell BK174.out 1).trans rfl
                            have hcz96_2 : wc.cell? ⟨gb174, 2, none⟩ = some (.int .i64 x175002_1) := (blk_cell BK174.out 2).trans rfl
                            have hcz96_3 : wc.cell? ⟨gb174, 3, none⟩ = some (.int .i64 x175003_1) := (blk_cell BK174.out 3).trans rfl
                            have hcz96_4 : wc.cell? ⟨gb174, 4, none⟩ = some (.int .i64 x175004_1) := (blk_cell BK174.out 4).trans rfl
                            have hfz96_0 := blk_frozen BK174.out 0
                            have hfz96_1 := blk_frozen BK174.out 1
                            have hfz96_2 := blk_frozen BK174.out 2
                            have hfz96_3 := blk_frozen BK174.out 3
                            have hfz96_4 := blk_frozen BK174.out 4
                            go_wp2
                            refine bodyPost_ret (results_cell_row rfl _ _ gb174 82 #[.int .i64 0, .string (⟨#[]⟩ : ByteArray), .int .i64 0, .int .i64 30, .int .i64 a2] (0, 0) _ rfl (by (with_reducible repeat (first | refine blk_drewN ?_ _ | refine blk_drew ?_ | refine blk_alloc ?_ _)); refine blk_put (cs := #[.int .i64 0, .string (⟨#[]⟩ : ByteArray), .int .i64 0, .int .i64 30, .int .i64 x175004_1]) ?_ 4 _ rfl; (with_reducible repeat (first | refine blk_drewN ?_ _ | refine blk_drew ?_ | refine blk_alloc ?_ _)); refine blk_put (cs := #[.int .i64 0, .string (⟨#[]⟩ : ByteArray), .int .i64 0, .int .i64 x175003_1, .int .i64 x175004_1]) ?_ 3 _ rfl; (with_reducible repeat (first | refine blk_drewN ?_ _ | refine blk_drew ?_ | refine blk_alloc ?_ _)); refine blk_put (cs := #[.int .i64 0, .string (⟨#[]⟩ : ByteArray), .int .i64 x175002_1, .int .i64 x175003_1, .int .i64 x175004_1]) ?_ 2 _ rfl; (with_reducible repeat (first | refine blk_drewN ?_ _ | refine blk_drew ?_ | refine blk_alloc ?_ _)); refine blk_put (cs := #[.int .i64 0, .string x175001_1, .int .i64 x175002_1, .int .i64 x175003_1, .int .i64 x175004_1]) ?_ 1 _ rfl; (with_reducible repeat (first | refine blk_drewN ?_ _ | refine blk_drew ?_ | refine blk_alloc ?_ _)); refine blk_put (cs := #[.int .i64 x175000_1, .string x175001_1, .int .i64 x175002_1, .int .i64 x175003_1, .int .i64 x175004_1]) ?_ 0 _ rfl; (with_reducible repeat (first | refine blk_drewN ?_ _ | refine blk_drew ?_ | refine blk_alloc ?_ _)); exact BK174.out) Tryz.underlying82 rfl (by kernel_rfl)) rfl ?_
                            exact ⟨by first | rfl | (simp [errW_none, errW_some] <;> rfl) | (simp only [← hji35]; first | rfl | (simp [errW_none, errW_some] <;> rfl)) | (simp [*, errW_none, errW_some] <;> rfl), by repeat (first | (with_reducible first | exact HB.out | apply below_alloc | apply pw_below_drewN | apply below_drew1 | refine below_set ?_ GE174.out) | exact HB.out)⟩
                          · rw [if_neg c95] at H
                            have c95b0 : decide (1000 < ((strOfNums x8_1).size : Int)) = false := decide_eq_false c95
                            have c95b1 : decide (1000 < (strOfNums x8_1).size) = false := decide_eq_false (by omega)
                            clear c95
                            simp only [Option.some.injEq, Prod.mk.injEq] at H
                            obtain ⟨rfl, rfl, rfl, rfl, rfl⟩ := H
                            have hcz97_0 : wc.cell? ⟨gb174, 0, none⟩ = some (.int .i64 x175000_1) := (blk_cell BK174.out 0).trans rfl
                            have hcz97_1 : wc.cell? ⟨gb174, 1, none⟩ = some (.string x175001_1) := (blk_cell BK174.out 1).trans rfl
                            have hcz97_2 : wc.cell? ⟨gb174, 2, none⟩ = some (.int .i64 x175002_1) := (blk_cell BK174.out 2).trans rfl
                            have hcz97_3 : wc.cell? ⟨gb174, 3, none⟩ = some (.int .i64 x175003_1) := (blk_cell BK174.out 3).trans rfl
                            have hcz97_4 : wc.cell? ⟨gb174, 4, none⟩ = some (.int .i64 x175004_1) := (blk_cell BK174.out 4).trans rfl
                            have hfz97_0 := blk_frozen BK174.out 0
                            have hfz97_1 := blk_frozen BK174.out 1
                            have hfz97_2 := blk_frozen BK174.out 2
                            have hfz97_3 := blk_frozen BK174.out 3
                            have hfz97_4 := blk_frozen BK174.out 4
                            go_wp2
                            refine bodyPost_ret (results_cell_row rfl _ _ gb174 82 #[.int .i64 2, .string (strOfNums x8_1), .int .i64 x10_1, .int .i64 0, .int .i64 0] (0, 0) _ rfl (by (with_reducible repeat (first | refine blk_drewN ?_ _ | refine blk_drew ?_ | refine blk_alloc ?_ _)); refine blk_put (cs := #[.int .i64 2, .string (strOfNums x8_1), .int .i64 x10_1, .int .i64 0, .int .i64 x175004_1]) ?_ 4 _ rfl; (with_reducible repeat (first | refine blk_drewN ?_ _ | refine blk_drew ?_ | refine blk_alloc ?_ _)); refine blk_put (cs := #[.int .i64 2, .string (strOfNums x8_1), .int .i64 x10_1, .int .i64 x175003_1, .int .i64 x175004_1]) ?_ 3 _ rfl; (with_reducible repeat (first | refine blk_drewN ?_ _ | refine blk_drew ?_ | refine blk_alloc ?_ _)); refine blk_put (cs := #[.int .i64 2, .string (strOfNums x8_1), .int .i64 x175002_1, .int .i64 x175003_1, .int .i64 x175004_1]) ?_ 2 _ rfl; (with_reducible repeat (first | refine blk_drewN ?_ _ | refine blk_drew ?_ | refine blk_alloc ?_ _)); refine blk_put (cs := #[.int .i64 2, .string x175001_1, .int .i64 x175002_1, .int .i64 x175003_1, .int .i64 x175004_1]) ?_ 1 _ rfl; (with_reducible repeat (first | refine blk_drewN ?_ _ | refine blk_drew ?_ | refine blk_alloc ?_ _)); refine blk_put (cs := #[.int .i64 x175000_1, .string x175001_1, .int .i64 x175002_1, .int .i64 x175003_1, .int .i64 x175004_1]) ?_ 0 _ rfl; (with_reducible repeat (first | refine blk_drewN ?_ _ | refine blk_drew ?_ | refine blk_alloc ?_ _)); exact BK174.out) Tryz.underlying82 rfl (by kernel_rfl)) rfl ?_
                            exact ⟨by first | rfl | (simp [errW_none, errW_some] <;> rfl) | (simp only [← hji35]; first | rfl | (simp [errW_none, errW_some] <;> rfl)) | (simp [*, errW_none, errW_some] <;> rfl), by repeat (first | (with_reducible first | exact HB.out | apply below_alloc | apply pw_below_drewN | apply below_drew1 | refine below_set ?_ GE174.out) | exact HB.out)⟩
                  · replace c40 := Bool.eq_false_iff.mpr c40
                    subst c40
                    have H1 : (some (0, (⟨#[]⟩ : ByteArray), 0, 13, a2)) = some (r1, r2, r3, r4, r5) := by rw [if_neg (show ¬ (false = true) by decide)] at H; exact H
                    clear H
                    have H := H1
                    clear H1
                    simp only [Option.some.injEq, Prod.mk.injEq] at H
                    obtain ⟨rfl, rfl, rfl, rfl, rfl⟩ := H
                    have hcv98 := own_string (P := Tryz.prog) Tryz.underlying100 Tryz.underlying5 Tryz.underlying9 (Kd.own_of_R HO_8.out)
                    go_wp2_with (first | ((with_reducible refine gate_callee (f := 43) rfl ?_); refine goesL_ (some 91) rfl rfl Tryz.func43 (by kernel_rfl) rfl #[.string (a0.extract ((ji35) : Int).toNat ((wrap64 (x10_1 - 1)) : Int).toNat)] rfl (by (try simp only [List.map_toArray, List.map_cons, List.map_nil]); first | done | (simp only [hji35]; rfl) | rfl | (simp only [List.length_drop, List.length_take]; rfl)) ?_; (with_reducible refine (qanatref03_Plain.calls k1 (a0.extract ((ji35) : Int).toNat ((wrap64 (x10_1 - 1)) : Int).toNat) false _ A39.out).mono ?_); rintro e w' ⟨rfl, ⟨nd, rfl⟩⟩; refine ⟨_, rfl, ?_⟩; (try (rw [drewN_self wr]; generalize hq_ : World.drewN wr _ = wr; have n0_ : Aside0 (Kd.R (Kd.int .u8) 5 wr w.heap.size (fun _ => True) u8 x8_1) := ⟨by rw [← hq_]; exact (by (with_reducible repeat (first | apply Kd.R_alloc | apply Kd.R_drewN | apply Kd.R_drew)); exact HO_8.out)⟩; have n1_ : Aside0 (wr.heap[gb174]? = some (.cells #[.int .i64 x175000_1, .string x175001_1, .int .i64 x175002_1, .int .i64 x175003_1, .int .i64 x175004_1] 82 (0, 0))) := ⟨by rw [← hq_]; exact (by (with_reducible repeat (first | refine blk_drewN ?_ _ | refine blk_drew ?_ | refine blk_alloc ?_ _)); exact BK174.out)⟩; have n2_ : Aside0 (Below w.heap.size w wr) := ⟨by rw [← hq_]; exact (by repeat (first | (with_reducible first | exact HB.out | apply below_alloc | apply pw_below_drewN | apply below_drew1 | refine below_set ?_ GE174.out) | exact HB.out))⟩; clear HO_8 BK174 HB hq_; have HO_8 := n0_; have BK174 := n1_; have HB := n2_; clear n0_ n1_ n2_)); have hcz99_0 : wr.cell? ⟨gb174, 0, none⟩ = some (.int .i64 x175000_1) := (blk_cell BK174.out 0).trans rfl; have hcz99_1 : wr.cell? ⟨gb174, 1, none⟩ = some (.string x175001_1) := (blk_cell BK174.out 1).trans rfl; have hcz99_2 : wr.cell? ⟨gb174, 2, none⟩ = some (.int .i64 x175002_1) := (blk_cell BK174.out 2).trans rfl; have hcz99_3 : wr.cell? ⟨gb174, 3, none⟩ = some (.int .i64 x175003_1) := (blk_cell BK174.out 3).trans rfl; have hcz99_4 : wr.cell? ⟨gb174, 4, none⟩ = some (.int .i64 x175004_1) := (blk_cell BK174.out 4).trans rfl; have hfz99_0 := blk_frozen BK174.out 0; have hfz99_1 := blk_frozen BK174.out 1; have hfz99_2 := blk_frozen BK174.out 2; have hfz99_3 := blk_frozen BK174.out 3; have hfz99_4 := blk_frozen BK174.out 4))
                    refine bodyPost_ret (results_cell_row rfl _ _ gb174 82 #[.int .i64 0, .string (⟨#[]⟩ : ByteArray), .int .i64 0, .int .i64 13, .int .i64 a2] (0, 0) _ rfl (by (with_reducible repeat (first | refine blk_drewN ?_ _ | refine blk_drew ?_ | refine blk_alloc ?_ _)); refine blk_put (cs := #[.int .i64 0, .string (⟨#[]⟩ : ByteArray), .int .i64 0, .int .i64 13, .int .i64 x175004_1]) ?_ 4 _ rfl; (with_reducible repeat (first | refine blk_drewN ?_ _ | refine blk_drew ?_ | refine blk_alloc ?_ _)); refine blk_put (cs := #[.int .i64 0, .string (⟨#[]⟩ : ByteArray), .int .i64 0, .int .i64 x175003_1, .int .i64 x175004_1]) ?_ 3 _ rfl; (with_reducible repeat (first | refine blk_drewN ?_ _ | refine blk_drew ?_ | refine blk_alloc ?_ _)); refine blk_put (cs := #[.int .i64 0, .string (⟨#[]⟩ : ByteArray), .int .i64 x175002_1, .int .i64 x175003_1, .int .i64 x175004_1]) ?_ 2 _ rfl; (with_reducible repeat (first | refine blk_drewN ?_ _ | refine blk_drew ?_ | refine blk_alloc ?_ _)); refine blk_put (cs := #[.int .i64 0, .string x175001_1, .int .i64 x175002_1, .int .i64 x175003_1, .int .i64 x175004_1]) ?_ 1 _ rfl; (with_reducible repeat (first | refine blk_drewN ?_ _ | refine blk_drew ?_ | refine blk_alloc ?_ _)); refine blk_put (cs := #[.int .i64 x175000_1, .string x175001_1, .int .i64 x175002_1, .int .i64 x175003_1, .int .i64 x175004_1]) ?_ 0 _ rfl; (with_reducible repeat (first | refine blk_drewN ?_ _ | refine blk_drew ?_ | refine blk_alloc ?_ _)); exact BK174.out) Tryz.underlying82 rfl (by kernel_rfl)) rfl ?_
                    exact ⟨by first | rfl | (simp [errW_none, errW_some] <;> rfl) | (simp only [← hji35]; first | rfl | (simp [errW_none, errW_some] <;> rfl)) | (simp [*, errW_none, errW_some] <;> rfl), by repeat (first | (with_reducible first | exact HB.out | apply below_alloc | apply pw_below_drewN | apply below_drew1 | refine below_set ?_ GE174.out) | exact HB.out)⟩
                · rw [if_neg c38] at H
                  exact absurd H (by simp)
              · rw [if_neg c37] at H
                exact absurd H (by simp)
            · rw [if_neg c36] at H
              exact absurd H (by simp)
    · rw [if_neg c5] at H
      exact absurd H (by simp)
  · rw [if_neg c4] at H
    exact absurd H (by simp)
end Go.Proofs.YtkkpjonfaflkmaaGreatDoor.T
