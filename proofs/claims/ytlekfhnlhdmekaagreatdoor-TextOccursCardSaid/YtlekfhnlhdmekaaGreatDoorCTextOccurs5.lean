/- Part 5 of the proof of TextOccurs: the functions that it calls return what their plain descriptions say. -/
import Derived.Test.YtlekfhnlhdmekaaGreatDoorCTextOccurs2
import Derived.Test.YtlekfhnlhdmekaaGreatDoorCTextOccurs4
import Derived.Test.YtlekfhnlhdmekaaGreatDoorCTextOccurs3

-- Written by a program of this session (mp.py over the kit's print.py), out of the translation.
namespace Go.Proofs.YtlekfhnlhdmekaaGreatDoor.T
set_option linter.unusedSimpArgs false
open Go.RowKit Go.Proofs.YtlekfhnlhdmekaaGreatDoorW.PrintWords Go.Proofs.YtlekfhnlhdmekaaGreatDoorW.PrintLast Go.Proofs.YtlekfhnlhdmekaaGreatDoorW.PrintMore
attribute [local go_sem] max2_int min2_int max_two min_two max_three min_three max_four min_four   -- for this text's walks alone
set_option linter.unusedVariables false
set_option linter.unusedSimpArgs false

/-! ### qanatlaw02_TextOccurs: function 9 -/
mutual
def qanatlaw02_TextOccurs.j0 : Nat → ByteArray → ByteArray → ByteArray → Int → Bool → Bool → Option (Bool)
  | 0, _, _, _, _, _, _ => none
  | k + 1, x0, x1, x2, x3, x9, x40 => if x40 = true then (some x9) else ((text_Pos.f x0 x1 (wrap64 ((wrap64 (x3)) + 1))).bind fun bt658 => (if bt658.2 = 0 then (if bt658.1 = 0 then (qanatlaw02_TextOccurs.j1 k x0 x1 x2 x9 (wrap64 ((wrap64 (x3)) + 1)) bt658.1 false) else (if bt658.1 < (wrap64 ((wrap64 (x3)) + 1)) then (qanatlaw02_TextOccurs.j1 k x0 x1 x2 x9 (wrap64 ((wrap64 (x3)) + 1)) bt658.1 true) else (if x0.toList = ([] : List UInt8) then (qanatlaw02_TextOccurs.j1 k x0 x1 x2 x9 (wrap64 ((wrap64 (x3)) + 1)) bt658.1 true) else ((qanatlaw02_stands.f x0 x1 bt658.1).bind fun t660 => (qanatlaw02_TextOccurs.j1 k x0 x1 x2 x9 (wrap64 ((wrap64 (x3)) + 1)) bt658.1 (!t660)))))) else (qanatlaw02_TextOccurs.j1 k x0 x1 x2 x9 (wrap64 ((wrap64 (x3)) + 1)) bt658.1 true)))
def qanatlaw02_TextOccurs.j1 : Nat → ByteArray → ByteArray → ByteArray → Bool → Int → Int → Bool → Option (Bool)
  | 0, _, _, _, _, _, _, _ => none
  | k + 1, x0, x1, x2, x9, x10, x11, x73 => if x73 = true then (some false) else (if x11 = 0 then (qanatlaw02_TextOccurs.j2 k x0 x1 x2 x9 x10 (x1.size : Int)) else (qanatlaw02_TextOccurs.j2 k x0 x1 x2 x9 x10 (wrap64 (x11 - 1))))
def qanatlaw02_TextOccurs.j2 : Nat → ByteArray → ByteArray → ByteArray → Bool → Int → Int → Option (Bool)
  | 0, _, _, _, _, _, _ => none
  | k + 1, x0, x1, x2, x9, x10, x13 => qanatlaw02_TextOccurs.l0 k x0 x1 x2 x9 x13 x10
def qanatlaw02_TextOccurs.l0 : Nat → ByteArray → ByteArray → ByteArray → Bool → Int → Int → Option (Bool)
  | 0, _, _, _, _, _, _ => none
  | k + 1, x0, x1, x2, x9, x13, x14 => if x14 ≤ x13 then (qanatlaw02_TextOccurs.j4 k x0 x1 x2 x9 x13 x14 (x0.toList != ([] : List UInt8))) else (qanatlaw02_TextOccurs.j4 k x0 x1 x2 x9 x13 x14 false)
def qanatlaw02_TextOccurs.j4 : Nat → ByteArray → ByteArray → ByteArray → Bool → Int → Int → Bool → Option (Bool)
  | 0, _, _, _, _, _, _, _ => none
  | k + 1, x0, x1, x2, x9, x13, x14, x87 => if x87 = true then ((qanatlaw02_stands.f x0 x1 x14).bind fun t661 => (if t661 = true then (some false) else (qanatlaw02_TextOccurs.l0 k x0 x1 x2 x9 x13 (wrap64 (x14 + 1))))) else ((text_Reverse.f x0).bind fun bt662 => ((text_Reverse.f x1).bind fun bt664 => ((text_Pos.f bt662.1 bt664.1 1).bind fun bt666 => ((text_LastPos.f k x0 x1 (-1)).bind fun bt668 => (if bt666.1 = 0 then (qanatlaw02_TextOccurs.j5 k x0 x1 x2 x9 bt662.2 bt664.2 bt666.2 bt668.1 bt668.2 0) else (qanatlaw02_TextOccurs.j5 k x0 x1 x2 x9 bt662.2 bt664.2 bt666.2 bt668.1 bt668.2 (wrap64 ((wrap64 ((wrap64 ((x1.size : Int) - (x0.size : Int))) + 2)) - bt666.1))))))))
def qanatlaw02_TextOccurs.j5 : Nat → ByteArray → ByteArray → ByteArray → Bool → Int → Int → Int → Int → Int → Int → Option (Bool)
  | 0, _, _, _, _, _, _, _, _, _, _ => none
  | k + 1, x0, x1, x2, x9, x12, x17, x19, x20, x21, x22 => if x12 = 0 then (if x17 = 0 then (if x19 = 0 then (if x21 = 0 then (qanatlaw02_TextOccurs.j6 k x0 x1 x2 x9 (x20 != x22)) else (qanatlaw02_TextOccurs.j6 k x0 x1 x2 x9 true)) else (qanatlaw02_TextOccurs.j6 k x0 x1 x2 x9 true)) else (qanatlaw02_TextOccurs.j6 k x0 x1 x2 x9 true)) else (qanatlaw02_TextOccurs.j6 k x0 x1 x2 x9 true)
def qanatlaw02_TextOccurs.j6 : Nat → ByteArray → ByteArray → ByteArray → Bool → Bool → Option (Bool)
  | 0, _, _, _, _, _ => none
  | k + 1, x0, x1, x2, x9, x144 => if x144 = true then (some false) else ((text_Count.f x0 x1).bind fun bt670 => ((text_Change.f x0 x1 x0).bind fun bt672 => ((text_Change.f x0 x1 x2).bind fun bt674 => (if bt670.2 = 0 then (if bt672.2 = 0 then (if bt672.1.toList = x1.toList then (if ((bt674.2 == 0) != (decide ((wrap64 ((x1.size : Int) + (wrap64 (bt670.1 * (wrap64 ((x2.size : Int) - (x0.size : Int))))))) ≤ 1000))) = true then (some false) else (if x9 = true then (if bt674.2 = 3 then (some true) else (if bt674.2 = 0 then (some ((bt674.1.size : Int) == (wrap64 ((x1.size : Int) + (wrap64 (bt670.1 * (wrap64 ((x2.size : Int) - (x0.size : Int))))))))) else (some false))) else (some false))) else (some false)) else (some false)) else (some false)))))
end
def qanatlaw02_TextOccurs.f (k : Nat) (a0 : ByteArray) (a1 : ByteArray) (a2 : ByteArray) (a3 : Int) : Option (Bool) := (qanatlaw02_head.f k).bind fun t654 => ((text_Valid.f a0).bind fun t655 => (if t655 = true then ((text_Valid.f a1).bind fun t656 => (if t656 = true then ((text_Valid.f a2).bind fun t657 => (qanatlaw02_TextOccurs.j0 k a0 a1 a2 a3 t654 (!t657))) else (qanatlaw02_TextOccurs.j0 k a0 a1 a2 a3 t654 true))) else (qanatlaw02_TextOccurs.j0 k a0 a1 a2 a3 t654 true)))
theorem qanatlaw02_TextOccurs.mono_l : ∀ k, (∀ y0 y1 y2 y3 y4 y5, LeO (qanatlaw02_TextOccurs.j0 k y0 y1 y2 y3 y4 y5) (qanatlaw02_TextOccurs.j0 (k + 1) y0 y1 y2 y3 y4 y5)) ∧ (∀ y0 y1 y2 y3 y4 y5 y6, LeO (qanatlaw02_TextOccurs.j1 k y0 y1 y2 y3 y4 y5 y6) (qanatlaw02_TextOccurs.j1 (k + 1) y0 y1 y2 y3 y4 y5 y6)) ∧ (∀ y0 y1 y2 y3 y4 y5, LeO (qanatlaw02_TextOccurs.j2 k y0 y1 y2 y3 y4 y5) (qanatlaw02_TextOccurs.j2 (k + 1) y0 y1 y2 y3 y4 y5)) ∧ (∀ y0 y1 y2 y3 y4 y5, LeO (qanatlaw02_TextOccurs.l0 k y0 y1 y2 y3 y4 y5) (qanatlaw02_TextOccurs.l0 (k + 1) y0 y1 y2 y3 y4 y5)) ∧ (∀ y0 y1 y2 y3 y4 y5 y6, LeO (qanatlaw02_TextOccurs.j4 k y0 y1 y2 y3 y4 y5 y6) (qanatlaw02_TextOccurs.j4 (k + 1) y0 y1 y2 y3 y4 y5 y6)) ∧ (∀ y0 y1 y2 y3 y4 y5 y6 y7 y8 y9, LeO (qanatlaw02_TextOccurs.j5 k y0 y1 y2 y3 y4 y5 y6 y7 y8 y9) (qanatlaw02_TextOccurs.j5 (k + 1) y0 y1 y2 y3 y4 y5 y6 y7 y8 y9)) ∧ (∀ y0 y1 y2 y3 y4, LeO (qanatlaw02_TextOccurs.j6 k y0 y1 y2 y3 y4) (qanatlaw02_TextOccurs.j6 (k + 1) y0 y1 y2 y3 y4))
  | 0 => ⟨fun _ _ _ _ _ _ r h => by simp [qanatlaw02_TextOccurs.j0] at h, fun _ _ _ _ _ _ _ r h => by simp [qanatlaw02_TextOccurs.j1] at h, fun _ _ _ _ _ _ r h => by simp [qanatlaw02_TextOccurs.j2] at h, fun _ _ _ _ _ _ r h => by simp [qanatlaw02_TextOccurs.l0] at h, fun _ _ _ _ _ _ _ r h => by simp [qanatlaw02_TextOccurs.j4] at h, fun _ _ _ _ _ _ _ _ _ _ r h => by simp [qanatlaw02_TextOccurs.j5] at h, fun _ _ _ _ _ r h => by simp [qanatlaw02_TextOccurs.j6] at h⟩
  | k + 1 => by
    obtain ⟨ih0, ih1, ih2, ih3, ih4, ih5, ih6⟩ := qanatlaw02_TextOccurs.mono_l k
    refine ⟨?_, ?_, ?_, ?_, ?_, ?_, ?_⟩
    · intro y0 y1 y2 y3 y4 y5
      unfold qanatlaw02_TextOccurs.j0
      repeat' first
      | (with_reducible exact ih0 _ _ _ _ _ _)
      | (with_reducible exact ih1 _ _ _ _ _ _ _)
      | (with_reducible exact ih2 _ _ _ _ _ _)
      | (with_reducible exact ih3 _ _ _ _ _ _)
      | (with_reducible exact ih4 _ _ _ _ _ _ _)
      | (with_reducible exact ih5 _ _ _ _ _ _ _ _ _ _)
      | (with_reducible exact ih6 _ _ _ _ _)
      | (with_reducible exact qanatlaw02_head.mono _)
      | (with_reducible exact text_LastPos.mono _ _ _ _)
      | (with_reducible exact LeO.refl _)
      | (with_reducible exact LeO.none _)
      | (with_reducible refine LeO.ite ?_ ?_)
      | (with_reducible refine LeO.bind ?_ (fun _ => ?_))
      | exact ih0 _ _ _ _ _ _
      | exact ih1 _ _ _ _ _ _ _
      | exact ih2 _ _ _ _ _ _
      | exact ih3 _ _ _ _ _ _
      | exact ih4 _ _ _ _ _ _ _
      | exact ih5 _ _ _ _ _ _ _ _ _ _
      | exact ih6 _ _ _ _ _
      | exact qanatlaw02_head.mono _
      | exact text_LastPos.mono _ _ _ _
      | exact LeO.none _
      | refine LeO.ite ?_ ?_
      | refine LeO.bind ?_ (fun _ => ?_)
    · intro y0 y1 y2 y3 y4 y5 y6
      unfold qanatlaw02_TextOccurs.j1
      repeat' first
      | (with_reducible exact ih0 _ _ _ _ _ _)
      | (with_reducible exact ih1 _ _ _ _ _ _ _)
      | (with_reducible exact ih2 _ _ _ _ _ _)
      | (with_reducible exact ih3 _ _ _ _ _ _)
      | (with_reducible exact ih4 _ _ _ _ _ _ _)
      | (with_reducible exact ih5 _ _ _ _ _ _ _ _ _ _)
      | (with_reducible exact ih6 _ _ _ _ _)
      | (with_reducible exact qanatlaw02_head.mono _)
      | (with_reducible exact text_LastPos.mono _ _ _ _)
      | (with_reducible exact LeO.refl _)
      | (with_reducible exact LeO.none _)
      | (with_reducible refine LeO.ite ?_ ?_)
      | (with_reducible refine LeO.bind ?_ (fun _ => ?_))
      | exact ih0 _ _ _ _ _ _
      | exact ih1 _ _ _ _ _ _ _
      | exact ih2 _ _ _ _ _ _
      | exact ih3 _ _ _ _ _ _
      | exact ih4 _ _ _ _ _ _ _
      | exact ih5 _ _ _ _ _ _ _ _ _ _
      | exact ih6 _ _ _ _ _
      | exact qanatlaw02_head.mono _
      | exact text_LastPos.mono _ _ _ _
      | exact LeO.none _
      | refine LeO.ite ?_ ?_
      | refine LeO.bind ?_ (fun _ => ?_)
    · intro y0 y1 y2 y3 y4 y5
      unfold qanatlaw02_TextOccurs.j2
      repeat' first
      | (with_reducible exact ih0 _ _ _ _ _ _)
      | (with_reducible exact ih1 _ _ _ _ _ _ _)
      | (with_reducible exact ih2 _ _ _ _ _ _)
      | (with_reducible exact ih3 _ _ _ _ _ _)
      | (with_reducible exact ih4 _ _ _ _ _ _ _)
      | (with_reducible exact ih5 _ _ _ _ _ _ _ _ _ _)
      | (with_reducible exact ih6 _ _ _ _ _)
      | (with_reducible exact qanatlaw02_head.mono _)
      | (with_reducible exact text_LastPos.mono _ _ _ _)
      | (with_reducible exact LeO.refl _)
      | (with_reducible exact LeO.none _)
      | (with_reducible refine LeO.ite ?_ ?_)
      | (with_reducible refine LeO.bind ?_ (fun _ => ?_))
      | exact ih0 _ _ _ _ _ _
      | exact ih1 _ _ _ _ _ _ _
      | exact ih2 _ _ _ _ _ _
      | exact ih3 _ _ _ _ _ _
      | exact ih4 _ _ _ _ _ _ _
      | exact ih5 _ _ _ _ _ _ _ _ _ _
      | exact ih6 _ _ _ _ _
      | exact qanatlaw02_head.mono _
      | exact text_LastPos.mono _ _ _ _
      | exact LeO.none _
      | refine LeO.ite ?_ ?_
      | refine LeO.bind ?_ (fun _ => ?_)
    · intro y0 y1 y2 y3 y4 y5
      unfold qanatlaw02_TextOccurs.l0
      repeat' first
      | (with_reducible exact ih0 _ _ _ _ _ _)
      | (with_reducible exact ih1 _ _ _ _ _ _ _)
      | (with_reducible exact ih2 _ _ _ _ _ _)
      | (with_reducible exact ih3 _ _ _ _ _ _)
      | (with_reducible exact ih4 _ _ _ _ _ _ _)
      | (with_reducible exact ih5 _ _ _ _ _ _ _ _ _ _)
      | (with_reducible exact ih6 _ _ _ _ _)
      | (with_reducible exact qanatlaw02_head.mono _)
      | (with_reducible exact text_LastPos.mono _ _ _ _)
      | (with_reducible exact LeO.refl _)
      | (with_reducible exact LeO.none _)
      | (with_reducible refine LeO.ite ?_ ?_)
      | (with_reducible refine LeO.bind ?_ (fun _ => ?_))
      | exact ih0 _ _ _ _ _ _
      | exact ih1 _ _ _ _ _ _ _
      | exact ih2 _ _ _ _ _ _
      | exact ih3 _ _ _ _ _ _
      | exact ih4 _ _ _ _ _ _ _
      | exact ih5 _ _ _ _ _ _ _ _ _ _
      | exact ih6 _ _ _ _ _
      | exact qanatlaw02_head.mono _
      | exact text_LastPos.mono _ _ _ _
      | exact LeO.none _
      | refine LeO.ite ?_ ?_
      | refine LeO.bind ?_ (fun _ => ?_)
    · intro y0 y1 y2 y3 y4 y5 y6
      unfold qanatlaw02_TextOccurs.j4
      repeat' first
      | (with_reducible exact ih0 _ _ _ _ _ _)
      | (with_reducible exact ih1 _ _ _ _ _ _ _)
      | (with_reducible exact ih2 _ _ _ _ _ _)
      | (with_reducible exact ih3 _ _ _ _ _ _)
      | (with_reducible exact ih4 _ _ _ _ _ _ _)
      | (with_reducible exact ih5 _ _ _ _ _ _ _ _ _ _)
      | (with_reducible exact ih6 _ _ _ _ _)
      | (with_reducible exact qanatlaw02_head.mono _)
      | (with_reducible exact text_LastPos.mono _ _ _ _)
      | (with_reducible exact LeO.refl _)
      | (with_reducible exact LeO.none _)
      | (with_reducible refine LeO.ite ?_ ?_)
      | (with_reducible refine LeO.bind ?_ (fun _ => ?_))
      | exact ih0 _ _ _ _ _ _
      | exact ih1 _ _ _ _ _ _ _
      | exact ih2 _ _ _ _ _ _
      | exact ih3 _ _ _ _ _ _
      | exact ih4 _ _ _ _ _ _ _
      | exact ih5 _ _ _ _ _ _ _ _ _ _
      | exact ih6 _ _ _ _ _
      | exact qanatlaw02_head.mono _
      | exact text_LastPos.mono _ _ _ _
      | exact LeO.none _
      | refine LeO.ite ?_ ?_
      | refine LeO.bind ?_ (fun _ => ?_)
    · intro y0 y1 y2 y3 y4 y5 y6 y7 y8 y9
      unfold qanatlaw02_TextOccurs.j5
      repeat' first
      | (with_reducible exact ih0 _ _ _ _ _ _)
      | (with_reducible exact ih1 _ _ _ _ _ _ _)
      | (with_reducible exact ih2 _ _ _ _ _ _)
      | (with_reducible exact ih3 _ _ _ _ _ _)
      | (with_reducible exact ih4 _ _ _ _ _ _ _)
      | (with_reducible exact ih5 _ _ _ _ _ _ _ _ _ _)
      | (with_reducible exact ih6 _ _ _ _ _)
      | (with_reducible exact qanatlaw02_head.mono _)
      | (with_reducible exact text_LastPos.mono _ _ _ _)
      | (with_reducible exact LeO.refl _)
      | (with_reducible exact LeO.none _)
      | (with_reducible refine LeO.ite ?_ ?_)
      | (with_reducible refine LeO.bind ?_ (fun _ => ?_))
      | exact ih0 _ _ _ _ _ _
      | exact ih1 _ _ _ _ _ _ _
      | exact ih2 _ _ _ _ _ _
      | exact ih3 _ _ _ _ _ _
      | exact ih4 _ _ _ _ _ _ _
      | exact ih5 _ _ _ _ _ _ _ _ _ _
      | exact ih6 _ _ _ _ _
      | exact qanatlaw02_head.mono _
      | exact text_LastPos.mono _ _ _ _
      | exact LeO.none _
      | refine LeO.ite ?_ ?_
      | refine LeO.bind ?_ (fun _ => ?_)
    · intro y0 y1 y2 y3 y4
      unfold qanatlaw02_TextOccurs.j6
      repeat' first
      | (with_reducible exact ih0 _ _ _ _ _ _)
      | (with_reducible exact ih1 _ _ _ _ _ _ _)
      | (with_reducible exact ih2 _ _ _ _ _ _)
      | (with_reducible exact ih3 _ _ _ _ _ _)
      | (with_reducible exact ih4 _ _ _ _ _ _ _)
      | (with_reducible exact ih5 _ _ _ _ _ _ _ _ _ _)
      | (with_reducible exact ih6 _ _ _ _ _)
      | (with_reducible exact qanatlaw02_head.mono _)
      | (with_reducible exact text_LastPos.mono _ _ _ _)
      | (with_reducible exact LeO.refl _)
      | (with_reducible exact LeO.none _)
      | (with_reducible refine LeO.ite ?_ ?_)
      | (with_reducible refine LeO.bind ?_ (fun _ => ?_))
      | exact ih0 _ _ _ _ _ _
      | exact ih1 _ _ _ _ _ _ _
      | exact ih2 _ _ _ _ _ _
      | exact ih3 _ _ _ _ _ _
      | exact ih4 _ _ _ _ _ _ _
      | exact ih5 _ _ _ _ _ _ _ _ _ _
      | exact ih6 _ _ _ _ _
      | exact qanatlaw02_head.mono _
      | exact text_LastPos.mono _ _ _ _
      | exact LeO.none _
      | refine LeO.ite ?_ ?_
      | refine LeO.bind ?_ (fun _ => ?_)
theorem qanatlaw02_TextOccurs.mono : ∀ a0 a1 a2 a3 k, LeO (qanatlaw02_TextOccurs.f k a0 a1 a2 a3) (qanatlaw02_TextOccurs.f (k + 1) a0 a1 a2 a3) := by
  intro a0 a1 a2 a3 k
  obtain ⟨ih0, ih1, ih2, ih3, ih4, ih5, ih6⟩ := qanatlaw02_TextOccurs.mono_l k
  unfold qanatlaw02_TextOccurs.f
  repeat' first
      | (with_reducible exact ih0 _ _ _ _ _ _)
      | (with_reducible exact ih1 _ _ _ _ _ _ _)
      | (with_reducible exact ih2 _ _ _ _ _ _)
      | (with_reducible exact ih3 _ _ _ _ _ _)
      | (with_reducible exact ih4 _ _ _ _ _ _ _)
      | (with_reducible exact ih5 _ _ _ _ _ _ _ _ _ _)
      | (with_reducible exact ih6 _ _ _ _ _)
      | (with_reducible exact qanatlaw02_head.mono _)
      | (with_reducible exact text_LastPos.mono _ _ _ _)
      | (with_reducible exact LeO.refl _)
      | (with_reducible exact LeO.none _)
      | (with_reducible refine LeO.ite ?_ ?_)
      | (with_reducible refine LeO.bind ?_ (fun _ => ?_))
      | exact ih0 _ _ _ _ _ _
      | exact ih1 _ _ _ _ _ _ _
      | exact ih2 _ _ _ _ _ _
      | exact ih3 _ _ _ _ _ _
      | exact ih4 _ _ _ _ _ _ _
      | exact ih5 _ _ _ _ _ _ _ _ _ _
      | exact ih6 _ _ _ _ _
      | exact qanatlaw02_head.mono _
      | exact text_LastPos.mono _ _ _ _
      | exact LeO.none _
      | refine LeO.ite ?_ ?_
      | refine LeO.bind ?_ (fun _ => ?_)
set_option maxHeartbeats 8000000 in
set_option maxRecDepth 100000 in
theorem qanatlaw02_TextOccurs.calls (k : Nat) (a0 : ByteArray) (a1 : ByteArray) (a2 : ByteArray) (a3 : Int) (r : Bool) (w : World) (hT : TabOK w) (h : qanatlaw02_TextOccurs.f k a0 a1 a2 a3 = some r) :
    Calls Tryz.prog 9 #[.string a0, .string a1, .string a2, .int .u8 a3] w fun e w' => e = .returned (.bool r) ∧ Below w.heap.size w w' := by
  have HB := Aside0.mk (Below.refl w.heap.size w)
  have H : ((qanatlaw02_head.f k).bind fun t654 => ((text_Valid.f a0).bind fun t655 => (if t655 = true then ((text_Valid.f a1).bind fun t656 => (if t656 = true then ((text_Valid.f a2).bind fun t657 => (qanatlaw02_TextOccurs.j0 k a0 a1 a2 a3 t654 (!t657))) else (qanatlaw02_TextOccurs.j0 k a0 a1 a2 a3 t654 true))) else (qanatlaw02_TextOccurs.j0 k a0 a1 a2 a3 t654 true)))) = some r := h
  clear h
  replace H := Option.bind_eq_some_iff.mp H
  obtain ⟨t654, A50, H⟩ := H
  replace H : ((text_Valid.f a0).bind fun t655 => (if t655 = true then ((text_Valid.f a1).bind fun t656 => (if t656 = true then ((text_Valid.f a2).bind fun t657 => (qanatlaw02_TextOccurs.j0 k a0 a1 a2 a3 t654 (!t657))) else (qanatlaw02_TextOccurs.j0 k a0 a1 a2 a3 t654 true))) else (qanatlaw02_TextOccurs.j0 k a0 a1 a2 a3 t654 true))) = some r := H
  have A5 := Aside0.mk A50
  clear A50
  have HC6 := Aside0.mk H
  clear H
  go_enter Tryz.func9, Tryz.ntmps9
  go_upto_region 2 with (first | ((with_reducible refine gate_callee (f := 15) rfl ?_); refine goesL_ (some 27) rfl rfl Tryz.func15 (by kernel_rfl) rfl #[] rfl (by (try simp only [List.map_toArray, List.map_cons, List.map_nil]); first | done | rfl | (simp only [List.length_drop, List.length_take]; rfl)) ?_; (with_reducible refine (qanatlaw02_head.calls k  t654 _ (TabOK.of_below hT (by repeat (first | (with_reducible first | exact HB.out | apply below_alloc | apply pw_below_drewN | apply below_drew1) | exact HB.out))) A5.out).mono ?_); rintro e w7 ⟨rfl, hb⟩; refine ⟨_, rfl, ?_⟩; have n0_ := Aside0.mk (below_step (by repeat (first | (with_reducible first | exact HB.out | apply below_alloc | apply pw_below_drewN | apply below_drew1) | exact HB.out)) hb); clear HB; have HB := n0_; clear n0_; (try clear hb); (try clear hb2); (try clear hk); (try clear hi)))
  (try simp only [Act.put, List.setIfInBounds_toArray, List.set_cons_zero, List.set_cons_succ])
  go_cut [40] (fun v40 wc => ∃ (kq : Nat) (x40_5 : Bool), v40 = .bool x40_5 ∧ Aside0 (qanatlaw02_TextOccurs.j0 kq a0 a1 a2 a3 t654 x40_5 = some r) ∧ Aside0 (kq ≤ k) ∧ Aside0 (Below w.heap.size w wc))
  case first =>
    have H := HC6.out
    clear HC6
    replace H := Option.bind_eq_some_iff.mp H
    obtain ⟨t655, A80, H⟩ := H
    replace H : (if t655 = true then ((text_Valid.f a1).bind fun t656 => (if t656 = true then ((text_Valid.f a2).bind fun t657 => (qanatlaw02_TextOccurs.j0 k a0 a1 a2 a3 t654 (!t657))) else (qanatlaw02_TextOccurs.j0 k a0 a1 a2 a3 t654 true))) else (qanatlaw02_TextOccurs.j0 k a0 a1 a2 a3 t654 true)) = some r := H
    have A8 := Aside0.mk A80
    clear A80
    by_cases c9 : t655 = true
    · subst c9
      have H1 : ((text_Valid.f a1).bind fun t656 => (if t656 = true then ((text_Valid.f a2).bind fun t657 => (qanatlaw02_TextOccurs.j0 k a0 a1 a2 a3 t654 (!t657))) else (qanatlaw02_TextOccurs.j0 k a0 a1 a2 a3 t654 true))) = some r := by rw [if_pos rfl] at H; exact H
      clear H
      have H := H1
      clear H1
      replace H := Option.bind_eq_some_iff.mp H
      obtain ⟨t656, A100, H⟩ := H
      replace H : (if t656 = true then ((text_Valid.f a2).bind fun t657 => (qanatlaw02_TextOccurs.j0 k a0 a1 a2 a3 t654 (!t657))) else (qanatlaw02_TextOccurs.j0 k a0 a1 a2 a3 t654 true)) = some r := H
      have A10 := Aside0.mk A100
      clear A100
      by_cases c11 : t656 = true
      · subst c11
        have H1 : ((text_Valid.f a2).bind fun t657 => (qanatlaw02_TextOccurs.j0 k a0 a1 a2 a3 t654 (!t657))) = some r := by rw [if_pos rfl] at H; exact H
        clear H
        have H := H1
        clear H1
        replace H := Option.bind_eq_some_iff.mp H
        obtain ⟨t657, A120, H⟩ := H
        replace H : (qanatlaw02_TextOccurs.j0 k a0 a1 a2 a3 t654 (!t657)) = some r := H
        have A12 := Aside0.mk A120
        clear A120
        have H' := Aside0.mk H
        clear H
        go_wp2_with (first | ((with_reducible refine gate_callee (f := 65) rfl ?_); refine goesL_ (some 29) rfl rfl Tryz.func65 (by kernel_rfl) rfl #[.string a0] rfl (by (try simp only [List.map_toArray, List.map_cons, List.map_nil]); first | done | rfl | (simp only [List.length_drop, List.length_take]; rfl)) ?_; (with_reducible refine (text_Valid.calls a0 true _ A8.out).mono ?_); rintro e w13 ⟨rfl, hb⟩; refine ⟨_, rfl, ?_⟩; have n0_ := Aside0.mk (below_step (by repeat (first | (with_reducible first | exact HB.out | apply below_alloc | apply pw_below_drewN | apply below_drew1) | exact HB.out)) hb); clear HB; have HB := n0_; clear n0_; (try clear hb); (try clear hb2); (try clear hk); (try clear hi)) | (go_at_call 65; (with_reducible refine (text_Valid.calls a1 true _ A10.out).mono ?_); rintro e w14 ⟨rfl, hb⟩; have n0_ := Aside0.mk (below_step (by repeat (first | (with_reducible first | exact HB.out | apply below_alloc | apply pw_below_drewN | apply below_drew1) | exact HB.out)) hb); clear HB; have HB := n0_; clear n0_; (try clear hb); (try clear hb2); (try clear hk); (try clear hi)) | (go_at_call 65; (with_reducible refine (text_Valid.calls a2 t657 _ A12.out).mono ?_); rintro e w15 ⟨rfl, hb⟩; have n0_ := Aside0.mk (below_step (by repeat (first | (with_reducible first | exact HB.out | apply below_alloc | apply pw_below_drewN | apply below_drew1) | exact HB.out)) hb); clear HB; have HB := n0_; clear n0_; (try clear hb); (try clear hb2); (try clear hk); (try clear hi)))
        go_meet
        case rel => exact ⟨_, (!t657), (by first | rfl | (simp; done) | (simp [*]; done)), H', ⟨by first | omega | exact Nat.le_refl _⟩, ⟨by repeat (first | (with_reducible first | exact HB.out | apply below_alloc | apply pw_below_drewN | apply below_drew1) | exact HB.out)⟩⟩
      · replace c11 := Bool.eq_false_iff.mpr c11
        subst c11
        have H1 : (qanatlaw02_TextOccurs.j0 k a0 a1 a2 a3 t654 true) = some r := by rw [if_neg (show ¬ (false = true) by decide)] at H; exact H
        clear H
        have H := H1
        clear H1
        have H' := Aside0.mk H
        clear H
        go_wp2_with (first | ((with_reducible refine gate_callee (f := 65) rfl ?_); refine goesL_ (some 29) rfl rfl Tryz.func65 (by kernel_rfl) rfl #[.string a0] rfl (by (try simp only [List.map_toArray, List.map_cons, List.map_nil]); first | done | rfl | (simp only [List.length_drop, List.length_take]; rfl)) ?_; (with_reducible refine (text_Valid.calls a0 true _ A8.out).mono ?_); rintro e w16 ⟨rfl, hb⟩; refine ⟨_, rfl, ?_⟩; have n0_ := Aside0.mk (below_step (by repeat (first | (with_reducible first | exact HB.out | apply below_alloc | apply pw_below_drewN | apply below_drew1) | exact HB.out)) hb); clear HB; have HB := n0_; clear n0_; (try clear hb); (try clear hb2); (try clear hk); (try clear hi)) | (go_at_call 65; (with_reducible refine (text_Valid.calls a1 false _ A10.out).mono ?_); rintro e w17 ⟨rfl, hb⟩; have n0_ := Aside0.mk (below_step (by repeat (first | (with_reducible first | exact HB.out | apply below_alloc | apply pw_below_drewN | apply below_drew1) | exact HB.out)) hb); clear HB; have HB := n0_; clear n0_; (try clear hb); (try clear hb2); (try clear hk); (try clear hi)))
        go_meet
        case rel => exact ⟨_, (true), (by first | rfl | (simp; done) | (simp [*]; done)), H', ⟨by first | omega | exact Nat.le_refl _⟩, ⟨by repeat (first | (with_reducible first | exact HB.out | apply below_alloc | apply pw_below_drewN | apply below_drew1) | exact HB.out)⟩⟩
    · replace c9 := Bool.eq_false_iff.mpr c9
      subst c9
      have H1 : (qanatlaw02_TextOccurs.j0 k a0 a1 a2 a3 t654 true) = some r := by rw [if_neg (show ¬ (false = true) by decide)] at H; exact H
      clear H
      have H := H1
      clear H1
      have H' := Aside0.mk H
      clear H
      go_wp2_with (first | ((with_reducible refine gate_callee (f := 65) rfl ?_); refine goesL_ (some 29) rfl rfl Tryz.func65 (by kernel_rfl) rfl #[.string a0] rfl (by (try simp only [List.map_toArray, List.map_cons, List.map_nil]); first | done | rfl | (simp only [List.length_drop, List.length_take]; rfl)) ?_; (with_reducible refine (text_Valid.calls a0 false _ A8.out).mono ?_); rintro e w18 ⟨rfl, hb⟩; refine ⟨_, rfl, ?_⟩; have n0_ := Aside0.mk (below_step (by repeat (first | (with_reducible first | exact HB.out | apply below_alloc | apply pw_below_drewN | apply below_drew1) | exact HB.out)) hb); clear HB; have HB := n0_; clear n0_; (try clear hb); (try clear hb2); (try clear hk); (try clear hi)))
      go_meet
      case rel => exact ⟨_, (true), (by first | rfl | (simp; done) | (simp [*]; done)), H', ⟨by first | omega | exact Nat.le_refl _⟩, ⟨by repeat (first | (with_reducible first | exact HB.out | apply below_alloc | apply pw_below_drewN | apply below_drew1) | exact HB.out)⟩⟩
  case rest =>
    clear HC6
    try clear c1
    try clear p2
    try clear c6
    try clear c9
    try clear c11
    try clear c15
    obtain ⟨kq, x40_5, rfl, HA, HJ5, HB⟩ := hcut
    as_aux_lemma =>
    cases kq with
    | zero => exact absurd HA.out (by simp [qanatlaw02_TextOccurs.j0])
    | succ kj5 =>
      have H := HA.out
      clear HA
      simp only [qanatlaw02_TextOccurs.j0] at H
      by_cases c19 : x40_5 = true
      · subst c19
        have H1 : (some t654) = some r := by rw [if_pos rfl] at H; exact H
        clear H
        have H := H1
        clear H1
        obtain rfl := Option.some.inj H
        go_wp2
        go_ret
        exact ⟨by first | rfl | (simp [errW_none, errW_some] <;> rfl) | (simp [*, errW_none, errW_some] <;> rfl), by repeat (first | (with_reducible first | exact HB.out | apply below_alloc | apply pw_below_drewN | apply below_drew1) | exact HB.out)⟩
      · replace c19 := Bool.eq_false_iff.mpr c19
        subst c19
        have H1 : ((text_Pos.f a0 a1 (wrap64 ((wrap64 (a3)) + 1))).bind fun bt658 => (if bt658.2 = 0 then (if bt658.1 = 0 then (qanatlaw02_TextOccurs.j1 kj5 a0 a1 a2 t654 (wrap64 ((wrap64 (a3)) + 1)) bt658.1 false) else (if bt658.1 < (wrap64 ((wrap64 (a3)) + 1)) then (qanatlaw02_TextOccurs.j1 kj5 a0 a1 a2 t654 (wrap64 ((wrap64 (a3)) + 1)) bt658.1 true) else (if a0.toList = ([] : List UInt8) then (qanatlaw02_TextOccurs.j1 kj5 a0 a1 a2 t654 (wrap64 ((wrap64 (a3)) + 1)) bt658.1 true) else ((qanatlaw02_stands.f a0 a1 bt658.1).bind fun t660 => (qanatlaw02_TextOccurs.j1 kj5 a0 a1 a2 t654 (wrap64 ((wrap64 (a3)) + 1)) bt658.1 (!t660)))))) else (qanatlaw02_TextOccurs.j1 kj5 a0 a1 a2 t654 (wrap64 ((wrap64 (a3)) + 1)) bt658.1 true))) = some r := by rw [if_neg (show ¬ (false = true) by decide)] at H; exact H
        clear H
        have H := H1
        clear H1
        replace H := Option.bind_eq_some_iff.mp H
        obtain ⟨⟨t658, t659⟩, A200, H⟩ := H
        replace H : (if t659 = 0 then (if t658 = 0 then (qanatlaw02_TextOccurs.j1 kj5 a0 a1 a2 t654 (wrap64 ((wrap64 (a3)) + 1)) t658 false) else (if t658 < (wrap64 ((wrap64 (a3)) + 1)) then (qanatlaw02_TextOccurs.j1 kj5 a0 a1 a2 t654 (wrap64 ((wrap64 (a3)) + 1)) t658 true) else (if a0.toList = ([] : List UInt8) then (qanatlaw02_TextOccurs.j1 kj5 a0 a1 a2 t654 (wrap64 ((wrap64 (a3)) + 1)) t658 true) else ((qanatlaw02_stands.f a0 a1 t658).bind fun t660 => (qanatlaw02_TextOccurs.j1 kj5 a0 a1 a2 t654 (wrap64 ((wrap64 (a3)) + 1)) t658 (!t660)))))) else (qanatlaw02_TextOccurs.j1 kj5 a0 a1 a2 t654 (wrap64 ((wrap64 (a3)) + 1)) t658 true)) = some r := H
        have A20 := Aside0.mk A200
        clear A200
        have HC21 := Aside0.mk H
        clear H
        go_upto_region 6 with (first | ((with_reducible refine gate_callee (f := 57) rfl ?_); refine goesL_ (some 49) rfl rfl Tryz.func57 (by kernel_rfl) rfl #[.string a0, .string a1, .int .i64 (wrap64 ((wrap64 (a3)) + 1))] rfl (by (try simp only [List.map_toArray, List.map_cons, List.map_nil]); first | done | rfl | (simp only [List.length_drop, List.length_take]; rfl)) ?_; (with_reducible refine (text_Pos.calls a0 a1 (wrap64 ((wrap64 (a3)) + 1)) t658 t659 _ A20.out).mono ?_); rintro e w22 ⟨rfl, hb⟩; refine ⟨_, rfl, ?_⟩; have n0_ := Aside0.mk (below_step (by repeat (first | (with_reducible first | exact HB.out | apply below_alloc | apply pw_below_drewN | apply below_drew1) | exact HB.out)) hb); clear HB; have HB := n0_; clear n0_; (try clear hb); (try clear hb2); (try clear hk); (try clear hi)))
        (try simp only [Act.put, List.setIfInBounds_toArray, List.set_cons_zero, List.set_cons_succ])
        go_cut [73] (fun v73 wc => ∃ (kq : Nat) (x73_20 : Bool), v73 = .bool x73_20 ∧ Aside0 (qanatlaw02_TextOccurs.j1 kq a0 a1 a2 t654 (wrap64 ((wrap64 (a3)) + 1)) t658 x73_20 = some r) ∧ Aside0 (kq ≤ kj5) ∧ Aside0 (Below w.heap.size w wc))
        case first =>
          have H := HC21.out
          clear HC21
          by_cases c23 : t659 = 0
          · rw [if_pos c23] at H
            have c23b0 : (t659 == 0) = true := beq_iff_eq.mpr c23
            have c23b1 : (t659 != 0) = false := bne_eq_false_iff_eq.mpr c23
            clear c23
            (first | rw [c23b0] | (simp only [i64_w, i32_w]; rw [c23b0]) | skip)
            by_cases c24 : t658 = 0
            · rw [if_pos c24] at H
              have c24b0 : (t658 == 0) = true := beq_iff_eq.mpr c24
              have c24b1 : (t658 != 0) = false := bne_eq_false_iff_eq.mpr c24
              clear c24
              have H' := Aside0.mk H
              clear H
              go_wp2
              go_meet
              case rel => exact ⟨_, (false), (by first | rfl | (simp; done) | (simp [*]; done)), H', ⟨by have := HJ5.out; first | omega | exact Nat.le_refl _⟩, ⟨by repeat (first | (with_reducible first | exact HB.out | apply below_alloc | apply pw_below_drewN | apply below_drew1) | exact HB.out)⟩⟩
            · rw [if_neg c24] at H
              have c24b0 : (t658 == 0) = false := beq_eq_false_iff_ne.mpr c24
              have c24b1 : (t658 != 0) = true := bne_iff_ne.mpr c24
              by_cases c25 : t658 < (wrap64 ((wrap64 (a3)) + 1))
              · rw [if_pos c25] at H
                have c25b0 : decide (t658 < (wrap64 ((wrap64 (a3)) + 1))) = true := decide_eq_true c25
                clear c25
                have H' := Aside0.mk H
                clear H
                go_wp2
                go_meet
                case rel => exact ⟨_, (true), (by first | rfl | (simp; done) | (simp [*]; done)), H', ⟨by have := HJ5.out; first | omega | exact Nat.le_refl _⟩, ⟨by repeat (first | (with_reducible first | exact HB.out | apply below_alloc | apply pw_below_drewN | apply below_drew1) | exact HB.out)⟩⟩
              · rw [if_neg c25] at H
                have c25b0 : decide (t658 < (wrap64 ((wrap64 (a3)) + 1))) = false := decide_eq_false c25
                clear c25
                by_cases c26 : a0.toList = ([] : List UInt8)
                · rw [if_pos c26] at H
                  have c26b0 : (a0.toList == ([] : List UInt8)) = true := beq_iff_eq.mpr c26
                  have c26b1 : (a0.toList != ([] : List UInt8)) = false := bne_eq_false_iff_eq.mpr c26
                  clear c26
                  have H' := Aside0.mk H
                  clear H
                  go_wp2
                  go_meet
                  case rel => exact ⟨_, (true), (by first | rfl | (simp; done) | (simp [*]; done)), H', ⟨by have := HJ5.out; first | omega | exact Nat.le_refl _⟩, ⟨by repeat (first | (with_reducible first | exact HB.out | apply below_alloc | apply pw_below_drewN | apply below_drew1) | exact HB.out)⟩⟩
                · rw [if_neg c26] at H
                  have c26b0 : (a0.toList == ([] : List UInt8)) = false := beq_eq_false_iff_ne.mpr c26
                  have c26b1 : (a0.toList != ([] : List UInt8)) = true := bne_iff_ne.mpr c26
                  replace H := Option.bind_eq_some_iff.mp H
                  obtain ⟨t660, A270, H⟩ := H
                  replace H : (qanatlaw02_TextOccurs.j1 kj5 a0 a1 a2 t654 (wrap64 ((wrap64 (a3)) + 1)) t658 (!t660)) = some r := H
                  have A27 := Aside0.mk A270
                  clear A270
                  have H' := Aside0.mk H
                  clear H
                  go_wp2_with (first | (go_at_call 66; (with_reducible refine (qanatlaw02_stands.calls a0 a1 t658 t660 _ A27.out).mono ?_); rintro e w' ⟨rfl, ⟨nd, rfl⟩⟩))
                  go_meet
                  case rel => exact ⟨_, (!t660), (by first | rfl | (simp; done) | (simp [*]; done)), H', ⟨by have := HJ5.out; first | omega | exact Nat.le_refl _⟩, ⟨by repeat (first | (with_reducible first | exact HB.out | apply below_alloc | apply pw_below_drewN | apply below_drew1) | exact HB.out)⟩⟩
          · rw [if_neg c23] at H
            have c23b0 : (t659 == 0) = false := beq_eq_false_iff_ne.mpr c23
            have c23b1 : (t659 != 0) = true := bne_iff_ne.mpr c23
            (first | rw [c23b0] | (simp only [i64_w, i32_w]; rw [c23b0]) | skip)
            have H' := Aside0.mk H
            clear H
            go_wp2
            go_meet
            case rel => exact ⟨_, (true), (by first | rfl | (simp; done) | (simp [*]; done)), H', ⟨by have := HJ5.out; first | omega | exact Nat.le_refl _⟩, ⟨by repeat (first | (with_reducible first | exact HB.out | apply below_alloc | apply pw_below_drewN | apply below_drew1) | exact HB.out)⟩⟩
        case rest =>
          clear HC21
          try clear c1
          try clear c2
          try clear p2
          try clear c5
          try clear c6
          try clear p6
          try clear c9
          try clear c11
          try clear c15
          try clear c19
          try clear c23
          try clear c23b0
          try clear c23b1
          try clear c24
          try clear c24b0
          try clear c24b1
          try clear c25
          try clear c25b0
          try clear c26
          try clear c26b0
          try clear c26b1
          try clear p2
          obtain ⟨kq, x73_20, rfl, HA, HJ20, HB⟩ := hcut
          as_aux_lemma =>
          cases kq with
          | zero => exact absurd HA.out (by simp [qanatlaw02_TextOccurs.j1])
          | succ kj20 =>
            have H := HA.out
            clear HA
            simp only [qanatlaw02_TextOccurs.j1] at H
            by_cases c28 : x73_20 = true
            · subst c28
              have H1 : (some false) = some r := by rw [if_pos rfl] at H; exact H
              clear H
              have H := H1
              clear H1
              obtain rfl := Option.some.inj H
              go_wp2
              go_ret
              exact ⟨by first | rfl | (simp [errW_none, errW_some] <;> rfl) | (simp [*, errW_none, errW_some] <;> rfl), by repeat (first | (with_reducible first | exact HB.out | apply below_alloc | apply pw_below_drewN | apply below_drew1) | exact HB.out)⟩
            · replace c28 := Bool.eq_false_iff.mpr c28
              subst c28
              have H1 : (if t658 = 0 then (qanatlaw02_TextOccurs.j2 kj20 a0 a1 a2 t654 (wrap64 ((wrap64 (a3)) + 1)) (a1.size : Int)) else (qanatlaw02_TextOccurs.j2 kj20 a0 a1 a2 t654 (wrap64 ((wrap64 (a3)) + 1)) (wrap64 (t658 - 1)))) = some r := by rw [if_neg (show ¬ (false = true) by decide)] at H; exact H
              clear H
              have H := H1
              clear H1
              have HC29 := Aside0.mk H
              clear H
              go_upto_if 77 with (fail)
              go_cut [13] (fun v13 wc => ∃ (kq : Nat) (x13_28 : Int), v13 = .int .i64 x13_28 ∧ Aside0 (qanatlaw02_TextOccurs.j2 kq a0 a1 a2 t654 (wrap64 ((wrap64 (a3)) + 1)) x13_28 = some r) ∧ Aside0 (kq ≤ kj20) ∧ Aside0 (Below w.heap.size w wc))
              case first =>
                have H := HC29.out
                clear HC29
                by_cases c30 : t658 = 0
                · rw [if_pos c30] at H
                  have c30b0 : (t658 == 0) = true := beq_iff_eq.mpr c30
                  have c30b1 : (t658 != 0) = false := bne_eq_false_iff_eq.mpr c30
                  clear c30
                  (first | rw [c30b0] | (simp only [i64_w, i32_w]; rw [c30b0]) | skip)
                  have H' := Aside0.mk H
                  clear H
                  go_wp2
                  go_meet
                  case rel => exact ⟨_, ((a1.size : Int)), (by first | rfl | (simp; done) | (simp [*]; done)), H', ⟨by have := HJ5.out; have := HJ20.out; first | omega | exact Nat.le_refl _⟩, ⟨by repeat (first | (with_reducible first | exact HB.out | apply below_alloc | apply pw_below_drewN | apply below_drew1) | exact HB.out)⟩⟩
                · rw [if_neg c30] at H
                  have c30b0 : (t658 == 0) = false := beq_eq_false_iff_ne.mpr c30
                  have c30b1 : (t658 != 0) = true := bne_iff_ne.mpr c30
                  (first | rw [c30b0] | (simp only [i64_w, i32_w]; rw [c30b0]) | skip)
                  have H' := Aside0.mk H
                  clear H
                  go_wp2
                  go_meet
                  case rel => exact ⟨_, (wrap64 (t658 - 1)), (by first | rfl | (simp; done) | (simp [*]; done)), H', ⟨by have := HJ5.out; have := HJ20.out; first | omega | exact Nat.le_refl _⟩, ⟨by repeat (first | (with_reducible first | exact HB.out | apply below_alloc | apply pw_below_drewN | apply below_drew1) | exact HB.out)⟩⟩
              case rest =>
                clear HC29
                try clear c1
                try clear c2
                try clear p2
                try clear c3
                try clear c5
                try clear c6
                try clear p6
                try clear c9
                try clear c11
                try clear c15
                try clear c19
                try clear c23
                try clear c23b0
                try clear c23b1
                try clear c24
                try clear c24b0
                try clear c24b1
                try clear c25
                try clear c25b0
                try clear c26
                try clear c26b0
                try clear c26b1
                try clear c28
                try clear c30
                try clear c30b0
                try clear c30b1
                try clear p2
                try clear p6
                obtain ⟨kq, x13_28, rfl, HA, HJ28, HB⟩ := hcut
                as_aux_lemma =>
                cases kq with
                | zero => exact absurd HA.out (by simp [qanatlaw02_TextOccurs.j2])
                | succ kj28 =>
                  have H := HA.out
                  clear HA
                  simp only [qanatlaw02_TextOccurs.j2] at H
                  have H' := Aside0.mk H
                  clear H
                  go_wp2
                  go_loopg [14] kj28 (fun kq v14 w' => ∃ (x14_4 : Int), v14 = .int .i64 x14_4 ∧ Aside0 (qanatlaw02_TextOccurs.l0 kq a0 a1 a2 t654 x13_28 x14_4 = some r) ∧ Aside0 (kq ≤ kj28) ∧ Aside0 (Below w.heap.size w w'))
                  case atStart => exact ⟨((wrap64 ((wrap64 (a3)) + 1))), (by first | rfl | (simp; done) | (simp [*]; done)), H', ⟨Nat.le_refl _⟩, ⟨by repeat (first | (with_reducible first | exact HB.out | apply below_alloc | apply pw_below_drewN | apply below_drew1) | exact HB.out)⟩⟩
                  case round =>
                    clear H'
                    try clear c1
                    try clear c2
                    try clear p2
                    try clear c3
                    try clear c5
                    try clear c6
                    try clear p6
                    try clear c9
                    try clear c11
                    try clear c15
                    try clear c19
                    try clear c23
                    try clear c23b0
                    try clear c23b1
                    try clear c24
                    try clear c24b0
                    try clear c24b1
                    try clear c25
                    try clear c25b0
                    try clear c26
                    try clear c26b0
                    try clear c26b1
                    try clear c28
                    try clear c30
                    try clear c30b0
                    try clear c30b1
                    try clear p2
                    try clear p6
                    obtain ⟨x14_4, rfl, HA, HK4, HB⟩ := hrel
                    as_aux_lemma =>
                    cases gk with
                    | zero => exact absurd HA.out (by simp [qanatlaw02_TextOccurs.l0])
                    | succ k4 =>
                      have H := HA.out
                      clear HA
                      simp only [qanatlaw02_TextOccurs.l0] at H
                      have HC31 := Aside0.mk H
                      clear H
                      go_upto_region 12 with (fail)
                      go_cut [87] (fun v87 wc => ∃ (kq : Nat) (x87_30 : Bool), v87 = .bool x87_30 ∧ Aside0 (qanatlaw02_TextOccurs.j4 kq a0 a1 a2 t654 x13_28 x14_4 x87_30 = some r) ∧ Aside0 (kq ≤ k4) ∧ Aside0 (Below w.heap.size w wc))
                      case first =>
                        have H := HC31.out
                        clear HC31
                        by_cases c32 : x14_4 ≤ x13_28
                        · rw [if_pos c32] at H
                          have c32b0 : decide (x14_4 ≤ x13_28) = true := decide_eq_true c32
                          clear c32
                          (first | rw [c32b0] | (simp only [i64_w, i32_w]; rw [c32b0]) | skip)
                          have H' := Aside0.mk H
                          clear H
                          go_wp2
                          go_meet
                          case rel => exact ⟨_, ((a0.toList != ([] : List UInt8))), (by first | rfl | (simp; done) | (simp [*]; done) | (simp; cases a0.toList <;> rfl)), H', ⟨by have := HJ5.out; have := HJ20.out; have := HJ28.out; have := HK4.out; first | omega | exact Nat.le_refl _⟩, ⟨by repeat (first | (with_reducible first | exact HB.out | apply below_alloc | apply pw_below_drewN | apply below_drew1) | exact HB.out)⟩⟩
                        · rw [if_neg c32] at H
                          have c32b0 : decide (x14_4 ≤ x13_28) = false := decide_eq_false c32
                          clear c32
                          (first | rw [c32b0] | (simp only [i64_w, i32_w]; rw [c32b0]) | skip)
                          have H' := Aside0.mk H
                          clear H
                          go_wp2
                          go_meet
                          case rel => exact ⟨_, (false), (by first | rfl | (simp; done) | (simp [*]; done)), H', ⟨by have := HJ5.out; have := HJ20.out; have := HJ28.out; have := HK4.out; first | omega | exact Nat.le_refl _⟩, ⟨by repeat (first | (with_reducible first | exact HB.out | apply below_alloc | apply pw_below_drewN | apply below_drew1) | exact HB.out)⟩⟩
                      case rest =>
                        clear HC31
                        try clear c1
                        try clear c2
                        try clear p2
                        try clear c3
                        try clear c5
                        try clear c6
                        try clear p6
                        try clear c9
                        try clear c11
                        try clear c15
                        try clear c19
                        try clear c23
                        try clear c23b0
                        try clear c23b1
                        try clear c24
                        try clear c24b0
                        try clear c24b1
                        try clear c25
                        try clear c25b0
                        try clear c26
                        try clear c26b0
                        try clear c26b1
                        try clear c28
                        try clear c30
                        try clear c30b0
                        try clear c30b1
                        try clear c32
                        try clear c32b0
                        try clear p2
                        try clear p6
                        obtain ⟨kq, x87_30, rfl, HA, HJ30, HB⟩ := hcut
                        as_aux_lemma =>
                        cases kq with
                        | zero => exact absurd HA.out (by simp [qanatlaw02_TextOccurs.j4])
                        | succ kj30 =>
                          have H := HA.out
                          clear HA
                          simp only [qanatlaw02_TextOccurs.j4] at H
                          by_cases c33 : x87_30 = true
                          · subst c33
                            have H1 : ((qanatlaw02_stands.f a0 a1 x14_4).bind fun t661 => (if t661 = true then (some false) else (qanatlaw02_TextOccurs.l0 kj30 a0 a1 a2 t654 x13_28 (wrap64 (x14_4 + 1))))) = some r := by rw [if_pos rfl] at H; exact H
                            clear H
                            have H := H1
                            clear H1
                            replace H := Option.bind_eq_some_iff.mp H
                            obtain ⟨t661, A340, H⟩ := H
                            replace H : (if t661 = true then (some false) else (qanatlaw02_TextOccurs.l0 kj30 a0 a1 a2 t654 x13_28 (wrap64 (x14_4 + 1)))) = some r := H
                            have A34 := Aside0.mk A340
                            clear A340
                            by_cases c35 : t661 = true
                            · subst c35
                              have H1 : (some false) = some r := by rw [if_pos rfl] at H; exact H
                              clear H
                              have H := H1
                              clear H1
                              obtain rfl := Option.some.inj H
                              go_wp2_with (first | ((with_reducible refine gate_callee (f := 66) rfl ?_); refine goesL_ (some 93) rfl rfl Tryz.func66 (by kernel_rfl) rfl #[.string a0, .string a1, .int .i64 x14_4] rfl (by (try simp only [List.map_toArray, List.map_cons, List.map_nil]); first | done | rfl | (simp only [List.length_drop, List.length_take]; rfl)) ?_; (with_reducible refine (qanatlaw02_stands.calls a0 a1 x14_4 true _ A34.out).mono ?_); rintro e w' ⟨rfl, ⟨nd, rfl⟩⟩; refine ⟨_, rfl, ?_⟩))
                              go_ret
                              exact ⟨by first | rfl | (simp [errW_none, errW_some] <;> rfl) | (simp [*, errW_none, errW_some] <;> rfl), by repeat (first | (with_reducible first | exact HB.out | apply below_alloc | apply pw_below_drewN | apply below_drew1) | exact HB.out)⟩
                            · replace c35 := Bool.eq_false_iff.mpr c35
                              subst c35
                              have H1 : (qanatlaw02_TextOccurs.l0 kj30 a0 a1 a2 t654 x13_28 (wrap64 (x14_4 + 1))) = some r := by rw [if_neg (show ¬ (false = true) by decide)] at H; exact H
                              clear H
                              have H := H1
                              clear H1
                              have H' := Aside0.mk H
                              clear H
                              go_wp2_with (first | ((with_reducible refine gate_callee (f := 66) rfl ?_); refine goesL_ (some 93) rfl rfl Tryz.func66 (by kernel_rfl) rfl #[.string a0, .string a1, .int .i64 x14_4] rfl (by (try simp only [List.map_toArray, List.map_cons, List.map_nil]); first | done | rfl | (simp only [List.length_drop, List.length_take]; rfl)) ?_; (with_reducible refine (qanatlaw02_stands.calls a0 a1 x14_4 false _ A34.out).mono ?_); rintro e w' ⟨rfl, ⟨nd, rfl⟩⟩; refine ⟨_, rfl, ?_⟩))
                              go_roundg kj30
                              case measure => have := HJ5.out; have := HJ20.out; have := HJ28.out; have := HK4.out; have := HJ30.out; omega
                              case rel => exact ⟨(wrap64 (x14_4 + 1)), (by first | rfl | (simp; done) | (simp [*]; done)), H', ⟨by have := HJ5.out; have := HJ20.out; have := HJ28.out; have := HK4.out; have := HJ30.out; omega⟩, ⟨by repeat (first | (with_reducible first | exact HB.out | apply below_alloc | apply pw_below_drewN | apply below_drew1) | exact HB.out)⟩⟩
                          · replace c33 := Bool.eq_false_iff.mpr c33
                            subst c33
                            have H1 : ((text_Reverse.f a0).bind fun bt662 => ((text_Reverse.f a1).bind fun bt664 => ((text_Pos.f bt662.1 bt664.1 1).bind fun bt666 => ((text_LastPos.f kj30 a0 a1 (-1)).bind fun bt668 => (if bt666.1 = 0 then (qanatlaw02_TextOccurs.j5 kj30 a0 a1 a2 t654 bt662.2 bt664.2 bt666.2 bt668.1 bt668.2 0) else (qanatlaw02_TextOccurs.j5 kj30 a0 a1 a2 t654 bt662.2 bt664.2 bt666.2 bt668.1 bt668.2 (wrap64 ((wrap64 ((wrap64 ((a1.size : Int) - (a0.size : Int))) + 2)) - bt666.1)))))))) = some r := by rw [if_neg (show ¬ (false = true) by decide)] at H; exact H
                            clear H
                            have H := H1
                            clear H1
                            replace H := Option.bind_eq_some_iff.mp H
                            obtain ⟨⟨t662, t663⟩, A360, H⟩ := H
                            replace H : ((text_Reverse.f a1).bind fun bt664 => ((text_Pos.f t662 bt664.1 1).bind fun bt666 => ((text_LastPos.f kj30 a0 a1 (-1)).bind fun bt668 => (if bt666.1 = 0 then (qanatlaw02_TextOccurs.j5 kj30 a0 a1 a2 t654 t663 bt664.2 bt666.2 bt668.1 bt668.2 0) else (qanatlaw02_TextOccurs.j5 kj30 a0 a1 a2 t654 t663 bt664.2 bt666.2 bt668.1 bt668.2 (wrap64 ((wrap64 ((wrap64 ((a1.size : Int) - (a0.size : Int))) + 2)) - bt666.1))))))) = some r := H
                            have A36 := Aside0.mk A360
                            clear A360
                            replace H := Option.bind_eq_some_iff.mp H
                            obtain ⟨⟨t664, t665⟩, A370, H⟩ := H
                            replace H : ((text_Pos.f t662 t664 1).bind fun bt666 => ((text_LastPos.f kj30 a0 a1 (-1)).bind fun bt668 => (if bt666.1 = 0 then (qanatlaw02_TextOccurs.j5 kj30 a0 a1 a2 t654 t663 t665 bt666.2 bt668.1 bt668.2 0) else (qanatlaw02_TextOccurs.j5 kj30 a0 a1 a2 t654 t663 t665 bt666.2 bt668.1 bt668.2 (wrap64 ((wrap64 ((wrap64 ((a1.size : Int) - (a0.size : Int))) + 2)) - bt666.1)))))) = some r := H
                            have A37 := Aside0.mk A370
                            clear A370
                            replace H := Option.bind_eq_some_iff.mp H
                            obtain ⟨⟨t666, t667⟩, A380, H⟩ := H
                            replace H : ((text_LastPos.f kj30 a0 a1 (-1)).bind fun bt668 => (if t666 = 0 then (qanatlaw02_TextOccurs.j5 kj30 a0 a1 a2 t654 t663 t665 t667 bt668.1 bt668.2 0) else (qanatlaw02_TextOccurs.j5 kj30 a0 a1 a2 t654 t663 t665 t667 bt668.1 bt668.2 (wrap64 ((wrap64 ((wrap64 ((a1.size : Int) - (a0.size : Int))) + 2)) - t666))))) = some r := H
                            have A38 := Aside0.mk A380
                            clear A380
                            replace H := Option.bind_eq_some_iff.mp H
                            obtain ⟨⟨t668, t669⟩, A390, H⟩ := H
                            replace H : (if t666 = 0 then (qanatlaw02_TextOccurs.j5 kj30 a0 a1 a2 t654 t663 t665 t667 t668 t669 0) else (qanatlaw02_TextOccurs.j5 kj30 a0 a1 a2 t654 t663 t665 t667 t668 t669 (wrap64 ((wrap64 ((wrap64 ((a1.size : Int) - (a0.size : Int))) + 2)) - t666)))) = some r := H
                            have A39 := Aside0.mk A390
                            clear A390
                            have HC40 := Aside0.mk H
                            clear H
                            go_upto_if 125 with (first | ((with_reducible refine gate_callee (f := 67) rfl ?_); refine goesL_ (some 96) rfl rfl Tryz.func67 (by kernel_rfl) rfl #[.string a0] rfl (by (try simp only [List.map_toArray, List.map_cons, List.map_nil]); first | done | rfl | (simp only [List.length_drop, List.length_take]; rfl)) ?_; (with_reducible refine (text_Reverse.calls a0 t662 t663 _ A36.out).mono ?_); rintro e w41 ⟨rfl, hb⟩; refine ⟨_, rfl, ?_⟩; have n0_ := Aside0.mk (below_step (by repeat (first | (with_reducible first | exact HB.out | apply below_alloc | apply pw_below_drewN | apply below_drew1) | exact HB.out)) hb); clear HB; have HB := n0_; clear n0_; (try clear hb); (try clear hb2); (try clear hk); (try clear hi)) | ((with_reducible refine gate_callee (f := 67) rfl ?_); refine goesL_ (some 101) rfl rfl Tryz.func67 (by kernel_rfl) rfl #[.string a1] rfl (by (try simp only [List.map_toArray, List.map_cons, List.map_nil]); first | done | rfl | (simp only [List.length_drop, List.length_take]; rfl)) ?_; (with_reducible refine (text_Reverse.calls a1 t664 t665 _ A37.out).mono ?_); rintro e w42 ⟨rfl, hb⟩; refine ⟨_, rfl, ?_⟩; have n0_ := Aside0.mk (below_step (by repeat (first | (with_reducible first | exact HB.out | apply below_alloc | apply pw_below_drewN | apply below_drew1) | exact HB.out)) hb); clear HB; have HB := n0_; clear n0_; (try clear hb); (try clear hb2); (try clear hk); (try clear hi)) | ((with_reducible refine gate_callee (f := 57) rfl ?_); refine goesL_ (some 107) rfl rfl Tryz.func57 (by kernel_rfl) rfl #[.string t662, .string t664, .int .i64 1] rfl (by (try simp only [List.map_toArray, List.map_cons, List.map_nil]); first | done | rfl | (simp only [List.length_drop, List.length_take]; rfl)) ?_; (with_reducible refine (text_Pos.calls t662 t664 1 t666 t667 _ A38.out).mono ?_); rintro e w43 ⟨rfl, hb⟩; refine ⟨_, rfl, ?_⟩; have n0_ := Aside0.mk (below_step (by repeat (first | (with_reducible first | exact HB.out | apply below_alloc | apply pw_below_drewN | apply below_drew1) | exact HB.out)) hb); clear HB; have HB := n0_; clear n0_; (try clear hb); (try clear hb2); (try clear hk); (try clear hi)) | ((with_reducible refine gate_callee (f := 58) rfl ?_); refine goesL_ (some 113) rfl rfl Tryz.func58 (by kernel_rfl) rfl #[.string a0, .string a1, .int .i64 (-1)] rfl (by (try simp only [List.map_toArray, List.map_cons, List.map_nil]); first | done | rfl | (simp only [List.length_drop, List.length_take]; rfl)) ?_; (with_reducible refine (text_LastPos.calls kj30 a0 a1 (-1) t668 t669 _ A39.out).mono ?_); rintro e w44 ⟨rfl, hb⟩; refine ⟨_, rfl, ?_⟩; have n0_ := Aside0.mk (below_step (by repeat (first | (with_reducible first | exact HB.out | apply below_alloc | apply pw_below_drewN | apply below_drew1) | exact HB.out)) hb); clear HB; have HB := n0_; clear n0_; (try clear hb); (try clear hb2); (try clear hk); (try clear hi)))
                            (try simp only [Act.put, List.setIfInBounds_toArray, List.set_cons_zero, List.set_cons_succ])
                            go_cut [22] (fun v22 wc => ∃ (kq : Nat) (x22_39 : Int), v22 = .int .i64 x22_39 ∧ Aside0 (qanatlaw02_TextOccurs.j5 kq a0 a1 a2 t654 t663 t665 t667 t668 t669 x22_39 = some r) ∧ Aside0 (kq ≤ kj30) ∧ Aside0 (Below w.heap.size w wc))
                            case first =>
                              have H := HC40.out
                              clear HC40
                              by_cases c45 : t666 = 0
                              · rw [if_pos c45] at H
                                have c45b0 : (t666 == 0) = true := beq_iff_eq.mpr c45
                                have c45b1 : (t666 != 0) = false := bne_eq_false_iff_eq.mpr c45
                                clear c45
                                (first | rw [c45b0] | (simp only [i64_w, i32_w]; rw [c45b0]) | skip)
                                have H' := Aside0.mk H
                                clear H
                                go_wp2
                                go_meet
                                case rel => exact ⟨_, (0), (by first | rfl | (simp; done) | (simp [*]; done)), H', ⟨by have := HJ5.out; have := HJ20.out; have := HJ28.out; have := HK4.out; have := HJ30.out; first | omega | exact Nat.le_refl _⟩, ⟨by repeat (first | (with_reducible first | exact HB.out | apply below_alloc | apply pw_below_drewN | apply below_drew1) | exact HB.out)⟩⟩
                              · rw [if_neg c45] at H
                                have c45b0 : (t666 == 0) = false := beq_eq_false_iff_ne.mpr c45
                                have c45b1 : (t666 != 0) = true := bne_iff_ne.mpr c45
                                (first | rw [c45b0] | (simp only [i64_w, i32_w]; rw [c45b0]) | skip)
                                have H' := Aside0.mk H
                                clear H
                                go_wp2
                                go_meet
                                case rel => exact ⟨_, (wrap64 ((wrap64 ((wrap64 ((a1.size : Int) - (a0.size : Int))) + 2)) - t666)), (by first | rfl | (simp; done) | (simp [*]; done)), H', ⟨by have := HJ5.out; have := HJ20.out; have := HJ28.out; have := HK4.out; have := HJ30.out; first | omega | exact Nat.le_refl _⟩, ⟨by repeat (first | (with_reducible first | exact HB.out | apply below_alloc | apply pw_below_drewN | apply below_drew1) | exact HB.out)⟩⟩
                            case rest =>
                              clear HC40
                              try clear c1
                              try clear c2
                              try clear p2
                              try clear c3
                              try clear c4
                              try clear c5
                              try clear c6
                              try clear p6
                              try clear c9
                              try clear c11
                              try clear c15
                              try clear c19
                              try clear c23
                              try clear c23b0
                              try clear c23b1
                              try clear c24
                              try clear c24b0
                              try clear c24b1
                              try clear c25
                              try clear c25b0
                              try clear c26
                              try clear c26b0
                              try clear c26b1
                              try clear c28
                              try clear c30
                              try clear c30b0
                              try clear c30b1
                              try clear c32
                              try clear c32b0
                              try clear c33
                              try clear c35
                              try clear c45
                              try clear c45b0
                              try clear c45b1
                              try clear p2
                              try clear p6
                              obtain ⟨kq, x22_39, rfl, HA, HJ39, HB⟩ := hcut
                              as_aux_lemma =>
                              cases kq with
                              | zero => exact absurd HA.out (by simp [qanatlaw02_TextOccurs.j5])
                              | succ kj39 =>
                                have H := HA.out
                                clear HA
                                simp only [qanatlaw02_TextOccurs.j5] at H
                                have HC46 := Aside0.mk H
                                clear H
                                go_upto_region 23 with (fail)
                                go_cut [144] (fun v144 wc => ∃ (kq : Nat) (x144_45 : Bool), v144 = .bool x144_45 ∧ Aside0 (qanatlaw02_TextOccurs.j6 kq a0 a1 a2 t654 x144_45 = some r) ∧ Aside0 (kq ≤ kj39) ∧ Aside0 (Below w.heap.size w wc))
                                case first =>
                                  have H := HC46.out
                                  clear HC46
                                  by_cases c47 : t663 = 0
                                  · rw [if_pos c47] at H
                                    have c47b0 : (t663 == 0) = true := beq_iff_eq.mpr c47
                                    have c47b1 : (t663 != 0) = false := bne_eq_false_iff_eq.mpr c47
                                    clear c47
                                    (first | rw [c47b0] | (simp only [i64_w, i32_w]; rw [c47b0]) | skip)
                                    by_cases c48 : t665 = 0
                                    · rw [if_pos c48] at H
                                      have c48b0 : (t665 == 0) = true := beq_iff_eq.mpr c48
                                      have c48b1 : (t665 != 0) = false := bne_eq_false_iff_eq.mpr c48
                                      clear c48
                                      by_cases c49 : t667 = 0
                                      · rw [if_pos c49] at H
                                        have c49b0 : (t667 == 0) = true := beq_iff_eq.mpr c49
                                        have c49b1 : (t667 != 0) = false := bne_eq_false_iff_eq.mpr c49
                                        clear c49
                                        by_cases c50 : t669 = 0
                                        · rw [if_pos c50] at H
                                          have c50b0 : (t669 == 0) = true := beq_iff_eq.mpr c50
                                          have c50b1 : (t669 != 0) = false := bne_eq_false_iff_eq.mpr c50
                                          clear c50
                                          have H' := Aside0.mk H
                                          clear H
                                          go_wp2
                                          go_meet
                                          case rel => exact ⟨_, ((t668 != x22_39)), (by first | rfl | (simp; done) | (simp [*]; done)), H', ⟨by have := HJ5.out; have := HJ20.out; have := HJ28.out; have := HK4.out; have := HJ30.out; have := HJ39.out; first | omega | exact Nat.le_refl _⟩, ⟨by repeat (first | (with_reducible first | exact HB.out | apply below_alloc | apply pw_below_drewN | apply below_drew1) | exact HB.out)⟩⟩
                                        · rw [if_neg c50] at H
                                          have c50b0 : (t669 == 0) = false := beq_eq_false_iff_ne.mpr c50
                                          have c50b1 : (t669 != 0) = true := bne_iff_ne.mpr c50
                                          have H' := Aside0.mk H
                                          clear H
                                          go_wp2
                                          go_meet
                                          case rel => exact ⟨_, (true), (by first | rfl | (simp; done) | (simp [*]; done)), H', ⟨by have := HJ5.out; have := HJ20.out; have := HJ28.out; have := HK4.out; have := HJ30.out; have := HJ39.out; first | omega | exact Nat.le_refl _⟩, ⟨by repeat (first | (with_reducible first | exact HB.out | apply below_alloc | apply pw_below_drewN | apply below_drew1) | exact HB.out)⟩⟩
                                      · rw [if_neg c49] at H
                                        have c49b0 : (t667 == 0) = false := beq_eq_false_iff_ne.mpr c49
                                        have c49b1 : (t667 != 0) = true := bne_iff_ne.mpr c49
                                        have H' := Aside0.mk H
                                        clear H
                                        go_wp2
                                        go_meet
                                        case rel => exact ⟨_, (true), (by first | rfl | (simp; done) | (simp [*]; done)), H', ⟨by have := HJ5.out; have := HJ20.out; have := HJ28.out; have := HK4.out; have := HJ30.out; have := HJ39.out; first | omega | exact Nat.le_refl _⟩, ⟨by repeat (first | (with_reducible first | exact HB.out | apply below_alloc | apply pw_below_drewN | apply below_drew1) | exact HB.out)⟩⟩
                                    · rw [if_neg c48] at H
                                      have c48b0 : (t665 == 0) = false := beq_eq_false_iff_ne.mpr c48
                                      have c48b1 : (t665 != 0) = true := bne_iff_ne.mpr c48
                                      have H' := Aside0.mk H
                                      clear H
                                      go_wp2
                                      go_meet
                                      case rel => exact ⟨_, (true), (by first | rfl | (simp; done) | (simp [*]; done)), H', ⟨by have := HJ5.out; have := HJ20.out; have := HJ28.out; have := HK4.out; have := HJ30.out; have := HJ39.out; first | omega | exact Nat.le_refl _⟩, ⟨by repeat (first | (with_reducible first | exact HB.out | apply below_alloc | apply pw_below_drewN | apply below_drew1) | exact HB.out)⟩⟩
                                  · rw [if_neg c47] at H
                                    have c47b0 : (t663 == 0) = false := beq_eq_false_iff_ne.mpr c47
                                    have c47b1 : (t663 != 0) = true := bne_iff_ne.mpr c47
                                    (first | rw [c47b0] | (simp only [i64_w, i32_w]; rw [c47b0]) | skip)
                                    have H' := Aside0.mk H
                                    clear H
                                    go_wp2
                                    go_meet
                                    case rel => exact ⟨_, (true), (by first | rfl | (simp; done) | (simp [*]; done)), H', ⟨by have := HJ5.out; have := HJ20.out; have := HJ28.out; have := HK4.out; have := HJ30.out; have := HJ39.out; first | omega | exact Nat.le_refl _⟩, ⟨by repeat (first | (with_reducible first | exact HB.out | apply below_alloc | apply pw_below_drewN | apply below_drew1) | exact HB.out)⟩⟩
                                case rest =>
                                  clear HC46
                                  try clear c1
                                  try clear c2
                                  try clear p2
                                  try clear c3
                                  try clear c4
                                  try clear c5
                                  try clear c6
                                  try clear p6
                                  try clear c9
                                  try clear c11
                                  try clear c15
                                  try clear c19
                                  try clear c23
                                  try clear c23b0
                                  try clear c23b1
                                  try clear c24
                                  try clear c24b0
                                  try clear c24b1
                                  try clear c25
                                  try clear c25b0
                                  try clear c26
                                  try clear c26b0
                                  try clear c26b1
                                  try clear c28
                                  try clear c30
                                  try clear c30b0
                                  try clear c30b1
                                  try clear c32
                                  try clear c32b0
                                  try clear c33
                                  try clear c35
                                  try clear c45
                                  try clear c45b0
                                  try clear c45b1
                                  try clear c47
                                  try clear c47b0
                                  try clear c47b1
                                  try clear c48
                                  try clear c48b0
                                  try clear c48b1
                                  try clear c49
                                  try clear c49b0
                                  try clear c49b1
                                  try clear c50
                                  try clear c50b0
                                  try clear c50b1
                                  try clear p2
                                  try clear p6
                                  obtain ⟨kq, x144_45, rfl, HA, HJ45, HB⟩ := hcut
                                  as_aux_lemma =>
                                  cases kq with
                                  | zero => exact absurd HA.out (by simp [qanatlaw02_TextOccurs.j6])
                                  | succ kj45 =>
                                    have H := HA.out
                                    clear HA
                                    simp only [qanatlaw02_TextOccurs.j6] at H
                                    by_cases c51 : x144_45 = true
                                    · subst c51
                                      have H1 : (some false) = some r := by rw [if_pos rfl] at H; exact H
                                      clear H
                                      have H := H1
                                      clear H1
                                      obtain rfl := Option.some.inj H
                                      go_wp2
                                      go_ret
                                      exact ⟨by first | rfl | (simp [errW_none, errW_some] <;> rfl) | (simp [*, errW_none, errW_some] <;> rfl), by repeat (first | (with_reducible first | exact HB.out | apply below_alloc | apply pw_below_drewN | apply below_drew1) | exact HB.out)⟩
                                    · replace c51 := Bool.eq_false_iff.mpr c51
                                      subst c51
                                      have H1 : ((text_Count.f a0 a1).bind fun bt670 => ((text_Change.f a0 a1 a0).bind fun bt672 => ((text_Change.f a0 a1 a2).bind fun bt674 => (if bt670.2 = 0 then (if bt672.2 = 0 then (if bt672.1.toList = a1.toList then (if ((bt674.2 == 0) != (decide ((wrap64 ((a1.size : Int) + (wrap64 (bt670.1 * (wrap64 ((a2.size : Int) - (a0.size : Int))))))) ≤ 1000))) = true then (some false) else (if t654 = true then (if bt674.2 = 3 then (some true) else (if bt674.2 = 0 then (some ((bt674.1.size : Int) == (wrap64 ((a1.size : Int) + (wrap64 (bt670.1 * (wrap64 ((a2.size : Int) - (a0.size : Int))))))))) else (some false))) else (some false))) else (some false)) else (some false)) else (some false))))) = some r := by rw [if_neg (show ¬ (false = true) by decide)] at H; exact H
                                      clear H
                                      have H := H1
                                      clear H1
                                      replace H := Option.bind_eq_some_iff.mp H
                                      obtain ⟨⟨t670, t671⟩, A520, H⟩ := H
                                      replace H : ((text_Change.f a0 a1 a0).bind fun bt672 => ((text_Change.f a0 a1 a2).bind fun bt674 => (if t671 = 0 then (if bt672.2 = 0 then (if bt672.1.toList = a1.toList then (if ((bt674.2 == 0) != (decide ((wrap64 ((a1.size : Int) + (wrap64 (t670 * (wrap64 ((a2.size : Int) - (a0.size : Int))))))) ≤ 1000))) = true then (some false) else (if t654 = true then (if bt674.2 = 3 then (some true) else (if bt674.2 = 0 then (some ((bt674.1.size : Int) == (wrap64 ((a1.size : Int) + (wrap64 (t670 * (wrap64 ((a2.size : Int) - (a0.size : Int))))))))) else (some false))) else (some false))) else (some false)) else (some false)) else (some false)))) = some r := H
                                      have A52 := Aside0.mk A520
                                      clear A520
                                      replace H := Option.bind_eq_some_iff.mp H
                                      obtain ⟨⟨t672, t673⟩, A530, H⟩ := H
                                      replace H : ((text_Change.f a0 a1 a2).bind fun bt674 => (if t671 = 0 then (if t673 = 0 then (if t672.toList = a1.toList then (if ((bt674.2 == 0) != (decide ((wrap64 ((a1.size : Int) + (wrap64 (t670 * (wrap64 ((a2.size : Int) - (a0.size : Int))))))) ≤ 1000))) = true then (some false) else (if t654 = true then (if bt674.2 = 3 then (some true) else (if bt674.2 = 0 then (some ((bt674.1.size : Int) == (wrap64 ((a1.size : Int) + (wrap64 (t670 * (wrap64 ((a2.size : Int) - (a0.size : Int))))))))) else (some false))) else (some false))) else (some false)) else (some false)) else (some false))) = some r := H
                                      have A53 := Aside0.mk A530
                                      clear A530
                                      replace H := Option.bind_eq_some_iff.mp H
                                      obtain ⟨⟨t674, t675⟩, A540, H⟩ := H
                                      replace H : (if t671 = 0 then (if t673 = 0 then (if t672.toList = a1.toList then (if ((t675 == 0) != (decide ((wrap64 ((a1.size : Int) + (wrap64 (t670 * (wrap64 ((a2.size : Int) - (a0.size : Int))))))) ≤ 1000))) = true then (some false) else (if t654 = true then (if t675 = 3 then (some true) else (if t675 = 0 then (some ((t674.size : Int) == (wrap64 ((a1.size : Int) + (wrap64 (t670 * (wrap64 ((a2.size : Int) - (a0.size : Int))))))))) else (some false))) else (some false))) else (some false)) else (some false)) else (some false)) = some r := H
                                      have A54 := Aside0.mk A540
                                      clear A540
                                      by_cases c55 : t671 = 0
                                      · rw [if_pos c55] at H
                                        have c55b0 : (t671 == 0) = true := beq_iff_eq.mpr c55
                                        have c55b1 : (t671 != 0) = false := bne_eq_false_iff_eq.mpr c55
                                        clear c55
                                        by_cases c56 : t673 = 0
                                        · rw [if_pos c56] at H
                                          have c56b0 : (t673 == 0) = true := beq_iff_eq.mpr c56
                                          have c56b1 : (t673 != 0) = false := bne_eq_false_iff_eq.mpr c56
                                          clear c56
                                          by_cases c57 : t672.toList = a1.toList
                                          · rw [if_pos c57] at H
                                            have c57b0 : (t672.toList == a1.toList) = true := beq_iff_eq.mpr c57
                                            have c57b1 : (t672.toList != a1.toList) = false := bne_eq_false_iff_eq.mpr c57
                                            clear c57
                                            by_cases c58 : ((t675 == 0) != (decide ((wrap64 ((a1.size : Int) + (wrap64 (t670 * (wrap64 ((a2.size : Int) - (a0.size : Int))))))) ≤ 1000))) = true
                                            · rw [if_pos c58] at H
                                              have c58b0 : ((t675 == 0) != (decide ((wrap64 ((a1.size : Int) + (wrap64 (t670 * (wrap64 ((a2.size : Int) - (a0.size : Int))))))) ≤ 1000))) = true := c58
                                              (try (have c58b1 : decide ((t675 == 0) = (decide ((wrap64 ((a1.size : Int) + (wrap64 (t670 * (wrap64 ((a2.size : Int) - (a0.size : Int))))))) ≤ 1000))) = false := by simpa using c58))
                                              (try (have c58b2 : ((t675 == 0) == (decide ((wrap64 ((a1.size : Int) + (wrap64 (t670 * (wrap64 ((a2.size : Int) - (a0.size : Int))))))) ≤ 1000))) = false := by simpa using c58))
                                              (try (have c58b3 : ¬ ((t675 == 0) = (decide ((wrap64 ((a1.size : Int) + (wrap64 (t670 * (wrap64 ((a2.size : Int) - (a0.size : Int))))))) ≤ 1000))) := by simpa using c58))
                                              clear c58
                                              obtain rfl := Option.some.inj H
                                              go_wp2_with (first | ((with_reducible refine gate_callee (f := 59) rfl ?_); refine goesL_ (some 148) rfl rfl Tryz.func59 (by kernel_rfl) rfl #[.string a0, .string a1] rfl (by (try simp only [List.map_toArray, List.map_cons, List.map_nil]); first | done | rfl | (simp only [List.length_drop, List.length_take]; rfl)) ?_; (with_reducible refine (text_Count.calls a0 a1 t670 t671 _ A52.out).mono ?_); rintro e w59 ⟨rfl, hb⟩; refine ⟨_, rfl, ?_⟩; have n0_ := Aside0.mk (below_step (by repeat (first | (with_reducible first | exact HB.out | apply below_alloc | apply pw_below_drewN | apply below_drew1) | exact HB.out)) hb); clear HB; have HB := n0_; clear n0_; (try clear hb); (try clear hb2); (try clear hk); (try clear hi)) | ((with_reducible refine gate_callee (f := 60) rfl ?_); refine goesL_ (some 155) rfl rfl Tryz.func60 (by kernel_rfl) rfl #[.string a0, .string a1, .string a0] rfl (by (try simp only [List.map_toArray, List.map_cons, List.map_nil]); first | done | rfl | (simp only [List.length_drop, List.length_take]; rfl)) ?_; (with_reducible refine (text_Change.calls a0 a1 a0 t672 t673 _ A53.out).mono ?_); rintro e w60 ⟨rfl, hb⟩; refine ⟨_, rfl, ?_⟩; have n0_ := Aside0.mk (below_step (by repeat (first | (with_reducible first | exact HB.out | apply below_alloc | apply pw_below_drewN | apply below_drew1) | exact HB.out)) hb); clear HB; have HB := n0_; clear n0_; (try clear hb); (try clear hb2); (try clear hk); (try clear hi)) | ((with_reducible refine gate_callee (f := 60) rfl ?_); refine goesL_ (some 162) rfl rfl Tryz.func60 (by kernel_rfl) rfl #[.string a0, .string a1, .string a2] rfl (by (try simp only [List.map_toArray, List.map_cons, List.map_nil]); first | done | rfl | (simp only [List.length_drop, List.length_take]; rfl)) ?_; (with_reducible refine (text_Change.calls a0 a1 a2 t674 t675 _ A54.out).mono ?_); rintro e w61 ⟨rfl, hb⟩; refine ⟨_, rfl, ?_⟩; have n0_ := Aside0.mk (below_step (by repeat (first | (with_reducible first | exact HB.out | apply below_alloc | apply pw_below_drewN | apply below_drew1) | exact HB.out)) hb); clear HB; have HB := n0_; clear n0_; (try clear hb); (try clear hb2); (try clear hk); (try clear hi)))
                                              go_ret
                                              exact ⟨by first | rfl | (simp [errW_none, errW_some] <;> rfl) | (simp [*, errW_none, errW_some] <;> rfl), by repeat (first | (with_reducible first | exact HB.out | apply below_alloc | apply pw_below_drewN | apply below_drew1) | exact HB.out)⟩
                                            · rw [if_neg c58] at H
                                              have c58b0 : ((t675 == 0) != (decide ((wrap64 ((a1.size : Int) + (wrap64 (t670 * (wrap64 ((a2.size : Int) - (a0.size : Int))))))) ≤ 1000))) = false := by simpa using c58
                                              (try (have c58b1 : decide ((t675 == 0) = (decide ((wrap64 ((a1.size : Int) + (wrap64 (t670 * (wrap64 ((a2.size : Int) - (a0.size : Int))))))) ≤ 1000))) = true := by simpa using c58))
                                              (try (have c58b2 : ((t675 == 0) == (decide ((wrap64 ((a1.size : Int) + (wrap64 (t670 * (wrap64 ((a2.size : Int) - (a0.size : Int))))))) ≤ 1000))) = true := by simpa using c58))
                                              clear c58
                                              by_cases c62 : t654 = true
                                              · subst c62
                                                have H1 : (if t675 = 3 then (some true) else (if t675 = 0 then (some ((t674.size : Int) == (wrap64 ((a1.size : Int) + (wrap64 (t670 * (wrap64 ((a2.size : Int) - (a0.size : Int))))))))) else (some false))) = some r := by rw [if_pos rfl] at H; exact H
                                                clear H
                                                have H := H1
                                                clear H1
                                                by_cases c63 : t675 = 3
                                                · rw [if_pos c63] at H
                                                  have c63b0 : (t675 == 3) = true := beq_iff_eq.mpr c63
                                                  have c63b1 : (t675 != 3) = false := bne_eq_false_iff_eq.mpr c63
                                                  clear c63
                                                  obtain rfl := Option.some.inj H
                                                  go_wp2_with (first | ((with_reducible refine gate_callee (f := 59) rfl ?_); refine goesL_ (some 148) rfl rfl Tryz.func59 (by kernel_rfl) rfl #[.string a0, .string a1] rfl (by (try simp only [List.map_toArray, List.map_cons, List.map_nil]); first | done | rfl | (simp only [List.length_drop, List.length_take]; rfl)) ?_; (with_reducible refine (text_Count.calls a0 a1 t670 t671 _ A52.out).mono ?_); rintro e w64 ⟨rfl, hb⟩; refine ⟨_, rfl, ?_⟩; have n0_ := Aside0.mk (below_step (by repeat (first | (with_reducible first | exact HB.out | apply below_alloc | apply pw_below_drewN | apply below_drew1) | exact HB.out)) hb); clear HB; have HB := n0_; clear n0_; (try clear hb); (try clear hb2); (try clear hk); (try clear hi)) | ((with_reducible refine gate_callee (f := 60) rfl ?_); refine goesL_ (some 155) rfl rfl Tryz.func60 (by kernel_rfl) rfl #[.string a0, .string a1, .string a0] rfl (by (try simp only [List.map_toArray, List.map_cons, List.map_nil]); first | done | rfl | (simp only [List.length_drop, List.length_take]; rfl)) ?_; (with_reducible refine (text_Change.calls a0 a1 a0 t672 t673 _ A53.out).mono ?_); rintro e w65 ⟨rfl, hb⟩; refine ⟨_, rfl, ?_⟩; have n0_ := Aside0.mk (below_step (by repeat (first | (with_reducible first | exact HB.out | apply below_alloc | apply pw_below_drewN | apply below_drew1) | exact HB.out)) hb); clear HB; have HB := n0_; clear n0_; (try clear hb); (try clear hb2); (try clear hk); (try clear hi)) | ((with_reducible refine gate_callee (f := 60) rfl ?_); refine goesL_ (some 162) rfl rfl Tryz.func60 (by kernel_rfl) rfl #[.string a0, .string a1, .string a2] rfl (by (try simp only [List.map_toArray, List.map_cons, List.map_nil]); first | done | rfl | (simp only [List.length_drop, List.length_take]; rfl)) ?_; (with_reducible refine (text_Change.calls a0 a1 a2 t674 t675 _ A54.out).mono ?_); rintro e w66 ⟨rfl, hb⟩; refine ⟨_, rfl, ?_⟩; have n0_ := Aside0.mk (below_step (by repeat (first | (with_reducible first | exact HB.out | apply below_alloc | apply pw_below_drewN | apply below_drew1) | exact HB.out)) hb); clear HB; have HB := n0_; clear n0_; (try clear hb); (try clear hb2); (try clear hk); (try clear hi)))
                                                  go_ret
                                                  exact ⟨by first | rfl | (simp [errW_none, errW_some] <;> rfl) | (simp [*, errW_none, errW_some] <;> rfl), by repeat (first | (with_reducible first | exact HB.out | apply below_alloc | apply pw_below_drewN | apply below_drew1) | exact HB.out)⟩
                                                · rw [if_neg c63] at H
                                                  have c63b0 : (t675 == 3) = false := beq_eq_false_iff_ne.mpr c63
                                                  have c63b1 : (t675 != 3) = true := bne_iff_ne.mpr c63
                                                  by_cases c67 : t675 = 0
                                                  · rw [if_pos c67] at H
                                                    have c67b0 : (t675 == 0) = true := beq_iff_eq.mpr c67
                                                    try have c67b9 : (!decide ((wrap64 ((a1.size : Int) + (wrap64 (t670 * (wrap64 ((a2.size : Int) - (a0.size : Int))))))) ≤ 1000)) = false := by have q_ := c58b0; rw [c67b0] at q_; simpa using q_
                                                    have c67b1 : (t675 != 0) = false := bne_eq_false_iff_eq.mpr c67
                                                    clear c67
                                                    obtain rfl := Option.some.inj H
                                                    go_wp2_with (first | ((with_reducible refine gate_callee (f := 59) rfl ?_); refine goesL_ (some 148) rfl rfl Tryz.func59 (by kernel_rfl) rfl #[.string a0, .string a1] rfl (by (try simp only [List.map_toArray, List.map_cons, List.map_nil]); first | done | rfl | (simp only [List.length_drop, List.length_take]; rfl)) ?_; (with_reducible refine (text_Count.calls a0 a1 t670 t671 _ A52.out).mono ?_); rintro e w68 ⟨rfl, hb⟩; refine ⟨_, rfl, ?_⟩; have n0_ := Aside0.mk (below_step (by repeat (first | (with_reducible first | exact HB.out | apply below_alloc | apply pw_below_drewN | apply below_drew1) | exact HB.out)) hb); clear HB; have HB := n0_; clear n0_; (try clear hb); (try clear hb2); (try clear hk); (try clear hi)) | ((with_reducible refine gate_callee (f := 60) rfl ?_); refine goesL_ (some 155) rfl rfl Tryz.func60 (by kernel_rfl) rfl #[.string a0, .string a1, .string a0] rfl (by (try simp only [List.map_toArray, List.map_cons, List.map_nil]); first | done | rfl | (simp only [List.length_drop, List.length_take]; rfl)) ?_; (with_reducible refine (text_Change.calls a0 a1 a0 t672 t673 _ A53.out).mono ?_); rintro e w69 ⟨rfl, hb⟩; refine ⟨_, rfl, ?_⟩; have n0_ := Aside0.mk (below_step (by repeat (first | (with_reducible first | exact HB.out | apply below_alloc | apply pw_below_drewN | apply below_drew1) | exact HB.out)) hb); clear HB; have HB := n0_; clear n0_; (try clear hb); (try clear hb2); (try clear hk); (try clear hi)) | ((with_reducible refine gate_callee (f := 60) rfl ?_); refine goesL_ (some 162) rfl rfl Tryz.func60 (by kernel_rfl) rfl #[.string a0, .string a1, .string a2] rfl (by (try simp only [List.map_toArray, List.map_cons, List.map_nil]); first | done | rfl | (simp only [List.length_drop, List.length_take]; rfl)) ?_; (with_reducible refine (text_Change.calls a0 a1 a2 t674 t675 _ A54.out).mono ?_); rintro e w70 ⟨rfl, hb⟩; refine ⟨_, rfl, ?_⟩; have n0_ := Aside0.mk (below_step (by repeat (first | (with_reducible first | exact HB.out | apply below_alloc | apply pw_below_drewN | apply below_drew1) | exact HB.out)) hb); clear HB; have HB := n0_; clear n0_; (try clear hb); (try clear hb2); (try clear hk); (try clear hi)))
                                                    go_ret
                                                    exact ⟨by first | rfl | (simp [errW_none, errW_some] <;> rfl) | (simp [*, errW_none, errW_some] <;> rfl), by repeat (first | (with_reducible first | exact HB.out | apply below_alloc | apply pw_below_drewN | apply below_drew1) | exact HB.out)⟩
                                                  · rw [if_neg c67] at H
                                                    have c67b0 : (t675 == 0) = false := beq_eq_false_iff_ne.mpr c67
                                                    try have c67b9 : (decide ((wrap64 ((a1.size : Int) + (wrap64 (t670 * (wrap64 ((a2.size : Int) - (a0.size : Int))))))) ≤ 1000)) = false := by have q_ := c58b0; rw [c67b0] at q_; simpa using q_
                                                    have c67b1 : (t675 != 0) = true := bne_iff_ne.mpr c67
                                                    obtain rfl := Option.some.inj H
                                                    go_wp2_with (first | ((with_reducible refine gate_callee (f := 59) rfl ?_); refine goesL_ (some 148) rfl rfl Tryz.func59 (by kernel_rfl) rfl #[.string a0, .string a1] rfl (by (try simp only [List.map_toArray, List.map_cons, List.map_nil]); first | done | rfl | (simp only [List.length_drop, List.length_take]; rfl)) ?_; (with_reducible refine (text_Count.calls a0 a1 t670 t671 _ A52.out).mono ?_); rintro e w71 ⟨rfl, hb⟩; refine ⟨_, rfl, ?_⟩; have n0_ := Aside0.mk (below_step (by repeat (first | (with_reducible first | exact HB.out | apply below_alloc | apply pw_below_drewN | apply below_drew1) | exact HB.out)) hb); clear HB; have HB := n0_; clear n0_; (try clear hb); (try clear hb2); (try clear hk); (try clear hi)) | ((with_reducible refine gate_callee (f := 60) rfl ?_); refine goesL_ (some 155) rfl rfl Tryz.func60 (by kernel_rfl) rfl #[.string a0, .string a1, .string a0] rfl (by (try simp only [List.map_toArray, List.map_cons, List.map_nil]); first | done | rfl | (simp only [List.length_drop, List.length_take]; rfl)) ?_; (with_reducible refine (text_Change.calls a0 a1 a0 t672 t673 _ A53.out).mono ?_); rintro e w72 ⟨rfl, hb⟩; refine ⟨_, rfl, ?_⟩; have n0_ := Aside0.mk (below_step (by repeat (first | (with_reducible first | exact HB.out | apply below_alloc | apply pw_below_drewN | apply below_drew1) | exact HB.out)) hb); clear HB; have HB := n0_; clear n0_; (try clear hb); (try clear hb2); (try clear hk); (try clear hi)) | ((with_reducible refine gate_callee (f := 60) rfl ?_); refine goesL_ (some 162) rfl rfl Tryz.func60 (by kernel_rfl) rfl #[.string a0, .string a1, .string a2] rfl (by (try simp only [List.map_toArray, List.map_cons, List.map_nil]); first | done | rfl | (simp only [List.length_drop, List.length_take]; rfl)) ?_; (with_reducible refine (text_Change.calls a0 a1 a2 t674 t675 _ A54.out).mono ?_); rintro e w73 ⟨rfl, hb⟩; refine ⟨_, rfl, ?_⟩; have n0_ := Aside0.mk (below_step (by repeat (first | (with_reducible first | exact HB.out | apply below_alloc | apply pw_below_drewN | apply below_drew1) | exact HB.out)) hb); clear HB; have HB := n0_; clear n0_; (try clear hb); (try clear hb2); (try clear hk); (try clear hi)))
                                                    go_ret
                                                    exact ⟨by first | rfl | (simp [errW_none, errW_some] <;> rfl) | (simp [*, errW_none, errW_some] <;> rfl), by repeat (first | (with_reducible first | exact HB.out | apply below_alloc | apply pw_below_drewN | apply below_drew1) | exact HB.out)⟩
                                              · replace c62 := Bool.eq_false_iff.mpr c62
                                                subst c62
                                                have H1 : (some false) = some r := by rw [if_neg (show ¬ (false = true) by decide)] at H; exact H
                                                clear H
                                                have H := H1
                                                clear H1
                                                obtain rfl := Option.some.inj H
                                                go_wp2_with (first | ((with_reducible refine gate_callee (f := 59) rfl ?_); refine goesL_ (some 148) rfl rfl Tryz.func59 (by kernel_rfl) rfl #[.string a0, .string a1] rfl (by (try simp only [List.map_toArray, List.map_cons, List.map_nil]); first | done | rfl | (simp only [List.length_drop, List.length_take]; rfl)) ?_; (with_reducible refine (text_Count.calls a0 a1 t670 t671 _ A52.out).mono ?_); rintro e w74 ⟨rfl, hb⟩; refine ⟨_, rfl, ?_⟩; have n0_ := Aside0.mk (below_step (by repeat (first | (with_reducible first | exact HB.out | apply below_alloc | apply pw_below_drewN | apply below_drew1) | exact HB.out)) hb); clear HB; have HB := n0_; clear n0_; (try clear hb); (try clear hb2); (try clear hk); (try clear hi)) | ((with_reducible refine gate_callee (f := 60) rfl ?_); refine goesL_ (some 155) rfl rfl Tryz.func60 (by kernel_rfl) rfl #[.string a0, .string a1, .string a0] rfl (by (try simp only [List.map_toArray, List.map_cons, List.map_nil]); first | done | rfl | (simp only [List.length_drop, List.length_take]; rfl)) ?_; (with_reducible refine (text_Change.calls a0 a1 a0 t672 t673 _ A53.out).mono ?_); rintro e w75 ⟨rfl, hb⟩; refine ⟨_, rfl, ?_⟩; have n0_ := Aside0.mk (below_step (by repeat (first | (with_reducible first | exact HB.out | apply below_alloc | apply pw_below_drewN | apply below_drew1) | exact HB.out)) hb); clear HB; have HB := n0_; clear n0_; (try clear hb); (try clear hb2); (try clear hk); (try clear hi)) | ((with_reducible refine gate_callee (f := 60) rfl ?_); refine goesL_ (some 162) rfl rfl Tryz.func60 (by kernel_rfl) rfl #[.string a0, .string a1, .string a2] rfl (by (try simp only [List.map_toArray, List.map_cons, List.map_nil]); first | done | rfl | (simp only [List.length_drop, List.length_take]; rfl)) ?_; (with_reducible refine (text_Change.calls a0 a1 a2 t674 t675 _ A54.out).mono ?_); rintro e w76 ⟨rfl, hb⟩; refine ⟨_, rfl, ?_⟩; have n0_ := Aside0.mk (below_step (by repeat (first | (with_reducible first | exact HB.out | apply below_alloc | apply pw_below_drewN | apply below_drew1) | exact HB.out)) hb); clear HB; have HB := n0_; clear n0_; (try clear hb); (try clear hb2); (try clear hk); (try clear hi)))
                                                go_ret
                                                exact ⟨by first | rfl | (simp [errW_none, errW_some] <;> rfl) | (simp [*, errW_none, errW_some] <;> rfl), by repeat (first | (with_reducible first | exact HB.out | apply below_alloc | apply pw_below_drewN | apply below_drew1) | exact HB.out)⟩
                                          · rw [if_neg c57] at H
                                            have c57b0 : (t672.toList == a1.toList) = false := beq_eq_false_iff_ne.mpr c57
                                            have c57b1 : (t672.toList != a1.toList) = true := bne_iff_ne.mpr c57
                                            obtain rfl := Option.some.inj H
                                            go_wp2_with (first | ((with_reducible refine gate_callee (f := 59) rfl ?_); refine goesL_ (some 148) rfl rfl Tryz.func59 (by kernel_rfl) rfl #[.string a0, .string a1] rfl (by (try simp only [List.map_toArray, List.map_cons, List.map_nil]); first | done | rfl | (simp only [List.length_drop, List.length_take]; rfl)) ?_; (with_reducible refine (text_Count.calls a0 a1 t670 t671 _ A52.out).mono ?_); rintro e w77 ⟨rfl, hb⟩; refine ⟨_, rfl, ?_⟩; have n0_ := Aside0.mk (below_step (by repeat (first | (with_reducible first | exact HB.out | apply below_alloc | apply pw_below_drewN | apply below_drew1) | exact HB.out)) hb); clear HB; have HB := n0_; clear n0_; (try clear hb); (try clear hb2); (try clear hk); (try clear hi)) | ((with_reducible refine gate_callee (f := 60) rfl ?_); refine goesL_ (some 155) rfl rfl Tryz.func60 (by kernel_rfl) rfl #[.string a0, .string a1, .string a0] rfl (by (try simp only [List.map_toArray, List.map_cons, List.map_nil]); first | done | rfl | (simp only [List.length_drop, List.length_take]; rfl)) ?_; (with_reducible refine (text_Change.calls a0 a1 a0 t672 t673 _ A53.out).mono ?_); rintro e w78 ⟨rfl, hb⟩; refine ⟨_, rfl, ?_⟩; have n0_ := Aside0.mk (below_step (by repeat (first | (with_reducible first | exact HB.out | apply below_alloc | apply pw_below_drewN | apply below_drew1) | exact HB.out)) hb); clear HB; have HB := n0_; clear n0_; (try clear hb); (try clear hb2); (try clear hk); (try clear hi)) | ((with_reducible refine gate_callee (f := 60) rfl ?_); refine goesL_ (some 162) rfl rfl Tryz.func60 (by kernel_rfl) rfl #[.string a0, .string a1, .string a2] rfl (by (try simp only [List.map_toArray, List.map_cons, List.map_nil]); first | done | rfl | (simp only [List.length_drop, List.length_take]; rfl)) ?_; (with_reducible refine (text_Change.calls a0 a1 a2 t674 t675 _ A54.out).mono ?_); rintro e w79 ⟨rfl, hb⟩; refine ⟨_, rfl, ?_⟩; have n0_ := Aside0.mk (below_step (by repeat (first | (with_reducible first | exact HB.out | apply below_alloc | apply pw_below_drewN | apply below_drew1) | exact HB.out)) hb); clear HB; have HB := n0_; clear n0_; (try clear hb); (try clear hb2); (try clear hk); (try clear hi)))
                                            go_ret
                                            exact ⟨by first | rfl | (simp [errW_none, errW_some] <;> rfl) | (simp [*, errW_none, errW_some] <;> rfl), by repeat (first | (with_reducible first | exact HB.out | apply below_alloc | apply pw_below_drewN | apply below_drew1) | exact HB.out)⟩
                                        · rw [if_neg c56] at H
                                          have c56b0 : (t673 == 0) = false := beq_eq_false_iff_ne.mpr c56
                                          have c56b1 : (t673 != 0) = true := bne_iff_ne.mpr c56
                                          obtain rfl := Option.some.inj H
                                          go_wp2_with (first | ((with_reducible refine gate_callee (f := 59) rfl ?_); refine goesL_ (some 148) rfl rfl Tryz.func59 (by kernel_rfl) rfl #[.string a0, .string a1] rfl (by (try simp only [List.map_toArray, List.map_cons, List.map_nil]); first | done | rfl | (simp only [List.length_drop, List.length_take]; rfl)) ?_; (with_reducible refine (text_Count.calls a0 a1 t670 t671 _ A52.out).mono ?_); rintro e w80 ⟨rfl, hb⟩; refine ⟨_, rfl, ?_⟩; have n0_ := Aside0.mk (below_step (by repeat (first | (with_reducible first | exact HB.out | apply below_alloc | apply pw_below_drewN | apply below_drew1) | exact HB.out)) hb); clear HB; have HB := n0_; clear n0_; (try clear hb); (try clear hb2); (try clear hk); (try clear hi)) | ((with_reducible refine gate_callee (f := 60) rfl ?_); refine goesL_ (some 155) rfl rfl Tryz.func60 (by kernel_rfl) rfl #[.string a0, .string a1, .string a0] rfl (by (try simp only [List.map_toArray, List.map_cons, List.map_nil]); first | done | rfl | (simp only [List.length_drop, List.length_take]; rfl)) ?_; (with_reducible refine (text_Change.calls a0 a1 a0 t672 t673 _ A53.out).mono ?_); rintro e w81 ⟨rfl, hb⟩; refine ⟨_, rfl, ?_⟩; have n0_ := Aside0.mk (below_step (by repeat (first | (with_reducible first | exact HB.out | apply below_alloc | apply pw_below_drewN | apply below_drew1) | exact HB.out)) hb); clear HB; have HB := n0_; clear n0_; (try clear hb); (try clear hb2); (try clear hk); (try clear hi)) | ((with_reducible refine gate_callee (f := 60) rfl ?_); refine goesL_ (some 162) rfl rfl Tryz.func60 (by kernel_rfl) rfl #[.string a0, .string a1, .string a2] rfl (by (try simp only [List.map_toArray, List.map_cons, List.map_nil]); first | done | rfl | (simp only [List.length_drop, List.length_take]; rfl)) ?_; (with_reducible refine (text_Change.calls a0 a1 a2 t674 t675 _ A54.out).mono ?_); rintro e w82 ⟨rfl, hb⟩; refine ⟨_, rfl, ?_⟩; have n0_ := Aside0.mk (below_step (by repeat (first | (with_reducible first | exact HB.out | apply below_alloc | apply pw_below_drewN | apply below_drew1) | exact HB.out)) hb); clear HB; have HB := n0_; clear n0_; (try clear hb); (try clear hb2); (try clear hk); (try clear hi)))
                                          go_ret
                                          exact ⟨by first | rfl | (simp [errW_none, errW_some] <;> rfl) | (simp [*, errW_none, errW_some] <;> rfl), by repeat (first | (with_reducible first | exact HB.out | apply below_alloc | apply pw_below_drewN | apply below_drew1) | exact HB.out)⟩
                                      · rw [if_neg c55] at H
                                        have c55b0 : (t671 == 0) = false := beq_eq_false_iff_ne.mpr c55
                                        have c55b1 : (t671 != 0) = true := bne_iff_ne.mpr c55
                                        obtain rfl := Option.some.inj H
                                        go_wp2_with (first | ((with_reducible refine gate_callee (f := 59) rfl ?_); refine goesL_ (some 148) rfl rfl Tryz.func59 (by kernel_rfl) rfl #[.string a0, .string a1] rfl (by (try simp only [List.map_toArray, List.map_cons, List.map_nil]); first | done | rfl | (simp only [List.length_drop, List.length_take]; rfl)) ?_; (with_reducible refine (text_Count.calls a0 a1 t670 t671 _ A52.out).mono ?_); rintro e w83 ⟨rfl, hb⟩; refine ⟨_, rfl, ?_⟩; have n0_ := Aside0.mk (below_step (by repeat (first | (with_reducible first | exact HB.out | apply below_alloc | apply pw_below_drewN | apply below_drew1) | exact HB.out)) hb); clear HB; have HB := n0_; clear n0_; (try clear hb); (try clear hb2); (try clear hk); (try clear hi)) | ((with_reducible refine gate_callee (f := 60) rfl ?_); refine goesL_ (some 155) rfl rfl Tryz.func60 (by kernel_rfl) rfl #[.string a0, .string a1, .string a0] rfl (by (try simp only [List.map_toArray, List.map_cons, List.map_nil]); first | done | rfl | (simp only [List.length_drop, List.length_take]; rfl)) ?_; (with_reducible refine (text_Change.calls a0 a1 a0 t672 t673 _ A53.out).mono ?_); rintro e w84 ⟨rfl, hb⟩; refine ⟨_, rfl, ?_⟩; have n0_ := Aside0.mk (below_step (by repeat (first | (with_reducible first | exact HB.out | apply below_alloc | apply pw_below_drewN | apply below_drew1) | exact HB.out)) hb); clear HB; have HB := n0_; clear n0_; (try clear hb); (try clear hb2); (try clear hk); (try clear hi)) | ((with_reducible refine gate_callee (f := 60) rfl ?_); refine goesL_ (some 162) rfl rfl Tryz.func60 (by kernel_rfl) rfl #[.string a0, .string a1, .string a2] rfl (by (try simp only [List.map_toArray, List.map_cons, List.map_nil]); first | done | rfl | (simp only [List.length_drop, List.length_take]; rfl)) ?_; (with_reducible refine (text_Change.calls a0 a1 a2 t674 t675 _ A54.out).mono ?_); rintro e w85 ⟨rfl, hb⟩; refine ⟨_, rfl, ?_⟩; have n0_ := Aside0.mk (below_step (by repeat (first | (with_reducible first | exact HB.out | apply below_alloc | apply pw_below_drewN | apply below_drew1) | exact HB.out)) hb); clear HB; have HB := n0_; clear n0_; (try clear hb); (try clear hb2); (try clear hk); (try clear hi)))
                                        go_ret
                                        exact ⟨by first | rfl | (simp [errW_none, errW_some] <;> rfl) | (simp [*, errW_none, errW_some] <;> rfl), by repeat (first | (with_reducible first | exact HB.out | apply below_alloc | apply pw_below_drewN | apply below_drew1) | exact HB.out)⟩

/-- THE ONE PURE STATEMENT of qanatlaw02_TextOccurs: yours. -/
def qanatlaw02_TextOccurs.Pure : Prop := ∀ (a0 : ByteArray) (a1 : ByteArray) (a2 : ByteArray) (a3 : Int), a0.size ≤ 140737488351232 → a1.size ≤ 140737488351232 → a2.size ≤ 140737488351232 → (Lit.int .u8 a3).wf = true → ∃ k, qanatlaw02_TextOccurs.f k a0 a1 a2 a3 = some true
theorem qanatlaw02_TextOccurs.walk (P : qanatlaw02_TextOccurs.Pure) (a0 : ByteArray) (a1 : ByteArray) (a2 : ByteArray) (a3 : Int) (w : World) (hT : TabOK w) (w0 : a0.size ≤ 140737488351232) (w1 : a1.size ≤ 140737488351232) (w2 : a2.size ≤ 140737488351232) (w3 : (Lit.int .u8 a3).wf = true) :
    Calls Tryz.prog 9 #[.string a0, .string a1, .string a2, .int .u8 a3] w fun e w' => e = .returned (.bool true) ∧ Below w.heap.size w w' := by
  obtain ⟨k, h⟩ := P a0 a1 a2 a3 w0 w1 w2 w3
  refine (qanatlaw02_TextOccurs.calls k a0 a1 a2 a3 true w hT h).mono ?_
  rintro e w' ⟨rfl, hd⟩
  exact ⟨rfl, hd⟩

end Go.Proofs.YtlekfhnlhdmekaaGreatDoor.T

/- The reference's Valid and out: the walks (written by mp.py over the kit's print.py), and what they compute. -/
namespace Go.Proofs.YtlekfhnlhdmekaaGreatDoor.TP
set_option linter.unusedSimpArgs false
open Go.RowKit Go.Proofs.YtlekfhnlhdmekaaGreatDoorW.PrintWords Go.Proofs.YtlekfhnlhdmekaaGreatDoorW.PrintLast Go.Proofs.YtlekfhnlhdmekaaGreatDoorW.PrintMore Go.Proofs.YtlekfhnlhdmekaaGreatDoor.T
attribute [local go_sem] max2_int min2_int max_two min_two max_three min_three max_four min_four
set_option linter.unusedVariables false
set_option linter.unusedSimpArgs false

/-! ### qanatref02_Pad: function 98 -/
def qanatref02_Pad.f (a0 : Int) : Option (Bool) := if a0 ≥ 32 then (some (decide (a0 ≤ 126))) else (some false)
set_option maxHeartbeats 8000000 in
set_option maxRecDepth 100000 in
theorem qanatref02_Pad.calls (a0 : Int) (r : Bool) (w : World) (h : qanatref02_Pad.f a0 = some r) :
    Calls Tryz.prog 98 #[.int .u8 a0] w fun e w' => e = .returned (.bool r) ∧ Drawn0 w w' := by
  have H : (if a0 ≥ 32 then (some (decide (a0 ≤ 126))) else (some false)) = some r := h
  clear h
  by_cases c2 : a0 ≥ 32
  · rw [if_pos c2] at H
    have c2b0 : decide (32 ≤ a0) = true := decide_eq_true c2
    clear c2
    obtain rfl := Option.some.inj H
    go_enter Tryz.func98, Tryz.ntmps98
    go_wp2
    go_ret
    exact ⟨by first | rfl | (simp; done) | (simp [*]; done), by repeat (first | exact Drawn0.refl _ | apply Drawn0.step)⟩
  · rw [if_neg c2] at H
    have c2b0 : decide (32 ≤ a0) = false := decide_eq_false c2
    clear c2
    obtain rfl := Option.some.inj H
    go_enter Tryz.func98, Tryz.ntmps98
    go_wp2
    go_ret
    exact ⟨by first | rfl | (simp; done) | (simp [*]; done), by repeat (first | exact Drawn0.refl _ | apply Drawn0.step)⟩

/-! ### qanatref02_Valid: function 89 -/
def qanatref02_Valid.l0 : Nat → ByteArray → Int → Option (Bool)
  | 0, _, _ => none
  | k + 1, x0, x3 => if x3 < (x0.size : Int) then (if 0 ≤ x3 then ((qanatref02_Pad.f (bt x0 x3)).bind fun t186 => (if t186 = true then (qanatref02_Valid.l0 k x0 (wrap64 (x3 + 1))) else (some false))) else (none)) else (some true)
def qanatref02_Valid.f (k : Nat) (a0 : ByteArray) : Option (Bool) := if (a0.size : Int) > 1000 then (some false) else (qanatref02_Valid.l0 k a0 0)
theorem qanatref02_Valid.mono_l : ∀ k, (∀ y0 y1, LeO (qanatref02_Valid.l0 k y0 y1) (qanatref02_Valid.l0 (k + 1) y0 y1))
  | 0 => fun _ _ r h => by simp [qanatref02_Valid.l0] at h
  | k + 1 => by
    have ih0 := qanatref02_Valid.mono_l k
    · intro y0 y1
      unfold qanatref02_Valid.l0
      repeat' first
      | (with_reducible exact ih0 _ _)
      | (with_reducible exact LeO.refl _)
      | (with_reducible exact LeO.none _)
      | (with_reducible refine LeO.ite ?_ ?_)
      | (with_reducible refine LeO.bind ?_ (fun _ => ?_))
      | exact ih0 _ _
      | exact LeO.none _
      | refine LeO.ite ?_ ?_
      | refine LeO.bind ?_ (fun _ => ?_)
theorem qanatref02_Valid.mono : ∀ a0 k, LeO (qanatref02_Valid.f k a0) (qanatref02_Valid.f (k + 1) a0) := by
  intro a0 k
  have ih0 := qanatref02_Valid.mono_l k
  unfold qanatref02_Valid.f
  repeat' first
      | (with_reducible exact ih0 _ _)
      | (with_reducible exact LeO.refl _)
      | (with_reducible exact LeO.none _)
      | (with_reducible refine LeO.ite ?_ ?_)
      | (with_reducible refine LeO.bind ?_ (fun _ => ?_))
      | exact ih0 _ _
      | exact LeO.none _
      | refine LeO.ite ?_ ?_
      | refine LeO.bind ?_ (fun _ => ?_)
set_option maxHeartbeats 8000000 in
set_option maxRecDepth 100000 in
theorem qanatref02_Valid.calls (k : Nat) (a0 : ByteArray) (r : Bool) (w : World) (h : qanatref02_Valid.f k a0 = some r) :
    Calls Tryz.prog 89 #[.string a0] w fun e w' => e = .returned (.bool r) ∧ Drawn0 w w' := by
  have H : (if (a0.size : Int) > 1000 then (some false) else (qanatref02_Valid.l0 k a0 0)) = some r := h
  clear h
  by_cases c2 : (a0.size : Int) > 1000
  · rw [if_pos c2] at H
    have c2b0 : decide (1000 < (a0.size : Int)) = true := decide_eq_true c2
    have c2b1 : decide (1000 < a0.size) = true := decide_eq_true (by omega)
    clear c2
    obtain rfl := Option.some.inj H
    go_enter Tryz.func89, Tryz.ntmps89
    go_wp2
    go_ret
    exact ⟨by first | rfl | (simp; done) | (simp [*]; done), by repeat (first | exact Drawn0.refl _ | apply Drawn0.step)⟩
  · rw [if_neg c2] at H
    have c2b0 : decide (1000 < (a0.size : Int)) = false := decide_eq_false c2
    have c2b1 : decide (1000 < a0.size) = false := decide_eq_false (by omega)
    clear c2
    have H' := Aside0.mk H
    clear H
    go_enter Tryz.func89, Tryz.ntmps89
    go_wp2
    go_loopg [3] k (fun kq v3 w' => ∃ (x3_1 : Int), v3 = .int .i64 x3_1 ∧ Aside0 (qanatref02_Valid.l0 kq a0 x3_1 = some r) ∧ Aside0 (kq ≤ k) ∧ Drawn0 w w')
    case atStart => exact ⟨(0), (by first | rfl | (simp; done) | (simp [*]; done)), H', ⟨Nat.le_refl _⟩, by repeat (first | exact Drawn0.refl _ | apply Drawn0.step)⟩
    case round =>
      clear H'
      try clear c2
      try clear c2b0
      try clear c2b1
      try clear p2
      obtain ⟨x3_1, rfl, HA, HK1, ⟨m1, rfl⟩⟩ := hrel
      cases gk with
      | zero => exact absurd HA.out (by simp [qanatref02_Valid.l0])
      | succ k1 =>
        have H := HA.out
        clear HA
        simp only [qanatref02_Valid.l0] at H
        by_cases c3 : x3_1 < (a0.size : Int)
        · rw [if_pos c3] at H
          have c3b0 : decide (x3_1 < (a0.size : Int)) = true := decide_eq_true c3
          clear c3
          by_cases c4 : 0 ≤ x3_1
          · rw [if_pos c4] at H
            have c4b0 : decide (0 ≤ x3_1) = true := decide_eq_true c4
            clear c4
            replace H := Option.bind_eq_some_iff.mp H
            obtain ⟨t186, A60, H⟩ := H
            replace H : (if t186 = true then (qanatref02_Valid.l0 k1 a0 (wrap64 (x3_1 + 1))) else (some false)) = some r := H
            have A6 := Aside0.mk A60
            clear A60
            by_cases c7 : t186 = true
            · subst c7
              have H1 : (qanatref02_Valid.l0 k1 a0 (wrap64 (x3_1 + 1))) = some r := by rw [if_pos rfl] at H; exact H
              clear H
              have H := H1
              clear H1
              have H' := Aside0.mk H
              clear H
              have p5 : 0 ≤ (x3_1 : Int) := of_decide_eq_true (by first | (with_reducible assumption) | assumption)
              have q5 : x3_1 < (a0.size : Int) := of_decide_eq_true (by first | (with_reducible assumption) | assumption)
              have hx5 := bt_at a0 x3_1
              replace p5 := eq_true p5
              replace q5 := eq_true q5
              go_wp2_with (first | ((with_reducible refine gate_callee (f := 98) rfl ?_); refine goesL_ (some 16) rfl rfl Tryz.func98 (by kernel_rfl) rfl #[.int .u8 (bt a0 x3_1)] rfl (by (try simp only [List.map_toArray, List.map_cons, List.map_nil]); first | done | rfl | (simp only [List.length_drop, List.length_take]; rfl)) ?_; (with_reducible refine (qanatref02_Pad.calls (bt a0 x3_1) true _ A6.out).mono ?_); rintro e w' ⟨rfl, ⟨nd, rfl⟩⟩; refine ⟨_, rfl, ?_⟩))
              go_roundg k1
              case measure => have := HK1.out; omega
              case rel => exact ⟨(wrap64 (x3_1 + 1)), (by first | rfl | (simp; done) | (simp [*]; done)), H', ⟨by have := HK1.out; omega⟩, by repeat (first | exact Drawn0.refl _ | apply Drawn0.step)⟩
            · replace c7 := Bool.eq_false_iff.mpr c7
              subst c7
              have H1 : (some false) = some r := by rw [if_neg (show ¬ (false = true) by decide)] at H; exact H
              clear H
              have H := H1
              clear H1
              obtain rfl := Option.some.inj H
              have p5 : 0 ≤ (x3_1 : Int) := of_decide_eq_true (by first | (with_reducible assumption) | assumption)
              have q5 : x3_1 < (a0.size : Int) := of_decide_eq_true (by first | (with_reducible assumption) | assumption)
              have hx5 := bt_at a0 x3_1
              replace p5 := eq_true p5
              replace q5 := eq_true q5
              go_wp2_with (first | ((with_reducible refine gate_callee (f := 98) rfl ?_); refine goesL_ (some 16) rfl rfl Tryz.func98 (by kernel_rfl) rfl #[.int .u8 (bt a0 x3_1)] rfl (by (try simp only [List.map_toArray, List.map_cons, List.map_nil]); first | done | rfl | (simp only [List.length_drop, List.length_take]; rfl)) ?_; (with_reducible refine (qanatref02_Pad.calls (bt a0 x3_1) false _ A6.out).mono ?_); rintro e w' ⟨rfl, ⟨nd, rfl⟩⟩; refine ⟨_, rfl, ?_⟩))
              go_ret
              exact ⟨by first | rfl | (simp; done) | (simp [*]; done), by repeat (first | exact Drawn0.refl _ | apply Drawn0.step)⟩
          · rw [if_neg c4] at H
            exact absurd H (by simp)
        · rw [if_neg c3] at H
          have c3b0 : decide (x3_1 < (a0.size : Int)) = false := decide_eq_false c3
          clear c3
          obtain rfl := Option.some.inj H
          go_wp2
          go_ret
          exact ⟨by first | rfl | (simp; done) | (simp [*]; done), by repeat (first | exact Drawn0.refl _ | apply Drawn0.step)⟩

/-! ### qanatref02_out: function 90 -/
def qanatref02_out.l0 : Nat → List Int → Int → Option (ByteArray × Int)
  | 0, _, _ => none
  | k + 1, x0, x3 => if x3 < (x0.length : Int) then (if 0 ≤ x3 then ((qanatref02_Pad.f (rd x0 x3)).bind fun t189 => (if t189 = true then (qanatref02_out.l0 k x0 (wrap64 (x3 + 1))) else (some ((⟨#[]⟩ : ByteArray), 8)))) else (none)) else (some (strOfNums x0, 0))
def qanatref02_out.f (k : Nat) (l0 : List Int) : Option (ByteArray × Int) := if (l0.length : Int) > 1000 then (some ((⟨#[]⟩ : ByteArray), 3)) else (qanatref02_out.l0 k l0 0)
theorem qanatref02_out.mono_l : ∀ k, (∀ y0 y1, LeO (qanatref02_out.l0 k y0 y1) (qanatref02_out.l0 (k + 1) y0 y1))
  | 0 => fun _ _ r h => by simp [qanatref02_out.l0] at h
  | k + 1 => by
    have ih0 := qanatref02_out.mono_l k
    · intro y0 y1
      unfold qanatref02_out.l0
      repeat' first
      | (with_reducible exact ih0 _ _)
      | (with_reducible exact LeO.refl _)
      | (with_reducible exact LeO.none _)
      | (with_reducible refine LeO.ite ?_ ?_)
      | (with_reducible refine LeO.bind ?_ (fun _ => ?_))
      | exact ih0 _ _
      | exact LeO.none _
      | refine LeO.ite ?_ ?_
      | refine LeO.bind ?_ (fun _ => ?_)
theorem qanatref02_out.mono : ∀ a0 k, LeO (qanatref02_out.f k a0) (qanatref02_out.f (k + 1) a0) := by
  intro a0 k
  have ih0 := qanatref02_out.mono_l k
  unfold qanatref02_out.f
  repeat' first
      | (with_reducible exact ih0 _ _)
      | (with_reducible exact LeO.refl _)
      | (with_reducible exact LeO.none _)
      | (with_reducible refine LeO.ite ?_ ?_)
      | (with_reducible refine LeO.bind ?_ (fun _ => ?_))
      | exact ih0 _ _
      | exact LeO.none _
      | refine LeO.ite ?_ ?_
      | refine LeO.bind ?_ (fun _ => ?_)
set_option maxHeartbeats 8000000 in
set_option maxRecDepth 100000 in
theorem qanatref02_out.calls (k : Nat) (A0 : Option Addr) (c0 : Nat) (l0 : List Int) (r1 : ByteArray) (r2 : Int) (w : World) (hr0 : Kd.C (Kd.int .u8) w A0 l0.length l0) (hc0 : l0.length ≤ c0) (h : qanatref02_out.f k l0 = some (r1, r2)) :
    Calls Tryz.prog 90 #[.slice A0 l0.length c0] w fun e w' => e = .returned (.agg #[.string r1, .int .i64 r2]) ∧ Below w.heap.size w w' := by
  have hu29 := Tryz.underlying29
  have HR0 := Aside0.mk hr0
  have HC0 := Aside0.mk hc0
  clear hr0 hc0
  have HB := Aside0.mk (Below.refl w.heap.size w)
  have H : (if (l0.length : Int) > 1000 then (some ((⟨#[]⟩ : ByteArray), 3)) else (qanatref02_out.l0 k l0 0)) = some (r1, r2) := h
  clear h
  by_cases c2 : (l0.length : Int) > 1000
  · rw [if_pos c2] at H
    have c2b0 : decide (1000 < (l0.length : Int)) = true := decide_eq_true c2
    have c2b1 : decide (1000 < l0.length) = true := decide_eq_true (by omega)
    clear c2
    simp only [Option.some.injEq, Prod.mk.injEq] at H
    obtain ⟨rfl, rfl⟩ := H
    go_enter Tryz.func90, Tryz.ntmps90
    go_wp2_with (first | ((with_reducible refine gate_dst (N := 2) rfl ?_); refine box_event ?hg (N := 2) ?hd (cs := #[.string (⟨#[]⟩ : ByteArray), .int .i64 0]) (t := 29) ?hr ?_; (case hd => rfl); (case hg => rfl); (case hr => first | (go_simp; done) | (go_simp; rfl)); intro gb187 hg w3 hbox hb; have n0_ := Aside0.mk (below_step (by repeat (first | (with_reducible first | exact HB.out | apply below_alloc | apply pw_below_drewN | apply below_drew1) | exact HB.out)) hb); have n1_ := Aside0.mk (hbox); have n2_ := Aside0.mk ((by rw [hg]; exact (below_size (by repeat (first | (with_reducible first | exact HB.out | apply below_alloc | apply pw_below_drewN | apply below_drew1) | exact HB.out))) : w.heap.size ≤ gb187)); have n3_ := Aside0.mk ((by rw [hg]; exact (below_size (by repeat (first | (with_reducible first | exact HB.out | apply below_alloc | apply pw_below_drewN | apply below_drew1) | exact HB.out))) : w.heap.size ≤ gb187)); clear HB; have HB := n0_; have BK187 := n1_; have GW187 := n2_; have GE187 := n3_; clear n0_ n1_ n2_ n3_; clear hb hbox hg; have hcz4_0 : w3.cell? ⟨gb187, 0, none⟩ = some (.string (⟨#[]⟩ : ByteArray)) := (blk_cell BK187.out 0).trans rfl; have hcz4_1 : w3.cell? ⟨gb187, 1, none⟩ = some (.int .i64 0) := (blk_cell BK187.out 1).trans rfl; have hfz4_0 := blk_frozen BK187.out 0; have hfz4_1 := blk_frozen BK187.out 1))
    refine bodyPost_ret (results_cell_row rfl _ _ gb187 29 #[.string (⟨#[]⟩ : ByteArray), .int .i64 3] (0, 0) _ rfl (by (with_reducible repeat (first | refine blk_drewN ?_ _ | refine blk_drew ?_ | refine blk_alloc ?_ _)); refine blk_put (cs := #[.string (⟨#[]⟩ : ByteArray), .int .i64 0]) ?_ 1 _ rfl; (with_reducible repeat (first | refine blk_drewN ?_ _ | refine blk_drew ?_ | refine blk_alloc ?_ _)); refine blk_put (cs := #[.string (⟨#[]⟩ : ByteArray), .int .i64 0]) ?_ 0 _ rfl; (with_reducible repeat (first | refine blk_drewN ?_ _ | refine blk_drew ?_ | refine blk_alloc ?_ _)); exact BK187.out) Tryz.underlying29 rfl (by kernel_rfl)) rfl ?_
    exact ⟨by first | rfl | (simp [errW_none, errW_some] <;> rfl) | (simp [*, errW_none, errW_some] <;> rfl), by repeat (first | (with_reducible first | exact HB.out | apply below_alloc | apply pw_below_drewN | apply below_drew1 | refine below_set ?_ GE187.out) | exact HB.out)⟩
  · rw [if_neg c2] at H
    have c2b0 : decide (1000 < (l0.length : Int)) = false := decide_eq_false c2
    have c2b1 : decide (1000 < l0.length) = false := decide_eq_false (by omega)
    clear c2
    have H' := Aside0.mk H
    clear H
    go_enter Tryz.func90, Tryz.ntmps90
    go_wp2_with (first | ((with_reducible refine gate_dst (N := 2) rfl ?_); refine box_event ?hg (N := 2) ?hd (cs := #[.string (⟨#[]⟩ : ByteArray), .int .i64 0]) (t := 29) ?hr ?_; (case hd => rfl); (case hg => rfl); (case hr => first | (go_simp; done) | (go_simp; rfl)); intro gb187 hg w5 hbox hb; have n0_ := Aside0.mk (below_step (by repeat (first | (with_reducible first | exact HB.out | apply below_alloc | apply pw_below_drewN | apply below_drew1) | exact HB.out)) hb); have n1_ := Aside0.mk (hbox); have n2_ := Aside0.mk ((by rw [hg]; exact (below_size (by repeat (first | (with_reducible first | exact HB.out | apply below_alloc | apply pw_below_drewN | apply below_drew1) | exact HB.out))) : w.heap.size ≤ gb187)); have n3_ := Aside0.mk ((by rw [hg]; exact (below_size (by repeat (first | (with_reducible first | exact HB.out | apply below_alloc | apply pw_below_drewN | apply below_drew1) | exact HB.out))) : w.heap.size ≤ gb187)); clear HB; have HB := n0_; have BK187 := n1_; have GW187 := n2_; have GE187 := n3_; clear n0_ n1_ n2_ n3_; clear hb hbox hg))
    go_loopg [3] k (fun kq v3 w' => ∃ (x3_1 : Int) (x188000_1 : ByteArray) (x188001_1 : Int), v3 = .int .i64 x3_1 ∧ Aside0 (qanatref02_out.l0 kq l0 x3_1 = some (r1, r2)) ∧ Aside0 (kq ≤ k) ∧ Aside0 (w'.heap[gb187]? = some (.cells #[.string x188000_1, .int .i64 x188001_1] 29 (0, 0))) ∧ Aside0 (Below w.heap.size w w'))
    case atStart => exact ⟨(0), ((⟨#[]⟩ : ByteArray)), (0), (by first | rfl | (simp; done) | (simp [*]; done)), H', ⟨Nat.le_refl _⟩, ⟨by (with_reducible repeat (first | refine blk_drewN ?_ _ | refine blk_drew ?_ | refine blk_alloc ?_ _)); exact BK187.out⟩, ⟨by repeat (first | (with_reducible first | exact HB.out | apply below_alloc | apply pw_below_drewN | apply below_drew1 | refine below_set ?_ GE187.out) | exact HB.out)⟩⟩
    case round =>
      clear H'
      try clear c2
      try clear c2b0
      try clear c2b1
      try clear p2
      try clear hcz4_0
      try clear hcz4_1
      try clear hfz4_0
      try clear hfz4_1
      obtain ⟨x3_1, x188000_1, x188001_1, rfl, HA, HK1, BK187, HB⟩ := hrel
      cases gk with
      | zero => exact absurd HA.out (by simp [qanatref02_out.l0])
      | succ k1 =>
        have H := HA.out
        clear HA
        simp only [qanatref02_out.l0] at H
        by_cases c6 : x3_1 < (l0.length : Int)
        · rw [if_pos c6] at H
          have c6b0 : decide (x3_1 < (l0.length : Int)) = true := decide_eq_true c6
          clear c6
          by_cases c7 : 0 ≤ x3_1
          · rw [if_pos c7] at H
            have c7b0 : decide (0 ≤ x3_1) = true := decide_eq_true c7
            clear c7
            replace H := Option.bind_eq_some_iff.mp H
            obtain ⟨t189, A80, H⟩ := H
            replace H : (if t189 = true then (qanatref02_out.l0 k1 l0 (wrap64 (x3_1 + 1))) else (some ((⟨#[]⟩ : ByteArray), 8))) = some (r1, r2) := H
            have A8 := Aside0.mk A80
            clear A80
            by_cases c9 : t189 = true
            · subst c9
              have H1 : (qanatref02_out.l0 k1 l0 (wrap64 (x3_1 + 1))) = some (r1, r2) := by rw [if_pos rfl] at H; exact H
              clear H
              have H := H1
              clear H1
              have H' := Aside0.mk H
              clear H
              have p188 : 0 ≤ (x3_1 : Int) := of_decide_eq_true (by first | (with_reducible assumption) | assumption)
              have q188 : x3_1 < (l0.length : Int) := of_decide_eq_true (by first | (with_reducible assumption) | assumption)
              obtain ⟨ad188, e188, hx188_0⟩ := Kd.at_int HR0.out x3_1 p188 q188
              cases e188
              replace hx188_0 := (HB.out.cell (World.block_lt_of_cell? w _ hx188_0)).trans hx188_0
              replace p188 := eq_true p188
              replace q188 := eq_true q188
              go_wp2_with (first | ((with_reducible refine gate_callee (f := 98) rfl ?_); refine goesL_ (some 18) rfl rfl Tryz.func98 (by kernel_rfl) rfl #[.int .u8 (rd l0 x3_1)] rfl (by (try simp only [List.map_toArray, List.map_cons, List.map_nil]); first | done | rfl | (simp only [List.length_drop, List.length_take]; rfl)) ?_; (with_reducible refine (qanatref02_Pad.calls (rd l0 x3_1) true _ A8.out).mono ?_); rintro e w' ⟨rfl, ⟨nd, rfl⟩⟩; refine ⟨_, rfl, ?_⟩))
              go_roundg k1
              case measure => have := HK1.out; omega
              case rel => exact ⟨(wrap64 (x3_1 + 1)), (x188000_1), (x188001_1), (by first | rfl | (simp; done) | (simp [*]; done)), H', ⟨by have := HK1.out; omega⟩, ⟨by (with_reducible repeat (first | refine blk_drewN ?_ _ | refine blk_drew ?_ | refine blk_alloc ?_ _)); exact BK187.out⟩, ⟨by repeat (first | (with_reducible first | exact HB.out | apply below_alloc | apply pw_below_drewN | apply below_drew1 | refine below_set ?_ GE187.out) | exact HB.out)⟩⟩
            · replace c9 := Bool.eq_false_iff.mpr c9
              subst c9
              have H1 : (some ((⟨#[]⟩ : ByteArray), 8)) = some (r1, r2) := by rw [if_neg (show ¬ (false = true) by decide)] at H; exact H
              clear H
              have H := H1
              clear H1
              simp only [Option.some.injEq, Prod.mk.injEq] at H
              obtain ⟨rfl, rfl⟩ := H
              have p188 : 0 ≤ (x3_1 : Int) := of_decide_eq_true (by first | (with_reducible assumption) | assumption)
              have q188 : x3_1 < (l0.length : Int) := of_decide_eq_true (by first | (with_reducible assumption) | assumption)
              obtain ⟨ad188, e188, hx188_0⟩ := Kd.at_int HR0.out x3_1 p188 q188
              cases e188
              replace hx188_0 := (HB.out.cell (World.block_lt_of_cell? w _ hx188_0)).trans hx188_0
              replace p188 := eq_true p188
              replace q188 := eq_true q188
              go_wp2_with (first | ((with_reducible refine gate_callee (f := 98) rfl ?_); refine goesL_ (some 18) rfl rfl Tryz.func98 (by kernel_rfl) rfl #[.int .u8 (rd l0 x3_1)] rfl (by (try simp only [List.map_toArray, List.map_cons, List.map_nil]); first | done | rfl | (simp only [List.length_drop, List.length_take]; rfl)) ?_; (with_reducible refine (qanatref02_Pad.calls (rd l0 x3_1) false _ A8.out).mono ?_); rintro e w' ⟨rfl, ⟨nd, rfl⟩⟩; refine ⟨_, rfl, ?_⟩; (try (rw [drewN_self wr]; generalize hq_ : World.drewN wr _ = wr; have n0_ : Aside0 (wr.heap[gb187]? = some (.cells #[.string x188000_1, .int .i64 x188001_1] 29 (0, 0))) := ⟨by rw [← hq_]; exact (by (with_reducible repeat (first | refine blk_drewN ?_ _ | refine blk_drew ?_ | refine blk_alloc ?_ _)); exact BK187.out)⟩; have n1_ : Aside0 (Below w.heap.size w wr) := ⟨by rw [← hq_]; exact (by repeat (first | (with_reducible first | exact HB.out | apply below_alloc | apply pw_below_drewN | apply below_drew1 | refine below_set ?_ GE187.out) | exact HB.out))⟩; clear BK187 HB hq_; have BK187 := n0_; have HB := n1_; clear n0_ n1_)); have hcz10_0 : wr.cell? ⟨gb187, 0, none⟩ = some (.string x188000_1) := (blk_cell BK187.out 0).trans rfl; have hcz10_1 : wr.cell? ⟨gb187, 1, none⟩ = some (.int .i64 x188001_1) := (blk_cell BK187.out 1).trans rfl; have hfz10_0 := blk_frozen BK187.out 0; have hfz10_1 := blk_frozen BK187.out 1))
              refine bodyPost_ret (results_cell_row rfl _ _ gb187 29 #[.string (⟨#[]⟩ : ByteArray), .int .i64 8] (0, 0) _ rfl (by (with_reducible repeat (first | refine blk_drewN ?_ _ | refine blk_drew ?_ | refine blk_alloc ?_ _)); refine blk_put (cs := #[.string (⟨#[]⟩ : ByteArray), .int .i64 x188001_1]) ?_ 1 _ rfl; (with_reducible repeat (first | refine blk_drewN ?_ _ | refine blk_drew ?_ | refine blk_alloc ?_ _)); refine blk_put (cs := #[.string x188000_1, .int .i64 x188001_1]) ?_ 0 _ rfl; (with_reducible repeat (first | refine blk_drewN ?_ _ | refine blk_drew ?_ | refine blk_alloc ?_ _)); exact BK187.out) Tryz.underlying29 rfl (by kernel_rfl)) rfl ?_
              exact ⟨by first | rfl | (simp [errW_none, errW_some] <;> rfl) | (simp [*, errW_none, errW_some] <;> rfl), by repeat (first | (with_reducible first | exact HB.out | apply below_alloc | apply pw_below_drewN | apply below_drew1 | refine below_set ?_ GE187.out) | exact HB.out)⟩
          · rw [if_neg c7] at H
            exact absurd H (by simp)
        · rw [if_neg c6] at H
          have c6b0 : decide (x3_1 < (l0.length : Int)) = false := decide_eq_false c6
          clear c6
          simp only [Option.some.injEq, Prod.mk.injEq] at H
          obtain ⟨rfl, rfl⟩ := H
          have hcv11 := Kd.C_string (P := Tryz.prog) (A := A0) (c := c0) Tryz.underlying83 Tryz.underlying5 Tryz.underlying9 (Kd.C_below HR0.out HB.out)
          have hcz12_0 : wr.cell? ⟨gb187, 0, none⟩ = some (.string x188000_1) := (blk_cell BK187.out 0).trans rfl
          have hcz12_1 : wr.cell? ⟨gb187, 1, none⟩ = some (.int .i64 x188001_1) := (blk_cell BK187.out 1).trans rfl
          have hfz12_0 := blk_frozen BK187.out 0
          have hfz12_1 := blk_frozen BK187.out 1
          go_wp2
          refine bodyPost_ret (results_cell_row rfl _ _ gb187 29 #[.string (strOfNums l0), .int .i64 0] (0, 0) _ rfl (by (with_reducible repeat (first | refine blk_drewN ?_ _ | refine blk_drew ?_ | refine blk_alloc ?_ _)); refine blk_put (cs := #[.string (strOfNums l0), .int .i64 x188001_1]) ?_ 1 _ rfl; (with_reducible repeat (first | refine blk_drewN ?_ _ | refine blk_drew ?_ | refine blk_alloc ?_ _)); refine blk_put (cs := #[.string x188000_1, .int .i64 x188001_1]) ?_ 0 _ rfl; (with_reducible repeat (first | refine blk_drewN ?_ _ | refine blk_drew ?_ | refine blk_alloc ?_ _)); exact BK187.out) Tryz.underlying29 rfl (by kernel_rfl)) rfl ?_
          exact ⟨by first | rfl | (simp [errW_none, errW_some] <;> rfl) | (simp [*, errW_none, errW_some] <;> rfl), by repeat (first | (with_reducible first | exact HB.out | apply below_alloc | apply pw_below_drewN | apply below_drew1 | refine below_set ?_ GE187.out) | exact HB.out)⟩

end Go.Proofs.YtlekfhnlhdmekaaGreatDoor.TP
namespace Go.Proofs.YtlekfhnlhdmekaaGreatDoor.T
set_option linter.unusedSimpArgs false
set_option linter.unusedVariables false
open Go.RowKit Go.Proofs.YtlekfhnlhdmekaaGreatDoorW.PrintWords Go.Proofs.YtlekfhnlhdmekaaGreatDoorW.PrintLast Go.Proofs.YtlekfhnlhdmekaaGreatDoorW.PrintMore

theorem pad_good (b : Int) : TP.qanatref02_Pad.f b = some (goodI b) := by
  unfold TP.qanatref02_Pad.f goodI
  by_cases h : b ≥ 32
  · rw [if_pos h]; simp [show (32 : Int) ≤ b from h]
  · rw [if_neg h]; simp [show ¬ (32 : Int) ≤ b from h]
theorem wrap64_id (x : Int) (h0 : -9223372036854775808 ≤ x) (h1 : x ≤ 9223372036854775807) : wrap64 x = x := by unfold wrap64; omega
theorem rd_nat (xs : List Int) (i : Nat) (hi : i < xs.length) : rd xs (i : Int) = xs[i] := by
  simp [rd, List.getD_eq_getElem?_getD, List.getElem?_eq_getElem hi]
theorem bt_nat (s : ByteArray) (i : Nat) (hi : i < (bytesOf s).length) : bt s (i : Int) = (bytesOf s)[i] := by
  rw [← rd_bytesOf, rd_nat]
theorem refValid_l0 (s : ByteArray) (hs : s.size ≤ 1000) : ∀ (k i : Nat), s.size - i < k → i ≤ s.size → TP.qanatref02_Valid.l0 k s i = some (((bytesOf s).drop i).all goodI)
  | 0, i, h, _ => absurd h (by omega)
  | k + 1, i, h, hi => by
    rw [TP.qanatref02_Valid.l0]
    by_cases hlt : i < s.size
    · have hl : i < (bytesOf s).length := by rw [bytesOf_length]; exact hlt
      rw [if_pos (by omega), if_pos (by omega), pad_good, bt_nat s i hl, List.drop_eq_getElem_cons hl]
      simp only [Option.bind_some, List.all_cons]
      by_cases hg : goodI (bytesOf s)[i] = true
      · rw [if_pos hg, hg, wrap64_id _ (by omega) (by omega)]
        have := refValid_l0 s hs k (i + 1) (by omega) (by omega)
        simpa using this
      · rw [if_neg hg]; simp at hg; simp [hg]
    · have hl : (bytesOf s).length ≤ i := by rw [bytesOf_length]; omega
      rw [if_neg (by omega), List.drop_eq_nil_of_le hl]
      rfl
theorem refOut_l0 (l : List Int) (hs : l.length ≤ 1000) : ∀ (k i : Nat), l.length - i < k → i ≤ l.length → TP.qanatref02_out.l0 k l i = some (if (l.drop i).all goodI = true then (strOfNums l, 0) else (⟨#[]⟩, 8))
  | 0, i, h, _ => absurd h (by omega)
  | k + 1, i, h, hi => by
    rw [TP.qanatref02_out.l0]
    by_cases hlt : i < l.length
    · rw [if_pos (by omega), if_pos (by omega), pad_good, rd_nat l i hlt, List.drop_eq_getElem_cons hlt]
      simp only [Option.bind_some]
      by_cases hg : goodI l[i] = true
      · have := refOut_l0 l hs k (i + 1) (by omega) (by omega)
        rw [if_pos hg, wrap64_id _ (by omega) (by omega), show ((i : Int) + 1) = ((i + 1 : Nat) : Int) by omega, this]
        simp only [List.all_cons, hg, Bool.true_and]
      · rw [if_neg hg, if_neg (fun hh => hg (by rw [List.all_cons, Bool.and_eq_true] at hh; exact hh.1))]
    · rw [if_neg (by omega), List.drop_eq_nil_of_le (by omega)]
      rfl
def qanatref02_Pad.f (a0 : Int) : Option Bool := some (goodI a0)
theorem qanatref02_Pad.calls (a0 : Int) (r : Bool) (w : World) (h : qanatref02_Pad.f a0 = some r) :
    Calls Tryz.prog 98 #[.int .u8 a0] w fun e w' => e = .returned (.bool r) ∧ Drawn0 w w' :=
  TP.qanatref02_Pad.calls a0 r w (by rw [pad_good]; exact h)
def qanatref02_Valid.f (a0 : ByteArray) : Option Bool := some (vld a0)
theorem qanatref02_Valid.calls (a0 : ByteArray) (r : Bool) (w : World) (h : qanatref02_Valid.f a0 = some r) :
    Calls Tryz.prog 89 #[.string a0] w fun e w' => e = .returned (.bool r) ∧ Drawn0 w w' := by
  obtain rfl := Option.some.inj h
  refine TP.qanatref02_Valid.calls 1002 a0 _ w ?_
  unfold TP.qanatref02_Valid.f vld
  by_cases hs : a0.size ≤ 1000
  · rw [if_neg (by omega)]
    have := refValid_l0 a0 hs 1002 0 (by omega) (by omega)
    simp only [List.drop_zero] at this
    rw [show ((0 : Nat) : Int) = 0 from rfl] at this
    rw [this]; simp [hs]
  · rw [if_pos (by omega)]; simp [hs]
def qanatref02_out.f (l0 : List Int) : Option (ByteArray × Int) := some (if l0.length > 1000 then (⟨#[]⟩, 3) else if l0.all goodI = true then (strOfNums l0, 0) else (⟨#[]⟩, 8))
theorem qanatref02_out.calls (A0 : Option Addr) (c0 : Nat) (l0 : List Int) (r1 : ByteArray) (r2 : Int) (w : World) (hr0 : Kd.C (Kd.int .u8) w A0 l0.length l0) (hc0 : l0.length ≤ c0) (h : qanatref02_out.f l0 = some (r1, r2)) :
    Calls Tryz.prog 90 #[.slice A0 l0.length c0] w fun e w' => e = .returned (.agg #[.string r1, .int .i64 r2]) ∧ Below w.heap.size w w' := by
  refine TP.qanatref02_out.calls 1002 A0 c0 l0 r1 r2 w hr0 hc0 ?_
  rw [← h]
  unfold TP.qanatref02_out.f qanatref02_out.f
  by_cases hs : l0.length ≤ 1000
  · rw [if_neg (by omega), if_neg (by omega)]
    have := refOut_l0 l0 hs 1002 0 (by omega) (by omega)
    simp only [List.drop_zero] at this
    exact this
  · rw [if_pos (by omega), if_pos (by omega)]
end Go.Proofs.YtlekfhnlhdmekaaGreatDoor.T

/- The examples that each law checks first are as they should be. And the reference's out is made. -/
namespace Go.Proofs.YtlekfhnlhdmekaaGreatDoor.T
set_option linter.unusedSimpArgs false
set_option linter.unusedVariables false
open Go.RowKit Go.Proofs.YtlekfhnlhdmekaaGreatDoorW.PrintWords Go.Proofs.YtlekfhnlhdmekaaGreatDoorW.PrintLast Go.Proofs.YtlekfhnlhdmekaaGreatDoorW.PrintMore
theorem head_60 : qanatlaw02_head.f 60 = some true := by kernel_rfl
theorem head_ok : ∀ d, qanatlaw02_head.f (60 + d) = some true
  | 0 => head_60
  | d + 1 => qanatlaw02_head.mono (60 + d) _ (head_ok d)
theorem strOfNums_size (L : List Int) : (strOfNums L).size = L.length := by
  rw [← data_length]
  simp [strOfNums]
theorem bytesOf_str (L : List Int) (h : ∀ x ∈ L, 0 ≤ x ∧ x < 256) : bytesOf (strOfNums L) = L := by
  unfold bytesOf strOfNums
  simp only [List.map_map]
  conv => rhs; rw [← List.map_id L]
  apply List.map_congr_left
  intro x hx
  obtain ⟨h0, h1⟩ := h x hx
  simp only [Function.comp_apply, id_eq, UInt8.toNat_ofNat']
  omega
theorem strOfNums_bytes (s : ByteArray) : strOfNums (bytesOf s) = s := by
  have e : ((bytesOf s).map fun n : Int => UInt8.ofNat n.toNat) = s.data.toList := by
    unfold bytesOf
    rw [List.map_map]
    conv => rhs; rw [← List.map_id s.data.toList]
    apply List.map_congr_left
    intro x hx
    simp
  unfold strOfNums
  rw [e]
theorem made_eq (s : ByteArray) : text_made.f s = some (if s.size > 1000 then (⟨#[]⟩, 3) else if vld s = true then (s, 0) else (⟨#[]⟩, 8)) := by
  unfold text_made.f text_Valid.f
  by_cases h : s.size > 1000
  · rw [if_pos (by omega), if_pos h]
  · rw [if_neg (by omega), if_neg h]
    simp only [Option.bind_some]
    split <;> rfl
theorem made_out (L : List Int) (h : ∀ x ∈ L, 0 ≤ x ∧ x < 256) : text_made.f (strOfNums L) = qanatref02_out.f L := by
  rw [made_eq, qanatref02_out.f, strOfNums_size]
  by_cases hl : L.length > 1000
  · rw [if_pos hl, if_pos hl]
  · rw [if_neg hl, if_neg hl]
    have e : vld (strOfNums L) = L.all goodI := by
      unfold vld
      rw [strOfNums_size, bytesOf_str L h, decide_eq_true (show L.length ≤ 1000 by omega), Bool.true_and]
    rw [e]
theorem u8_rng (z : Int) : 0 ≤ IntKind.u8.wrap z ∧ IntKind.u8.wrap z < 256 := by
  simp only [IntKind.wrap, IntKind.bits, IntKind.signed]
  simp
  omega
end Go.Proofs.YtlekfhnlhdmekaaGreatDoor.T

-- Written by a program of this session (mp.py over the kit's print.py), out of the translation.
namespace Go.Proofs.YtlekfhnlhdmekaaGreatDoor.T
set_option linter.unusedSimpArgs false
open Go.RowKit Go.Proofs.YtlekfhnlhdmekaaGreatDoorW.PrintWords Go.Proofs.YtlekfhnlhdmekaaGreatDoorW.PrintLast Go.Proofs.YtlekfhnlhdmekaaGreatDoorW.PrintMore
attribute [local go_sem] max2_int min2_int max_two min_two max_three min_three max_four min_four   -- for this text's walks alone
set_option linter.unusedVariables false
set_option linter.unusedSimpArgs false

/-! ### qanatref02_whole: function 102 -/
def qanatref02_whole.f (a0 : Int) (a1 : Int) (a2 : Bool) : Option (Bool) := if a0 ≥ a1 then (some true) else (if a2 = true then (some (a0 == (-1))) else (some false))
set_option maxHeartbeats 8000000 in
set_option maxRecDepth 100000 in
theorem qanatref02_whole.calls (a0 : Int) (a1 : Int) (a2 : Bool) (r : Bool) (w : World) (h : qanatref02_whole.f a0 a1 a2 = some r) :
    Calls Tryz.prog 102 #[.int .i64 a0, .int .i64 a1, .bool a2] w fun e w' => e = .returned (.bool r) ∧ Drawn0 w w' := by
  have H : (if a0 ≥ a1 then (some true) else (if a2 = true then (some (a0 == (-1))) else (some false))) = some r := h
  clear h
  by_cases c4 : a0 ≥ a1
  · rw [if_pos c4] at H
    have c4b0 : decide (a1 ≤ a0) = true := decide_eq_true c4
    clear c4
    obtain rfl := Option.some.inj H
    go_enter Tryz.func102, Tryz.ntmps102
    go_wp2
    go_ret
    exact ⟨by first | rfl | (simp; done) | (simp [*]; done), by repeat (first | exact Drawn0.refl _ | apply Drawn0.step)⟩
  · rw [if_neg c4] at H
    have c4b0 : decide (a1 ≤ a0) = false := decide_eq_false c4
    clear c4
    by_cases c5 : a2 = true
    · subst c5
      have H1 : (some (a0 == (-1))) = some r := by rw [if_pos rfl] at H; exact H
      clear H
      have H := H1
      clear H1
      obtain rfl := Option.some.inj H
      go_enter Tryz.func102, Tryz.ntmps102
      go_wp2
      go_ret
      exact ⟨by first | rfl | (simp; done) | (simp [*]; done), by repeat (first | exact Drawn0.refl _ | apply Drawn0.step)⟩
    · replace c5 := Bool.eq_false_iff.mpr c5
      subst c5
      have H1 : (some false) = some r := by rw [if_neg (show ¬ (false = true) by decide)] at H; exact H
      clear H
      have H := H1
      clear H1
      obtain rfl := Option.some.inj H
      go_enter Tryz.func102, Tryz.ntmps102
      go_wp2
      go_ret
      exact ⟨by first | rfl | (simp; done) | (simp [*]; done), by repeat (first | exact Drawn0.refl _ | apply Drawn0.step)⟩

end Go.Proofs.YtlekfhnlhdmekaaGreatDoor.T

-- Written by a program of this session (mp.py over the kit's print.py), out of the translation.
namespace Go.Proofs.YtlekfhnlhdmekaaGreatDoor.T
set_option linter.unusedSimpArgs false
open Go.RowKit Go.Proofs.YtlekfhnlhdmekaaGreatDoorW.PrintWords Go.Proofs.YtlekfhnlhdmekaaGreatDoorW.PrintLast Go.Proofs.YtlekfhnlhdmekaaGreatDoorW.PrintMore
attribute [local go_sem] max2_int min2_int max_two min_two max_three min_three max_four min_four   -- for this text's walks alone
set_option linter.unusedVariables false
set_option linter.unusedSimpArgs false

/-! ### qanatlaw02_num: function 34 -/
def qanatlaw02_num.f (a0 : Int) (a1 : Int) (a2_0 : Int) (a2_1 : Int) : Option (Bool) := if a0 = a2_0 then (some (a1 == a2_1)) else (some false)
set_option maxHeartbeats 8000000 in
set_option maxRecDepth 100000 in
theorem qanatlaw02_num.calls (a0 : Int) (a1 : Int) (a2_0 : Int) (a2_1 : Int) (r : Bool) (w : World) (h : qanatlaw02_num.f a0 a1 a2_0 a2_1 = some r) :
    Calls Tryz.prog 34 #[.int .i64 a0, .int .i64 a1, .agg #[.int .i64 a2_0, .int .i64 a2_1]] w fun e w' => e = .returned (.bool r) ∧ Below w.heap.size w w' := by
  have hu49 := Tryz.underlying49
  have HB := Aside0.mk (Below.refl w.heap.size w)
  have H : (if a0 = a2_0 then (some (a1 == a2_1)) else (some false)) = some r := h
  clear h
  by_cases c4 : a0 = a2_0
  · rw [if_pos c4] at H
    have c4b0 : (a0 == a2_0) = true := beq_iff_eq.mpr c4
    have c4b1 : (a0 != a2_0) = false := bne_eq_false_iff_eq.mpr c4
    clear c4
    obtain rfl := Option.some.inj H
    go_enter Tryz.func34, Tryz.ntmps34
    go_wp2_with (first | ((with_reducible refine gate_dst (N := 5) rfl ?_); refine box_event ?hg (N := 5) ?hd (cs := #[.int .i64 a2_0, .int .i64 a2_1]) (t := 49) ?hr ?_; (case hd => rfl); (case hg => rfl); (case hr => first | (go_simp; done) | (go_simp; rfl)); intro gb277 hg w5 hbox hb; have n0_ := Aside0.mk (below_step (by repeat (first | (with_reducible first | exact HB.out | apply below_alloc | apply pw_below_drewN | apply below_drew1) | exact HB.out)) hb); have n1_ := Aside0.mk (hbox); have n2_ := Aside0.mk ((by rw [hg]; exact (below_size (by repeat (first | (with_reducible first | exact HB.out | apply below_alloc | apply pw_below_drewN | apply below_drew1) | exact HB.out))) : w.heap.size ≤ gb277)); have n3_ := Aside0.mk ((by rw [hg]; exact (below_size (by repeat (first | (with_reducible first | exact HB.out | apply below_alloc | apply pw_below_drewN | apply below_drew1) | exact HB.out))) : w.heap.size ≤ gb277)); clear HB; have HB := n0_; have BK277 := n1_; have GW277 := n2_; have GE277 := n3_; clear n0_ n1_ n2_ n3_; clear hb hbox hg; have hcz6_0 : w5.cell? ⟨gb277, 0, none⟩ = some (.int .i64 a2_0) := (blk_cell BK277.out 0).trans rfl; have hcz6_1 : w5.cell? ⟨gb277, 1, none⟩ = some (.int .i64 a2_1) := (blk_cell BK277.out 1).trans rfl; have hfz6_0 := blk_frozen BK277.out 0; have hfz6_1 := blk_frozen BK277.out 1))
    go_ret
    exact ⟨by first | rfl | (simp [errW_none, errW_some] <;> rfl) | (simp [*, errW_none, errW_some] <;> rfl), by repeat (first | (with_reducible first | exact HB.out | apply below_alloc | apply pw_below_drewN | apply below_drew1 | refine below_set ?_ GE277.out) | exact HB.out)⟩
  · rw [if_neg c4] at H
    have c4b0 : (a0 == a2_0) = false := beq_eq_false_iff_ne.mpr c4
    have c4b1 : (a0 != a2_0) = true := bne_iff_ne.mpr c4
    obtain rfl := Option.some.inj H
    go_enter Tryz.func34, Tryz.ntmps34
    go_wp2_with (first | ((with_reducible refine gate_dst (N := 5) rfl ?_); refine box_event ?hg (N := 5) ?hd (cs := #[.int .i64 a2_0, .int .i64 a2_1]) (t := 49) ?hr ?_; (case hd => rfl); (case hg => rfl); (case hr => first | (go_simp; done) | (go_simp; rfl)); intro gb277 hg w7 hbox hb; have n0_ := Aside0.mk (below_step (by repeat (first | (with_reducible first | exact HB.out | apply below_alloc | apply pw_below_drewN | apply below_drew1) | exact HB.out)) hb); have n1_ := Aside0.mk (hbox); have n2_ := Aside0.mk ((by rw [hg]; exact (below_size (by repeat (first | (with_reducible first | exact HB.out | apply below_alloc | apply pw_below_drewN | apply below_drew1) | exact HB.out))) : w.heap.size ≤ gb277)); have n3_ := Aside0.mk ((by rw [hg]; exact (below_size (by repeat (first | (with_reducible first | exact HB.out | apply below_alloc | apply pw_below_drewN | apply below_drew1) | exact HB.out))) : w.heap.size ≤ gb277)); clear HB; have HB := n0_; have BK277 := n1_; have GW277 := n2_; have GE277 := n3_; clear n0_ n1_ n2_ n3_; clear hb hbox hg; have hcz8_0 : w7.cell? ⟨gb277, 0, none⟩ = some (.int .i64 a2_0) := (blk_cell BK277.out 0).trans rfl; have hcz8_1 : w7.cell? ⟨gb277, 1, none⟩ = some (.int .i64 a2_1) := (blk_cell BK277.out 1).trans rfl; have hfz8_0 := blk_frozen BK277.out 0; have hfz8_1 := blk_frozen BK277.out 1))
    go_ret
    exact ⟨by first | rfl | (simp [errW_none, errW_some] <;> rfl) | (simp [*, errW_none, errW_some] <;> rfl), by repeat (first | (with_reducible first | exact HB.out | apply below_alloc | apply pw_below_drewN | apply below_drew1 | refine below_set ?_ GE277.out) | exact HB.out)⟩

end Go.Proofs.YtlekfhnlhdmekaaGreatDoor.T

-- Written by a program of this session (mp.py over the kit's print.py), out of the translation.
namespace Go.Proofs.YtlekfhnlhdmekaaGreatDoor.T
set_option linter.unusedSimpArgs false
open Go.RowKit Go.Proofs.YtlekfhnlhdmekaaGreatDoorW.PrintWords Go.Proofs.YtlekfhnlhdmekaaGreatDoorW.PrintLast Go.Proofs.YtlekfhnlhdmekaaGreatDoorW.PrintMore
attribute [local go_sem] max2_int min2_int max_two min_two max_three min_three max_four min_four   -- for this text's walks alone
set_option linter.unusedVariables false
set_option linter.unusedSimpArgs false

/-! ### qanatlaw02_str: function 20 -/
def qanatlaw02_str.f (a0 : ByteArray) (a1 : Int) (a2_0 : ByteArray) (a2_1 : Int) : Option (Bool) := if a0.toList = a2_0.toList then (some (a1 == a2_1)) else (some false)
set_option maxHeartbeats 8000000 in
set_option maxRecDepth 100000 in
theorem qanatlaw02_str.calls (a0 : ByteArray) (a1 : Int) (a2_0 : ByteArray) (a2_1 : Int) (r : Bool) (w : World) (h : qanatlaw02_str.f a0 a1 a2_0 a2_1 = some r) :
    Calls Tryz.prog 20 #[.string a0, .int .i64 a1, .agg #[.string a2_0, .int .i64 a2_1]] w fun e w' => e = .returned (.bool r) ∧ Below w.heap.size w w' := by
  have hu29 := Tryz.underlying29
  have HB := Aside0.mk (Below.refl w.heap.size w)
  have H : (if a0.toList = a2_0.toList then (some (a1 == a2_1)) else (some false)) = some r := h
  clear h
  by_cases c4 : a0.toList = a2_0.toList
  · rw [if_pos c4] at H
    have c4b0 : (a0.toList == a2_0.toList) = true := beq_iff_eq.mpr c4
    have c4b1 : (a0.toList != a2_0.toList) = false := bne_eq_false_iff_eq.mpr c4
    clear c4
    obtain rfl := Option.some.inj H
    go_enter Tryz.func20, Tryz.ntmps20
    go_wp2_with (first | ((with_reducible refine gate_dst (N := 5) rfl ?_); refine box_event ?hg (N := 5) ?hd (cs := #[.string a2_0, .int .i64 a2_1]) (t := 29) ?hr ?_; (case hd => rfl); (case hg => rfl); (case hr => first | (go_simp; done) | (go_simp; rfl)); intro gb185 hg w5 hbox hb; have n0_ := Aside0.mk (below_step (by repeat (first | (with_reducible first | exact HB.out | apply below_alloc | apply pw_below_drewN | apply below_drew1) | exact HB.out)) hb); have n1_ := Aside0.mk (hbox); have n2_ := Aside0.mk ((by rw [hg]; exact (below_size (by repeat (first | (with_reducible first | exact HB.out | apply below_alloc | apply pw_below_drewN | apply below_drew1) | exact HB.out))) : w.heap.size ≤ gb185)); have n3_ := Aside0.mk ((by rw [hg]; exact (below_size (by repeat (first | (with_reducible first | exact HB.out | apply below_alloc | apply pw_below_drewN | apply below_drew1) | exact HB.out))) : w.heap.size ≤ gb185)); clear HB; have HB := n0_; have BK185 := n1_; have GW185 := n2_; have GE185 := n3_; clear n0_ n1_ n2_ n3_; clear hb hbox hg; have hcz6_0 : w5.cell? ⟨gb185, 0, none⟩ = some (.string a2_0) := (blk_cell BK185.out 0).trans rfl; have hcz6_1 : w5.cell? ⟨gb185, 1, none⟩ = some (.int .i64 a2_1) := (blk_cell BK185.out 1).trans rfl; have hfz6_0 := blk_frozen BK185.out 0; have hfz6_1 := blk_frozen BK185.out 1))
    go_ret
    exact ⟨by first | rfl | (simp [errW_none, errW_some] <;> rfl) | (simp [*, errW_none, errW_some] <;> rfl), by repeat (first | (with_reducible first | exact HB.out | apply below_alloc | apply pw_below_drewN | apply below_drew1 | refine below_set ?_ GE185.out) | exact HB.out)⟩
  · rw [if_neg c4] at H
    have c4b0 : (a0.toList == a2_0.toList) = false := beq_eq_false_iff_ne.mpr c4
    have c4b1 : (a0.toList != a2_0.toList) = true := bne_iff_ne.mpr c4
    obtain rfl := Option.some.inj H
    go_enter Tryz.func20, Tryz.ntmps20
    go_wp2_with (first | ((with_reducible refine gate_dst (N := 5) rfl ?_); refine box_event ?hg (N := 5) ?hd (cs := #[.string a2_0, .int .i64 a2_1]) (t := 29) ?hr ?_; (case hd => rfl); (case hg => rfl); (case hr => first | (go_simp; done) | (go_simp; rfl)); intro gb185 hg w7 hbox hb; have n0_ := Aside0.mk (below_step (by repeat (first | (with_reducible first | exact HB.out | apply below_alloc | apply pw_below_drewN | apply below_drew1) | exact HB.out)) hb); have n1_ := Aside0.mk (hbox); have n2_ := Aside0.mk ((by rw [hg]; exact (below_size (by repeat (first | (with_reducible first | exact HB.out | apply below_alloc | apply pw_below_drewN | apply below_drew1) | exact HB.out))) : w.heap.size ≤ gb185)); have n3_ := Aside0.mk ((by rw [hg]; exact (below_size (by repeat (first | (with_reducible first | exact HB.out | apply below_alloc | apply pw_below_drewN | apply below_drew1) | exact HB.out))) : w.heap.size ≤ gb185)); clear HB; have HB := n0_; have BK185 := n1_; have GW185 := n2_; have GE185 := n3_; clear n0_ n1_ n2_ n3_; clear hb hbox hg; have hcz8_0 : w7.cell? ⟨gb185, 0, none⟩ = some (.string a2_0) := (blk_cell BK185.out 0).trans rfl; have hcz8_1 : w7.cell? ⟨gb185, 1, none⟩ = some (.int .i64 a2_1) := (blk_cell BK185.out 1).trans rfl; have hfz8_0 := blk_frozen BK185.out 0; have hfz8_1 := blk_frozen BK185.out 1))
    go_ret
    exact ⟨by first | rfl | (simp [errW_none, errW_some] <;> rfl) | (simp [*, errW_none, errW_some] <;> rfl), by repeat (first | (with_reducible first | exact HB.out | apply below_alloc | apply pw_below_drewN | apply below_drew1 | refine below_set ?_ GE185.out) | exact HB.out)⟩

end Go.Proofs.YtlekfhnlhdmekaaGreatDoor.T

/- Small laws that the pure laws share. -/
namespace Go.Proofs.YtlekfhnlhdmekaaGreatDoor.T
set_option linter.unusedSimpArgs false
set_option linter.unusedVariables false
open Go.RowKit Go.Proofs.YtlekfhnlhdmekaaGreatDoorW.PrintWords Go.Proofs.YtlekfhnlhdmekaaGreatDoorW.PrintLast Go.Proofs.YtlekfhnlhdmekaaGreatDoorW.PrintMore
namespace B
theorem str_eq (s : ByteArray) (e : Int) : qanatlaw02_str.f s e s e = some true := by
  unfold qanatlaw02_str.f
  rw [if_pos rfl]
  simp
theorem num_eq (n e : Int) : qanatlaw02_num.f n e n e = some true := by
  unfold qanatlaw02_num.f
  rw [if_pos rfl]
  simp
theorem i64 {x : Int} (h : (Lit.int .i64 x).wf = true) : -9223372036854775808 ≤ x ∧ x ≤ 9223372036854775807 := by
  simp [Lit.wf, IntKind.min, IntKind.max, IntKind.bits, IntKind.signed] at h
  omega
theorem size {s : ByteArray} (h : vld s = true) : s.size ≤ 1000 := by
  simp [vld] at h; exact h.1
theorem all {s : ByteArray} (h : vld s = true) : ∀ x ∈ bytesOf s, goodI x = true := by
  simp only [vld, Bool.and_eq_true, List.all_eq_true] at h
  exact h.2
theorem mk {s : ByteArray} (h1 : s.size ≤ 1000) (h2 : ∀ x ∈ bytesOf s, goodI x = true) : vld s = true := by
  simp only [vld, Bool.and_eq_true, List.all_eq_true, decide_eq_true_eq]
  exact ⟨h1, h2⟩
theorem good (x : Int) : goodI x = true ↔ 32 ≤ x ∧ x ≤ 126 := by simp [goodI]
theorem valid1 (s : ByteArray) : text_valid.f [s] = some (if vld s = true then 0 else 1) := by
  unfold text_valid.f
  by_cases h : vld s = true <;> simp [h]
theorem valid2 (s t : ByteArray) : text_valid.f [s, t] = some (if vld s = true ∧ vld t = true then 0 else 1) := by
  unfold text_valid.f
  by_cases h : vld s = true <;> by_cases h' : vld t = true <;> simp [h, h']
theorem valid3 (s t u : ByteArray) : text_valid.f [s, t, u] = some (if vld s = true ∧ vld t = true ∧ vld u = true then 0 else 1) := by
  unfold text_valid.f
  by_cases h : vld s = true <;> by_cases h' : vld t = true <;> by_cases h'' : vld u = true <;> simp [h, h', h'']
theorem pads1 (p : Int) : text_pads.f [p] = some (if goodI p = true then 0 else 1) := by
  unfold text_pads.f
  by_cases h : goodI p = true <;> simp [h]
theorem least1 (n x : Int) : text_least.f n [x] = some (if n ≤ x then 0 else 1) := by
  unfold text_least.f
  by_cases h : n ≤ x <;> simp [h]
theorem first2 (b c : Prop) [Decidable b] [Decidable c] : text_first.f [if b then 0 else 1, if c then 0 else 1] = some (if b ∧ c then 0 else 1) := by
  by_cases h1 : b <;> by_cases h2 : c <;> simp [h1, h2] <;> rfl
theorem first3 (b c d : Prop) [Decidable b] [Decidable c] [Decidable d] : text_first.f [if b then 0 else 1, if c then 0 else 1, if d then 0 else 1] = some (if b ∧ c ∧ d then 0 else 1) := by
  by_cases h1 : b <;> by_cases h2 : c <;> by_cases h3 : d <;> simp [h1, h2, h3] <;> rfl
theorem first4 (b c d e : Prop) [Decidable b] [Decidable c] [Decidable d] [Decidable e] : text_first.f [if b then 0 else 1, if c then 0 else 1, if d then 0 else 1, if e then 0 else 1] = some (if b ∧ c ∧ d ∧ e then 0 else 1) := by
  by_cases h1 : b <;> by_cases h2 : c <;> by_cases h3 : d <;> by_cases h4 : e <;> simp [h1, h2, h3, h4] <;> rfl
theorem whole (n lo : Int) : qanatref02_whole.f n lo false = some (decide (lo ≤ n)) := by
  unfold qanatref02_whole.f
  by_cases h : lo ≤ n
  · rw [if_pos (by omega)]; simp [h]
  · rw [if_neg (by omega)]; simp [h]
theorem wholeM (n : Int) : qanatref02_whole.f n 0 true = some (decide (-1 ≤ n)) := by
  unfold qanatref02_whole.f
  by_cases h : 0 ≤ n
  · rw [if_pos (by omega)]; simp; omega
  · rw [if_neg (by omega), if_pos rfl]
    by_cases e : n = -1
    · subst e; rfl
    · rw [show (n == -1) = false from beq_eq_false_iff_ne.mpr e, show decide (-1 ≤ n) = false from decide_eq_false (by omega)]
theorem toL (s : ByteArray) : s.toList = s.data.toList := Lib.toList_data s
theorem ext {a b : ByteArray} (h : a.data.toList = b.data.toList) : a = b := by
  apply ByteArray.ext
  exact Array.toList_inj.1 h
theorem sz (s : ByteArray) : s.size = s.data.toList.length := (data_length s).symm
theorem extract (s : ByteArray) (i j : Nat) : (s.extract i j).data.toList = (s.data.toList.drop i).take (j - i) := by
  rw [ByteArray.data_extract, Array.toList_extract, List.extract_eq_take_drop]
theorem append (a b : ByteArray) : (a ++ b).data.toList = a.data.toList ++ b.data.toList := by
  rw [ByteArray.data_append, Array.toList_append]
theorem vldA {a b : ByteArray} (ha : ∀ x ∈ bytesOf a, goodI x = true) (hb : ∀ x ∈ bytesOf b, goodI x = true) (h : (a ++ b).size ≤ 1000) : vld (a ++ b) = true := by
  refine mk h (fun x hx => ?_)
  unfold bytesOf at hx
  rw [append, List.map_append] at hx
  exact (List.mem_append.1 hx).elim (ha x) (hb x)
theorem vldE {a : ByteArray} (i j : Nat) (h : vld a = true) : vld (a.extract i j) = true := by
  refine mk ?_ (fun x hx => ?_)
  · have := size h; rw [ByteArray.size_extract]; omega
  · refine all h x ?_
    unfold bytesOf at hx ⊢
    rw [extract] at hx
    obtain ⟨b, hb, rfl⟩ := List.mem_map.1 hx
    exact List.mem_map.2 ⟨b, List.mem_of_mem_drop (List.mem_of_mem_take hb), rfl⟩
theorem made (s : ByteArray) (h : vld s = true) : text_made.f s = some (s, 0) := by
  rw [made_eq, if_neg (by have := size h; omega), if_pos h]
end B
end Go.Proofs.YtlekfhnlhdmekaaGreatDoor.T

/- Where a string stands in another one: plain laws on the program's find, Count, Change and LastPos. -/
namespace Go.Proofs.YtlekfhnlhdmekaaGreatDoor.T
set_option linter.unusedSimpArgs false
set_option linter.unusedVariables false
open Go.RowKit Go.Proofs.YtlekfhnlhdmekaaGreatDoorW.PrintWords Go.Proofs.YtlekfhnlhdmekaaGreatDoorW.PrintLast Go.Proofs.YtlekfhnlhdmekaaGreatDoorW.PrintMore
namespace Oc
/-- a stands in s at i. -/
def st (a s : ByteArray) (i : Nat) : Prop := i + a.size ≤ s.size ∧ (s.extract i (i + a.size)).toList = a.toList
theorem fnd_hit (a s : ByteArray) (i : Nat) (hp : 0 < a.size) (h : st a s i) : fnd a s i = (i : Int) := by rw [fnd, dif_pos ⟨h.1, hp⟩, if_pos h.2]
theorem fnd_miss (a s : ByteArray) (i : Nat) (hp : 0 < a.size) (h1 : i + a.size ≤ s.size) (h : ¬ st a s i) : fnd a s i = fnd a s (i + 1) := by
  rw [fnd, dif_pos ⟨h1, hp⟩, if_neg (fun h2 => h ⟨h1, h2⟩)]
theorem fnd_out (a s : ByteArray) (i : Nat) (h1 : ¬ (i + a.size ≤ s.size ∧ 0 < a.size)) : fnd a s i = -1 := by rw [fnd, dif_neg h1]
/-- What fnd finds is the first place. -/
theorem fnd_spec (a s : ByteArray) (i : Nat) (hp : 0 < a.size) : (fnd a s i = -1 ∧ ∀ j, i ≤ j → ¬ st a s j) ∨ (∃ q : Nat, fnd a s i = (q : Int) ∧ i ≤ q ∧ st a s q ∧ ∀ j, i ≤ j → j < q → ¬ st a s j) := by
  by_cases h1 : i + a.size ≤ s.size
  · by_cases h : st a s i
    · exact .inr ⟨i, fnd_hit a s i hp h, Nat.le_refl _, h, fun j h2 h3 => by omega⟩
    · rw [fnd_miss a s i hp h1 h]
      rcases fnd_spec a s (i + 1) hp with ⟨h2, h3⟩ | ⟨q, h2, h3, h4, h5⟩
      · refine .inl ⟨h2, fun j hj => ?_⟩
        by_cases e : i = j
        · subst e; exact h
        · exact h3 j (by omega)
      · refine .inr ⟨q, h2, by omega, h4, fun j hj hq => ?_⟩
        by_cases e : i = j
        · subst e; exact h
        · exact h5 j (by omega) hq
  · exact .inl ⟨fnd_out a s i (fun h => h1 h.1), fun j hj h => h1 (by have := h.1; omega)⟩
termination_by s.size - i
theorem find_eq (a s : ByteArray) (n : Int) (ha : a.size ≤ 100000) (hs : s.size ≤ 100000) (h0 : 0 ≤ n) : text_find.f a s n = some (fnd a s n.toNat) := by
  unfold text_find.f
  rw [if_pos ⟨ha, hs, h0⟩]
  by_cases he : a.size = 0
  · rw [if_pos he, fnd_out a s _ (by omega)]
  · rw [if_neg he]
    by_cases hc : n ≤ (s.size : Int)
    · rw [if_pos hc]
    · rw [if_neg hc, fnd_out a s s.size (by omega), fnd_out a s n.toNat (by omega)]
theorem isP (a s : ByteArray) (i : Nat) (hp : 0 < a.size) : Lib.occAt s.data.toList a.data.toList i = true ↔ st a s i := by
  unfold Lib.occAt st
  rw [List.isPrefixOf_iff_prefix, List.prefix_iff_eq_take, B.toL, B.toL, B.extract, show i + a.size - i = a.size by omega, ← B.sz a]
  constructor
  · intro h
    refine ⟨?_, h.symm⟩
    have := congrArg List.length h
    rw [List.length_take, List.length_drop, ← B.sz, ← B.sz] at this
    omega
  · intro h; exact h.2.symm
theorem pos_eq (a s : ByteArray) (n : Int) (ha : a.size ≤ 1200) (hs : s.size ≤ 1200) (hn : n ≤ 9223372036854775807) : text_Pos.f a s n = some (if (vld a = true ∧ vld s = true) ∧ 1 ≤ n then (fnd a s (n - 1).toNat + 1, 0) else (0, 1)) := by
  unfold text_Pos.f
  simp only [B.valid2, B.least1, Option.bind_some, B.first2]
  by_cases h : (vld a = true ∧ vld s = true) ∧ 1 ≤ n
  · have h1 := h.2
    have hg := fnd_ge a s (n - 1).toNat
    have hl := fnd_lo a s (n - 1).toNat
    rw [if_pos h, if_pos rfl, if_pos h, wrap64_id _ (by omega) (by omega), find_eq a s _ (by omega) (by omega) (by omega)]
    simp only [Option.bind_some]
    rw [wrap64_id _ (by omega) (by
      by_cases h0 : 0 ≤ fnd a s (n - 1).toNat
      · have := hl h0; omega
      · omega)]
  · rw [if_neg h, if_neg (by decide), if_neg h]
theorem empty_eq (a : ByteArray) : a.toList = [] ↔ a.size = 0 := by
  rw [B.toL, B.sz]
  exact ⟨fun h => by rw [h]; rfl, fun h => List.eq_nil_of_length_eq_zero h⟩
/-- The string up to a start that may be missing. -/
def upto (s : ByteArray) (n : Int) : ByteArray := if n = -1 then s else s.extract 0 (mn n s.size).toNat
theorem upto_size (s : ByteArray) (n : Int) : (upto s n).size ≤ s.size := by
  unfold upto
  split
  · exact Nat.le_refl _
  · rw [ByteArray.size_extract]; omega
theorem lastpos_eq (a s : ByteArray) (n : Int) (ha : a.size ≤ 1200) (hs : s.size ≤ 1200) (k : Nat) : text_LastPos.f (k + 1) a s n = some (if (vld a = true ∧ vld s = true) ∧ (n = -1 ∨ 1 ≤ n) then ((if a.size = 0 then 0 else Lib.lastIndex (upto s n).data.toList a.data.toList + 1), 0) else (0, 1)) := by
  have hj : ∀ q : Bool, q = true → text_LastPos.j0 (k + 1) a s n q = some (0, 1) := fun q hq => by rw [text_LastPos.j0, if_pos hq]
  unfold text_LastPos.f
  simp only [B.valid2, B.least1, Option.bind_some, B.first2]
  have hli : ∀ t : ByteArray, t.size ≤ 1200 → wrap64 (Lib.lastIndex t.data.toList a.data.toList + 1) = Lib.lastIndex t.data.toList a.data.toList + 1 := by
    intro t ht
    have hb : -1 ≤ Lib.lastIndex t.data.toList a.data.toList ∧ Lib.lastIndex t.data.toList a.data.toList ≤ 100000 := by
      unfold Lib.lastIndex
      split
      · rcases Lib.lastOcc_spec t.data.toList a.data.toList (t.data.toList.length - a.data.toList.length + 1) with ⟨e, _⟩ | ⟨i, hi, e, _⟩
        · rw [e]; decide
        · rw [← B.sz] at hi; rw [e]; omega
      · decide
    exact wrap64_id _ (by omega) (by omega)
  by_cases h : (vld a = true ∧ vld s = true) ∧ -1 ≤ n
  · rw [if_pos h, if_pos rfl]
    by_cases h0 : n = 0
    · rw [if_neg (by omega), hj _ (by rw [h0]; rfl)]
    · rw [if_pos ⟨h.1, by omega⟩, show (n == 0) = false from beq_eq_false_iff_ne.mpr h0, text_LastPos.j0, if_neg (by decide)]
      have hu := upto_size s n
      by_cases hm : n = -1
      · rw [if_pos hm]
        by_cases he : a.size = 0
        · rw [if_pos ((empty_eq a).2 he), if_pos he]
        · rw [if_neg (fun h => he ((empty_eq a).1 h)), if_neg he]
          unfold strings_LastIndex.f
          rw [if_pos (by omega)]
          simp only [Option.bind_some]
          rw [hli s hs]
          unfold upto
          rw [if_pos hm]
      · have e1 : 0 ≤ mn n (s.size : Int) := by unfold mn; split <;> omega
        have e2 : mn n (s.size : Int) ≤ (s.size : Int) := by unfold mn; split <;> omega
        rw [if_neg hm, if_pos e1, if_pos e2]
        by_cases he : a.size = 0
        · rw [if_pos ((empty_eq a).2 he), if_pos he]
        · rw [if_neg (fun h => he ((empty_eq a).1 h)), if_neg he]
          have eu : upto s n = s.extract 0 (mn n (s.size : Int)).toNat := by unfold upto; rw [if_neg hm]
          rw [← eu]
          unfold strings_LastIndex.f
          rw [if_pos (by omega)]
          simp only [Option.bind_some]
          rw [hli _ (by omega)]
  · rw [if_neg h, if_neg (by decide), if_neg (fun h2 => h ⟨h2.1, by omega⟩), hj _ rfl]
theorem count_eq (a s : ByteArray) (ha : a.size ≤ 1200) (hs : s.size ≤ 1200) : text_Count.f a s = some (if vld a = true ∧ vld s = true then (((occ a s 0).length : Int), 0) else (0, 1)) := by
  unfold text_Count.f
  rw [if_pos ⟨by omega, by omega⟩]
  split <;> rfl
/-- What Change makes from an offset on. -/
def rest (a s w : ByteArray) (e : Nat) : List UInt8 := (chgGo s.data.toList w.data.toList a.size e (occ a s e)).1 ++ s.data.toList.drop (chgGo s.data.toList w.data.toList a.size e (occ a s e)).2
theorem rest_out (a s w : ByteArray) (e : Nat) (h : ¬ 0 ≤ fnd a s e) : rest a s w e = s.data.toList.drop e := by
  unfold rest
  rw [occ, dif_neg h]
  simp [chgGo]
theorem rest_hit (a s w : ByteArray) (e q : Nat) (h : fnd a s e = (q : Int)) : rest a s w e = (s.data.toList.drop e).take (q - e) ++ w.data.toList ++ rest a s w (q + a.size) := by
  have e1 : occ a s e = (q : Int) :: occ a s (q + a.size) := by rw [occ, dif_pos (by omega), h]; simp
  unfold rest
  rw [e1]
  simp only [chgGo, Int.toNat_natCast, List.append_assoc]
theorem change_eq (a s w : ByteArray) (ha : a.size ≤ 1200) (hs : s.size ≤ 1200) (hw : w.size ≤ 1200) : text_Change.f a s w = if vld a = true ∧ vld s = true ∧ vld w = true then text_made.f ⟨(rest a s w 0).toArray⟩ else some (⟨#[]⟩, 1) := by
  unfold text_Change.f
  rw [if_pos ⟨by omega, by omega, by omega⟩]
  rfl
end Oc
end Go.Proofs.YtlekfhnlhdmekaaGreatDoor.T

/- The law TextOccurs: the first place, the last place, the number of places, and what Change makes of them. -/
namespace Go.Proofs.YtlekfhnlhdmekaaGreatDoor.T
set_option linter.unusedSimpArgs false
set_option linter.unusedVariables false
open Go.RowKit Go.Proofs.YtlekfhnlhdmekaaGreatDoorW.PrintWords Go.Proofs.YtlekfhnlhdmekaaGreatDoorW.PrintLast Go.Proofs.YtlekfhnlhdmekaaGreatDoorW.PrintMore
namespace Oo
open Oc
/-- Reversed. -/
def rv (s : ByteArray) : ByteArray := strOfNums (bytesOf s).reverse
theorem rv_list (s : ByteArray) : (rv s).data.toList = s.data.toList.reverse := by
  unfold rv strOfNums bytesOf
  simp only [← List.map_reverse, List.map_map]
  conv => rhs; rw [← List.map_id s.data.toList.reverse]
  apply List.map_congr_left
  intro x _
  simp
theorem rv_size (s : ByteArray) : (rv s).size = s.size := by rw [B.sz, rv_list, List.length_reverse, ← B.sz]
theorem rv_vld (s : ByteArray) (h : vld s = true) : vld (rv s) = true := by
  refine B.mk (by rw [rv_size]; exact B.size h) (fun x hx => B.all h x ?_)
  unfold bytesOf at hx ⊢
  rw [rv_list, List.map_reverse] at hx
  exact List.mem_reverse.1 hx
theorem rev_eq (s : ByteArray) (h : vld s = true) : text_Reverse.f s = some (rv s, 0) := by
  unfold text_Reverse.f
  have := B.size h
  rw [if_pos (by omega), if_pos h]
  rfl
theorem st_list (a s : ByteArray) (i : Nat) : st a s i ↔ i + a.size ≤ s.size ∧ (s.data.toList.drop i).take a.size = a.data.toList := by
  unfold st
  rw [B.toL, B.toL, B.extract, show i + a.size - i = a.size by omega]
theorem st_rv (a s : ByteArray) (i j : Nat) (h : i + j + a.size = s.size) : st (rv a) (rv s) j ↔ st a s i := by
  rw [st_list, st_list, rv_size, rv_size, rv_list, rv_list]
  have hl : s.data.toList.length = s.size := (B.sz s).symm
  have e : (s.data.toList.reverse.drop j).take a.size = ((s.data.toList.drop i).take a.size).reverse := by
    rw [List.drop_reverse, List.take_reverse, List.drop_take, hl, List.length_take, hl]
    congr 2
    · omega
    · congr 1; omega
  rw [e, List.reverse_inj]
  constructor
  · intro q; exact ⟨by omega, q.2⟩
  · intro q; exact ⟨by omega, q.2⟩
/-- The last place is the place found in the reversed strings. -/
theorem last_rv (a s : ByteArray) (hp : 0 < a.size) : Lib.lastIndex s.data.toList a.data.toList = (if fnd (rv a) (rv s) 0 = -1 then -1 else (s.size : Int) - a.size - fnd (rv a) (rv s) 0) := by
  have hl : s.data.toList.length = s.size := (B.sz s).symm
  have ha : a.data.toList.length = a.size := (B.sz a).symm
  have hf := fnd_spec (rv a) (rv s) 0 (by rw [rv_size]; exact hp)
  have no : ∀ i, Lib.occAt s.data.toList a.data.toList i = false → ¬ st a s i := fun i h h2 => by rw [(isP a s i hp).2 h2] at h; cases h
  unfold Lib.lastIndex
  rw [hl, ha]
  split
  · rename_i hle
    rcases Lib.lastOcc_spec s.data.toList a.data.toList (s.size - a.size + 1) with ⟨e, hn⟩ | ⟨i, hi, e, ho, hn⟩
    · rw [e]
      rcases hf with ⟨f1, f2⟩ | ⟨q, f1, f2, f3, f4⟩
      · rw [if_pos f1]
      · exfalso
        have hq := f3.1
        rw [rv_size, rv_size] at hq
        exact no (s.size - a.size - q) (hn _ (by omega)) ((st_rv a s (s.size - a.size - q) q (by omega)).1 f3)
    · rw [e]
      have h1 : st (rv a) (rv s) (s.size - a.size - i) := (st_rv a s i (s.size - a.size - i) (by omega)).2 ((isP a s i hp).1 ho)
      rcases hf with ⟨f1, f2⟩ | ⟨q, f1, f2, f3, f4⟩
      · exact absurd h1 (f2 _ (by omega))
      · have hq := f3.1
        rw [rv_size, rv_size] at hq
        have c1 : ¬ s.size - a.size - i < q := fun c => f4 _ (by omega) c h1
        have c2 : ¬ i < s.size - a.size - q := fun c => no (s.size - a.size - q) (hn _ c (by omega)) ((st_rv a s (s.size - a.size - q) q (by omega)).1 f3)
        rw [f1, if_neg (by omega)]
        omega
  · rename_i hle
    rcases hf with ⟨f1, f2⟩ | ⟨q, f1, f2, f3, f4⟩
    · rw [if_pos f1]
    · have hq := f3.1
      rw [rv_size, rv_size] at hq
      omega
theorem fnd_cases (a s : ByteArray) (e : Nat) : (¬ 0 ≤ fnd a s e) ∨ ∃ q : Nat, fnd a s e = (q : Int) ∧ e ≤ q ∧ st a s q ∧ 0 < a.size ∧ occ a s e = (q : Int) :: occ a s (q + a.size) := by
  by_cases hp : 0 < a.size
  · rcases fnd_spec a s e hp with ⟨f1, _⟩ | ⟨q, f1, f2, f3, _⟩
    · exact .inl (by omega)
    · refine .inr ⟨q, f1, f2, f3, hp, ?_⟩
      rw [occ, dif_pos (by omega), f1]
      simp
  · refine .inl ?_
    rw [fnd_out a s e (by omega)]
    decide
theorem occ_nil (a s : ByteArray) (e : Nat) (h : ¬ 0 ≤ fnd a s e) : occ a s e = [] := by rw [occ, dif_neg h]
theorem occ_len (a s : ByteArray) (e : Nat) (he : e ≤ s.size) : (occ a s e).length ≤ s.size - e := by
  rcases fnd_cases a s e with h | ⟨q, f1, f2, f3, hp, f4⟩
  · rw [occ_nil a s e h]; exact Nat.zero_le _
  · have hq := f3.1
    have := occ_len a s (q + a.size) hq
    rw [f4, List.length_cons]
    omega
termination_by s.size - e
theorem rest_len (a s w : ByteArray) (e : Nat) (he : e ≤ s.size) : ((rest a s w e).length : Int) = (s.size : Int) - e + ((occ a s e).length : Int) * ((w.size : Int) - a.size) := by
  rcases fnd_cases a s e with h | ⟨q, f1, f2, f3, hp, f4⟩
  · rw [occ_nil a s e h, rest_out a s w e h, List.length_drop, ← B.sz]
    simp
    omega
  · have hq := f3.1
    have ih := rest_len a s w (q + a.size) hq
    rw [rest_hit a s w e q f1, f4, List.length_append, List.length_append, List.length_take, List.length_drop, ← B.sz, ← B.sz, List.length_cons]
    have e1 : (((occ a s (q + a.size)).length + 1 : Nat) : Int) * ((w.size : Int) - a.size) = ((occ a s (q + a.size)).length : Int) * ((w.size : Int) - a.size) + ((w.size : Int) - a.size) := by
      rw [Int.natCast_add, Int.add_mul]; simp
    rw [e1]
    generalize ((occ a s (q + a.size)).length : Int) * ((w.size : Int) - a.size) = X at *
    generalize (rest a s w (q + a.size)).length = Y at *
    omega
termination_by s.size - e
theorem rest_same (a s : ByteArray) (e : Nat) (he : e ≤ s.size) : rest a s a e = s.data.toList.drop e := by
  rcases fnd_cases a s e with h | ⟨q, f1, f2, f3, hp, f4⟩
  · exact rest_out a s a e h
  · have hq := f3.1
    have ih := rest_same a s (q + a.size) hq
    rw [rest_hit a s a e q f1, ih]
    conv => rhs; rw [← List.take_append_drop (q - e) (s.data.toList.drop e), List.drop_drop, show e + (q - e) = q by omega, ← List.take_append_drop a.size (s.data.toList.drop q), List.drop_drop, ((st_list a s q).1 f3).2]
    rw [List.append_assoc]
termination_by s.size - e
theorem rest_mem (a s w : ByteArray) (e : Nat) (he : e ≤ s.size) : ∀ x ∈ rest a s w e, x ∈ s.data.toList ∨ x ∈ w.data.toList := by
  rcases fnd_cases a s e with h | ⟨q, f1, f2, f3, hp, f4⟩
  · rw [rest_out a s w e h]; exact fun x hx => .inl (List.mem_of_mem_drop hx)
  · have hq := f3.1
    have ih := rest_mem a s w (q + a.size) hq
    rw [rest_hit a s w e q f1]
    intro x hx
    rcases List.mem_append.1 hx with h | h
    · rcases List.mem_append.1 h with h | h
      · exact .inl (List.mem_of_mem_drop (List.mem_of_mem_take h))
      · exact .inr h
    · exact ih x h
termination_by s.size - e
theorem j6 (a s w : ByteArray) (ha : vld a = true) (hs : vld s = true) (hw : vld w = true) (k : Nat) : qanatlaw02_TextOccurs.j6 (k + 1) a s w true false = some true := by
  have za := B.size ha
  have zs := B.size hs
  have zw := B.size hw
  rw [qanatlaw02_TextOccurs.j6, if_neg (by decide), count_eq a s (by omega) (by omega), change_eq a s a (by omega) (by omega) (by omega), change_eq a s w (by omega) (by omega) (by omega),
    if_pos ⟨ha, hs⟩, if_pos ⟨ha, hs, ha⟩, if_pos ⟨ha, hs, hw⟩]
  have e1 : (⟨(rest a s a 0).toArray⟩ : ByteArray) = s := by
    apply B.ext
    show rest a s a 0 = _
    rw [rest_same a s 0 (by omega), List.drop_zero]
  rw [e1, B.made s hs]
  simp only [Option.bind_some, if_true]
  have hl := rest_len a s w 0 (by omega)
  have hc := occ_len a s 0 (by omega)
  have hz : (⟨(rest a s w 0).toArray⟩ : ByteArray).size = (rest a s w 0).length := by rw [B.sz]
  have hb : ((occ a s 0).length : Int) * ((w.size : Int) - a.size) ≤ 1000000 := by
    have h1 : ((occ a s 0).length : Int) * ((w.size : Int) - a.size) ≤ ((occ a s 0).length : Int) * 1000 := Int.mul_le_mul_of_nonneg_left (by omega) (by omega)
    omega
  rw [made_eq, hz]
  have hv : ∀ x ∈ bytesOf (⟨(rest a s w 0).toArray⟩ : ByteArray), goodI x = true := by
    intro x hx
    unfold bytesOf at hx
    obtain ⟨b, hb, rfl⟩ := List.mem_map.1 hx
    rcases rest_mem a s w 0 (by omega) b hb with h | h
    · exact B.all hs _ (List.mem_map.2 ⟨b, h, rfl⟩)
    · exact B.all hw _ (List.mem_map.2 ⟨b, h, rfl⟩)
  have hvl : (rest a s w 0).length ≤ 1000 → vld (⟨(rest a s w 0).toArray⟩ : ByteArray) = true := fun h => B.mk (by rw [hz]; exact h) hv
  rw [wrap64_id ((w.size : Int) - a.size) (by omega) (by omega)]
  generalize ((occ a s 0).length : Int) * ((w.size : Int) - a.size) = X at *
  rw [wrap64_id X (by omega) (by omega), wrap64_id _ (by omega) (by omega)]
  by_cases c : (rest a s w 0).length > 1000
  · rw [if_pos c]
    simp only [Option.bind_some]
    rw [show decide ((s.size : Int) + X ≤ 1000) = false from decide_eq_false (by omega)]
    simp
  · rw [if_neg c, if_pos (hvl (by omega))]
    simp only [Option.bind_some]
    rw [show decide ((s.size : Int) + X ≤ 1000) = true from decide_eq_true (by omega)]
    simp [hz]
    omega
theorem after (a s w : ByteArray) (ha : vld a = true) (hs : vld s = true) (hw : vld w = true) (n m x : Int) (k : Nat) : qanatlaw02_TextOccurs.j4 (k + 3) a s w true n m false = some true := by
  have za := B.size ha
  have zs := B.size hs
  have e1 : text_LastPos.f (k + 2) a s (-1) = some ((if a.size = 0 then 0 else Lib.lastIndex s.data.toList a.data.toList + 1), 0) := by
    rw [lastpos_eq a s (-1) (by omega) (by omega) (k + 1), if_pos ⟨⟨ha, hs⟩, .inl rfl⟩]
    unfold upto
    rw [if_pos rfl]
  rw [qanatlaw02_TextOccurs.j4, if_neg (by decide), rev_eq a ha, rev_eq s hs]
  simp only [Option.bind_some]
  rw [pos_eq (rv a) (rv s) 1 (by rw [rv_size]; omega) (by rw [rv_size]; omega) (by omega), if_pos ⟨⟨rv_vld a ha, rv_vld s hs⟩, by omega⟩, e1]
  simp only [Option.bind_some]
  have hg := fnd_ge (rv a) (rv s) 0
  have hlo := fnd_lo (rv a) (rv s) 0
  rw [show ((1 : Int) - 1).toNat = 0 from rfl]
  have key : (if a.size = 0 then (0 : Int) else Lib.lastIndex s.data.toList a.data.toList + 1) = (if fnd (rv a) (rv s) 0 + 1 = 0 then 0 else wrap64 (wrap64 (wrap64 ((s.size : Int) - a.size) + 2) - (fnd (rv a) (rv s) 0 + 1))) := by
    by_cases h0 : a.size = 0
    · rw [if_pos h0, fnd_out (rv a) (rv s) 0 (by rw [rv_size]; omega), if_pos (by decide)]
    · rw [if_neg h0, last_rv a s (by omega)]
      by_cases hf : fnd (rv a) (rv s) 0 = -1
      · rw [if_pos hf, if_pos (by omega)]; rfl
      · have := hlo (by omega)
        simp only [rv_size] at this
        rw [if_neg hf, if_neg (by omega), wrap64_id ((s.size : Int) - a.size) (by omega) (by omega), wrap64_id ((s.size : Int) - a.size + 2) (by omega) (by omega), wrap64_id _ (by omega) (by omega)]
        omega
  have fin : ∀ v : Int, qanatlaw02_TextOccurs.j5 (k + 2) a s w true 0 0 0 v 0 v = some true := by
    intro v
    rw [qanatlaw02_TextOccurs.j5, if_pos rfl, if_pos rfl, if_pos rfl, if_pos rfl, bne_self_eq_false, j6 a s w ha hs hw k]
  by_cases h1 : fnd (rv a) (rv s) 0 + 1 = 0
  · rw [if_pos h1] at key ⊢
    rw [key]
    exact fin 0
  · rw [if_neg h1] at key ⊢
    rw [key]
    exact fin _
theorem stands_eq (a s : ByteArray) (i : Nat) (ha : a.size ≤ 1000) (hi : i ≤ 2000) : qanatlaw02_stands.f a s ((i : Int) + 1) = some (decide (i + a.size ≤ s.size ∧ (s.extract i (i + a.size)).toList = a.toList)) := by
  unfold qanatlaw02_stands.f
  rw [if_pos (by omega), show (i : Int) + 1 - 1 = (i : Int) by omega, wrap64_id (i : Int) (by omega) (by omega), wrap64_id ((i : Int) + a.size) (by omega) (by omega)]
  by_cases h : i + a.size ≤ s.size
  · rw [if_pos (by omega), if_pos (by omega), if_pos (by omega), show ((i : Int) + (a.size : Int)).toNat = i + a.size by omega, Int.toNat_natCast]
    by_cases e : (s.extract i (i + a.size)).toList = a.toList
    · rw [e]; simp [h]
    · rw [decide_eq_false (fun q => e q.2), beq_eq_false_iff_ne.mpr e]
  · rw [if_neg (by omega), decide_eq_false (fun q => h q.1)]
/-- The loop: no place before the one found. -/
theorem l0 (a s w : ByteArray) (ha : vld a = true) (hs : vld s = true) (hw : vld w = true) (m : Nat) (hm : m ≤ s.size) : ∀ (d i k : Nat), i + d = 2000 → 2 * d + 3 ≤ k → (0 < a.size → ∀ j, i ≤ j → j < m → ¬ st a s j) → qanatlaw02_TextOccurs.l0 (k + 1) a s w true (m : Int) ((i : Int) + 1) = some true
  | d, i, 0, _, h, _ => by omega
  | d, i, k + 1, hd, hk, hn => by
    have za := B.size ha
    have zs := B.size hs
    obtain ⟨k, rfl⟩ : ∃ k', k = k' + 2 := ⟨k - 2, by omega⟩
    rw [qanatlaw02_TextOccurs.l0]
    by_cases c : (i : Int) + 1 ≤ m
    · rw [if_pos c]
      by_cases h0 : a.size = 0
      · rw [show (a.toList != ([] : List UInt8)) = false by rw [(empty_eq a).2 h0]; rfl]
        exact after a s w ha hs hw _ _ 0 k
      · rw [show (a.toList != ([] : List UInt8)) = true from bne_iff_ne.mpr (fun h => h0 ((empty_eq a).1 h)), qanatlaw02_TextOccurs.j4, if_pos rfl, stands_eq a s i za (by omega)]
        simp only [Option.bind_some]
        rw [show decide (i + a.size ≤ s.size ∧ (s.extract i (i + a.size)).toList = a.toList) = false from decide_eq_false (hn (by omega) i (Nat.le_refl _) (by omega)), if_neg (by decide), wrap64_id _ (by omega) (by omega), show (i : Int) + 1 + 1 = ((i + 1 : Nat) : Int) + 1 by omega]
        exact l0 a s w ha hs hw m hm (d - 1) (i + 1) (k + 1) (by omega) (by omega) (fun hp j h1 h2 => hn hp j (by omega) h2)
    · rw [if_neg c]
      exact after a s w ha hs hw _ _ 0 k
theorem j0 (a s w : ByteArray) (ha : vld a = true) (hs : vld s = true) (hw : vld w = true) (n : Nat) (hn : n < 256) : qanatlaw02_TextOccurs.j0 5000 a s w (n : Int) true false = some true := by
  have za := B.size ha
  have zs := B.size hs
  rw [show (5000 : Nat) = 4999 + 1 from rfl, qanatlaw02_TextOccurs.j0, if_neg (by decide), wrap64_id (n : Int) (by omega) (by omega), wrap64_id ((n : Int) + 1) (by omega) (by omega), pos_eq a s _ (by omega) (by omega) (by omega), if_pos ⟨⟨ha, hs⟩, by omega⟩]
  simp only [Option.bind_some, if_true]
  rw [show ((n : Int) + 1 - 1).toNat = n by omega]
  by_cases hp : 0 < a.size
  · rcases fnd_spec a s n hp with ⟨f1, f2⟩ | ⟨q, f1, f2, f3, f4⟩
    · rw [f1, if_pos (by decide), show (-1 : Int) + 1 = 0 from rfl, show (4999 : Nat) = 4998 + 1 from rfl, qanatlaw02_TextOccurs.j1, if_neg (by decide), if_pos rfl, show (4998 : Nat) = 4997 + 1 from rfl, qanatlaw02_TextOccurs.j2]
      exact l0 a s w ha hs hw s.size (Nat.le_refl _) (2000 - n) n 4996 (by omega) (by omega) (fun _ j h1 h2 => f2 j h1)
    · have hq := f3.1
      rw [f1, if_neg (by omega), if_neg (by omega), if_neg (fun h => by have := (empty_eq a).1 h; omega), stands_eq a s q za (by omega), show decide (q + a.size ≤ s.size ∧ (s.extract q (q + a.size)).toList = a.toList) = true from decide_eq_true f3]
      simp only [Option.bind_some, Bool.not_true]
      rw [show (4999 : Nat) = 4998 + 1 from rfl, qanatlaw02_TextOccurs.j1, if_neg (by decide), if_neg (by omega), show (q : Int) + 1 - 1 = q by omega, wrap64_id (q : Int) (by omega) (by omega), show (4998 : Nat) = 4997 + 1 from rfl, qanatlaw02_TextOccurs.j2]
      exact l0 a s w ha hs hw q (by omega) (2000 - n) n 4996 (by omega) (by omega) (fun _ j h1 h2 => f4 j h1 h2)
  · rw [fnd_out a s n (by omega), if_pos (by decide), show (-1 : Int) + 1 = 0 from rfl, show (4999 : Nat) = 4998 + 1 from rfl, qanatlaw02_TextOccurs.j1, if_neg (by decide), if_pos rfl, show (4998 : Nat) = 4997 + 1 from rfl, qanatlaw02_TextOccurs.j2]
    exact l0 a s w ha hs hw s.size (Nat.le_refl _) (2000 - n) n 4996 (by omega) (by omega) (fun h => by omega)
end Oo
theorem occurs_pure : qanatlaw02_TextOccurs.Pure := by
  intro a s w n _ _ _ w1
  obtain ⟨n0, n1⟩ := u8_of_wf w1
  obtain ⟨n, rfl⟩ := Int.eq_ofNat_of_zero_le n0
  refine ⟨60 + 4940, ?_⟩
  unfold qanatlaw02_TextOccurs.f text_Valid.f
  have hj : ∀ k, qanatlaw02_TextOccurs.j0 (k + 1) a s w (n : Int) true true = some true := fun k => by rw [qanatlaw02_TextOccurs.j0, if_pos rfl]
  rw [head_ok 4940]
  simp only [Option.bind_some]
  rw [show (60 + 4940 : Nat) = 4999 + 1 from rfl]
  by_cases ha : vld a = true
  · rw [if_pos ha]
    by_cases hs : vld s = true
    · rw [if_pos hs]
      by_cases hw : vld w = true
      · rw [hw]
        exact Oo.j0 a s w ha hs hw n (by omega)
      · rw [Bool.eq_false_iff.2 hw]
        exact hj _
    · rw [if_neg hs]
      exact hj _
  · rw [if_neg ha]
    exact hj _
end Go.Proofs.YtlekfhnlhdmekaaGreatDoor.T
