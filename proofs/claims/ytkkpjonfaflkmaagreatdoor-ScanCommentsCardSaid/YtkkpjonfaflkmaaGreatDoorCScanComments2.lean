/- Part 2 of the proof of ScanComments: the functions that it calls return what their plain descriptions say. -/
import Derived.Test.YtkkpjonfaflkmaaGreatDoorProg
import Derived.Below
import Derived.Deep.Draws
import Derived.Deep.AppendLies
import Derived.Maps.AppendAt
import Derived.OwnWalk
import Derived.Laws.BytesArg
import Derived.Laws.MakeOwn
import Derived.Laws.OwnMore
import Derived.Deep.OwnRows
import Derived.Tactics
import Derived.Lib.ConvBytes
import Derived.Laws.Slices
import Derived.WalkKit
import Derived.KernelRfl
import Derived.RowKit3
import Derived.Deep.LoopGhost
import Derived.Deep.QuietTactic
import Derived.BigQuiet
import Derived.WideLaws
import Derived.Deep.DeepCutAuto
import Derived.Deep.CutBlock
import Derived.Deep.RegionHeld3
import Derived.Laws.Rows
import Derived.Lib.AppendStr
import Derived.ArgAppend
import Derived.Laws.IdiomCopy
import Derived.OrdersHeld
import Derived.Laws.BitsLemmas
import Derived.RowKit
import Derived.Test.YtkkpjonfaflkmaaGreatDoorCScanComments0
import Init
import Derived.Lib.Hide
import Derived.Lib.BufferMore
import Derived.Shelf.Abstract
import Derived.WalkLawsBesides
import Derived.Test.YtkkpjonfaflkmaaGreatDoorCScanComments1
import Derived.Lib.LaidU8
import Derived.Shelf.LaysM
import Derived.Shelf.Strings.SlTrimAscii
import Derived.WalkMore
import Derived.Deep.Cut
import Derived.Shelf.Strings.BuilderK
import Derived.RangeFuncNested
import Derived.RangeFuncLeaves
import Derived.RegionIn
import Derived.OwnWalkIn
import Derived.LoopIn
import Derived.TacticsInMore
import Derived.LoopNIn
import Derived.RangeFuncBox
import Derived.Deep.AppendSrc
import Derived.Deep.MidRow
import Derived.Sort.LoopGhostIn

-- Written by a program of this session (mp.py over the kit's print.py), out of the translation.
namespace Go.Proofs.YtkkpjonfaflkmaaGreatDoor.T
set_option linter.unusedSimpArgs false
open Go.RowKit Go.Proofs.YtkkpjonfaflkmaaGreatDoorW.PrintWords Go.Proofs.YtkkpjonfaflkmaaGreatDoorW.PrintLast Go.Proofs.YtkkpjonfaflkmaaGreatDoorW.PrintMore
attribute [local go_sem] max2_int min2_int max_two min_two max_three min_three max_four min_four   -- for this text's walks alone
set_option linter.unusedVariables false
set_option linter.unusedSimpArgs false



def errW : Option Int → Value
  | none => .nilIface
  | some c => .iface 0 (.int .i64 c)
theorem errW_none : errW none = .nilIface := rfl
theorem errW_some (c : Int) : errW (some c) = .iface 0 (.int .i64 c) := rfl

theorem info5 : (Tryz.prog.info? 5).map (fun i => (i.zero, i.size, i.bytes)) = some (some (.int .u8 0), 1, 1) := by kernel_rfl
theorem info9 : (Tryz.prog.info? 9).map (fun i => (i.zero, i.size, i.bytes)) = some (some (.string ⟨#[]⟩), 1, 16) := by kernel_rfl
theorem info24 : (Tryz.prog.info? 24).map (fun i => (i.zero, i.size, i.bytes)) = some (some (.slice none 0 0), 1, 24) := by kernel_rfl
theorem info53 : (Tryz.prog.info? 53).map (fun i => (i.zero, i.size, i.bytes)) = some (some (.agg #[(.int .i64 0), (.string ⟨#[]⟩), (.bool false), (.int .i64 0), (.int .i64 0), (.int .i64 0)]), 6, 56) := by kernel_rfl
theorem info73 : (Tryz.prog.info? 73).map (fun i => (i.zero, i.size, i.bytes)) = some (some (.agg #[(.string ⟨#[]⟩), (.int .i64 0)]), 2, 24) := by kernel_rfl
-- the values' own types
/-! #### struct type 53 -/
structure S53 where
  f0 : Int
  f1 : ByteArray
  f2 : Bool
  f3 : Int
  f4 : Int
  f5 : Int
def z53 : S53 := ⟨(0 : Int), (⟨#[]⟩ : ByteArray), false, (0 : Int), (0 : Int), (0 : Int)⟩
def k53 : Kd S53 := Kd.iso (Kd.pair (Kd.int .i64) (Kd.pair Kd.string (Kd.pair Kd.bool (Kd.pair (Kd.int .i64) (Kd.pair (Kd.int .i64) (Kd.int .i64)))))) (fun x : S53 => (x.f0, x.f1, x.f2, x.f3, x.f4, x.f5))
theorem k53_open {w : World} {x : S53} {cs : List Value} (h : k53.K w x cs) : cs = [.int .i64 x.f0, .string x.f1, .bool x.f2, .int .i64 x.f3, .int .i64 x.f4, .int .i64 x.f5] := by
  obtain ⟨_, _, rfl, rfl, ⟨_, _, rfl, rfl, ⟨_, _, rfl, rfl, ⟨_, _, rfl, rfl, ⟨_, _, rfl, rfl, rfl⟩⟩⟩⟩⟩ := h
  exact rfl
theorem k53_openM {w : World} {base : Nat} {ok : Nat → Prop} {x : S53} {cs : List Value} (h : k53.M w base ok x cs) : cs = [.int .i64 x.f0, .string x.f1, .bool x.f2, .int .i64 x.f3, .int .i64 x.f4, .int .i64 x.f5] := by
  obtain ⟨_, _, rfl, rfl, ⟨_, _, rfl, rfl, ⟨_, _, rfl, rfl, ⟨_, _, rfl, rfl, ⟨_, _, rfl, rfl, rfl⟩⟩⟩⟩⟩ := h
  exact rfl
theorem k53_mk (w : World) (x : S53)  : k53.K w x [.int .i64 x.f0, .string x.f1, .bool x.f2, .int .i64 x.f3, .int .i64 x.f4, .int .i64 x.f5] := ⟨[.int .i64 x.f0], [.string x.f1, .bool x.f2, .int .i64 x.f3, .int .i64 x.f4, .int .i64 x.f5], rfl, rfl, ⟨[.string x.f1], [.bool x.f2, .int .i64 x.f3, .int .i64 x.f4, .int .i64 x.f5], rfl, rfl, ⟨[.bool x.f2], [.int .i64 x.f3, .int .i64 x.f4, .int .i64 x.f5], rfl, rfl, ⟨[.int .i64 x.f3], [.int .i64 x.f4, .int .i64 x.f5], rfl, rfl, ⟨[.int .i64 x.f4], [.int .i64 x.f5], rfl, rfl, rfl⟩⟩⟩⟩⟩
theorem k53_mkM (w : World) (base : Nat) (ok : Nat → Prop) (x : S53)  : k53.M w base ok x [.int .i64 x.f0, .string x.f1, .bool x.f2, .int .i64 x.f3, .int .i64 x.f4, .int .i64 x.f5] := ⟨[.int .i64 x.f0], [.string x.f1, .bool x.f2, .int .i64 x.f3, .int .i64 x.f4, .int .i64 x.f5], rfl, rfl, ⟨[.string x.f1], [.bool x.f2, .int .i64 x.f3, .int .i64 x.f4, .int .i64 x.f5], rfl, rfl, ⟨[.bool x.f2], [.int .i64 x.f3, .int .i64 x.f4, .int .i64 x.f5], rfl, rfl, ⟨[.int .i64 x.f3], [.int .i64 x.f4, .int .i64 x.f5], rfl, rfl, ⟨[.int .i64 x.f4], [.int .i64 x.f5], rfl, rfl, rfl⟩⟩⟩⟩⟩
theorem k53_mkF (W : World) (ok : Nat → Prop) (x : S53) : Kd.FK k53 W ok x [.int .i64 x.f0, .string x.f1, .bool x.f2, .int .i64 x.f3, .int .i64 x.f4, .int .i64 x.f5] := fun W2 _ => k53_mk W2 x
def rd_T53 (xs : List S53) (i : Int) : S53 := xs.getD i.toNat z53
theorem at_T53 {w : World} {A : Option Addr} {n : Nat} {xs : List S53} (h : Kd.C k53 w A n xs) (i : Int) (h0 : 0 ≤ i) (h1 : i < n) : ∃ ad , A = some ad ∧ w.cell? (ad.add (i.toNat * 6)) = some (.int .i64 (rd_T53 xs i).f0) ∧ w.cell? ⟨(ad.add (i.toNat * 6)).block, (ad.add (i.toNat * 6)).off + 1, none⟩ = some (.string (rd_T53 xs i).f1) ∧ w.cell? ⟨(ad.add (i.toNat * 6)).block, (ad.add (i.toNat * 6)).off + 2, none⟩ = some (.bool (rd_T53 xs i).f2) ∧ w.cell? ⟨(ad.add (i.toNat * 6)).block, (ad.add (i.toNat * 6)).off + 3, none⟩ = some (.int .i64 (rd_T53 xs i).f3) ∧ w.cell? ⟨(ad.add (i.toNat * 6)).block, (ad.add (i.toNat * 6)).off + 4, none⟩ = some (.int .i64 (rd_T53 xs i).f4) ∧ w.cell? ⟨(ad.add (i.toNat * 6)).block, (ad.add (i.toNat * 6)).off + 5, none⟩ = some (.int .i64 (rd_T53 xs i).f5) := by
  obtain ⟨ad, c, e, _, hK, hc0⟩ := Kd.C_get h z53 i h0 h1
  have hc : ∀ j u, c[j]? = some u → w.cell? (ad.add (i.toNat * 6 + j)) = some u := hc0
  obtain rfl := k53_open hK
  exact ⟨ad, e, hc 0 _ rfl, by rw [← add_field _ _ 1 (by omega)]; exact hc 1 _ rfl, by rw [← add_field _ _ 2 (by omega)]; exact hc 2 _ rfl, by rw [← add_field _ _ 3 (by omega)]; exact hc 3 _ rfl, by rw [← add_field _ _ 4 (by omega)]; exact hc 4 _ rfl, by rw [← add_field _ _ 5 (by omega)]; exact hc 5 _ rfl⟩

def rd_L4 (xs : List (List S53)) (i : Int) : (List S53) := xs.getD i.toNat ([] : List S53)
theorem at_L4 {w : World} {A : Option Addr} {n : Nat} {xs : List (List S53)} (h : Kd.C (Kd.slice 53 k53) w A n xs) (i : Int) (h0 : 0 ≤ i) (h1 : i < n) : ∃ ad A0 c0, A = some ad ∧ w.cell? (ad.add i.toNat) = some (.slice A0 (rd_L4 xs i).length c0) ∧ (rd_L4 xs i).length ≤ c0 ∧ k53.C w A0 (rd_L4 xs i).length (rd_L4 xs i) := by
  obtain ⟨ad, c, e, _, hK, hc0⟩ := Kd.C_get h ([] : List S53) i h0 h1
  have hc : ∀ j u, c[j]? = some u → w.cell? (ad.add (i.toNat * 1 + j)) = some u := hc0
  obtain ⟨A0, c0, rfl, l0, g0⟩ := hK
  exact ⟨ad, A0, c0, e, by have hq := hc 0 _ rfl; rwa [Nat.mul_one, Nat.add_zero] at hq, l0, g0⟩

/-! #### struct type 73 -/
structure S73 where
  f0 : ByteArray
  f1 : Int
def z73 : S73 := ⟨(⟨#[]⟩ : ByteArray), (0 : Int)⟩
def k73 : Kd S73 := Kd.iso (Kd.pair Kd.string (Kd.int .i64)) (fun x : S73 => (x.f0, x.f1))
theorem k73_open {w : World} {x : S73} {cs : List Value} (h : k73.K w x cs) : cs = [.string x.f0, .int .i64 x.f1] := by
  obtain ⟨_, _, rfl, rfl, rfl⟩ := h
  exact rfl
theorem k73_openM {w : World} {base : Nat} {ok : Nat → Prop} {x : S73} {cs : List Value} (h : k73.M w base ok x cs) : cs = [.string x.f0, .int .i64 x.f1] := by
  obtain ⟨_, _, rfl, rfl, rfl⟩ := h
  exact rfl
theorem k73_mk (w : World) (x : S73)  : k73.K w x [.string x.f0, .int .i64 x.f1] := ⟨[.string x.f0], [.int .i64 x.f1], rfl, rfl, rfl⟩
theorem k73_mkM (w : World) (base : Nat) (ok : Nat → Prop) (x : S73)  : k73.M w base ok x [.string x.f0, .int .i64 x.f1] := ⟨[.string x.f0], [.int .i64 x.f1], rfl, rfl, rfl⟩
theorem k73_mkF (W : World) (ok : Nat → Prop) (x : S73) : Kd.FK k73 W ok x [.string x.f0, .int .i64 x.f1] := fun W2 _ => k73_mk W2 x
def rd_T73 (xs : List S73) (i : Int) : S73 := xs.getD i.toNat z73
theorem at_T73 {w : World} {A : Option Addr} {n : Nat} {xs : List S73} (h : Kd.C k73 w A n xs) (i : Int) (h0 : 0 ≤ i) (h1 : i < n) : ∃ ad , A = some ad ∧ w.cell? (ad.add (i.toNat * 2)) = some (.string (rd_T73 xs i).f0) ∧ w.cell? ⟨(ad.add (i.toNat * 2)).block, (ad.add (i.toNat * 2)).off + 1, none⟩ = some (.int .i64 (rd_T73 xs i).f1) := by
  obtain ⟨ad, c, e, _, hK, hc0⟩ := Kd.C_get h z73 i h0 h1
  have hc : ∀ j u, c[j]? = some u → w.cell? (ad.add (i.toNat * 2 + j)) = some u := hc0
  obtain rfl := k73_open hK
  exact ⟨ad, e, hc 0 _ rfl, by rw [← add_field _ _ 1 (by omega)]; exact hc 1 _ rfl⟩

end Go.Proofs.YtkkpjonfaflkmaaGreatDoor.T

-- Written by a program of this session (mp.py over the kit's print.py), out of the translation.
namespace Go.Proofs.YtkkpjonfaflkmaaGreatDoor.T
set_option linter.unusedSimpArgs false
open Go.RowKit Go.Proofs.YtkkpjonfaflkmaaGreatDoorW.PrintWords Go.Proofs.YtkkpjonfaflkmaaGreatDoorW.PrintLast Go.Proofs.YtkkpjonfaflkmaaGreatDoorW.PrintMore
attribute [local go_sem] max2_int min2_int max_two min_two max_three min_three max_four min_four   -- for this text's walks alone
set_option linter.unusedVariables false
set_option linter.unusedSimpArgs false

/-! ### qanatref03_Same: function 38 -/
def qanatref03_Same.l0 : Nat → List (S53) → List (S53) → Int → Option (Bool)
  | 0, _, _, _ => none
  | k + 1, x0, x1, x5 => if x5 < (x0.length : Int) then (if 0 ≤ x5 then (if x5 < (x1.length : Int) then (if ((rd_T53 x0 x5).f0) = ((rd_T53 x1 x5).f0) then (if ((rd_T53 x0 x5).f1).toList = ((rd_T53 x1 x5).f1).toList then (if (((rd_T53 x0 x5).f2) != ((rd_T53 x1 x5).f2)) = true then (some false) else (qanatref03_Same.l0 k x0 x1 (wrap64 (x5 + 1)))) else (some false)) else (some false)) else (none)) else (none)) else (some true)
def qanatref03_Same.f (k : Nat) (l0 : List (S53)) (l1 : List (S53)) : Option (Bool) := if (l0.length : Int) = (l1.length : Int) then (qanatref03_Same.l0 k l0 l1 0) else (some false)
theorem qanatref03_Same.mono_l : ∀ k, (∀ y0 y1 y2, LeO (qanatref03_Same.l0 k y0 y1 y2) (qanatref03_Same.l0 (k + 1) y0 y1 y2))
  | 0 => fun _ _ _ r h => by simp [qanatref03_Same.l0] at h
  | k + 1 => by
    have ih0 := qanatref03_Same.mono_l k
    · intro y0 y1 y2
      unfold qanatref03_Same.l0
      repeat' first
      | (with_reducible exact ih0 _ _ _)
      | (with_reducible exact LeO.refl _)
      | (with_reducible exact LeO.none _)
      | (with_reducible refine LeO.ite ?_ ?_)
      | (with_reducible refine LeO.bind ?_ (fun _ => ?_))
      | exact ih0 _ _ _
      | exact LeO.none _
      | refine LeO.ite ?_ ?_
      | refine LeO.bind ?_ (fun _ => ?_)
theorem qanatref03_Same.mono : ∀ a0 a1 k, LeO (qanatref03_Same.f k a0 a1) (qanatref03_Same.f (k + 1) a0 a1) := by
  intro a0 a1 k
  have ih0 := qanatref03_Same.mono_l k
  unfold qanatref03_Same.f
  repeat' first
      | (with_reducible exact ih0 _ _ _)
      | (with_reducible exact LeO.refl _)
      | (with_reducible exact LeO.none _)
      | (with_reducible refine LeO.ite ?_ ?_)
      | (with_reducible refine LeO.bind ?_ (fun _ => ?_))
      | exact ih0 _ _ _
      | exact LeO.none _
      | refine LeO.ite ?_ ?_
      | refine LeO.bind ?_ (fun _ => ?_)
set_option maxHeartbeats 8000000 in
set_option maxRecDepth 100000 in
theorem qanatref03_Same.calls (k : Nat) (A0 : Option Addr) (c0 : Nat) (l0 : List (S53)) (A1 : Option Addr) (c1 : Nat) (l1 : List (S53)) (r : Bool) (w : World) (hr0 : Kd.C k53 w A0 l0.length l0) (hc0 : l0.length ≤ c0) (hr1 : Kd.C k53 w A1 l1.length l1) (hc1 : l1.length ≤ c1) (h : qanatref03_Same.f k l0 l1 = some r) :
    Calls Tryz.prog 38 #[.slice A0 l0.length c0, .slice A1 l1.length c1] w fun e w' => e = .returned (.bool r) ∧ Drawn0 w w' := by
  have HR0 := Aside0.mk hr0
  have HC0 := Aside0.mk hc0
  clear hr0 hc0
  have HR1 := Aside0.mk hr1
  have HC1 := Aside0.mk hc1
  clear hr1 hc1
  have H : (if (l0.length : Int) = (l1.length : Int) then (qanatref03_Same.l0 k l0 l1 0) else (some false)) = some r := h
  clear h
  by_cases c3 : (l0.length : Int) = (l1.length : Int)
  · rw [if_pos c3] at H
    have c3b0 : ((l0.length : Int) == (l1.length : Int)) = true := beq_iff_eq.mpr c3
    have c3b1 : ((l0.length : Int) != (l1.length : Int)) = false := bne_eq_false_iff_eq.mpr c3
    have c3b2 : (l0.length == l1.length) = true := by first | simpa using c3 | (simp at c3 ⊢; omega)
    clear c3
    have H' := Aside0.mk H
    clear H
    go_enter Tryz.func38, Tryz.ntmps38
    go_wp2
    repeat (go_quiet (fail); try go_wp2)
    go_loopg [5] k (fun kq v5 w' => ∃ (x5_1 : Int), v5 = .int .i64 x5_1 ∧ Aside0 (qanatref03_Same.l0 kq l0 l1 x5_1 = some r) ∧ Aside0 (kq ≤ k) ∧ Drawn0 w w')
    case atStart => exact ⟨(0), (by first | rfl | (simp; done) | (simp [*]; done)), H', ⟨Nat.le_refl _⟩, by repeat (first | exact Drawn0.refl _ | apply Drawn0.step)⟩
    case round =>
      clear H'
      try clear c1
      try clear p2
      try clear c3
      try clear c3b0
      try clear c3b1
      try clear c3b2
      obtain ⟨x5_1, rfl, HA, HK1, ⟨m1, rfl⟩⟩ := hrel
      cases gk with
      | zero => exact absurd HA.out (by simp [qanatref03_Same.l0])
      | succ k1 =>
        have H := HA.out
        clear HA
        simp only [qanatref03_Same.l0] at H
        by_cases c4 : x5_1 < (l0.length : Int)
        · rw [if_pos c4] at H
          have c4b0 : decide (x5_1 < (l0.length : Int)) = true := decide_eq_true c4
          clear c4
          by_cases c5 : 0 ≤ x5_1
          · rw [if_pos c5] at H
            have c5b0 : decide (0 ≤ x5_1) = true := decide_eq_true c5
            clear c5
            by_cases c6 : x5_1 < (l1.length : Int)
            · rw [if_pos c6] at H
              have c6b0 : decide (x5_1 < (l1.length : Int)) = true := decide_eq_true c6
              clear c6
              by_cases c7 : ((rd_T53 l0 x5_1).f0) = ((rd_T53 l1 x5_1).f0)
              · rw [if_pos c7] at H
                have c7b0 : (((rd_T53 l0 x5_1).f0) == ((rd_T53 l1 x5_1).f0)) = true := beq_iff_eq.mpr c7
                have c7b1 : (((rd_T53 l0 x5_1).f0) != ((rd_T53 l1 x5_1).f0)) = false := bne_eq_false_iff_eq.mpr c7
                clear c7
                by_cases c8 : ((rd_T53 l0 x5_1).f1).toList = ((rd_T53 l1 x5_1).f1).toList
                · rw [if_pos c8] at H
                  have c8b0 : (((rd_T53 l0 x5_1).f1).toList == ((rd_T53 l1 x5_1).f1).toList) = true := beq_iff_eq.mpr c8
                  have c8b1 : (((rd_T53 l0 x5_1).f1).toList != ((rd_T53 l1 x5_1).f1).toList) = false := bne_eq_false_iff_eq.mpr c8
                  clear c8
                  by_cases c9 : (((rd_T53 l0 x5_1).f2) != ((rd_T53 l1 x5_1).f2)) = true
                  · rw [if_pos c9] at H
                    have c9b0 : (((rd_T53 l0 x5_1).f2) != ((rd_T53 l1 x5_1).f2)) = true := c9
                    (try (have c9b1 : decide (((rd_T53 l0 x5_1).f2) = ((rd_T53 l1 x5_1).f2)) = false := by simpa using c9))
                    (try (have c9b2 : (((rd_T53 l0 x5_1).f2) == ((rd_T53 l1 x5_1).f2)) = false := by simpa using c9))
                    (try (have c9b3 : ¬ (((rd_T53 l0 x5_1).f2) = ((rd_T53 l1 x5_1).f2)) := by simpa using c9))
                    clear c9
                    obtain rfl := Option.some.inj H
                    have p354 : 0 ≤ (x5_1 : Int) := of_decide_eq_true (by first | (with_reducible assumption) | assumption)
                    have q354 : x5_1 < (l0.length : Int) := of_decide_eq_true (by first | (with_reducible assumption) | assumption)
                    obtain ⟨ad354, e354, hx354_0, hx354_1, hx354_2, hx354_3, hx354_4, hx354_5⟩ := at_T53 HR0.out x5_1 p354 q354
                    cases e354
                    replace p354 := eq_true p354
                    replace q354 := eq_true q354
                    have p355 : 0 ≤ (x5_1 : Int) := of_decide_eq_true (by first | (with_reducible assumption) | assumption)
                    have q355 : x5_1 < (l1.length : Int) := of_decide_eq_true (by first | (with_reducible assumption) | assumption)
                    obtain ⟨ad355, e355, hx355_0, hx355_1, hx355_2, hx355_3, hx355_4, hx355_5⟩ := at_T53 HR1.out x5_1 p355 q355
                    cases e355
                    replace p355 := eq_true p355
                    replace q355 := eq_true q355
                    have p356 : 0 ≤ (x5_1 : Int) := of_decide_eq_true (by first | (with_reducible assumption) | assumption)
                    have q356 : x5_1 < (l0.length : Int) := of_decide_eq_true (by first | (with_reducible assumption) | assumption)
                    obtain ⟨ad356, e356, hx356_0, hx356_1, hx356_2, hx356_3, hx356_4, hx356_5⟩ := at_T53 HR0.out x5_1 p356 q356
                    obtain rfl : ad354 = ad356 := (by injection e356)
                    replace p356 := eq_true p356
                    replace q356 := eq_true q356
                    have p357 : 0 ≤ (x5_1 : Int) := of_decide_eq_true (by first | (with_reducible assumption) | assumption)
                    have q357 : x5_1 < (l1.length : Int) := of_decide_eq_true (by first | (with_reducible assumption) | assumption)
                    obtain ⟨ad357, e357, hx357_0, hx357_1, hx357_2, hx357_3, hx357_4, hx357_5⟩ := at_T53 HR1.out x5_1 p357 q357
                    obtain rfl : ad355 = ad357 := (by injection e357)
                    replace p357 := eq_true p357
                    replace q357 := eq_true q357
                    have p358 : 0 ≤ (x5_1 : Int) := of_decide_eq_true (by first | (with_reducible assumption) | assumption)
                    have q358 : x5_1 < (l0.length : Int) := of_decide_eq_true (by first | (with_reducible assumption) | assumption)
                    obtain ⟨ad358, e358, hx358_0, hx358_1, hx358_2, hx358_3, hx358_4, hx358_5⟩ := at_T53 HR0.out x5_1 p358 q358
                    obtain rfl : ad354 = ad358 := (by injection e358)
                    replace p358 := eq_true p358
                    replace q358 := eq_true q358
                    have p359 : 0 ≤ (x5_1 : Int) := of_decide_eq_true (by first | (with_reducible assumption) | assumption)
                    have q359 : x5_1 < (l1.length : Int) := of_decide_eq_true (by first | (with_reducible assumption) | assumption)
                    obtain ⟨ad359, e359, hx359_0, hx359_1, hx359_2, hx359_3, hx359_4, hx359_5⟩ := at_T53 HR1.out x5_1 p359 q359
                    obtain rfl : ad355 = ad359 := (by injection e359)
                    replace p359 := eq_true p359
                    replace q359 := eq_true q359
                    go_wp2
                    repeat (go_quiet (fail); try go_wp2)
                    go_ret
                    exact ⟨by first | rfl | (simp; done) | (simp [*]; done), by repeat (first | exact Drawn0.refl _ | apply Drawn0.step)⟩
                  · rw [if_neg c9] at H
                    have c9b0 : (((rd_T53 l0 x5_1).f2) != ((rd_T53 l1 x5_1).f2)) = false := by simpa using c9
                    (try (have c9b1 : decide (((rd_T53 l0 x5_1).f2) = ((rd_T53 l1 x5_1).f2)) = true := by simpa using c9))
                    (try (have c9b2 : (((rd_T53 l0 x5_1).f2) == ((rd_T53 l1 x5_1).f2)) = true := by simpa using c9))
                    clear c9
                    have H' := Aside0.mk H
                    clear H
                    have p354 : 0 ≤ (x5_1 : Int) := of_decide_eq_true (by first | (with_reducible assumption) | assumption)
                    have q354 : x5_1 < (l0.length : Int) := of_decide_eq_true (by first | (with_reducible assumption) | assumption)
                    obtain ⟨ad354, e354, hx354_0, hx354_1, hx354_2, hx354_3, hx354_4, hx354_5⟩ := at_T53 HR0.out x5_1 p354 q354
                    cases e354
                    replace p354 := eq_true p354
                    replace q354 := eq_true q354
                    have p355 : 0 ≤ (x5_1 : Int) := of_decide_eq_true (by first | (with_reducible assumption) | assumption)
                    have q355 : x5_1 < (l1.length : Int) := of_decide_eq_true (by first | (with_reducible assumption) | assumption)
                    obtain ⟨ad355, e355, hx355_0, hx355_1, hx355_2, hx355_3, hx355_4, hx355_5⟩ := at_T53 HR1.out x5_1 p355 q355
                    cases e355
                    replace p355 := eq_true p355
                    replace q355 := eq_true q355
                    have p356 : 0 ≤ (x5_1 : Int) := of_decide_eq_true (by first | (with_reducible assumption) | assumption)
                    have q356 : x5_1 < (l0.length : Int) := of_decide_eq_true (by first | (with_reducible assumption) | assumption)
                    obtain ⟨ad356, e356, hx356_0, hx356_1, hx356_2, hx356_3, hx356_4, hx356_5⟩ := at_T53 HR0.out x5_1 p356 q356
                    obtain rfl : ad354 = ad356 := (by injection e356)
                    replace p356 := eq_true p356
                    replace q356 := eq_true q356
                    have p357 : 0 ≤ (x5_1 : Int) := of_decide_eq_true (by first | (with_reducible assumption) | assumption)
                    have q357 : x5_1 < (l1.length : Int) := of_decide_eq_true (by first | (with_reducible assumption) | assumption)
                    obtain ⟨ad357, e357, hx357_0, hx357_1, hx357_2, hx357_3, hx357_4, hx357_5⟩ := at_T53 HR1.out x5_1 p357 q357
                    obtain rfl : ad355 = ad357 := (by injection e357)
                    replace p357 := eq_true p357
                    replace q357 := eq_true q357
                    have p358 : 0 ≤ (x5_1 : Int) := of_decide_eq_true (by first | (with_reducible assumption) | assumption)
                    have q358 : x5_1 < (l0.length : Int) := of_decide_eq_true (by first | (with_reducible assumption) | assumption)
                    obtain ⟨ad358, e358, hx358_0, hx358_1, hx358_2, hx358_3, hx358_4, hx358_5⟩ := at_T53 HR0.out x5_1 p358 q358
                    obtain rfl : ad354 = ad358 := (by injection e358)
                    replace p358 := eq_true p358
                    replace q358 := eq_true q358
                    have p359 : 0 ≤ (x5_1 : Int) := of_decide_eq_true (by first | (with_reducible assumption) | assumption)
                    have q359 : x5_1 < (l1.length : Int) := of_decide_eq_true (by first | (with_reducible assumption) | assumption)
                    obtain ⟨ad359, e359, hx359_0, hx359_1, hx359_2, hx359_3, hx359_4, hx359_5⟩ := at_T53 HR1.out x5_1 p359 q359
                    obtain rfl : ad355 = ad359 := (by injection e359)
                    replace p359 := eq_true p359
                    replace q359 := eq_true q359
                    go_wp2
                    repeat (go_quiet (fail); try go_wp2)
                    go_roundg k1
                    case measure => have := HK1.out; omega
                    case rel => exact ⟨(wrap64 (x5_1 + 1)), (by first | rfl | (simp; done) | (simp [*]; done)), H', ⟨by have := HK1.out; omega⟩, by repeat (first | exact Drawn0.refl _ | apply Drawn0.step)⟩
                · rw [if_neg c8] at H
                  have c8b0 : (((rd_T53 l0 x5_1).f1).toList == ((rd_T53 l1 x5_1).f1).toList) = false := beq_eq_false_iff_ne.mpr c8
                  have c8b1 : (((rd_T53 l0 x5_1).f1).toList != ((rd_T53 l1 x5_1).f1).toList) = true := bne_iff_ne.mpr c8
                  obtain rfl := Option.some.inj H
                  have p354 : 0 ≤ (x5_1 : Int) := of_decide_eq_true (by first | (with_reducible assumption) | assumption)
                  have q354 : x5_1 < (l0.length : Int) := of_decide_eq_true (by first | (with_reducible assumption) | assumption)
                  obtain ⟨ad354, e354, hx354_0, hx354_1, hx354_2, hx354_3, hx354_4, hx354_5⟩ := at_T53 HR0.out x5_1 p354 q354
                  cases e354
                  replace p354 := eq_true p354
                  replace q354 := eq_true q354
                  have p355 : 0 ≤ (x5_1 : Int) := of_decide_eq_true (by first | (with_reducible assumption) | assumption)
                  have q355 : x5_1 < (l1.length : Int) := of_decide_eq_true (by first | (with_reducible assumption) | assumption)
                  obtain ⟨ad355, e355, hx355_0, hx355_1, hx355_2, hx355_3, hx355_4, hx355_5⟩ := at_T53 HR1.out x5_1 p355 q355
                  cases e355
                  replace p355 := eq_true p355
                  replace q355 := eq_true q355
                  have p356 : 0 ≤ (x5_1 : Int) := of_decide_eq_true (by first | (with_reducible assumption) | assumption)
                  have q356 : x5_1 < (l0.length : Int) := of_decide_eq_true (by first | (with_reducible assumption) | assumption)
                  obtain ⟨ad356, e356, hx356_0, hx356_1, hx356_2, hx356_3, hx356_4, hx356_5⟩ := at_T53 HR0.out x5_1 p356 q356
                  obtain rfl : ad354 = ad356 := (by injection e356)
                  replace p356 := eq_true p356
                  replace q356 := eq_true q356
                  have p357 : 0 ≤ (x5_1 : Int) := of_decide_eq_true (by first | (with_reducible assumption) | assumption)
                  have q357 : x5_1 < (l1.length : Int) := of_decide_eq_true (by first | (with_reducible assumption) | assumption)
                  obtain ⟨ad357, e357, hx357_0, hx357_1, hx357_2, hx357_3, hx357_4, hx357_5⟩ := at_T53 HR1.out x5_1 p357 q357
                  obtain rfl : ad355 = ad357 := (by injection e357)
                  replace p357 := eq_true p357
                  replace q357 := eq_true q357
                  go_wp2
                  repeat (go_quiet (fail); try go_wp2)
                  go_ret
                  exact ⟨by first | rfl | (simp; done) | (simp [*]; done), by repeat (first | exact Drawn0.refl _ | apply Drawn0.step)⟩
              · rw [if_neg c7] at H
                have c7b0 : (((rd_T53 l0 x5_1).f0) == ((rd_T53 l1 x5_1).f0)) = false := beq_eq_false_iff_ne.mpr c7
                have c7b1 : (((rd_T53 l0 x5_1).f0) != ((rd_T53 l1 x5_1).f0)) = true := bne_iff_ne.mpr c7
                obtain rfl := Option.some.inj H
                have p354 : 0 ≤ (x5_1 : Int) := of_decide_eq_true (by first | (with_reducible assumption) | assumption)
                have q354 : x5_1 < (l0.length : Int) := of_decide_eq_true (by first | (with_reducible assumption) | assumption)
                obtain ⟨ad354, e354, hx354_0, hx354_1, hx354_2, hx354_3, hx354_4, hx354_5⟩ := at_T53 HR0.out x5_1 p354 q354
                cases e354
                replace p354 := eq_true p354
                replace q354 := eq_true q354
                have p355 : 0 ≤ (x5_1 : Int) := of_decide_eq_true (by first | (with_reducible assumption) | assumption)
                have q355 : x5_1 < (l1.length : Int) := of_decide_eq_true (by first | (with_reducible assumption) | assumption)
                obtain ⟨ad355, e355, hx355_0, hx355_1, hx355_2, hx355_3, hx355_4, hx355_5⟩ := at_T53 HR1.out x5_1 p355 q355
                cases e355
                replace p355 := eq_true p355
                replace q355 := eq_true q355
                go_wp2
                repeat (go_quiet (fail); try go_wp2)
                go_ret
                exact ⟨by first | rfl | (simp; done) | (simp [*]; done), by repeat (first | exact Drawn0.refl _ | apply Drawn0.step)⟩
            · rw [if_neg c6] at H
              exact absurd H (by simp)
          · rw [if_neg c5] at H
            exact absurd H (by simp)
        · rw [if_neg c4] at H
          have c4b0 : decide (x5_1 < (l0.length : Int)) = false := decide_eq_false c4
          clear c4
          obtain rfl := Option.some.inj H
          go_wp2
          repeat (go_quiet (fail); try go_wp2)
          go_ret
          exact ⟨by first | rfl | (simp; done) | (simp [*]; done), by repeat (first | exact Drawn0.refl _ | apply Drawn0.step)⟩
  · rw [if_neg c3] at H
    have c3b0 : ((l0.length : Int) == (l1.length : Int)) = false := beq_eq_false_iff_ne.mpr c3
    have c3b1 : ((l0.length : Int) != (l1.length : Int)) = true := bne_iff_ne.mpr c3
    have c3b2 : (l0.length == l1.length) = false := by first | simpa using c3 | (simp at c3 ⊢; omega)
    obtain rfl := Option.some.inj H
    go_enter Tryz.func38, Tryz.ntmps38
    go_wp2
    repeat (go_quiet (fail); try go_wp2)
    go_ret
    exact ⟨by first | rfl | (simp; done) | (simp [*]; done), by repeat (first | exact Drawn0.refl _ | apply Drawn0.step)⟩

end Go.Proofs.YtkkpjonfaflkmaaGreatDoor.T

-- Written by a program of this session (mp.py over the kit's print.py), out of the translation.
namespace Go.Proofs.YtkkpjonfaflkmaaGreatDoor.T
set_option linter.unusedSimpArgs false
open Go.RowKit Go.Proofs.YtkkpjonfaflkmaaGreatDoorW.PrintWords Go.Proofs.YtkkpjonfaflkmaaGreatDoorW.PrintLast Go.Proofs.YtkkpjonfaflkmaaGreatDoorW.PrintMore
attribute [local go_sem] max2_int min2_int max_two min_two max_three min_three max_four min_four   -- for this text's walks alone
set_option linter.unusedVariables false
set_option linter.unusedSimpArgs false

/-! ### qanatlaw03_small: function 39 -/
def qanatlaw03_small.f (a0 : ByteArray) : Option (Bool) := some (decide ((a0.size : Int) ≤ 3000))
set_option maxHeartbeats 8000000 in
set_option maxRecDepth 100000 in
theorem qanatlaw03_small.calls (a0 : ByteArray) (r : Bool) (w : World) (h : qanatlaw03_small.f a0 = some r) :
    Calls Tryz.prog 39 #[.string a0] w fun e w' => e = .returned (.bool r) ∧ Drawn0 w w' := by
  have H : (some (decide ((a0.size : Int) ≤ 3000))) = some r := h
  clear h
  obtain rfl := Option.some.inj H
  go_enter Tryz.func39, Tryz.ntmps39
  go_wp2
  go_ret
  exact ⟨by first | rfl | (simp; done) | (simp [*]; done), by repeat (first | exact Drawn0.refl _ | apply Drawn0.step)⟩

end Go.Proofs.YtkkpjonfaflkmaaGreatDoor.T

/- The tokens of a source, as functions on lists of bytes alone: what scan's functions and the reference's compute. -/
namespace Go.Proofs.YtkkpjonfaflkmaaGreatDoor.S
set_option linter.unusedSimpArgs false
set_option linter.unusedVariables false

/-- A symbol character, a digit, a printable byte. -/
def sym (c : Int) : Bool := (decide (97 ≤ c) && decide (c ≤ 122)) || (decide (65 ≤ c) && decide (c ≤ 90)) || (decide (48 ≤ c) && decide (c ≤ 57)) || decide (c = 46) || decide (c = 95) || decide (c = 33) || decide (c = 63)
def dig (c : Int) : Bool := decide (48 ≤ c) && decide (c ≤ 57)
def prn (c : Int) : Bool := decide (32 ≤ c) && decide (c ≤ 126)
def up (c : Int) : Int := if 97 ≤ c ∧ c ≤ 122 then c - 32 else c

/-- A comment, from an offset and a line on, so deep: the end of the source; or its end, the line there, and the line of the first byte in it that may not stand there (0: none). -/
inductive CR where
  | eof
  | done (at_ line bad : Nat)
deriving DecidableEq
def cmt : List Int → (i deep line bad : Nat) → CR
  | [], _, _, _, _ => .eof
  | [_], _, _, _, _ => .eof
  | c :: d :: t, i, deep, line, bad =>
    if c = 47 ∧ d = 42 then cmt t (i + 2) (deep + 1) line bad
    else if c = 42 ∧ d = 47 then (if deep = 1 then .done (i + 2) line bad else cmt t (i + 2) (deep - 1) line bad)
    else cmt (d :: t) (i + 1) deep (if c = 10 then line + 1 else line) (if c ≠ 10 ∧ prn c = false ∧ bad = 0 then line else bad)

/-- A literal behind its quote q: none: it does not end; or its content and the offset of the quote that ends it. -/
def lit (q : Int) : List Int → Nat → List Int → Option (List Int × Nat)
  | [], _, _ => none
  | [c], i, acc => if c = 10 then none else if c = q then some (acc, i) else none
  | c :: d :: t, i, acc =>
    if c = 10 then none
    else if c = q then (if d = q then lit q t (i + 2) (acc ++ [q]) else some (acc, i))
    else lit q (d :: t) (i + 1) (acc ++ [c])

/-- The value of a hexadecimal digit; -1: it is none. -/
def hexv (c : Int) : Int := if 48 ≤ c ∧ c ≤ 57 then c - 48 else if 97 ≤ c ∧ c ≤ 102 then c - 87 else if 65 ≤ c ∧ c ≤ 70 then c - 55 else -1
/-- The number that digits of a base denote. -/
def decG (base : Int) : List Int → Int → Option Int
  | [], n => some n
  | c :: t, n => if hexv c < 0 ∨ base ≤ hexv c then none else decG base t (n * base + hexv c)
def decK (base : Int) (w : Nat) : Nat → List Int → Option (List Int)
  | 0, _ => some []
  | k + 1, xs => match decG base (xs.take w) 0 with
    | none => none
    | some n => if prn n = true then (decK base w k (xs.drop w)).map (n :: ·) else none
/-- The bytes that digits of a base denote, w for each byte. -/
def decode (base : Int) (w : Nat) (xs : List Int) : Option (List Int) := if xs.length % w ≠ 0 then none else decK base w (xs.length / w) xs

/-- A rule's result: an error's code, and how many lines behind the present one; or a text, and the length of what was read. -/
inductive TR where
  | err (code : Nat)
  | ok (text : List Int) (n : Nat)
deriving DecidableEq
/-- The suffix behind a literal: 0: none, 4: hexadecimal, 1: binary. -/
def sfxOf (c : Int) : Nat := if c = 88 ∨ c = 120 then 4 else if c = 66 ∨ c = 98 then 1 else 0
def sfx : List Int → Nat
  | [] => 0
  | [c] => sfxOf c
  | c :: d :: _ => if sym d = true then 0 else sfxOf c
def litEnd (v : List Int) (n : Nat) : TR := if 1000 < v.length then .err 30 else .ok v n
def litDec (v : List Int) (sx : Nat) : Option (List Int) := if sx = 4 then decode 16 2 v else decode 2 8 v
def litTok : List Int → TR
  | [] => .err 6
  | q :: t => match lit q t 1 [] with
    | none => .err 6
    | some (v, i) =>
      if v.all prn = true then
        (if sfx ((q :: t).drop (i + 1)) = 0 then litEnd v (i + 1) else match litDec v (sfx ((q :: t).drop (i + 1))) with
          | none => .err 15
          | some u => litEnd u (i + 2))
      else .err 13

/-- How many bytes of a kind stand ahead. -/
def run (p : Int → Bool) : List Int → Nat
  | [] => 0
  | c :: t => if p c = true then run p t + 1 else 0
/-- Digits with at most one period, at least one digit, and then E. -/
def mant (xs : List Int) : Bool :=
  match xs.getLast? with
  | none => false
  | some e => (decide (e = 69) || decide (e = 101)) && xs.dropLast.all (fun c => dig c || decide (c = 46)) && xs.dropLast.any dig && decide (xs.dropLast.count 46 ≤ 1)
def expo : List Int → Bool
  | c :: d :: _ => (decide (c = 43) || decide (c = 45)) && dig d
  | _ => false
def symLen (xs : List Int) : Nat := if mant (xs.take (run sym xs)) = true ∧ expo (xs.drop (run sym xs)) = true then run sym xs + 1 + run dig (xs.drop (run sym xs + 1)) else run sym xs
def symTok (xs : List Int) : TR := if 40 < symLen xs then .err 30 else .ok ((xs.take (symLen xs)).map up) (symLen xs)

/-- The operators and punctuation characters, the longest ones first. -/
def signs : List (List Int) := [[92, 61, 61], [92, 62, 62], [92, 60, 60], [62, 62, 61], [60, 60, 61], [42, 42], [47, 47], [124, 124], [38, 38], [61, 61], [92, 61], [92, 62], [92, 60], [62, 61], [60, 61], [62, 62], [60, 60], [62, 60], [60, 62],
  [43], [45], [42], [47], [37], [124], [38], [61], [62], [60], [92], [40], [41], [44], [58], [59]]
def signTok (xs : List Int) : TR := match signs.find? (fun x => x.isPrefixOf xs) with
  | none => .err 13
  | some x => .ok x x.length

/-- The next rule. -/
inductive Step where
  | fin
  | line
  | blank
  | cmt (n dl : Nat)
  | tok (kind : Nat) (text : List Int) (n : Nat)
  | err (code dl : Nat)
deriving DecidableEq
def tokStep (k : Nat) : TR → Step
  | .err c => .err c 0
  | .ok t n => .tok k t n
def cmtStep : CR → Step
  | .eof => .err 6 0
  | .done i l bad => if bad = 0 then .cmt i (l - 1) else .err 13 (bad - 1)
/-- Two bytes stand ahead. -/
def st2 (a b : Int) : List Int → Bool
  | c :: d :: _ => decide (c = a) && decide (d = b)
  | _ => false
def starts2 : List Int → Bool
  | c :: d :: _ => decide (c = 47) && decide (d = 42)
  | _ => false
theorem starts2_eq (xs : List Int) : starts2 xs = st2 47 42 xs := by rcases xs with _ | ⟨_, _ | ⟨_, _⟩⟩ <;> rfl
def step (xs : List Int) : Step := match xs with
  | [] => .fin
  | c :: t =>
    if c = 10 then .line
    else if c = 32 then .blank
    else if starts2 (c :: t) = true then cmtStep (cmt (c :: t) 0 0 1 0)
    else if c = 39 ∨ c = 34 then tokStep 2 (litTok (c :: t))
    else if sym c = true then tokStep 1 (symTok (c :: t))
    else tokStep 3 (signTok (c :: t))

/-- A token: kind, text, gap, line, offset, end. -/
structure Tk where
  kind : Nat
  text : List Int
  gap : Bool
  line : Nat
  at_ : Nat
  «to» : Nat
deriving DecidableEq
def comma (l : List Tk) : Bool := match l.getLast? with
  | none => false
  | some t => decide (t.kind = 3) && decide (t.text = [44])
def label : List Tk → Bool
  | [a, b] => decide (a.kind = 1) && decide (b.kind = 3) && decide (b.text = [58])
  | _ => false
def endTk (i j line : Nat) : Tk := ⟨4, [], false, line, i, j⟩
/-- The clause that ends: none, if it has no token. -/
def emit (cur : List Tk) (i j line : Nat) : List (List Tk) := if cur = [] then [] else [cur ++ [endTk i j line]]
def cut (cur : List Tk) : List Tk := if comma cur = true then cur.dropLast else cur

/-- The clauses, each with its end; and the error (code, line), the last clause being incomplete then. -/
structure Out where
  cl : List (List Tk)
  err : Option (Nat × Nat)
deriving DecidableEq
def Out.pre (l : List (List Tk)) (o : Out) : Out := ⟨l ++ o.cl, o.err⟩
def go : Nat → List Int → (i line : Nat) → List Tk → Bool → Out
  | 0, _, _, _, _, _ => ⟨[], none⟩
  | f + 1, xs, i, line, cur, gap => match step xs with
    | .fin => ⟨emit (cut cur) i i line, none⟩
    | .line => if comma cur = true then go f (xs.drop 1) (i + 1) (line + 1) cur.dropLast true else (go f (xs.drop 1) (i + 1) (line + 1) [] false).pre (emit cur i (i + 1) line)
    | .blank => go f (xs.drop 1) (i + 1) line cur true
    | .cmt n dl => go f (xs.drop n) (i + n) (line + dl) cur gap
    | .tok k t n =>
      if k = 3 ∧ t = [59] then (go f (xs.drop n) (i + n) line [] false).pre (emit cur i (i + n) line)
      else if label (cur ++ [⟨k, t, gap && !decide (cur = []), line, i, i + n⟩]) = true then
        (go f (xs.drop n) (i + n) line [] false).pre (emit (cur ++ [⟨k, t, gap && !decide (cur = []), line, i, i + n⟩]) (i + n) (i + n) line)
      else go f (xs.drop n) (i + n) line (cur ++ [⟨k, t, gap && !decide (cur = []), line, i, i + n⟩]) false
    | .err code dl => ⟨if cur = [] then [] else [cur], some (code, line + dl)⟩
def scan (xs : List Int) : Out := go (xs.length + 1) xs 0 1 [] false
def tokens (xs : List Int) : List Tk := (scan xs).cl.flatten
end Go.Proofs.YtkkpjonfaflkmaaGreatDoor.S

/- A buffer of bytes that a conversion made: what stands in it, what a write makes of it. -/
namespace Go.Proofs.YtkkpjonfaflkmaaGreatDoor.T
set_option linter.unusedSimpArgs false
set_option linter.unusedVariables false
open Go.RowKit Go.Proofs.YtkkpjonfaflkmaaGreatDoorW.PrintWords Go.Proofs.YtkkpjonfaflkmaaGreatDoorW.PrintLast Go.Proofs.YtkkpjonfaflkmaaGreatDoorW.PrintMore

/-- Block g holds the bytes xs, and they can be written. -/
def Buf (g : Nat) (xs : List Int) (W : World) : Prop :=
  ∃ (c : Array Value) (e lo hi : Nat), W.heap[g]? = some (.cells c e (lo, hi)) ∧ (xs.length ≤ lo ∨ hi = 0) ∧ ∀ j, j < xs.length → c[j]? = some (.int .u8 (xs.getD j 0))
theorem Buf.new (W : World) (s : ByteArray) : Buf W.heap.size (bytesOf s) (Lib.bytesWorld W 5 s) := by
  refine ⟨_, _, _, _, Lib.bytesWorld_at_new W 5 s, .inl ?_, fun j hj => ?_⟩
  · rw [bytesOf_length]
    simp [Lib.bytesCells]
  · rw [bytesOf_length] at hj
    have h := Lib.bytesWorld_cell W 5 s j hj
    simp only [World.cell?, Lib.bytesWorld_at_new] at h
    have h' : j < s.data.toList.length := by rw [data_length]; exact hj
    rw [show (Lib.bytesCells W 5 s)[j]? = some (.int .u8 (s.data.toList.getD j 0).toNat) from h]
    simp [bytesOf, List.getD_eq_getElem?_getD, List.getElem?_eq_getElem h']
theorem Buf.cell {g : Nat} {xs : List Int} {W : World} (h : Buf g xs W) (j : Nat) (hj : j < xs.length) : W.cell? ⟨g, j, none⟩ = some (.int .u8 (xs.getD j 0)) := by
  obtain ⟨c, e, lo, hi, hg, hl, hc⟩ := h
  simp only [World.cell?, hg]
  exact hc j hj
theorem Buf.free {g : Nat} {xs : List Int} {W : World} (h : Buf g xs W) (j : Nat) (hj : j < xs.length) : W.frozen? ⟨g, j, none⟩ = false := by
  obtain ⟨c, e, lo, hi, hg, hl, hc⟩ := h
  simp only [World.frozen?, hg]
  rcases hl with hl | rfl
  · have : ¬ lo ≤ j := by omega
    simp [this]
  · simp
theorem Buf.set {g : Nat} {xs : List Int} {W : World} (h : Buf g xs W) (j : Nat) (x : Int) (hj : j < xs.length) : Buf g (xs.set j x) (W.setCell ⟨g, j, none⟩ (.int .u8 x)) := by
  obtain ⟨c, e, lo, hi, hg, hl, hc⟩ := h
  refine ⟨c.setIfInBounds j (.int .u8 x), e, lo, hi, Lib.heap_setCell_same hg _, by rw [List.length_set]; exact hl, fun k hk => ?_⟩
  rw [List.length_set] at hk
  rw [Array.getElem?_setIfInBounds]
  by_cases e1 : j = k
  · subst e1
    have h1 : j < c.size := (Array.getElem?_eq_some_iff.1 (hc j hj)).1
    simp [h1, List.getD_eq_getElem?_getD, hj]
  · simp only [e1, if_false]
    rw [hc k hk]
    simp [List.getD_eq_getElem?_getD, e1]
theorem Buf.reads {g : Nat} {xs : List Int} {W : World} (h : Buf g xs W) (hl : xs.length ≤ 9223372036854775807) : ReadsInt W .u8 (some ⟨g, 0, none⟩) xs.length xs :=
  ⟨rfl, hl, fun _ => ⟨_, rfl, fun j hj => by rw [add_plain]; exact h.cell j hj⟩⟩
theorem Buf.drewN {g : Nat} {xs : List Int} {W : World} (h : Buf g xs W) (n : Nat) : Buf g xs (W.drewN n) := h
theorem Buf.drawn {g : Nat} {xs : List Int} {W W' : World} (h : Buf g xs W) (hd : Drawn0 W W') : Buf g xs W' := by
  obtain ⟨n, rfl⟩ := hd.out
  exact h

theorem Buf.blk {g : Nat} {xs : List Int} {W W' : World} (h : Buf g xs W) (e : W'.heap[g]? = W.heap[g]?) : Buf g xs W' := by
  obtain ⟨c, t, lo, hi, hg, hl, hc⟩ := h
  exact ⟨c, t, lo, hi, e.trans hg, hl, hc⟩

theorem bt_getD (s : ByteArray) (k : Nat) (hk : k < s.size) : bt s (k : Int) = (bytesOf s).getD k 0 := by
  have h' : k < s.data.toList.length := by rw [data_length]; exact hk
  simp [bt, hk, bytesOf, List.getD_eq_getElem?_getD, List.getElem?_eq_getElem h']
  rfl
theorem bo_range (s : ByteArray) (x : Int) (h : x ∈ bytesOf s) : 0 ≤ x ∧ x < 256 := by
  simp only [bytesOf, List.mem_map] at h
  obtain ⟨b, _, rfl⟩ := h
  have := b.toNat_lt
  omega

/-- The first k elements turned, the others not. -/
def part_map (f : Int → Int) (k : Nat) (xs : List Int) : List Int := (xs.take k).map f ++ xs.drop k
theorem part_map_length (f : Int → Int) (k : Nat) (xs : List Int) : (part_map f k xs).length = xs.length := by
  simp [part_map]; omega
theorem part_map_zero (f : Int → Int) (xs : List Int) : part_map f 0 xs = xs := by simp [part_map]
theorem part_map_all (f : Int → Int) (xs : List Int) : part_map f xs.length xs = xs.map f := by simp [part_map]
theorem part_map_at (f : Int → Int) (k : Nat) (xs : List Int) (hk : k < xs.length) : (part_map f k xs).getD k 0 = xs.getD k 0 := by
  have h1 : ((xs.take k).map f).length = k := by simp; omega
  simp only [part_map, List.getD_eq_getElem?_getD]
  rw [List.getElem?_append_right (by omega), h1]
  simp
theorem part_map_set (f : Int → Int) (k : Nat) (xs : List Int) (hk : k < xs.length) : (part_map f k xs).set k (f (xs.getD k 0)) = part_map f (k + 1) xs := by
  have h1 : ((xs.take k).map f).length = k := by simp; omega
  unfold part_map
  have h2 : xs.take (k + 1) = xs.take k ++ [xs[k]] := by rw [List.take_add_one, List.getElem?_eq_getElem hk]; rfl
  rw [List.set_append_right _ _ (by omega), h1, Nat.sub_self, List.drop_eq_getElem_cons hk, List.set_cons_zero, h2, List.map_append, List.append_assoc]
  simp [List.getD_eq_getElem?_getD, List.getElem?_eq_getElem hk]
theorem getD_mem (xs : List Int) (k : Nat) (hk : k < xs.length) : xs.getD k 0 ∈ xs := by
  have h1 : xs.getD k 0 = xs[k] := by simp [List.getD_eq_getElem?_getD, List.getElem?_eq_getElem hk]
  rw [h1]; exact List.getElem_mem hk

end Go.Proofs.YtkkpjonfaflkmaaGreatDoor.T

/- The scanner's small methods: fail, run. -/
namespace Go.Proofs.YtkkpjonfaflkmaaGreatDoor.T
set_option linter.unusedSimpArgs false
set_option linter.unusedVariables false
open Go.RowKit Go.Proofs.YtkkpjonfaflkmaaGreatDoorW.PrintWords Go.Proofs.YtkkpjonfaflkmaaGreatDoorW.PrintLast Go.Proofs.YtkkpjonfaflkmaaGreatDoorW.PrintMore

/-- The scanner of a source, at an offset and a line, in block s. -/
def Sc (s : Nat) (src : ByteArray) (i line : Int) (m : Value) (w : World) : Prop := w.heap[s]? = some (.cells #[.string src, .int .i64 i, .int .i64 line, m] 93 (0, 0))
theorem Sc.c0 {s : Nat} {src : ByteArray} {i line : Int} {m : Value} {w : World} (h : Sc s src i line m w) : w.cell? ⟨s, 0, none⟩ = some (.string src) := (blk_cell h 0).trans rfl
theorem Sc.c1 {s : Nat} {src : ByteArray} {i line : Int} {m : Value} {w : World} (h : Sc s src i line m w) : w.cell? ⟨s, 1, none⟩ = some (.int .i64 i) := (blk_cell h 1).trans rfl
theorem Sc.c2 {s : Nat} {src : ByteArray} {i line : Int} {m : Value} {w : World} (h : Sc s src i line m w) : w.cell? ⟨s, 2, none⟩ = some (.int .i64 line) := (blk_cell h 2).trans rfl
theorem Sc.c3 {s : Nat} {src : ByteArray} {i line : Int} {m : Value} {w : World} (h : Sc s src i line m w) : w.cell? ⟨s, 3, none⟩ = some m := (blk_cell h 3).trans rfl
theorem Sc.fr {s : Nat} {src : ByteArray} {i line : Int} {m : Value} {w : World} (h : Sc s src i line m w) (j : Nat) : w.frozen? ⟨s, j, none⟩ = false := blk_frozen h j
theorem Sc.lt {s : Nat} {src : ByteArray} {i line : Int} {m : Value} {w : World} (h : Sc s src i line m w) : s < w.heap.size := (Array.getElem?_eq_some_iff.1 h).1
theorem Sc.set1 {s : Nat} {src : ByteArray} {i line : Int} {m : Value} {w : World} (h : Sc s src i line m w) (x : Int) : Sc s src x line m (w.setCell ⟨s, 1, none⟩ (.int .i64 x)) := blk_put (cs := #[.string src, .int .i64 i, .int .i64 line, m]) h 1 _ rfl
theorem Sc.set2 {s : Nat} {src : ByteArray} {i line : Int} {m : Value} {w : World} (h : Sc s src i line m w) (x : Int) : Sc s src i x m (w.setCell ⟨s, 2, none⟩ (.int .i64 x)) := blk_put (cs := #[.string src, .int .i64 i, .int .i64 line, m]) h 2 _ rfl
theorem Sc.drawn {s : Nat} {src : ByteArray} {i line : Int} {m : Value} {w w' : World} (h : Sc s src i line m w) (hd : Drawn0 w w') : Sc s src i line m w' := by obtain ⟨n, rfl⟩ := hd.out; exact h
theorem Sc.below {s : Nat} {src : ByteArray} {i line : Int} {m : Value} {w w' : World} (h : Sc s src i line m w) (hb : Below w.heap.size w w') : Sc s src i line m w' := (hb.block _ h.lt).trans h

/-- A lexical error, as panic hands it on. -/
def fl (code line : Int) : Value := .iface 76 (.agg #[.int .i64 code, .int .i64 line])
def Fails (code line : Int) : Ending := .panicked [{ v := fl code line, recovered := false }]

theorem scan_fail.calls (p : Value) (c l : Int) (w : World) : Calls Tryz.prog 97 #[p, .int .i64 c, .int .i64 l] w fun e w' => e = Fails c l ∧ w' = w := by
  unfold Fails fl
  go_enter Tryz.func97, Tryz.ntmps97
  go_wp2
  exact ⟨rfl, rfl, rfl⟩

theorem drop_at (L : List Int) (k : Nat) (hk : k < L.length) : L.drop k = L.getD k 0 :: L.drop (k + 1) := by
  rw [List.drop_eq_getElem_cons hk]
  simp [List.getD_eq_getElem?_getD, List.getElem?_eq_getElem hk]

/-- What a function value of no bound values is asked for, at bytes. -/
def Tells (g : Nat) (p : Int → Bool) : Prop := ∀ (W : World) (x : Int), 0 ≤ x → x < 256 → Calls Tryz.prog g #[.int .u8 x] W fun e W' => e = .returned (.bool (p x)) ∧ Drawn0 W W'

set_option maxHeartbeats 2000000 in
theorem scan_run.calls (s : Nat) (src : ByteArray) (i line : Int) (m : Value) (frm : Nat) (g : Nat) (p : Int → Bool) (w : World) (hsz : src.size ≤ 1000000) (hf : frm ≤ src.size)
    (eg : ∀ args w, (callFunc g args).run Tryz.prog w = .ok (.enter g args) w) (hp : Tells g p) (h : Sc s src i line m w) :
    Calls Tryz.prog 94 #[.pointer (some ⟨s, 0, none⟩), .int .i64 frm, .func (.func g) #[] #[]] w fun e w' => e = .returned (.int .i64 ((frm + S.run p ((bytesOf src).drop frm) : Nat) : Int)) ∧ Drawn0 w w' := by
  have HP := Aside0.mk hp
  have HS := Aside0.mk h
  clear hp h
  obtain ⟨n, hn⟩ : ∃ n, src.size = n := ⟨_, rfl⟩
  obtain ⟨L, hL⟩ : ∃ L, bytesOf src = L := ⟨_, rfl⟩
  have HN : Aside0 (L.length = n) := ⟨by rw [← hL, bytesOf_length]; exact hn⟩
  rw [hL]
  obtain ⟨R, hR⟩ : ∃ R : Nat, frm + S.run p (L.drop frm) = R := ⟨_, rfl⟩
  rw [hR]
  have HR := Aside0.mk hR
  have HL := Aside0.mk hL
  clear hR hL
  rw [hn] at hsz hf
  go_enter Tryz.func94, Tryz.ntmps94
  go_wp2
  go_loopg [1] n (fun gg s1 wr => ∃ kk : Nat, kk ≤ n ∧ n - kk ≤ gg ∧ s1 = .int .i64 kk ∧ Aside0 (Drawn0 w wr) ∧ Aside0 (kk + S.run p (L.drop kk) = R))
  case atStart => exact ⟨frm, hf, by omega, rfl, ⟨.refl _⟩, HR⟩
  case round =>
    obtain ⟨kk, hkk, hg, rfl, HB, HA⟩ := hrel
    have c0 := (HS.out.drawn HB.out).c0
    by_cases hlt : kk < n
    · have hltz : (kk : Int) < (n : Int) := by omega
      have hl : kk < src.size := by omega
      have hx : ((src[kk]'hl).toNat : Int) = bt src (kk : Int) := by simp [bt, hl]
      have hr := bt_range src (kk : Int)
      have hy0 : bt src (kk : Int) = L.getD kk 0 := by rw [← HL.out]; exact bt_getD src kk hl
      have HD := Aside0.mk (drop_at L kk (by have := HN.out; omega))
      rw [← hy0] at HD
      generalize bt src (kk : Int) = y at hx hr HD
      have hcall := HP.out wr y hr.1 (by omega)
      clear hr hy0
      cases hq : p y with
      | true =>
        rw [hq] at hcall
        have HC := Lib.hid hcall
        have HQ := Aside0.mk hq
        clear hcall hq
        go_wp2_with (go_at_fn g; refine HC.out.mono ?_; rintro e w' ⟨rfl, ⟨⟨q, rfl⟩⟩⟩)
        go_roundg (n - (kk + 1))
        case measure => omega
        case rel =>
          refine ⟨kk + 1, by omega, by omega, by go_num, ⟨HB.out.step q⟩, ⟨?_⟩⟩
          have := HA.out
          rw [HD.out] at this
          simp only [S.run, HQ.out, if_true] at this
          omega
      | false =>
        rw [hq] at hcall
        have HC := Lib.hid hcall
        have HQ := Aside0.mk hq
        clear hcall hq
        go_wp2_with (go_at_fn g; refine HC.out.mono ?_; rintro e w' ⟨rfl, ⟨⟨q, rfl⟩⟩⟩)
        go_ret
        refine ⟨?_, HB.out.step q⟩
        have := HA.out
        rw [HD.out] at this
        simp only [S.run, HQ.out, Bool.false_eq_true, if_false] at this
        have e : kk = R := by omega
        rw [e]; rfl
    · have hltz : ¬ (kk : Int) < (n : Int) := by omega
      have hkn : kk = n := by omega
      subst hkn
      go_wp2
      go_ret
      refine ⟨?_, HB.out⟩
      have := HA.out
      rw [List.drop_eq_nil_of_le (by have := HN.out; omega)] at this
      simp only [S.run] at this
      have e : kk = R := by omega
      rw [e]; rfl
end Go.Proofs.YtkkpjonfaflkmaaGreatDoor.T

/- A call that changes, of the blocks that were there, at most some. -/
namespace Go.Proofs.YtkkpjonfaflkmaaGreatDoor.T
set_option linter.unusedSimpArgs false
set_option linter.unusedVariables false
open Go.RowKit Go.Proofs.YtkkpjonfaflkmaaGreatDoorW.PrintWords Go.Proofs.YtkkpjonfaflkmaaGreatDoorW.PrintLast Go.Proofs.YtkkpjonfaflkmaaGreatDoorW.PrintMore

/-- Of the blocks of w, at most those in A are changed. -/
structure But (A : Nat → Prop) (w w' : World) : Prop where
  os : w'.os = w.os
  tape : w'.tape = w.tape
  output : w'.output = w.output
  size : w.heap.size ≤ w'.heap.size
  block : ∀ k, k < w.heap.size → ¬ A k → w'.heap[k]? = w.heap[k]?
theorem But.refl (A : Nat → Prop) (w : World) : But A w w := ⟨rfl, rfl, rfl, Nat.le_refl _, fun _ _ _ => rfl⟩
theorem But.trans {A B C : Nat → Prop} {w w' w'' : World} (h : But A w w') (h' : But B w' w'') (hA : ∀ k, k < w.heap.size → A k → C k) (hB : ∀ k, k < w.heap.size → B k → C k) : But C w w'' :=
  ⟨h'.os.trans h.os, h'.tape.trans h.tape, h'.output.trans h.output, Nat.le_trans h.size h'.size, fun k hk hc => (h'.block k (Nat.lt_of_lt_of_le hk h.size) (fun e => hc (hB k hk e))).trans (h.block k hk (fun e => hc (hA k hk e)))⟩
theorem But.trans' {A : Nat → Prop} {w w' w'' : World} (h : But A w w') (h' : But A w' w'') : But A w w'' := h.trans h' (fun _ _ e => e) (fun _ _ e => e)
theorem But.mono {A B : Nat → Prop} {w w' : World} (h : But A w w') (hA : ∀ k, k < w.heap.size → A k → B k) : But B w w' := ⟨h.os, h.tape, h.output, h.size, fun k hk hb => h.block k hk (fun e => hb (hA k hk e))⟩
theorem But.of_below {A : Nat → Prop} {w w' : World} (h : Below w.heap.size w w') : But A w w' := ⟨h.os, h.tape, h.output, h.size, fun k hk _ => h.block k hk⟩
theorem But.below {w w' : World} (h : But (fun _ => False) w w') : Below w.heap.size w w' := ⟨h.os, h.tape, h.output, h.size, fun k hk => h.block k hk (fun e => e)⟩
theorem But.belowB {A : Nat → Prop} {B : Nat} {w w' : World} (h : But A w w') (hB : B ≤ w.heap.size) (hA : ∀ k, k < B → ¬ A k) : Below B w w' := ⟨h.os, h.tape, h.output, h.size, fun k hk => h.block k (by omega) (hA k hk)⟩
theorem But.then {A : Nat → Prop} {w w' w'' : World} (h : But A w w') (h' : Below w'.heap.size w' w'') : But A w w'' := h.trans' (.of_below h')
theorem But.set {A : Nat → Prop} {w w' : World} (h : But A w w') (a : Addr) (v : Value) (ha : A a.block) : But A w (w'.setCell a v) := by
  have hg : w'.grownBy (w'.setCell a v) (some a.block) := ⟨rfl, rfl, rfl, by simp [World.setCell], fun k _ hk => Below.heap_setCell w' a v k (fun e => hk (by rw [e]))⟩
  exact ⟨hg.os.trans h.os, hg.tape.trans h.tape, hg.output.trans h.output, Nat.le_trans h.size hg.size, fun k hk hn => (hg.block k (Nat.lt_of_lt_of_le hk h.size) (fun e => hn (by cases e; exact ha))).trans (h.block k hk hn)⟩
theorem But.drewN {A : Nat → Prop} {w w' : World} (h : But A w w') (n : Nat) : But A w (w'.drewN n) := ⟨h.os, h.tape, h.output, h.size, h.block⟩
theorem But.drew {A : Nat → Prop} {w w' : World} (h : But A w w') : But A w w'.drew := ⟨h.os, h.tape, h.output, h.size, h.block⟩
theorem But.drawn {A : Nat → Prop} {w w' w'' : World} (h : But A w w') (hd : Drawn0 w' w'') : But A w w'' := by obtain ⟨n, rfl⟩ := hd.out; exact h.drewN n
theorem But.alloc {A : Nat → Prop} {w w' : World} (h : But A w w') (o : Obj) : But A w (w'.alloc o) := h.then (below_alloc (Below.refl _ _) o)
end Go.Proofs.YtkkpjonfaflkmaaGreatDoor.T

/- What the walks ask of the library's variables: TabOK; and that a row's listed variables give it. -/
namespace Go.Proofs.YtkkpjonfaflkmaaGreatDoor.T
set_option linter.unusedSimpArgs false
set_option linter.unusedVariables false
open Go.RowKit Go.Proofs.YtkkpjonfaflkmaaGreatDoorW.PrintWords Go.Proofs.YtkkpjonfaflkmaaGreatDoorW.PrintLast Go.Proofs.YtkkpjonfaflkmaaGreatDoorW.PrintMore

/-- The variables of the library's that the callees read, as their initialisers lay them. -/
structure TabOK (w : World) : Prop where
  most : ∃ m, w.cell? ⟨0, 0, none⟩ = some (.int .i64 m)
  space : Lib.TabIs Tryz.prog w "strings.asciiSpace" .u8 Lib.asciiSpaceTab
  white : Lib.WhiteTab 2 w
theorem TabOK.of_below {w w' : World} (h : TabOK w) (hb : Below w.heap.size w w') : TabOK w' where
  most := by
    obtain ⟨m, hm⟩ := h.most
    exact ⟨m, pw_cell_below hb hm⟩
  space := by
    have h := h.space
    have hgn : Tryz.prog.globalNamed "strings.asciiSpace" = some 1 := by kernel_rfl
    unfold Lib.TabIs World.var? at h ⊢
    rw [hgn] at h ⊢
    simp only [Option.bind_some] at h ⊢
    have hlt : 1 < w.heap.size := by
      rcases Nat.lt_or_ge 1 w.heap.size with h' | h'
      · exact h'
      · rw [Array.getElem?_eq_none h'] at h; cases h
    rw [hb.block 1 hlt]
    exact h
  white := WhiteTab_below h.white hb
theorem tabIs_of_reads {P : Program} {W : World} {name : String} {k : IntKind} {zs : List Int} {g : Nat} {t e : TypeId} {n : Nat}
    (hg : P.globalNamed name = some g) (hty : (P.globals[g]?).map (·.type) = some t) (ht : P.underlying t = some (.array n e)) (he : P.underlying e = some (.int k)) (hce : P.cellsOf e = 1) (hct : P.cellsOf t = n)
    (h : Lib.VarReads P W name (Lib.tabData k zs)) : Lib.TabIs P W name k zs := by
  obtain ⟨g', t', cs, fuel, p, hg', ht', hvar, hd⟩ := h
  obtain rfl := Option.some.inj (hg.symm.trans hg')
  obtain rfl := Option.some.inj (hty.symm.trans ht')
  unfold Lib.TabIs
  rw [hvar, ← Lib.cells_of_tab ht he hce hct hd]
theorem tabOK_of (W : World) (hsh : W.ShapedOpen Tryz.prog) (h1 : Lib.VarReads Tryz.prog W "strings.asciiSpace" (Lib.tabData .u8 Lib.asciiSpaceTab)) (h2 : Lib.VarReads Tryz.prog W "unicode.White_Space" Lib.whiteData) : TabOK W where
  most := Tryz.laysM155.s1_3 W hsh
  space := tabIs_of_reads (g := 1) (t := 146) (e := 5) (n := 256) (by kernel_rfl) (by kernel_rfl) (by kernel_rfl) Tryz.underlying5 (by kernel_rfl) (by kernel_rfl) h1
  white := whiteTab_of_reads Tryz.lays199 ⟨by kernel_rfl, by kernel_rfl, by kernel_rfl, by kernel_rfl, by kernel_rfl, by kernel_rfl, by kernel_rfl, by kernel_rfl⟩ h2
end Go.Proofs.YtkkpjonfaflkmaaGreatDoor.T

/- The library's IndexByte, Count, HasPrefix, TrimRight, Trim, Cut, Split, ReplaceAll and Fields return what the functions strings_Count.f and so on say. -/
namespace Go.Proofs.YtkkpjonfaflkmaaGreatDoor.T
set_option linter.unusedSimpArgs false
set_option linter.unusedVariables false
open Go.RowKit Go.Proofs.YtkkpjonfaflkmaaGreatDoorW.PrintWords Go.Proofs.YtkkpjonfaflkmaaGreatDoorW.PrintLast Go.Proofs.YtkkpjonfaflkmaaGreatDoorW.PrintMore

def strings_IndexByte.f (a0 : ByteArray) (a1 : Int) : Option Int := some (Lib.indexByte a0.data.toList a1.toNat.toUInt8)
theorem strings_IndexByte.calls (a0 : ByteArray) (a1 : Int) (r : Int) (w : World) (h : strings_IndexByte.f a0 a1 = some r) :
    Calls Tryz.prog 93 #[.string a0, .int .u8 a1] w fun e w' => e = .returned (.int .i64 r) ∧ Drawn0 w w' := by
  obtain rfl := Option.some.inj h
  refine (Tryz.strings_IndexByte a0 a1 w).mono ?_
  rintro e w' ⟨rfl, rfl⟩
  exact ⟨rfl, .refl _⟩

def strings_HasPrefix.f (a0 a1 : ByteArray) : Option Bool := some (Lib.hasPrefix a0.data.toList a1.data.toList)
theorem strings_HasPrefix.calls (a0 a1 : ByteArray) (r : Bool) (w : World) (h : strings_HasPrefix.f a0 a1 = some r) :
    Calls Tryz.prog 123 #[.string a0, .string a1] w fun e w' => e = .returned (.bool r) ∧ Drawn0 w w' := by
  obtain rfl := Option.some.inj h
  refine (Tryz.strings_HasPrefix a0 a1 w).mono ?_
  rintro e w' ⟨rfl, rfl⟩
  exact ⟨rfl, .refl _⟩

def strings_Count.f (a0 a1 : ByteArray) : Option Int :=
  match a1 with
  | ⟨⟨[c]⟩⟩ => some (Lib.countByte a0.data.toList c)
  | _ => none
theorem strings_Count.calls (a0 a1 : ByteArray) (r : Int) (w : World) (h : strings_Count.f a0 a1 = some r) :
    Calls Tryz.prog 77 #[.string a0, .string a1] w fun e w' => e = .returned (.int .i64 r) ∧ Drawn0 w w' := by
  unfold strings_Count.f at h
  split at h
  · next c =>
    obtain rfl := Option.some.inj h
    refine (Tryz.strings_Count_one a0 c w).mono ?_
    rintro e w' ⟨rfl, rfl⟩
    exact ⟨rfl, .refl _⟩
  · cases h

def strings_TrimRight.f (a0 a1 : ByteArray) : Option ByteArray :=
  if a0.size ≤ 100000 ∧ a1.size ≤ 1000 ∧ a1.data.toList.all (fun b => decide (b.toNat < 128)) = true then some ⟨(Lib.trimRightS a0.data.toList a1.data.toList).toArray⟩ else none
theorem ascii_all (a1 : ByteArray) (h : a1.data.toList.all (fun b => decide (b.toNat < 128)) = true) : ∀ (j : Nat) b, a1.data.toList[j]? = some b → b.toNat < 128 := fun j b hb =>
  of_decide_eq_true (List.all_eq_true.1 h b (List.mem_of_getElem? hb))
theorem strings_TrimRight.calls (a0 a1 : ByteArray) (r : ByteArray) (w : World) (h : strings_TrimRight.f a0 a1 = some r) :
    Calls Tryz.prog 127 #[.string a0, .string a1] w fun e w' => e = .returned (.string r) ∧ Below w.heap.size w w' := by
  unfold strings_TrimRight.f at h
  split at h
  · next hc =>
    obtain rfl := Option.some.inj h
    exact Any.strings_TrimRight_laid Tryz.lays162 (by kernel_rfl) a0 a1 w (by omega) (by omega) (ascii_all a1 hc.2.2)
  · cases h

def strings_Trim.f (a0 a1 : ByteArray) : Option ByteArray :=
  if a0.size ≤ 100000 ∧ a1.size ≤ 1000 ∧ a1.data.toList.all (fun b => decide (b.toNat < 128)) = true then some ⟨(Lib.trimS a0.data.toList a1.data.toList).toArray⟩ else none
theorem strings_Trim.calls (a0 a1 : ByteArray) (r : ByteArray) (w : World) (h : strings_Trim.f a0 a1 = some r) :
    Calls Tryz.prog 128 #[.string a0, .string a1] w fun e w' => e = .returned (.string r) ∧ Below w.heap.size w w' := by
  unfold strings_Trim.f at h
  split at h
  · next hc =>
    obtain rfl := Option.some.inj h
    exact Any.strings_Trim_laid Tryz.lays160 (by kernel_rfl) a0 a1 w (by omega) (by omega) (ascii_all a1 hc.2.2)
  · cases h

def strings_ReplaceAll.f (a0 a1 a2 : ByteArray) : Option ByteArray :=
  if a0.size ≤ 100000 ∧ 1 ≤ a1.size ∧ a0.size + Lib.countB a0 a1 * a2.size ≤ 100000000 then some ⟨(Lib.replaceAll a0.data.toList a1.data.toList a2.data.toList).toArray⟩ else none
theorem strings_ReplaceAll.calls (a0 a1 a2 : ByteArray) (r : ByteArray) (w : World) (hT : TabOK w) (h : strings_ReplaceAll.f a0 a1 a2 = some r) :
    Calls Tryz.prog 105 #[.string a0, .string a1, .string a2] w fun e w' => e = .returned (.string r) ∧ Below w.heap.size w w' := by
  unfold strings_ReplaceAll.f at h
  split at h
  · next hc =>
    obtain rfl := Option.some.inj h
    obtain ⟨m, hm⟩ := hT.most
    exact Tryz.strings_ReplaceAll a0 a1 a2 m w (by omega) hm hc.2.1 (by omega)
  · cases h

def strings_Cut.f (a0 a1 : ByteArray) : Option (ByteArray × ByteArray × Bool) :=
  if a0.size ≤ 100000 then some (⟨(Lib.cut a0.data.toList a1.data.toList).1.toArray⟩, ⟨(Lib.cut a0.data.toList a1.data.toList).2.1.toArray⟩, (Lib.cut a0.data.toList a1.data.toList).2.2) else none
theorem strings_Cut.calls (a0 a1 : ByteArray) (r1 r2 : ByteArray) (r3 : Bool) (w : World) (hT : TabOK w) (h : strings_Cut.f a0 a1 = some (r1, r2, r3)) :
    Calls Tryz.prog 61 #[.string a0, .string a1] w fun e w' => e = .returned (.tuple #[.string r1, .string r2, .bool r3]) ∧ Drawn0 w w' := by
  unfold strings_Cut.f at h
  split at h
  · next hc =>
    have h := Option.some.inj h
    simp only [Prod.mk.injEq] at h
    obtain ⟨rfl, rfl, rfl⟩ := h
    obtain ⟨m, hm⟩ := hT.most
    refine (Tryz.strings_Cut a0 a1 m w (by omega) hm).mono ?_
    rintro e w' ⟨rfl, n, rfl⟩
    exact ⟨rfl, ⟨⟨n, rfl⟩⟩⟩
  · cases h
end Go.Proofs.YtkkpjonfaflkmaaGreatDoor.T

-- Written by a program of this session (mp.py over the kit's print.py), out of the translation.
namespace Go.Proofs.YtkkpjonfaflkmaaGreatDoor.T
set_option linter.unusedSimpArgs false
open Go.RowKit Go.Proofs.YtkkpjonfaflkmaaGreatDoorW.PrintWords Go.Proofs.YtkkpjonfaflkmaaGreatDoorW.PrintLast Go.Proofs.YtkkpjonfaflkmaaGreatDoorW.PrintMore
attribute [local go_sem] max2_int min2_int max_two min_two max_three min_three max_four min_four   -- for this text's walks alone
set_option linter.unusedVariables false
set_option linter.unusedSimpArgs false

/-! ### scan_printable: function 65 -/
def scan_printable.f (a0 : Int) : Option (Bool) := if a0 ≥ 32 then (some (decide (a0 ≤ 126))) else (some false)
set_option maxHeartbeats 8000000 in
set_option maxRecDepth 100000 in
theorem scan_printable.calls (a0 : Int) (r : Bool) (w : World) (h : scan_printable.f a0 = some r) :
    Calls Tryz.prog 65 #[.int .u8 a0] w fun e w' => e = .returned (.bool r) ∧ Drawn0 w w' := by
  have H : (if a0 ≥ 32 then (some (decide (a0 ≤ 126))) else (some false)) = some r := h
  clear h
  by_cases c2 : a0 ≥ 32
  · rw [if_pos c2] at H
    have c2b0 : decide (32 ≤ a0) = true := decide_eq_true c2
    clear c2
    obtain rfl := Option.some.inj H
    go_enter Tryz.func65, Tryz.ntmps65
    go_wp2
    go_ret
    exact ⟨by first | rfl | (simp; done) | (simp [*]; done), by repeat (first | exact Drawn0.refl _ | apply Drawn0.step)⟩
  · rw [if_neg c2] at H
    have c2b0 : decide (32 ≤ a0) = false := decide_eq_false c2
    clear c2
    obtain rfl := Option.some.inj H
    go_enter Tryz.func65, Tryz.ntmps65
    go_wp2
    go_ret
    exact ⟨by first | rfl | (simp; done) | (simp [*]; done), by repeat (first | exact Drawn0.refl _ | apply Drawn0.step)⟩

end Go.Proofs.YtkkpjonfaflkmaaGreatDoor.T

/- slices.IndexFunc and ContainsFunc at bytes: the place of the first element of which a predicate holds. -/
namespace Go.Proofs.YtkkpjonfaflkmaaGreatDoor.T
set_option linter.unusedSimpArgs false
open Go.RowKit Go.Proofs.YtkkpjonfaflkmaaGreatDoorW.PrintWords Go.Proofs.YtkkpjonfaflkmaaGreatDoorW.PrintLast Go.Proofs.YtkkpjonfaflkmaaGreatDoorW.PrintMore

/-- The place of the first element of which p holds; -1 if there is none. -/
def idxI {α : Type} (p : α → Bool) (xs : List α) : Int := match xs.findIdx? p with
  | some i => (i : Int)
  | none => -1
theorem idxI_hit {α : Type} (p : α → Bool) (xs : List α) (z : α) (kk : Nat) (hlt : kk < xs.length) (hp : p (xs.getD kk z) = true) (hn : ∀ j, j < kk → p (xs.getD j z) = false) : idxI p xs = (kk : Int) := by
  have h : xs.findIdx? p = some kk := by
    rw [List.findIdx?_eq_some_iff_getElem]
    refine ⟨hlt, ?_, fun j hj => ?_⟩
    · have h1 : xs.getD kk z = xs[kk] := by simp [List.getD_eq_getElem?_getD, List.getElem?_eq_getElem hlt]
      rw [h1] at hp; exact hp
    · have h1 : xs.getD j z = xs[j] := by simp [List.getD_eq_getElem?_getD, List.getElem?_eq_getElem (show j < xs.length by omega)]
      have := hn j hj
      rw [h1] at this
      simp [this]
  simp [idxI, h]
theorem idxI_miss {α : Type} (p : α → Bool) (xs : List α) (z : α) (hn : ∀ j, j < xs.length → p (xs.getD j z) = false) : idxI p xs = -1 := by
  have h : xs.findIdx? p = none := by
    rw [List.findIdx?_eq_none_iff]
    intro x hx
    obtain ⟨j, hj, rfl⟩ := List.mem_iff_getElem.1 hx
    have := hn j hj
    simpa [List.getD_eq_getElem?_getD, List.getElem?_eq_getElem hj] using this
  simp [idxI, h]
theorem idxI_any {α : Type} (p : α → Bool) (xs : List α) : decide (0 ≤ idxI p xs) = xs.any p := by
  unfold idxI
  cases h : xs.findIdx? p with
  | none =>
    rw [List.findIdx?_eq_none_iff] at h
    have : xs.any p = false := by rw [List.any_eq_false]; intro x hx; simp [h x hx]
    rw [this]; rfl
  | some i =>
    rw [List.findIdx?_eq_some_iff_getElem] at h
    obtain ⟨hlt, hp, _⟩ := h
    have : xs.any p = true := by rw [List.any_eq_true]; exact ⟨_, List.getElem_mem hlt, hp⟩
    rw [this]
    exact decide_eq_true (show (0 : Int) ≤ (i : Int) by omega)
/-- What a function value g (bound to lb) is asked for: at each x of a domain, in each world that grows out of w, it hands back p x. -/
def Pays {α : Type} (g : Nat) (lb : Array Value) (enc : α → Value) (p : α → Bool) (D : α → Prop) (w : World) : Prop :=
  ∀ (W : World) (x : α), D x → Below w.heap.size w W → Calls Tryz.prog g (#[enc x] ++ lb) W fun e W' => e = .returned (.bool (p x)) ∧ Below W.heap.size W W'
theorem Pays.later {α : Type} {g : Nat} {lb : Array Value} {enc : α → Value} {p : α → Bool} {D : α → Prop} {w w' : World} (h : Pays g lb enc p D w) (hb : Below w.heap.size w w') : Pays g lb enc p D w' :=
  fun W x hx hW => h W x hx (below_step hb hW)

set_option maxHeartbeats 2000000 in
theorem idxB.calls (A : Option Addr) (c : Nat) (xs : List Int) (g : Nat) (lb : Array Value) (p : Int → Bool) (D : Int → Prop) (w : World)
    (eg : ∀ args w, (callFunc g args).run Tryz.prog w = .ok (.enter g args) w) (hr : Kd.C (Kd.int .u8) w A xs.length xs) (hD : ∀ x ∈ xs, D x) (hp : Pays g lb (fun x => Value.int .u8 x) p D w) :
    Calls Tryz.prog 104 #[.slice A xs.length c, .func (.func g) #[] lb] w fun e w' => e = .returned (.int .i64 (idxI p xs)) ∧ Below w.heap.size w w' := by
  have HR := Aside0.mk hr
  have HP := Aside0.mk hp
  have HD := Aside0.mk hD
  clear hr hp hD
  have hbig : xs.length ≤ 9223372036854775807 := Kd.C_max HR.out
  obtain ⟨n, hn⟩ : ∃ n, xs.length = n := ⟨_, rfl⟩
  have HN := Aside0.mk hn
  rw [hn] at hbig ⊢
  clear hn
  go_enter Tryz.func104, Tryz.ntmps104
  go_wp2
  go_loopg [5, 8] n (fun gg _ s8 wr => ∃ kk : Nat, kk ≤ n ∧ n - kk ≤ gg ∧ s8 = .int .i64 kk ∧ Aside0 (Below w.heap.size w wr) ∧ Aside0 (∀ j, j < kk → p (xs.getD j 0) = false))
  case atStart => exact ⟨0, Nat.zero_le _, by omega, rfl, ⟨Below.refl _ _⟩, ⟨fun j hj => absurd hj (Nat.not_lt_zero _)⟩⟩
  case round =>
    obtain ⟨kk, hkk, hg, rfl, HB, HA⟩ := hrel
    by_cases hlt : kk < n
    · have hltz : (kk : Int) < (n : Int) := by omega
      obtain ⟨ad, rfl, hcell0⟩ := Kd.at_int (Kd.C_below HR.out HB.out) (kk : Int) (by omega) (by have := HN.out; omega)
      have hy0 : rd xs (kk : Int) = xs.getD kk 0 := by simp [rd]
      rw [hy0] at hcell0
      have hmem : xs.getD kk 0 ∈ xs := by
        have hk : kk < xs.length := by have := HN.out; omega
        have h1 : xs.getD kk 0 = xs[kk] := by simp [List.getD_eq_getElem?_getD, List.getElem?_eq_getElem hk]
        rw [h1]; exact List.getElem_mem hk
      generalize hy : xs.getD kk 0 = y at hcell0 hmem
      have HY := Aside0.mk hy
      have hcell : wr.cell? (ad.add kk) = some (.int .u8 y) := by simpa using hcell0
      clear hy hy0 hcell0
      have hcall := HP.out wr y (HD.out y hmem) HB.out
      clear hmem
      cases hq : p y with
      | true =>
        rw [hq] at hcall
        have HC := Lib.hid hcall
        have HQ := Aside0.mk hq
        clear hcall hq
        go_wp2_with (go_at_fn g; refine HC.out.mono ?_; rintro e w' ⟨rfl, hb⟩)
        go_ret
        refine ⟨?_, below_step HB.out hb⟩
        rw [idxI_hit p xs 0 kk (by have := HN.out; omega) (by rw [HY.out]; exact HQ.out) HA.out]
        rfl
      | false =>
        rw [hq] at hcall
        have HC := Lib.hid hcall
        have HQ := Aside0.mk hq
        clear hcall hq
        go_wp2_with (go_at_fn g; refine HC.out.mono ?_; rintro e w' ⟨rfl, hb⟩)
        go_roundg (n - (kk + 1))
        case measure => omega
        case rel =>
          refine ⟨kk + 1, by omega, by omega, by go_num, ⟨below_step HB.out hb⟩, ⟨fun j hj => ?_⟩⟩
          by_cases e : j = kk
          · subst e
            rw [HY.out]; exact HQ.out
          · exact HA.out j (by omega)
    · have hltz : ¬ (kk : Int) < (n : Int) := by omega
      have hkn : kk = n := by omega
      subst hkn
      go_wp2
      go_ret
      refine ⟨?_, HB.out⟩
      rw [idxI_miss p xs 0 (by rw [HN.out]; exact HA.out)]
      rfl

set_option maxHeartbeats 1000000 in
theorem contB.calls (A : Option Addr) (c : Nat) (xs : List Int) (g : Nat) (lb : Array Value) (p : Int → Bool) (D : Int → Prop) (w : World)
    (eg : ∀ args w, (callFunc g args).run Tryz.prog w = .ok (.enter g args) w) (hr : Kd.C (Kd.int .u8) w A xs.length xs) (hD : ∀ x ∈ xs, D x) (hp : Pays g lb (fun x => Value.int .u8 x) p D w) :
    Calls Tryz.prog 63 #[.slice A xs.length c, .func (.func g) #[] lb] w fun e w' => e = .returned (.bool (xs.any p)) ∧ Below w.heap.size w w' := by
  rw [← idxI_any]
  have HC := Lib.hid (idxB.calls A c xs g lb p D w eg hr hD hp)
  clear hr hD hp
  obtain ⟨q, hq⟩ : ∃ q, idxI p xs = q := ⟨_, rfl⟩
  rw [hq] at HC ⊢
  clear hq
  go_enter Tryz.func63, Tryz.ntmps63
  go_wp2_with (go_at_call 104; refine HC.out.mono ?_; rintro e w' ⟨rfl, hb⟩)
  go_ret
  exact ⟨rfl, hb⟩

theorem prn_f (x : Int) : scan_printable.f x = some (S.prn x) := by
  unfold scan_printable.f S.prn
  by_cases h1 : 32 ≤ x <;> by_cases h2 : x ≤ 126 <;> simp [h1, h2]
theorem litNP_enters : ∀ args w, (callFunc 108 args).run Tryz.prog w = .ok (.enter 108 args) w := enters_of Tryz.func108 (by kernel_rfl) rfl
theorem LitNP_enters : ∀ args w, (callFunc 64 args).run Tryz.prog w = .ok (.enter 64 args) w := enters_of Tryz.func64 (by kernel_rfl) rfl

theorem litNP.pays (w : World) : Pays 108 #[] (fun x => Value.int .u8 x) (fun x => !S.prn x) (fun _ => True) w := by
  intro W x _ _
  show Calls Tryz.prog 108 #[.int .u8 x] W fun e W' => e = .returned (.bool (!S.prn x)) ∧ Below W.heap.size W W'
  have HC := Lib.hid (scan_printable.calls x (S.prn x) W (prn_f x))
  obtain ⟨q, hq⟩ : ∃ q, S.prn x = q := ⟨_, rfl⟩
  rw [hq] at HC ⊢
  clear hq
  go_enter Tryz.func108, Tryz.ntmps108
  go_wp2_with (go_at_call 65; refine HC.out.mono ?_; rintro e w' ⟨rfl, hb⟩)
  go_ret
  exact ⟨rfl, hb.below⟩

theorem LitNP.pays (w : World) : Pays 64 #[] (fun x => Value.int .u8 x) (fun x => !S.prn x) (fun _ => True) w := by
  intro W x _ _
  show Calls Tryz.prog 64 #[.int .u8 x] W fun e W' => e = .returned (.bool (!S.prn x)) ∧ Below W.heap.size W W'
  have HC := Lib.hid (scan_printable.calls x (S.prn x) W (prn_f x))
  obtain ⟨q, hq⟩ : ∃ q, S.prn x = q := ⟨_, rfl⟩
  rw [hq] at HC ⊢
  clear hq
  go_enter Tryz.func64, Tryz.ntmps64
  go_wp2_with (go_at_call 65; refine HC.out.mono ?_; rintro e w' ⟨rfl, hb⟩)
  go_ret
  exact ⟨rfl, hb.below⟩
end Go.Proofs.YtkkpjonfaflkmaaGreatDoor.T

/- Strings and their bytes. -/
namespace Go.Proofs.YtkkpjonfaflkmaaGreatDoor.T
set_option linter.unusedSimpArgs false
set_option linter.unusedVariables false
open Go.RowKit Go.Proofs.YtkkpjonfaflkmaaGreatDoorW.PrintWords Go.Proofs.YtkkpjonfaflkmaaGreatDoorW.PrintLast Go.Proofs.YtkkpjonfaflkmaaGreatDoorW.PrintMore

/-- Bytes as numbers. -/
def nums (l : List UInt8) : List Int := l.map fun b => (b.toNat : Int)
theorem bytesOf_nums (s : ByteArray) : bytesOf s = nums s.data.toList := rfl
theorem u8_inj {a b : UInt8} (h : (a.toNat : Int) = (b.toNat : Int)) : a = b := UInt8.toNat_inj.1 (by omega)
theorem nums_inj : ∀ {a b : List UInt8}, nums a = nums b → a = b
  | [], [], _ => rfl
  | [], _ :: _, h => by simp [nums] at h
  | _ :: _, [], h => by simp [nums] at h
  | x :: a, y :: b, h => by
    simp only [nums, List.map_cons, List.cons.injEq] at h
    rw [u8_inj h.1, nums_inj (a := a) (b := b) h.2]
theorem bytesOf_inj {a b : ByteArray} (h : bytesOf a = bytesOf b) : a = b := by
  apply ByteArray.ext
  apply Array.toList_inj.1
  exact nums_inj h
theorem str_eq (s : ByteArray) (l : List UInt8) : (s.toList == l) = decide (bytesOf s = nums l) := by
  rw [Lib.toList_data, bytesOf_nums]
  by_cases h : s.data.toList = l
  · subst h; simp
  · have h2 : ¬ nums s.data.toList = nums l := fun e => h (nums_inj e)
    simp [h, h2]
theorem str_empty (s : ByteArray) : (s.toList == ([] : List UInt8)) = decide (bytesOf s = []) := str_eq s []
theorem bytesOf_rest (s : ByteArray) (k : Nat) : bytesOf (s.extract k s.size) = (bytesOf s).drop k := by
  simp only [bytesOf]
  rw [ByteArray.data_extract, Array.toList_extract, List.extract_eq_take_drop, List.take_of_length_le (by rw [List.length_drop, data_length]; exact Nat.le_refl _), List.map_drop]
theorem bytesOf_extract (s : ByteArray) (i j : Nat) : bytesOf (s.extract i j) = ((bytesOf s).drop i).take (j - i) := by
  simp only [bytesOf]
  rw [ByteArray.data_extract, Array.toList_extract, List.extract_eq_take_drop, List.map_take, List.map_drop]
theorem bytesOf_append (a b : ByteArray) : bytesOf (a ++ b) = bytesOf a ++ bytesOf b := by
  simp only [bytesOf]
  rw [ByteArray.data_append, Array.toList_append, List.map_append]
theorem prefix_nums : ∀ (p l : List UInt8), p.isPrefixOf l = (nums p).isPrefixOf (nums l)
  | [], _ => rfl
  | _ :: _, [] => rfl
  | x :: p, y :: l => by
    show (x == y && p.isPrefixOf l) = (((x.toNat : Int) == (y.toNat : Int)) && (nums p).isPrefixOf (nums l))
    rw [prefix_nums p l]
    congr 1
    by_cases h : x = y
    · subst h; simp
    · have : ¬ (x.toNat : Int) = (y.toNat : Int) := fun e => h (u8_inj e)
      rw [beq_eq_false_iff_ne.2 h, beq_eq_false_iff_ne.2 this]
theorem hasPrefix_nums (s p : ByteArray) : Lib.hasPrefix s.data.toList p.data.toList = (bytesOf p).isPrefixOf (bytesOf s) := prefix_nums _ _
theorem st2_prefix (a b : UInt8) (xs : List Int) : ([(a.toNat : Int), (b.toNat : Int)] : List Int).isPrefixOf xs = S.st2 a.toNat b.toNat xs := by
  rcases xs with _ | ⟨c, _ | ⟨d, t⟩⟩
  · rfl
  · simp [S.st2, List.isPrefixOf]
  · simp only [S.st2, List.isPrefixOf, Bool.and_true]
    by_cases h1 : c = (a.toNat : Int) <;> by_cases h2 : d = (b.toNat : Int) <;> simp [h1, h2] <;> omega
/-- Does a string begin with two bytes? -/
theorem prefix2.calls (rs : ByteArray) (a b : UInt8) (r : Bool) (hr : S.st2 a.toNat b.toNat (bytesOf rs) = r) (W : World) :
    Calls Tryz.prog 123 #[.string rs, .string ⟨#[a, b]⟩] W fun e W' => e = .returned (.bool r) ∧ W' = W := by
  have h := Tryz.strings_HasPrefix rs ⟨#[a, b]⟩ W
  rw [hasPrefix_nums] at h
  have e : bytesOf ⟨#[a, b]⟩ = [(a.toNat : Int), (b.toNat : Int)] := rfl
  rw [e, st2_prefix, hr] at h
  exact h
/-- The first byte of a string. -/
theorem first_byte (rs : ByteArray) (y : Int) (t : List Int) (h : bytesOf rs = y :: t) : ∃ hz : 0 < rs.size, ((rs[0]'hz).toNat : Int) = y := by
  have hz : 0 < rs.size := by rw [← bytesOf_length, h]; simp
  refine ⟨hz, ?_⟩
  have h1 := bt_getD rs 0 hz
  rw [h] at h1
  have h2 : bt rs ((0 : Nat) : Int) = ((rs[0]'hz).toNat : Int) := by simp [bt, hz]
  rw [h2] at h1
  simpa using h1
/-- A byte of a string. -/
theorem nth_byte (rs : ByteArray) (k : Nat) (hz : k < rs.size) : ((rs[k]'hz).toNat : Int) = (bytesOf rs).getD k 0 := by
  have h1 := bt_getD rs k hz
  have h2 : bt rs (k : Int) = ((rs[k]'hz).toNat : Int) := by simp [bt, hz]
  rw [h2] at h1
  exact h1
theorem w64 (x : Int) (h0 : -9223372036854775808 ≤ x) (h1 : x ≤ 9223372036854775807) : IntKind.i64.wrap x = x := (i64_w _).trans (by unfold wrap64; omega)

theorem bytesOf_str (L : List Int) (h : ∀ x ∈ L, 0 ≤ x ∧ x < 256) : bytesOf (strOfNums L) = L := by
  have e : (strOfNums L).data.toList = L.map fun x => UInt8.ofNat x.toNat := by simp [strOfNums]
  rw [bytesOf_nums, e]
  unfold nums
  rw [List.map_map]
  refine (List.map_congr_left fun x hx => ?_).trans (List.map_id L)
  obtain ⟨h0, h1⟩ := h x hx
  simp only [Function.comp_apply]
  rw [UInt8.toNat_ofNat_of_lt' (by simp [UInt8.size]; omega)]
  show ((x.toNat : Nat) : Int) = x
  omega
/-- A region that draws its order, its operations the same in every world of a class. -/
theorem wp_region_cls {P : Program} {id : Nat} {Q : Exit → Act → World → Prop} {a : Act} {w : World} {l : List Oper} (C : World → Prop) (hm : P.follows .mixedOrders = true) (hB : Region.lexB .any l.toArray = true) (hC : C w.drew)
    (h : wpQuiet P l.toArray C (fun a' => ∀ w', C w' → Q .normal a' w') l a) : (Code.region id l.toArray true).wp P Q a w :=
  wp_region_quiet (C := C) hm hB hC (by simpa using h)
/-- The worlds in which the scanner in s stands so, behind w. -/
structure ScC (s : Nat) (src : ByteArray) (i line : Int) (m : Value) (w : World) where
  world : World
  sc : Sc s src i line m world
  but : But (· = s) w world
theorem ScC.c0 {s : Nat} {src : ByteArray} {i line : Int} {m : Value} {w : World} (x : ScC s src i line m w) : x.world.cell? ⟨s, 0, none⟩ = some (.string src) := x.sc.c0
theorem ScC.c1 {s : Nat} {src : ByteArray} {i line : Int} {m : Value} {w : World} (x : ScC s src i line m w) : x.world.cell? ⟨s, 1, none⟩ = some (.int .i64 i) := x.sc.c1
theorem ScC.c2 {s : Nat} {src : ByteArray} {i line : Int} {m : Value} {w : World} (x : ScC s src i line m w) : x.world.cell? ⟨s, 2, none⟩ = some (.int .i64 line) := x.sc.c2
theorem ScC.c3 {s : Nat} {src : ByteArray} {i line : Int} {m : Value} {w : World} (x : ScC s src i line m w) : x.world.cell? ⟨s, 3, none⟩ = some m := x.sc.c3
theorem ScC.ret {s : Nat} {src : ByteArray} {i line : Int} {m : Value} {w w' : World} (x : ScC s src i line m w) (hb : Below x.world.heap.size x.world w') : ∃ y : ScC s src i line m w, w' = y.world := ⟨⟨w', x.sc.below hb, x.but.then hb⟩, rfl⟩
end Go.Proofs.YtkkpjonfaflkmaaGreatDoor.T

-- Written by a program of this session (mp.py over the kit's print.py), out of the translation.
namespace Go.Proofs.YtkkpjonfaflkmaaGreatDoor.T
set_option linter.unusedSimpArgs false
open Go.RowKit Go.Proofs.YtkkpjonfaflkmaaGreatDoorW.PrintWords Go.Proofs.YtkkpjonfaflkmaaGreatDoorW.PrintLast Go.Proofs.YtkkpjonfaflkmaaGreatDoorW.PrintMore
attribute [local go_sem] max2_int min2_int max_two min_two max_three min_three max_four min_four   -- for this text's walks alone
set_option linter.unusedVariables false
set_option linter.unusedSimpArgs false

/-! ### scan_symbolic: function 55 -/
def scan_symbolic.f (a0 : Int) : Option (Bool) := if a0 ≥ 97 then (if a0 ≤ 122 then (some true) else (if a0 ≥ 65 then (if a0 ≤ 90 then (some true) else (if a0 ≥ 48 then (if a0 ≤ 57 then (some true) else ((strings_IndexByte.f (⟨#[46, 95, 33, 63]⟩ : ByteArray) a0).bind fun t118 => (some (decide (t118 ≥ 0))))) else ((strings_IndexByte.f (⟨#[46, 95, 33, 63]⟩ : ByteArray) a0).bind fun t119 => (some (decide (t119 ≥ 0)))))) else (if a0 ≥ 48 then (if a0 ≤ 57 then (some true) else ((strings_IndexByte.f (⟨#[46, 95, 33, 63]⟩ : ByteArray) a0).bind fun t120 => (some (decide (t120 ≥ 0))))) else ((strings_IndexByte.f (⟨#[46, 95, 33, 63]⟩ : ByteArray) a0).bind fun t121 => (some (decide (t121 ≥ 0))))))) else (if a0 ≥ 65 then (if a0 ≤ 90 then (some true) else (if a0 ≥ 48 then (if a0 ≤ 57 then (some true) else ((strings_IndexByte.f (⟨#[46, 95, 33, 63]⟩ : ByteArray) a0).bind fun t122 => (some (decide (t122 ≥ 0))))) else ((strings_IndexByte.f (⟨#[46, 95, 33, 63]⟩ : ByteArray) a0).bind fun t123 => (some (decide (t123 ≥ 0)))))) else (if a0 ≥ 48 then (if a0 ≤ 57 then (some true) else ((strings_IndexByte.f (⟨#[46, 95, 33, 63]⟩ : ByteArray) a0).bind fun t124 => (some (decide (t124 ≥ 0))))) else ((strings_IndexByte.f (⟨#[46, 95, 33, 63]⟩ : ByteArray) a0).bind fun t125 => (some (decide (t125 ≥ 0))))))
set_option maxHeartbeats 8000000 in
set_option maxRecDepth 100000 in
theorem scan_symbolic.calls (a0 : Int) (r : Bool) (w : World) (h : scan_symbolic.f a0 = some r) :
    Calls Tryz.prog 55 #[.int .u8 a0] w fun e w' => e = .returned (.bool r) ∧ Drawn0 w w' := by
  have H : (if a0 ≥ 97 then (if a0 ≤ 122 then (some true) else (if a0 ≥ 65 then (if a0 ≤ 90 then (some true) else (if a0 ≥ 48 then (if a0 ≤ 57 then (some true) else ((strings_IndexByte.f (⟨#[46, 95, 33, 63]⟩ : ByteArray) a0).bind fun t118 => (some (decide (t118 ≥ 0))))) else ((strings_IndexByte.f (⟨#[46, 95, 33, 63]⟩ : ByteArray) a0).bind fun t119 => (some (decide (t119 ≥ 0)))))) else (if a0 ≥ 48 then (if a0 ≤ 57 then (some true) else ((strings_IndexByte.f (⟨#[46, 95, 33, 63]⟩ : ByteArray) a0).bind fun t120 => (some (decide (t120 ≥ 0))))) else ((strings_IndexByte.f (⟨#[46, 95, 33, 63]⟩ : ByteArray) a0).bind fun t121 => (some (decide (t121 ≥ 0))))))) else (if a0 ≥ 65 then (if a0 ≤ 90 then (some true) else (if a0 ≥ 48 then (if a0 ≤ 57 then (some true) else ((strings_IndexByte.f (⟨#[46, 95, 33, 63]⟩ : ByteArray) a0).bind fun t122 => (some (decide (t122 ≥ 0))))) else ((strings_IndexByte.f (⟨#[46, 95, 33, 63]⟩ : ByteArray) a0).bind fun t123 => (some (decide (t123 ≥ 0)))))) else (if a0 ≥ 48 then (if a0 ≤ 57 then (some true) else ((strings_IndexByte.f (⟨#[46, 95, 33, 63]⟩ : ByteArray) a0).bind fun t124 => (some (decide (t124 ≥ 0))))) else ((strings_IndexByte.f (⟨#[46, 95, 33, 63]⟩ : ByteArray) a0).bind fun t125 => (some (decide (t125 ≥ 0))))))) = some r := h
  clear h
  by_cases c2 : a0 ≥ 97
  · rw [if_pos c2] at H
    have c2b0 : decide (97 ≤ a0) = true := decide_eq_true c2
    clear c2
    by_cases c3 : a0 ≤ 122
    · rw [if_pos c3] at H
      have c3b0 : decide (a0 ≤ 122) = true := decide_eq_true c3
      clear c3
      obtain rfl := Option.some.inj H
      go_enter Tryz.func55, Tryz.ntmps55
      go_wp2
      go_ret
      exact ⟨by first | rfl | (simp; done) | (simp [*]; done), by repeat (first | exact Drawn0.refl _ | apply Drawn0.step)⟩
    · rw [if_neg c3] at H
      have c3b0 : decide (a0 ≤ 122) = false := decide_eq_false c3
      clear c3
      by_cases c4 : a0 ≥ 65
      · rw [if_pos c4] at H
        have c4b0 : decide (65 ≤ a0) = true := decide_eq_true c4
        clear c4
        by_cases c5 : a0 ≤ 90
        · rw [if_pos c5] at H
          have c5b0 : decide (a0 ≤ 90) = true := decide_eq_true c5
          clear c5
          obtain rfl := Option.some.inj H
          go_enter Tryz.func55, Tryz.ntmps55
          go_wp2
          go_ret
          exact ⟨by first | rfl | (simp; done) | (simp [*]; done), by repeat (first | exact Drawn0.refl _ | apply Drawn0.step)⟩
        · rw [if_neg c5] at H
          have c5b0 : decide (a0 ≤ 90) = false := decide_eq_false c5
          clear c5
          by_cases c6 : a0 ≥ 48
          · rw [if_pos c6] at H
            have c6b0 : decide (48 ≤ a0) = true := decide_eq_true c6
            clear c6
            by_cases c7 : a0 ≤ 57
            · rw [if_pos c7] at H
              have c7b0 : decide (a0 ≤ 57) = true := decide_eq_true c7
              clear c7
              obtain rfl := Option.some.inj H
              go_enter Tryz.func55, Tryz.ntmps55
              go_wp2
              go_ret
              exact ⟨by first | rfl | (simp; done) | (simp [*]; done), by repeat (first | exact Drawn0.refl _ | apply Drawn0.step)⟩
            · rw [if_neg c7] at H
              have c7b0 : decide (a0 ≤ 57) = false := decide_eq_false c7
              clear c7
              replace H := Option.bind_eq_some_iff.mp H
              obtain ⟨t118, A80, H⟩ := H
              replace H : (some (decide (t118 ≥ 0))) = some r := H
              have A8 := Aside0.mk A80
              clear A80
              obtain rfl := Option.some.inj H
              go_enter Tryz.func55, Tryz.ntmps55
              go_wp2_with (first | (go_at_call 93; (with_reducible refine (strings_IndexByte.calls (⟨#[46, 95, 33, 63]⟩ : ByteArray) a0 t118 _ A8.out).mono ?_); rintro e w' ⟨rfl, ⟨nd, rfl⟩⟩))
              go_ret
              exact ⟨by first | rfl | (simp; done) | (simp [*]; done), by repeat (first | exact Drawn0.refl _ | apply Drawn0.step)⟩
          · rw [if_neg c6] at H
            have c6b0 : decide (48 ≤ a0) = false := decide_eq_false c6
            clear c6
            replace H := Option.bind_eq_some_iff.mp H
            obtain ⟨t119, A90, H⟩ := H
            replace H : (some (decide (t119 ≥ 0))) = some r := H
            have A9 := Aside0.mk A90
            clear A90
            obtain rfl := Option.some.inj H
            go_enter Tryz.func55, Tryz.ntmps55
            go_wp2_with (first | (go_at_call 93; (with_reducible refine (strings_IndexByte.calls (⟨#[46, 95, 33, 63]⟩ : ByteArray) a0 t119 _ A9.out).mono ?_); rintro e w' ⟨rfl, ⟨nd, rfl⟩⟩))
            go_ret
            exact ⟨by first | rfl | (simp; done) | (simp [*]; done), by repeat (first | exact Drawn0.refl _ | apply Drawn0.step)⟩
      · rw [if_neg c4] at H
        have c4b0 : decide (65 ≤ a0) = false := decide_eq_false c4
        clear c4
        by_cases c10 : a0 ≥ 48
        · rw [if_pos c10] at H
          have c10b0 : decide (48 ≤ a0) = true := decide_eq_true c10
          clear c10
          by_cases c11 : a0 ≤ 57
          · rw [if_pos c11] at H
            have c11b0 : decide (a0 ≤ 57) = true := decide_eq_true c11
            clear c11
            obtain rfl := Option.some.inj H
            go_enter Tryz.func55, Tryz.ntmps55
            go_wp2
            go_ret
            exact ⟨by first | rfl | (simp; done) | (simp [*]; done), by repeat (first | exact Drawn0.refl _ | apply Drawn0.step)⟩
          · rw [if_neg c11] at H
            have c11b0 : decide (a0 ≤ 57) = false := decide_eq_false c11
            clear c11
            replace H := Option.bind_eq_some_iff.mp H
            obtain ⟨t120, A120, H⟩ := H
            replace H : (some (decide (t120 ≥ 0))) = some r := H
            have A12 := Aside0.mk A120
            clear A120
            obtain rfl := Option.some.inj H
            go_enter Tryz.func55, Tryz.ntmps55
            go_wp2_with (first | (go_at_call 93; (with_reducible refine (strings_IndexByte.calls (⟨#[46, 95, 33, 63]⟩ : ByteArray) a0 t120 _ A12.out).mono ?_); rintro e w' ⟨rfl, ⟨nd, rfl⟩⟩))
            go_ret
            exact ⟨by first | rfl | (simp; done) | (simp [*]; done), by repeat (first | exact Drawn0.refl _ | apply Drawn0.step)⟩
        · rw [if_neg c10] at H
          have c10b0 : decide (48 ≤ a0) = false := decide_eq_false c10
          clear c10
          replace H := Option.bind_eq_some_iff.mp H
          obtain ⟨t121, A130, H⟩ := H
          replace H : (some (decide (t121 ≥ 0))) = some r := H
          have A13 := Aside0.mk A130
          clear A130
          obtain rfl := Option.some.inj H
          go_enter Tryz.func55, Tryz.ntmps55
          go_wp2_with (first | (go_at_call 93; (with_reducible refine (strings_IndexByte.calls (⟨#[46, 95, 33, 63]⟩ : ByteArray) a0 t121 _ A13.out).mono ?_); rintro e w' ⟨rfl, ⟨nd, rfl⟩⟩))
          go_ret
          exact ⟨by first | rfl | (simp; done) | (simp [*]; done), by repeat (first | exact Drawn0.refl _ | apply Drawn0.step)⟩
  · rw [if_neg c2] at H
    have c2b0 : decide (97 ≤ a0) = false := decide_eq_false c2
    clear c2
    by_cases c14 : a0 ≥ 65
    · rw [if_pos c14] at H
      have c14b0 : decide (65 ≤ a0) = true := decide_eq_true c14
      clear c14
      by_cases c15 : a0 ≤ 90
      · rw [if_pos c15] at H
        have c15b0 : decide (a0 ≤ 90) = true := decide_eq_true c15
        clear c15
        obtain rfl := Option.some.inj H
        go_enter Tryz.func55, Tryz.ntmps55
        go_wp2
        go_ret
        exact ⟨by first | rfl | (simp; done) | (simp [*]; done), by repeat (first | exact Drawn0.refl _ | apply Drawn0.step)⟩
      · rw [if_neg c15] at H
        have c15b0 : decide (a0 ≤ 90) = false := decide_eq_false c15
        clear c15
        by_cases c16 : a0 ≥ 48
        · rw [if_pos c16] at H
          have c16b0 : decide (48 ≤ a0) = true := decide_eq_true c16
          clear c16
          by_cases c17 : a0 ≤ 57
          · rw [if_pos c17] at H
            have c17b0 : decide (a0 ≤ 57) = true := decide_eq_true c17
            clear c17
            obtain rfl := Option.some.inj H
            go_enter Tryz.func55, Tryz.ntmps55
            go_wp2
            go_ret
            exact ⟨by first | rfl | (simp; done) | (simp [*]; done), by repeat (first | exact Drawn0.refl _ | apply Drawn0.step)⟩
          · rw [if_neg c17] at H
            have c17b0 : decide (a0 ≤ 57) = false := decide_eq_false c17
            clear c17
            replace H := Option.bind_eq_some_iff.mp H
            obtain ⟨t122, A180, H⟩ := H
            replace H : (some (decide (t122 ≥ 0))) = some r := H
            have A18 := Aside0.mk A180
            clear A180
            obtain rfl := Option.some.inj H
            go_enter Tryz.func55, Tryz.ntmps55
            go_wp2_with (first | (go_at_call 93; (with_reducible refine (strings_IndexByte.calls (⟨#[46, 95, 33, 63]⟩ : ByteArray) a0 t122 _ A18.out).mono ?_); rintro e w' ⟨rfl, ⟨nd, rfl⟩⟩))
            go_ret
            exact ⟨by first | rfl | (simp; done) | (simp [*]; done), by repeat (first | exact Drawn0.refl _ | apply Drawn0.step)⟩
        · rw [if_neg c16] at H
          have c16b0 : decide (48 ≤ a0) = false := decide_eq_false c16
          clear c16
          replace H := Option.bind_eq_some_iff.mp H
          obtain ⟨t123, A190, H⟩ := H
          replace H : (some (decide (t123 ≥ 0))) = some r := H
          have A19 := Aside0.mk A190
          clear A190
          obtain rfl := Option.some.inj H
          go_enter Tryz.func55, Tryz.ntmps55
          go_wp2_with (first | (go_at_call 93; (with_reducible refine (strings_IndexByte.calls (⟨#[46, 95, 33, 63]⟩ : ByteArray) a0 t123 _ A19.out).mono ?_); rintro e w' ⟨rfl, ⟨nd, rfl⟩⟩))
          go_ret
          exact ⟨by first | rfl | (simp; done) | (simp [*]; done), by repeat (first | exact Drawn0.refl _ | apply Drawn0.step)⟩
    · rw [if_neg c14] at H
      have c14b0 : decide (65 ≤ a0) = false := decide_eq_false c14
      clear c14
      by_cases c20 : a0 ≥ 48
      · rw [if_pos c20] at H
        have c20b0 : decide (48 ≤ a0) = true := decide_eq_true c20
        clear c20
        by_cases c21 : a0 ≤ 57
        · rw [if_pos c21] at H
          have c21b0 : decide (a0 ≤ 57) = true := decide_eq_true c21
          clear c21
          obtain rfl := Option.some.inj H
          go_enter Tryz.func55, Tryz.ntmps55
          go_wp2
          go_ret
          exact ⟨by first | rfl | (simp; done) | (simp [*]; done), by repeat (first | exact Drawn0.refl _ | apply Drawn0.step)⟩
        · rw [if_neg c21] at H
          have c21b0 : decide (a0 ≤ 57) = false := decide_eq_false c21
          clear c21
          replace H := Option.bind_eq_some_iff.mp H
          obtain ⟨t124, A220, H⟩ := H
          replace H : (some (decide (t124 ≥ 0))) = some r := H
          have A22 := Aside0.mk A220
          clear A220
          obtain rfl := Option.some.inj H
          go_enter Tryz.func55, Tryz.ntmps55
          go_wp2_with (first | (go_at_call 93; (with_reducible refine (strings_IndexByte.calls (⟨#[46, 95, 33, 63]⟩ : ByteArray) a0 t124 _ A22.out).mono ?_); rintro e w' ⟨rfl, ⟨nd, rfl⟩⟩))
          go_ret
          exact ⟨by first | rfl | (simp; done) | (simp [*]; done), by repeat (first | exact Drawn0.refl _ | apply Drawn0.step)⟩
      · rw [if_neg c20] at H
        have c20b0 : decide (48 ≤ a0) = false := decide_eq_false c20
        clear c20
        replace H := Option.bind_eq_some_iff.mp H
        obtain ⟨t125, A230, H⟩ := H
        replace H : (some (decide (t125 ≥ 0))) = some r := H
        have A23 := Aside0.mk A230
        clear A230
        obtain rfl := Option.some.inj H
        go_enter Tryz.func55, Tryz.ntmps55
        go_wp2_with (first | (go_at_call 93; (with_reducible refine (strings_IndexByte.calls (⟨#[46, 95, 33, 63]⟩ : ByteArray) a0 t125 _ A23.out).mono ?_); rintro e w' ⟨rfl, ⟨nd, rfl⟩⟩))
        go_ret
        exact ⟨by first | rfl | (simp; done) | (simp [*]; done), by repeat (first | exact Drawn0.refl _ | apply Drawn0.step)⟩

end Go.Proofs.YtkkpjonfaflkmaaGreatDoor.T

-- Written by a program of this session (mp.py over the kit's print.py), out of the translation.
namespace Go.Proofs.YtkkpjonfaflkmaaGreatDoor.T
set_option linter.unusedSimpArgs false
open Go.RowKit Go.Proofs.YtkkpjonfaflkmaaGreatDoorW.PrintWords Go.Proofs.YtkkpjonfaflkmaaGreatDoorW.PrintLast Go.Proofs.YtkkpjonfaflkmaaGreatDoorW.PrintMore
attribute [local go_sem] max2_int min2_int max_two min_two max_three min_three max_four min_four   -- for this text's walks alone
set_option linter.unusedVariables false
set_option linter.unusedSimpArgs false

/-! ### scan_digit: function 96 -/
def scan_digit.f (a0 : Int) : Option (Bool) := if a0 ≥ 48 then (some (decide (a0 ≤ 57))) else (some false)
set_option maxHeartbeats 8000000 in
set_option maxRecDepth 100000 in
theorem scan_digit.calls (a0 : Int) (r : Bool) (w : World) (h : scan_digit.f a0 = some r) :
    Calls Tryz.prog 96 #[.int .u8 a0] w fun e w' => e = .returned (.bool r) ∧ Drawn0 w w' := by
  have H : (if a0 ≥ 48 then (some (decide (a0 ≤ 57))) else (some false)) = some r := h
  clear h
  by_cases c2 : a0 ≥ 48
  · rw [if_pos c2] at H
    have c2b0 : decide (48 ≤ a0) = true := decide_eq_true c2
    clear c2
    obtain rfl := Option.some.inj H
    go_enter Tryz.func96, Tryz.ntmps96
    go_wp2
    go_ret
    exact ⟨by first | rfl | (simp; done) | (simp [*]; done), by repeat (first | exact Drawn0.refl _ | apply Drawn0.step)⟩
  · rw [if_neg c2] at H
    have c2b0 : decide (48 ≤ a0) = false := decide_eq_false c2
    clear c2
    obtain rfl := Option.some.inj H
    go_enter Tryz.func96, Tryz.ntmps96
    go_wp2
    go_ret
    exact ⟨by first | rfl | (simp; done) | (simp [*]; done), by repeat (first | exact Drawn0.refl _ | apply Drawn0.step)⟩

end Go.Proofs.YtkkpjonfaflkmaaGreatDoor.T

-- Written by a program of this session (mp.py over the kit's print.py), out of the translation.
namespace Go.Proofs.YtkkpjonfaflkmaaGreatDoor.T
set_option linter.unusedSimpArgs false
open Go.RowKit Go.Proofs.YtkkpjonfaflkmaaGreatDoorW.PrintWords Go.Proofs.YtkkpjonfaflkmaaGreatDoorW.PrintLast Go.Proofs.YtkkpjonfaflkmaaGreatDoorW.PrintMore
attribute [local go_sem] max2_int min2_int max_two min_two max_three min_three max_four min_four   -- for this text's walks alone
set_option linter.unusedVariables false
set_option linter.unusedSimpArgs false

/-! ### scan_open: function 95 -/
def scan_open.f (a0 : ByteArray) : Option (Bool) := (strings_TrimRight.f a0 (⟨#[69, 101]⟩ : ByteArray)).bind fun t130 => (if (t130.size : Int) = (wrap64 ((a0.size : Int) - 1)) then ((strings_Count.f t130 (⟨#[46]⟩ : ByteArray)).bind fun t131 => (if t131 > 1 then (some false) else ((strings_Trim.f t130 (⟨#[46]⟩ : ByteArray)).bind fun t132 => (if t132.toList = ([] : List UInt8) then (some false) else ((strings_Trim.f t130 (⟨#[48, 49, 50, 51, 52, 53, 54, 55, 56, 57, 46]⟩ : ByteArray)).bind fun t133 => (some (t133.toList == ([] : List UInt8)))))))) else (some false))
set_option maxHeartbeats 8000000 in
set_option maxRecDepth 100000 in
theorem scan_open.calls (a0 : ByteArray) (r : Bool) (w : World) (h : scan_open.f a0 = some r) :
    Calls Tryz.prog 95 #[.string a0] w fun e w' => e = .returned (.bool r) ∧ Below w.heap.size w w' := by
  have HB := Aside0.mk (Below.refl w.heap.size w)
  have H : ((strings_TrimRight.f a0 (⟨#[69, 101]⟩ : ByteArray)).bind fun t130 => (if (t130.size : Int) = (wrap64 ((a0.size : Int) - 1)) then ((strings_Count.f t130 (⟨#[46]⟩ : ByteArray)).bind fun t131 => (if t131 > 1 then (some false) else ((strings_Trim.f t130 (⟨#[46]⟩ : ByteArray)).bind fun t132 => (if t132.toList = ([] : List UInt8) then (some false) else ((strings_Trim.f t130 (⟨#[48, 49, 50, 51, 52, 53, 54, 55, 56, 57, 46]⟩ : ByteArray)).bind fun t133 => (some (t133.toList == ([] : List UInt8)))))))) else (some false))) = some r := h
  clear h
  replace H := Option.bind_eq_some_iff.mp H
  obtain ⟨t130, A20, H⟩ := H
  replace H : (if (t130.size : Int) = (wrap64 ((a0.size : Int) - 1)) then ((strings_Count.f t130 (⟨#[46]⟩ : ByteArray)).bind fun t131 => (if t131 > 1 then (some false) else ((strings_Trim.f t130 (⟨#[46]⟩ : ByteArray)).bind fun t132 => (if t132.toList = ([] : List UInt8) then (some false) else ((strings_Trim.f t130 (⟨#[48, 49, 50, 51, 52, 53, 54, 55, 56, 57, 46]⟩ : ByteArray)).bind fun t133 => (some (t133.toList == ([] : List UInt8)))))))) else (some false)) = some r := H
  have A2 := Aside0.mk A20
  clear A20
  by_cases c3 : (t130.size : Int) = (wrap64 ((a0.size : Int) - 1))
  · rw [if_pos c3] at H
    have c3b0 : ((t130.size : Int) == (wrap64 ((a0.size : Int) - 1))) = true := beq_iff_eq.mpr c3
    have c3b1 : ((t130.size : Int) != (wrap64 ((a0.size : Int) - 1))) = false := bne_eq_false_iff_eq.mpr c3
    clear c3
    replace H := Option.bind_eq_some_iff.mp H
    obtain ⟨t131, A40, H⟩ := H
    replace H : (if t131 > 1 then (some false) else ((strings_Trim.f t130 (⟨#[46]⟩ : ByteArray)).bind fun t132 => (if t132.toList = ([] : List UInt8) then (some false) else ((strings_Trim.f t130 (⟨#[48, 49, 50, 51, 52, 53, 54, 55, 56, 57, 46]⟩ : ByteArray)).bind fun t133 => (some (t133.toList == ([] : List UInt8))))))) = some r := H
    have A4 := Aside0.mk A40
    clear A40
    by_cases c5 : t131 > 1
    · rw [if_pos c5] at H
      have c5b0 : decide (1 < t131) = true := decide_eq_true c5
      clear c5
      obtain rfl := Option.some.inj H
      go_enter Tryz.func95, Tryz.ntmps95
      go_wp2_with (first | ((with_reducible refine gate_callee (f := 127) rfl ?_); refine goesL_ (some 5) rfl rfl Tryz.func127 (by kernel_rfl) rfl #[.string a0, .string (⟨#[69, 101]⟩ : ByteArray)] rfl (by (try simp only [List.map_toArray, List.map_cons, List.map_nil]); first | done | rfl | (simp only [List.length_drop, List.length_take]; rfl)) ?_; (with_reducible refine (strings_TrimRight.calls a0 (⟨#[69, 101]⟩ : ByteArray) t130 _ A2.out).mono ?_); rintro e w6 ⟨rfl, hb⟩; refine ⟨_, rfl, ?_⟩; have n0_ := Aside0.mk (below_step (by repeat (first | (with_reducible first | exact HB.out | apply below_alloc | apply pw_below_drewN | apply below_drew1) | exact HB.out)) hb); clear HB; have HB := n0_; clear n0_; (try clear hb); (try clear hb2); (try clear hk); (try clear hi)) | (go_at_call 77; (with_reducible refine (strings_Count.calls t130 (⟨#[46]⟩ : ByteArray) t131 _ A4.out).mono ?_); rintro e w' ⟨rfl, ⟨nd, rfl⟩⟩))
      go_ret
      exact ⟨by first | rfl | (simp [errW_none, errW_some] <;> rfl) | (simp [*, errW_none, errW_some] <;> rfl), by repeat (first | (with_reducible first | exact HB.out | apply below_alloc | apply pw_below_drewN | apply below_drew1) | exact HB.out)⟩
    · rw [if_neg c5] at H
      have c5b0 : decide (1 < t131) = false := decide_eq_false c5
      clear c5
      replace H := Option.bind_eq_some_iff.mp H
      obtain ⟨t132, A70, H⟩ := H
      replace H : (if t132.toList = ([] : List UInt8) then (some false) else ((strings_Trim.f t130 (⟨#[48, 49, 50, 51, 52, 53, 54, 55, 56, 57, 46]⟩ : ByteArray)).bind fun t133 => (some (t133.toList == ([] : List UInt8))))) = some r := H
      have A7 := Aside0.mk A70
      clear A70
      by_cases c8 : t132.toList = ([] : List UInt8)
      · rw [if_pos c8] at H
        have c8b0 : (t132.toList == ([] : List UInt8)) = true := beq_iff_eq.mpr c8
        have c8b1 : (t132.toList != ([] : List UInt8)) = false := bne_eq_false_iff_eq.mpr c8
        clear c8
        obtain rfl := Option.some.inj H
        go_enter Tryz.func95, Tryz.ntmps95
        go_wp2_with (first | ((with_reducible refine gate_callee (f := 127) rfl ?_); refine goesL_ (some 5) rfl rfl Tryz.func127 (by kernel_rfl) rfl #[.string a0, .string (⟨#[69, 101]⟩ : ByteArray)] rfl (by (try simp only [List.map_toArray, List.map_cons, List.map_nil]); first | done | rfl | (simp only [List.length_drop, List.length_take]; rfl)) ?_; (with_reducible refine (strings_TrimRight.calls a0 (⟨#[69, 101]⟩ : ByteArray) t130 _ A2.out).mono ?_); rintro e w9 ⟨rfl, hb⟩; refine ⟨_, rfl, ?_⟩; have n0_ := Aside0.mk (below_step (by repeat (first | (with_reducible first | exact HB.out | apply below_alloc | apply pw_below_drewN | apply below_drew1) | exact HB.out)) hb); clear HB; have HB := n0_; clear n0_; (try clear hb); (try clear hb2); (try clear hk); (try clear hi)) | (go_at_call 77; (with_reducible refine (strings_Count.calls t130 (⟨#[46]⟩ : ByteArray) t131 _ A4.out).mono ?_); rintro e w' ⟨rfl, ⟨nd, rfl⟩⟩) | (go_at_call 128; (with_reducible refine (strings_Trim.calls t130 (⟨#[46]⟩ : ByteArray) t132 _ A7.out).mono ?_); rintro e w10 ⟨rfl, hb⟩; have n0_ := Aside0.mk (below_step (by repeat (first | (with_reducible first | exact HB.out | apply below_alloc | apply pw_below_drewN | apply below_drew1) | exact HB.out)) hb); clear HB; have HB := n0_; clear n0_; (try clear hb); (try clear hb2); (try clear hk); (try clear hi)))
        go_ret
        exact ⟨by first | rfl | (simp [errW_none, errW_some] <;> rfl) | (simp [*, errW_none, errW_some] <;> rfl), by repeat (first | (with_reducible first | exact HB.out | apply below_alloc | apply pw_below_drewN | apply below_drew1) | exact HB.out)⟩
      · rw [if_neg c8] at H
        have c8b0 : (t132.toList == ([] : List UInt8)) = false := beq_eq_false_iff_ne.mpr c8
        have c8b1 : (t132.toList != ([] : List UInt8)) = true := bne_iff_ne.mpr c8
        replace H := Option.bind_eq_some_iff.mp H
        obtain ⟨t133, A110, H⟩ := H
        replace H : (some (t133.toList == ([] : List UInt8))) = some r := H
        have A11 := Aside0.mk A110
        clear A110
        obtain rfl := Option.some.inj H
        go_enter Tryz.func95, Tryz.ntmps95
        go_wp2_with (first | ((with_reducible refine gate_callee (f := 127) rfl ?_); refine goesL_ (some 5) rfl rfl Tryz.func127 (by kernel_rfl) rfl #[.string a0, .string (⟨#[69, 101]⟩ : ByteArray)] rfl (by (try simp only [List.map_toArray, List.map_cons, List.map_nil]); first | done | rfl | (simp only [List.length_drop, List.length_take]; rfl)) ?_; (with_reducible refine (strings_TrimRight.calls a0 (⟨#[69, 101]⟩ : ByteArray) t130 _ A2.out).mono ?_); rintro e w12 ⟨rfl, hb⟩; refine ⟨_, rfl, ?_⟩; have n0_ := Aside0.mk (below_step (by repeat (first | (with_reducible first | exact HB.out | apply below_alloc | apply pw_below_drewN | apply below_drew1) | exact HB.out)) hb); clear HB; have HB := n0_; clear n0_; (try clear hb); (try clear hb2); (try clear hk); (try clear hi)) | (go_at_call 77; (with_reducible refine (strings_Count.calls t130 (⟨#[46]⟩ : ByteArray) t131 _ A4.out).mono ?_); rintro e w' ⟨rfl, ⟨nd, rfl⟩⟩) | (go_at_call 128; (with_reducible refine (strings_Trim.calls t130 (⟨#[46]⟩ : ByteArray) t132 _ A7.out).mono ?_); rintro e w13 ⟨rfl, hb⟩; have n0_ := Aside0.mk (below_step (by repeat (first | (with_reducible first | exact HB.out | apply below_alloc | apply pw_below_drewN | apply below_drew1) | exact HB.out)) hb); clear HB; have HB := n0_; clear n0_; (try clear hb); (try clear hb2); (try clear hk); (try clear hi)) | ((with_reducible refine gate_callee (f := 128) rfl ?_); refine goesL_ (some 23) rfl rfl Tryz.func128 (by kernel_rfl) rfl #[.string t130, .string (⟨#[48, 49, 50, 51, 52, 53, 54, 55, 56, 57, 46]⟩ : ByteArray)] rfl (by (try simp only [List.map_toArray, List.map_cons, List.map_nil]); first | done | rfl | (simp only [List.length_drop, List.length_take]; rfl)) ?_; (with_reducible refine (strings_Trim.calls t130 (⟨#[48, 49, 50, 51, 52, 53, 54, 55, 56, 57, 46]⟩ : ByteArray) t133 _ A11.out).mono ?_); rintro e w14 ⟨rfl, hb⟩; refine ⟨_, rfl, ?_⟩; have n0_ := Aside0.mk (below_step (by repeat (first | (with_reducible first | exact HB.out | apply below_alloc | apply pw_below_drewN | apply below_drew1) | exact HB.out)) hb); clear HB; have HB := n0_; clear n0_; (try clear hb); (try clear hb2); (try clear hk); (try clear hi)))
        go_ret
        exact ⟨by first | rfl | (simp [errW_none, errW_some] <;> rfl) | (simp [*, errW_none, errW_some] <;> rfl), by repeat (first | (with_reducible first | exact HB.out | apply below_alloc | apply pw_below_drewN | apply below_drew1) | exact HB.out)⟩
  · rw [if_neg c3] at H
    have c3b0 : ((t130.size : Int) == (wrap64 ((a0.size : Int) - 1))) = false := beq_eq_false_iff_ne.mpr c3
    have c3b1 : ((t130.size : Int) != (wrap64 ((a0.size : Int) - 1))) = true := bne_iff_ne.mpr c3
    obtain rfl := Option.some.inj H
    go_enter Tryz.func95, Tryz.ntmps95
    go_wp2_with (first | ((with_reducible refine gate_callee (f := 127) rfl ?_); refine goesL_ (some 5) rfl rfl Tryz.func127 (by kernel_rfl) rfl #[.string a0, .string (⟨#[69, 101]⟩ : ByteArray)] rfl (by (try simp only [List.map_toArray, List.map_cons, List.map_nil]); first | done | rfl | (simp only [List.length_drop, List.length_take]; rfl)) ?_; (with_reducible refine (strings_TrimRight.calls a0 (⟨#[69, 101]⟩ : ByteArray) t130 _ A2.out).mono ?_); rintro e w15 ⟨rfl, hb⟩; refine ⟨_, rfl, ?_⟩; have n0_ := Aside0.mk (below_step (by repeat (first | (with_reducible first | exact HB.out | apply below_alloc | apply pw_below_drewN | apply below_drew1) | exact HB.out)) hb); clear HB; have HB := n0_; clear n0_; (try clear hb); (try clear hb2); (try clear hk); (try clear hi)))
    go_ret
    exact ⟨by first | rfl | (simp [errW_none, errW_some] <;> rfl) | (simp [*, errW_none, errW_some] <;> rfl), by repeat (first | (with_reducible first | exact HB.out | apply below_alloc | apply pw_below_drewN | apply below_drew1) | exact HB.out)⟩

end Go.Proofs.YtkkpjonfaflkmaaGreatDoor.T

/- scan.upper and the reference's Upper hand back a string with capital letters. -/
namespace Go.Proofs.YtkkpjonfaflkmaaGreatDoor.T
set_option linter.unusedSimpArgs false
set_option linter.unusedVariables false
open Go.RowKit Go.Proofs.YtkkpjonfaflkmaaGreatDoorW.PrintWords Go.Proofs.YtkkpjonfaflkmaaGreatDoorW.PrintLast Go.Proofs.YtkkpjonfaflkmaaGreatDoorW.PrintMore

/-- A string with capital letters. -/
def upS (s : ByteArray) : ByteArray := strOfNums ((bytesOf s).map S.up)
def scan_upper.f (a0 : ByteArray) : Option ByteArray := if a0.size ≤ 1000000 then some (upS a0) else none
def qanatref03_Upper.f (a0 : ByteArray) : Option ByteArray := if a0.size ≤ 1000000 then some (upS a0) else none
theorem wrapU8 (x : Int) (h0 : 0 ≤ x) (h1 : x < 256) : IntKind.u8.wrap x = x := by
  have : IntKind.u8.wrap x = x % 256 := rfl
  rw [this]; omega

theorem set_same (xs : List Int) (k : Nat) (h : k < xs.length) : xs.set k (xs.getD k 0) = xs := by
  have h1 : xs.getD k 0 = xs[k] := by simp [List.getD_eq_getElem?_getD, List.getElem?_eq_getElem h]
  rw [h1, List.set_getElem_self]

set_option maxHeartbeats 2000000 in
theorem scan_upper.calls (a0 : ByteArray) (r : ByteArray) (w : World) (h : scan_upper.f a0 = some r) :
    Calls Tryz.prog 98 #[.string a0] w fun e w' => e = .returned (.string r) ∧ Below w.heap.size w w' := by
  unfold scan_upper.f at h
  by_cases ha : a0.size ≤ 1000000
  · rw [if_pos ha] at h
    obtain rfl := Option.some.inj h
    unfold upS
    clear h
    obtain ⟨n, hn⟩ : ∃ n, a0.size = n := ⟨_, rfl⟩
    have HB0 := Aside0.mk (Buf.new w a0)
    have HL0 := Aside0.mk (bytes_below (Below.refl w.heap.size w) (Nat.le_refl _) 5 a0)
    have HN : Aside0 ((bytesOf a0).length = n) := ⟨by rw [bytesOf_length]; exact hn⟩
    have kb := fun W => print_bytes (P := Tryz.prog) 9 100 5 Tryz.underlying9 Tryz.underlying100 Tryz.underlying5 a0 W
    rw [hn] at kb ha
    have kc := fun W c => string_of_reads (P := Tryz.prog) (w := W) (src := 100) (dst := 9) (e := 5) (A := some ⟨w.heap.size, 0, none⟩) (n := n) (c := c) (xs := (bytesOf a0).map S.up) Tryz.underlying100 Tryz.underlying5 Tryz.underlying9
    go_enter Tryz.func98, Tryz.ntmps98
    go_wp2
    go_loopg [4, 5, 10] n (fun gg _ _ s10 wr => ∃ kk : Nat, kk ≤ n ∧ n - kk ≤ gg ∧ s10 = .int .i64 kk ∧ Aside0 (Below w.heap.size w wr) ∧ Aside0 (Buf w.heap.size (part_map S.up kk (bytesOf a0)) wr))
    case atStart => exact ⟨0, Nat.zero_le _, by omega, rfl, HL0, ⟨by rw [part_map_zero]; exact HB0.out⟩⟩
    case round =>
      obtain ⟨kk, hkk, hg, rfl, HB, HF⟩ := hrel
      by_cases hlt : kk < n
      · have hltz : (kk : Int) < (n : Int) := by omega
        have hl : kk < (bytesOf a0).length := by have := HN.out; omega
        have hcell0 := HF.out.cell kk (by rw [part_map_length]; exact hl)
        rw [part_map_at S.up kk _ hl] at hcell0
        obtain ⟨hx0, hx1⟩ := bo_range a0 _ (getD_mem _ kk hl)
        have HS : Aside0 (Buf w.heap.size ((part_map S.up kk (bytesOf a0)).set kk (S.up ((bytesOf a0).getD kk 0))) (wr.setCell ⟨w.heap.size, kk, none⟩ (.int .u8 (S.up ((bytesOf a0).getD kk 0))))) := ⟨HF.out.set kk _ (by rw [part_map_length]; exact hl)⟩
        have HQ := Aside0.mk (part_map_set S.up kk _ hl)
        have HG : Aside0 ((part_map S.up kk (bytesOf a0)).getD kk 0 = (bytesOf a0).getD kk 0) := ⟨part_map_at S.up kk _ hl⟩
        generalize (bytesOf a0).getD kk 0 = y at hcell0 hx0 hx1 HS HQ HG
        have hfree : wr.frozen? ⟨w.heap.size, kk, none⟩ = false := HF.out.free kk (by rw [part_map_length]; exact hl)
        by_cases c1 : 97 ≤ y
        · by_cases c2 : y ≤ 122
          · have d1 : decide (97 ≤ y) = true := decide_eq_true c1
            have d2 : decide (y ≤ 122) = true := decide_eq_true c2
            have hu : S.up y = y - 32 := by unfold S.up; rw [if_pos ⟨c1, c2⟩]
            rw [hu] at HS HQ
            have hw : IntKind.u8.wrap (y - 32) = y - 32 := wrapU8 _ (by omega) (by omega)
            clear c1 c2 hx0 hx1 hl hu
            go_wp2
            go_roundg (n - (kk + 1))
            case measure => omega
            case rel =>
              refine ⟨kk + 1, by omega, by omega, by go_num, ⟨below_set HB.out (Nat.le_refl _)⟩, ⟨?_⟩⟩
              rw [← HQ.out]
              exact HS.out
          · have d1 : decide (97 ≤ y) = true := decide_eq_true c1
            have d2 : decide (y ≤ 122) = false := decide_eq_false c2
            have HU : Aside0 (S.up y = y) := ⟨by unfold S.up; rw [if_neg (fun q => c2 q.2)]⟩
            clear c1 c2 hx0 hx1
            go_wp2
            go_roundg (n - (kk + 1))
            case measure => omega
            case rel =>
              refine ⟨kk + 1, by omega, by omega, by go_num, HB, ⟨?_⟩⟩
              rw [← HQ.out, HU.out, ← HG.out, set_same _ kk (by rw [part_map_length]; exact hl)]
              exact HF.out
        · have d1 : decide (97 ≤ y) = false := decide_eq_false c1
          have HU : Aside0 (S.up y = y) := ⟨by unfold S.up; rw [if_neg (fun q => c1 q.1)]⟩
          clear c1 hx0 hx1
          go_wp2
          go_roundg (n - (kk + 1))
          case measure => omega
          case rel =>
            refine ⟨kk + 1, by omega, by omega, by go_num, HB, ⟨?_⟩⟩
            rw [← HQ.out, HU.out, ← HG.out, set_same _ kk (by rw [part_map_length]; exact hl)]
            exact HF.out
      · obtain rfl : kk = n := by omega
        have HR : Aside0 (Buf w.heap.size ((bytesOf a0).map S.up) wr) := ⟨by have := HF.out; rw [← HN.out, part_map_all] at this; exact this⟩
        have hconv := fun c => kc wr c (by have := HR.out.reads (by simp; have := HN.out; omega); rw [List.length_map, HN.out] at this; exact this)
        go_wp2
        go_ret
        exact ⟨rfl, HB.out⟩
  · rw [if_neg ha] at h
    cases h

set_option maxHeartbeats 2000000 in
theorem qanatref03_Upper.calls (a0 : ByteArray) (r : ByteArray) (w : World) (h : qanatref03_Upper.f a0 = some r) :
    Calls Tryz.prog 101 #[.string a0] w fun e w' => e = .returned (.string r) ∧ Below w.heap.size w w' := by
  unfold qanatref03_Upper.f at h
  by_cases ha : a0.size ≤ 1000000
  · rw [if_pos ha] at h
    obtain rfl := Option.some.inj h
    unfold upS
    clear h
    obtain ⟨n, hn⟩ : ∃ n, a0.size = n := ⟨_, rfl⟩
    have HB0 := Aside0.mk (Buf.new w a0)
    have HL0 := Aside0.mk (bytes_below (Below.refl w.heap.size w) (Nat.le_refl _) 5 a0)
    have HN : Aside0 ((bytesOf a0).length = n) := ⟨by rw [bytesOf_length]; exact hn⟩
    have kb := fun W => print_bytes (P := Tryz.prog) 9 100 5 Tryz.underlying9 Tryz.underlying100 Tryz.underlying5 a0 W
    rw [hn] at kb ha
    have kc := fun W c => string_of_reads (P := Tryz.prog) (w := W) (src := 100) (dst := 9) (e := 5) (A := some ⟨w.heap.size, 0, none⟩) (n := n) (c := c) (xs := (bytesOf a0).map S.up) Tryz.underlying100 Tryz.underlying5 Tryz.underlying9
    go_enter Tryz.func101, Tryz.ntmps101
    go_wp2
    go_loopg [4] n (fun gg s10 wr => ∃ kk : Nat, kk ≤ n ∧ n - kk ≤ gg ∧ s10 = .int .i64 kk ∧ Aside0 (Below w.heap.size w wr) ∧ Aside0 (Buf w.heap.size (part_map S.up kk (bytesOf a0)) wr))
    case atStart => exact ⟨0, Nat.zero_le _, by omega, rfl, HL0, ⟨by rw [part_map_zero]; exact HB0.out⟩⟩
    case round =>
      obtain ⟨kk, hkk, hg, rfl, HB, HF⟩ := hrel
      by_cases hlt : kk < n
      · have hltz : (kk : Int) < (n : Int) := by omega
        have hl : kk < (bytesOf a0).length := by have := HN.out; omega
        have hcell0 := HF.out.cell kk (by rw [part_map_length]; exact hl)
        rw [part_map_at S.up kk _ hl] at hcell0
        obtain ⟨hx0, hx1⟩ := bo_range a0 _ (getD_mem _ kk hl)
        have HS : Aside0 (Buf w.heap.size ((part_map S.up kk (bytesOf a0)).set kk (S.up ((bytesOf a0).getD kk 0))) (wr.setCell ⟨w.heap.size, kk, none⟩ (.int .u8 (S.up ((bytesOf a0).getD kk 0))))) := ⟨HF.out.set kk _ (by rw [part_map_length]; exact hl)⟩
        have HQ := Aside0.mk (part_map_set S.up kk _ hl)
        have HG : Aside0 ((part_map S.up kk (bytesOf a0)).getD kk 0 = (bytesOf a0).getD kk 0) := ⟨part_map_at S.up kk _ hl⟩
        generalize (bytesOf a0).getD kk 0 = y at hcell0 hx0 hx1 HS HQ HG
        have hfree : wr.frozen? ⟨w.heap.size, kk, none⟩ = false := HF.out.free kk (by rw [part_map_length]; exact hl)
        by_cases c1 : 97 ≤ y
        · by_cases c2 : y ≤ 122
          · have d1 : decide (97 ≤ y) = true := decide_eq_true c1
            have d2 : decide (y ≤ 122) = true := decide_eq_true c2
            have hu : S.up y = y - 32 := by unfold S.up; rw [if_pos ⟨c1, c2⟩]
            rw [hu] at HS HQ
            have hw : IntKind.u8.wrap (y - 97) = y - 97 := wrapU8 _ (by omega) (by omega)
            have hw2 : IntKind.u8.wrap (y - 97 + 65) = y - 32 := by rw [wrapU8 _ (by omega) (by omega)]; omega
            clear c1 c2 hx0 hx1 hl hu
            go_wp2
            go_roundg (n - (kk + 1))
            case measure => omega
            case rel =>
              refine ⟨kk + 1, by omega, by omega, by go_num, ⟨below_set HB.out (Nat.le_refl _)⟩, ⟨?_⟩⟩
              rw [← HQ.out]
              exact HS.out
          · have d1 : decide (97 ≤ y) = true := decide_eq_true c1
            have d2 : decide (y ≤ 122) = false := decide_eq_false c2
            have HU : Aside0 (S.up y = y) := ⟨by unfold S.up; rw [if_neg (fun q => c2 q.2)]⟩
            clear c1 c2 hx0 hx1
            go_wp2
            go_roundg (n - (kk + 1))
            case measure => omega
            case rel =>
              refine ⟨kk + 1, by omega, by omega, by go_num, HB, ⟨?_⟩⟩
              rw [← HQ.out, HU.out, ← HG.out, set_same _ kk (by rw [part_map_length]; exact hl)]
              exact HF.out
        · have d1 : decide (97 ≤ y) = false := decide_eq_false c1
          have HU : Aside0 (S.up y = y) := ⟨by unfold S.up; rw [if_neg (fun q => c1 q.1)]⟩
          clear c1 hx0 hx1
          go_wp2
          go_roundg (n - (kk + 1))
          case measure => omega
          case rel =>
            refine ⟨kk + 1, by omega, by omega, by go_num, HB, ⟨?_⟩⟩
            rw [← HQ.out, HU.out, ← HG.out, set_same _ kk (by rw [part_map_length]; exact hl)]
            exact HF.out
      · obtain rfl : kk = n := by omega
        have HR : Aside0 (Buf w.heap.size ((bytesOf a0).map S.up) wr) := ⟨by have := HF.out; rw [← HN.out, part_map_all] at this; exact this⟩
        have hconv := fun c => kc wr c (by have := HR.out.reads (by simp; have := HN.out; omega); rw [List.length_map, HN.out] at this; exact this)
        go_wp2
        go_ret
        exact ⟨rfl, HB.out⟩
  · rw [if_neg ha] at h
    cases h
end Go.Proofs.YtkkpjonfaflkmaaGreatDoor.T

/- The small printed functions, by the pure scanner's words. -/
namespace Go.Proofs.YtkkpjonfaflkmaaGreatDoor.T
set_option linter.unusedSimpArgs false
set_option linter.unusedVariables false
open Go.RowKit Go.Proofs.YtkkpjonfaflkmaaGreatDoorW.PrintWords Go.Proofs.YtkkpjonfaflkmaaGreatDoorW.PrintLast Go.Proofs.YtkkpjonfaflkmaaGreatDoorW.PrintMore

theorem byte_all (P : Int → Prop) (h : ∀ n : Fin 256, P (n.val : Int)) (x : Int) (h0 : 0 ≤ x) (h1 : x < 256) : P x := by
  have := h ⟨x.toNat, by omega⟩
  simp only at this
  rwa [Int.toNat_of_nonneg h0] at this
theorem sym_f (x : Int) (h0 : 0 ≤ x) (h1 : x < 256) : scan_symbolic.f x = some (S.sym x) :=
  byte_all (fun x => scan_symbolic.f x = some (S.sym x)) (by decide +kernel) x h0 h1
theorem dig_f (x : Int) : scan_digit.f x = some (S.dig x) := by
  unfold scan_digit.f S.dig
  by_cases h1 : 48 ≤ x <;> by_cases h2 : x ≤ 57 <;> simp [h1, h2]
theorem sym_tells : Tells 55 S.sym := fun W x h0 h1 => scan_symbolic.calls x (S.sym x) W (sym_f x h0 h1)
theorem dig_tells : Tells 96 S.dig := fun W x h0 h1 => scan_digit.calls x (S.dig x) W (dig_f x)
theorem sym_enters : ∀ args w, (callFunc 55 args).run Tryz.prog w = .ok (.enter 55 args) w := enters_of Tryz.func55 (by kernel_rfl) rfl
theorem dig_enters : ∀ args w, (callFunc 96 args).run Tryz.prog w = .ok (.enter 96 args) w := enters_of Tryz.func96 (by kernel_rfl) rfl

theorem nums_all (l : List UInt8) (p : Int → Bool) : (nums l).all p = l.all (fun b => p (b.toNat : Int)) := by simp [nums, Function.comp_def]
theorem nums_any (l : List UInt8) (p : Int → Bool) : (nums l).any p = l.any (fun b => p (b.toNat : Int)) := by simp [nums, Function.comp_def]
theorem nums_count (l : List UInt8) (c : UInt8) : (nums l).count (c.toNat : Int) = l.count c := by
  induction l with
  | nil => rfl
  | cons x t ih =>
    simp only [nums, List.map_cons, List.count_cons]
    rw [show List.map (fun b : UInt8 => (b.toNat : Int)) t = nums t from rfl, ih]
    by_cases h : x = c
    · subst h; simp
    · have : ¬ (x.toNat : Int) = (c.toNat : Int) := fun e => h (u8_inj e)
      simp [h, this]
theorem drop_nil {α : Type} (p : α → Bool) : ∀ l : List α, l.dropWhile p = [] ↔ ∀ x ∈ l, p x = true
  | [] => by simp
  | x :: t => by
    by_cases h : p x = true
    · rw [List.dropWhile_cons_of_pos h, drop_nil p t]; simp [h]
    · rw [List.dropWhile_cons_of_neg h]; simp [h]
theorem take_mem {α : Type} (p : α → Bool) : ∀ (l : List α) (x : α), x ∈ l.takeWhile p → p x = true
  | [], _, h => by cases h
  | y :: t, x, h => by
    by_cases hy : p y = true
    · rw [List.takeWhile_cons_of_pos hy] at h
      rcases List.mem_cons.1 h with rfl | h
      · exact hy
      · exact take_mem p t x h
    · rw [List.takeWhile_cons_of_neg hy] at h; cases h
/-- The last byte alone is an E: trimming E's at the end leaves the rest, if this is all digits and periods. -/
theorem trimS_empty (l cs : List UInt8) : (Lib.trimS l cs = []) ↔ ∀ b ∈ l, cs.contains b = true := by
  unfold Lib.trimS Lib.trimLeftS Lib.trimRightS
  constructor
  · intro h b hb
    have h1 : ∀ b ∈ (l.reverse.dropWhile (cs.contains ·)).reverse, cs.contains b = true := by
      have := (drop_nil _ _).1 h
      exact this
    by_cases hm : b ∈ l.reverse.dropWhile (cs.contains ·)
    · exact h1 b (by simpa using hm)
    · have hb' : b ∈ l.reverse := by simpa using hb
      rw [← List.takeWhile_append_dropWhile (p := (cs.contains ·)) (l := l.reverse)] at hb'
      rcases List.mem_append.1 hb' with h2 | h2
      · exact take_mem _ _ _ h2
      · exact absurd h2 hm
  · intro h
    have : l.reverse.dropWhile (cs.contains ·) = [] := by
      rw [drop_nil]
      intro b hb
      exact h b (by simpa using hb)
    rw [this]; rfl
end Go.Proofs.YtkkpjonfaflkmaaGreatDoor.T

/- The scanner's symbol returns what S.symTok says. -/
namespace Go.Proofs.YtkkpjonfaflkmaaGreatDoor.T
set_option linter.unusedSimpArgs false
set_option linter.unusedVariables false
open Go.RowKit Go.Proofs.YtkkpjonfaflkmaaGreatDoorW.PrintWords Go.Proofs.YtkkpjonfaflkmaaGreatDoorW.PrintLast Go.Proofs.YtkkpjonfaflkmaaGreatDoorW.PrintMore

theorem u8_all (P : UInt8 → Prop) (h : ∀ n : Fin 256, P (UInt8.ofNat n.val)) (b : UInt8) : P b := by
  have := h ⟨b.toNat, b.toNat_lt⟩
  simpa using this
theorem isE (b : UInt8) : ([69, 101] : List UInt8).contains b = (decide ((b.toNat : Int) = 69) || decide ((b.toNat : Int) = 101)) := u8_all (fun b => ([69, 101] : List UInt8).contains b = (decide ((b.toNat : Int) = 69) || decide ((b.toNat : Int) = 101))) (by decide +kernel) b
theorem isDot (b : UInt8) : ([46] : List UInt8).contains b = decide ((b.toNat : Int) = 46) := u8_all (fun b => ([46] : List UInt8).contains b = decide ((b.toNat : Int) = 46)) (by decide +kernel) b
theorem isDD (b : UInt8) : ([48, 49, 50, 51, 52, 53, 54, 55, 56, 57, 46] : List UInt8).contains b = (S.dig b.toNat || decide ((b.toNat : Int) = 46)) := u8_all (fun b => ([48, 49, 50, 51, 52, 53, 54, 55, 56, 57, 46] : List UInt8).contains b = (S.dig b.toNat || decide ((b.toNat : Int) = 46))) (by decide +kernel) b
theorem trimR_end (l : List UInt8) (e : UInt8) (cs : List UInt8) : Lib.trimRightS (l ++ [e]) cs = if cs.contains e = true then Lib.trimRightS l cs else l ++ [e] := by
  unfold Lib.trimRightS
  rw [List.reverse_append]
  by_cases h : cs.contains e = true
  · rw [if_pos h]
    simp only [List.reverse_cons, List.reverse_nil, List.nil_append, List.singleton_append]
    rw [List.dropWhile_cons_of_pos h]
  · rw [if_neg h]
    simp only [List.reverse_cons, List.reverse_nil, List.nil_append, List.singleton_append]
    rw [List.dropWhile_cons_of_neg h]
    simp
theorem trimR_le (l cs : List UInt8) : (Lib.trimRightS l cs).length ≤ l.length := by
  unfold Lib.trimRightS
  rw [List.length_reverse]
  have := (List.dropWhile_sublist (cs.contains ·) (l := l.reverse)).length_le
  simpa using this
theorem cb (l : List UInt8) : (Lib.countByte l 46 : Int) = (l.count 46 : Int) := rfl
theorem toL_mk (l : List UInt8) : (⟨l.toArray⟩ : ByteArray).toList = l := by rw [Lib.toList_data]
theorem mk_size (l : List UInt8) : (⟨l.toArray⟩ : ByteArray).size = l.length := by simp [ByteArray.size]
theorem open_f (x : ByteArray) (hx : x.size ≤ 100000) : scan_open.f x = some (S.mant (bytesOf x)) := by
  have hsz : x.size = x.data.toList.length := (data_length x).symm
  rw [bytesOf_nums]
  unfold scan_open.f strings_TrimRight.f
  rw [if_pos ⟨hx, by decide, by decide⟩]
  simp only [Option.bind_some, mk_size]
  rw [hsz]
  rw [hsz] at hx
  generalize x.data.toList = l at hx
  have hw : wrap64 ((l.length : Int) - 1) = (l.length : Int) - 1 := by unfold wrap64; omega
  rw [hw]
  show (if ((Lib.trimRightS l [69, 101]).length : Int) = (l.length : Int) - 1 then _ else some false) = _
  rcases List.eq_nil_or_concat l with rfl | ⟨l', e, rfl⟩
  · rw [if_neg (by simp [Lib.trimRightS])]
    rfl
  rw [List.concat_eq_append] at hx ⊢
  have hm : S.mant (nums (l' ++ [e])) = (([69, 101] : List UInt8).contains e && (nums l').all (fun c => S.dig c || decide (c = 46)) && (nums l').any S.dig && decide ((nums l').count 46 ≤ 1)) := by
    unfold S.mant
    have h1 : nums (l' ++ [e]) = nums l' ++ [(e.toNat : Int)] := by simp [nums]
    rw [h1, List.getLast?_concat, isE]
    simp only [List.dropLast_concat]
  rw [hm, trimR_end]
  by_cases he : ([69, 101] : List UInt8).contains e = true
  · rw [if_pos he, he, Bool.true_and]
    have hl : ((l' ++ [e]).length : Int) - 1 = (l'.length : Int) := by simp
    rw [hl]
    by_cases hs : ((Lib.trimRightS l' [69, 101]).length : Int) = (l'.length : Int)
    · rw [if_pos hs]
      have ht : Lib.trimRightS l' [69, 101] = l' := by
        rcases List.eq_nil_or_concat l' with rfl | ⟨l2, e2, rfl⟩
        · rfl
        · rw [List.concat_eq_append] at hs ⊢
          rw [trimR_end] at hs ⊢
          by_cases h2 : ([69, 101] : List UInt8).contains e2 = true
          · rw [if_pos h2] at hs
            have := trimR_le l2 [69, 101]
            simp at hs
            omega
          · rw [if_neg h2]
      rw [ht]
      unfold strings_Count.f
      simp only [Option.bind_some]
      have hc : Lib.countByte l' 46 = ((nums l').count 46 : Int) := by
        have := nums_count l' 46
        rw [show (((46 : UInt8).toNat : Nat) : Int) = 46 from rfl] at this
        rw [this]
        exact cb l'
      rw [hc]
      by_cases h1 : ((nums l').count 46 : Int) > 1
      · rw [if_pos h1]
        have : decide ((nums l').count 46 ≤ 1) = false := decide_eq_false (by omega)
        rw [this, Bool.and_false]
      · rw [if_neg h1]
        have : decide ((nums l').count 46 ≤ 1) = true := decide_eq_true (by omega)
        rw [this, Bool.and_true]
        have hx2 : l'.length ≤ 100000 := by simp at hx; omega
        unfold strings_Trim.f
        rw [mk_size, if_pos ⟨hx2, by decide, by decide⟩, if_pos ⟨hx2, by decide, by decide⟩]
        simp only [Option.bind_some, toL_mk]
        show (if Lib.trimS l' [46] = [] then some false else some (Lib.trimS l' [48, 49, 50, 51, 52, 53, 54, 55, 56, 57, 46] == [])) = _
        have hall : (nums l').all (fun c => S.dig c || decide (c = 46)) = decide (Lib.trimS l' [48, 49, 50, 51, 52, 53, 54, 55, 56, 57, 46] = []) := by
          rw [nums_all]
          by_cases h : Lib.trimS l' [48, 49, 50, 51, 52, 53, 54, 55, 56, 57, 46] = []
          · rw [decide_eq_true h, List.all_eq_true]
            intro b hb
            rw [← isDD]; exact (trimS_empty _ _).1 h b hb
          · rw [decide_eq_false h, ← Bool.not_eq_true, List.all_eq_true]
            intro q
            refine h ((trimS_empty _ _).2 fun b hb => ?_)
            rw [isDD]; exact q b hb
        by_cases h2 : Lib.trimS l' [46] = []
        · rw [if_pos h2]
          have : (nums l').any S.dig = false := by
            rw [nums_any, ← Bool.not_eq_true, List.any_eq_true]
            rintro ⟨b, hb, hd⟩
            have h3 := (trimS_empty _ _).1 h2 b hb
            rw [isDot, decide_eq_true_eq] at h3
            rw [h3] at hd
            cases hd
          rw [this, Bool.and_false]
        · rw [if_neg h2, hall]
          by_cases h3 : Lib.trimS l' [48, 49, 50, 51, 52, 53, 54, 55, 56, 57, 46] = []
          · have h4 : (nums l').any S.dig = true := by
              rw [nums_any]
              rcases Bool.eq_false_or_eq_true (l'.any fun b => S.dig b.toNat) with h | h
              · exact h
              · exfalso
                refine h2 ((trimS_empty _ _).2 fun b hb => ?_)
                have h5 := (trimS_empty _ _).1 h3 b hb
                rw [isDD] at h5
                have h6 : S.dig b.toNat = false := by
                  rw [List.any_eq_false] at h
                  simpa using h b hb
                rw [h6, Bool.false_or] at h5
                rw [isDot]; exact h5
            rw [h3, h4]
            rfl
          · rw [decide_eq_false h3, Bool.false_and]
            simp [h3]
    · rw [if_neg hs]
      have : (nums l').all (fun c => S.dig c || decide (c = 46)) = false := by
        rcases List.eq_nil_or_concat l' with rfl | ⟨l2, e2, rfl⟩
        · exact absurd rfl hs
        · rw [List.concat_eq_append] at hs ⊢
          rw [trimR_end] at hs
          by_cases h2 : ([69, 101] : List UInt8).contains e2 = true
          · rw [isE] at h2
            have h3 : nums (l2 ++ [e2]) = nums l2 ++ [(e2.toNat : Int)] := by simp [nums]
            rw [h3, List.all_append]
            simp only [Bool.or_eq_true, decide_eq_true_eq] at h2
            have : (S.dig (e2.toNat : Int) || decide ((e2.toNat : Int) = 46)) = false := by
              rcases h2 with h2 | h2 <;> rw [h2] <;> rfl
            simp [this]
          · rw [if_neg h2] at hs
            exact absurd rfl hs
      rw [this]
      rfl
  · rw [if_neg he, if_neg (by simp; omega)]
    simp only [Bool.not_eq_true] at he
    rw [he]
    rfl

theorem run_le (p : Int → Bool) : ∀ l : List Int, S.run p l ≤ l.length
  | [] => Nat.le_refl _
  | c :: t => by
    unfold S.run
    split
    · have := run_le p t; simp; omega
    · omega
def SymPost (s : Nat) (src : ByteArray) (m : Value) (i line : Nat) (e : Ending) (w' : World) : S.TR → Prop
  | .err c => e = Fails c line ∧ ∃ i' : Nat, Sc s src i' line m w'
  | .ok t n => e = .returned (.string (strOfNums t)) ∧ Sc s src ((i + n : Nat) : Int) line m w'

theorem symS_mk {s : Nat} {src : ByteArray} {i line : Int} {m : Value} {w W : World} (h : Sc s src i line m W) (hb : But (· = s) w W) :
    W.cell? ⟨s, 0, none⟩ = some (.string src) ∧ W.cell? ⟨s, 1, none⟩ = some (.int .i64 i) ∧ Sc s src i line m W ∧ But (· = s) w W := ⟨h.c0, h.c1, h, hb⟩
theorem symS_step {s : Nat} {src : ByteArray} {i line : Int} {m : Value} {w W W' : World} (h : W.cell? ⟨s, 0, none⟩ = some (.string src) ∧ W.cell? ⟨s, 1, none⟩ = some (.int .i64 i) ∧ Sc s src i line m W ∧ But (· = s) w W) (hb : Below W.heap.size W W') :
    W'.cell? ⟨s, 0, none⟩ = some (.string src) ∧ W'.cell? ⟨s, 1, none⟩ = some (.int .i64 i) ∧ Sc s src i line m W' ∧ But (· = s) w W' := symS_mk (h.2.2.1.below hb) (h.2.2.2.then hb)

set_option maxRecDepth 100000 in
set_option maxHeartbeats 4000000 in
theorem scan_symbol.calls (s : Nat) (src : ByteArray) (m : Value) (i line : Nat) (w : World) (hsz : src.size ≤ 100000) (hl : line ≤ 1000000000) (hi : i ≤ src.size) (h : Sc s src i line m w) :
    Calls Tryz.prog 56 #[.pointer (some ⟨s, 0, none⟩)] w fun e w' => But (· = s) w w' ∧ SymPost s src m i line e w' (S.symTok ((bytesOf src).drop i)) := by
  have HS := Aside0.mk h
  obtain ⟨n, hn⟩ : ∃ n, src.size = n := ⟨_, rfl⟩
  obtain ⟨L, hL⟩ : ∃ L, bytesOf src = L := ⟨_, rfl⟩
  have HN : Aside0 (L.length = n) := ⟨by rw [← hL, bytesOf_length]; exact hn⟩
  have HRUN := Lib.hid (fun W hW => scan_run.calls s src i line m i 55 S.sym W (by omega) hi sym_enters sym_tells hW)
  rw [hL] at HRUN ⊢
  obtain ⟨r, hr⟩ : ∃ r, S.run S.sym (L.drop i) = r := ⟨_, rfl⟩
  rw [hr] at HRUN
  have hrn : i + r ≤ n := by
    have := run_le S.sym (L.drop i)
    rw [hr, List.length_drop, HN.out] at this
    omega
  have HL := Aside0.mk hL
  have HR := Aside0.mk hr
  have c0 := h.c0
  have c1 := h.c1
  have f1 := h.fr 1
  clear hL h hr
  rw [hn] at hsz hi
  obtain ⟨x, hx⟩ : ∃ x, i + r = x := ⟨_, rfl⟩
  rw [hx] at hrn HRUN
  have hxr : x - i = r := by omega
  have HX : Aside0 (bytesOf (src.extract i x) = (L.drop i).take r) := ⟨by rw [bytesOf_extract, HL.out, hxr]⟩
  have hxs : (src.extract i x).size ≤ 100000 := by rw [ByteArray.size_extract]; omega
  have HO := open_f _ hxs
  rw [HX.out] at HO
  obtain ⟨op, hop⟩ : ∃ op, S.mant ((L.drop i).take r) = op := ⟨_, rfl⟩
  rw [hop] at HO
  have hz0 : (0 : Int) ≤ (i : Int) := by omega
  have hz1 : (i : Int) ≤ (x : Int) := by omega
  have hz2 : (x : Int) ≤ (n : Int) := by omega
  have HOP := Lib.hid (fun W => scan_open.calls (src.extract i x) op W HO)
  have HI := Aside0.mk (And.intro hx hxr)
  clear hx hxr HO hxs
  have hw1 : IntKind.i64.wrap ((x : Int) + 1) = ((x + 1 : Nat) : Int) := by rw [w64 _ (by omega) (by omega)]; omega
  obtain ⟨E, hE⟩ : ∃ E, (op && S.expo (L.drop x)) = E := ⟨_, rfl⟩
  have HEE := Aside0.mk hE
  go_enter Tryz.func56, Tryz.ntmps56
  go_wp2_with (go_at_call 94; refine (HRUN.out _ HS.out).mono ?_; rintro e w' ⟨rfl, ⟨⟨q, rfl⟩⟩⟩)
  have HS1 : Aside0 (Sc s src x line m ((w.drewN q).setCell ⟨s, 1, none⟩ (.int .i64 x))) := ⟨Sc.set1 (w := w.drewN q) HS.out _⟩
  have HB1 : Aside0 (But (· = s) w ((w.drewN q).setCell ⟨s, 1, none⟩ (.int .i64 x))) := ⟨((But.refl _ w).drewN q).set _ _ rfl⟩
  clear hE
  generalize (w.drewN q).setCell ⟨s, 1, none⟩ (.int .i64 x) = w1 at *
  go_cut [74] from 4 (fun s74 wc => s74 = .bool E ∧ Aside0 (Sc s src x line m wc) ∧ Aside0 (But (· = s) w wc))
  case first =>
    have cc0 : ∀ y : ScC s src x line m w, y.world.cell? ⟨s, 0, none⟩ = some (.string src) := ScC.c0
    have cc1 : ∀ y : ScC s src x line m w, y.world.cell? ⟨s, 1, none⟩ = some (.int .i64 x) := ScC.c1
    have hne : Nonempty (ScC s src x line m w) := ⟨⟨w1.drew, HS1.out, HB1.out.drew⟩⟩
    cases op with
    | false =>
      obtain rfl : false = E := HEE.out
      refine wp_region_cls (fun W => ∃ y : ScC s src x line m w, W = y.world) (by kernel_rfl) (by kernel_rfl) ⟨⟨w1.drew, HS1.out, HB1.out.drew⟩, rfl⟩ ?_
      repeat (go_big_quiet_step ((rename_i y; (go_at_call 95; refine (HOP.out _).mono ?_; rintro e w' ⟨rfl, hb⟩; exact ⟨rfl, y.ret hb⟩))))
      refine wpQuiet_nil ?_
      rintro W ⟨y, rfl⟩
      go_wp2_with fail
      go_meet
      exact ⟨rfl, ⟨y.sc⟩, ⟨y.but⟩⟩
    | true =>
      by_cases c1 : x + 1 < n
      · have g1 : decide (((x : Int) + 1) < (n : Int)) = true := decide_eq_true (by omega)
        have g1' : decide (x + 1 < n) = true := decide_eq_true c1
        have hxn : x < src.size := by omega
        have hx1n : x + 1 < src.size := by omega
        have hb1 := nth_byte src x hxn
        have hb2 := nth_byte src (x + 1) hx1n
        rw [HL.out] at hb1 hb2
        have HE2 : Aside0 (E = ((decide (L.getD x 0 = 43) || decide (L.getD x 0 = 45)) && S.dig (L.getD (x + 1) 0))) := ⟨by
          have := HEE.out
          rw [drop_at L x (by rw [HN.out]; omega), drop_at L (x + 1) (by rw [HN.out]; omega)] at this
          rw [← this]; rfl⟩
        have hr1 : 0 ≤ L.getD (x + 1) 0 ∧ L.getD (x + 1) 0 < 256 := by
          have := bo_range src (L.getD (x + 1) 0) (by rw [HL.out]; exact getD_mem L (x + 1) (by rw [HN.out]; omega))
          exact this
        generalize L.getD x 0 = y1 at *
        generalize L.getD (x + 1) 0 = y2 at *
        have hdd := fun W => scan_digit.calls y2 (S.dig y2) W (dig_f y2)
        obtain ⟨D, hD⟩ : ∃ D, S.dig y2 = D := ⟨_, rfl⟩
        rw [hD] at HE2 hdd
        have HDG := Lib.hid hdd
        clear hdd hD hr1 c1
        have hi1 : (x : Int) < (n : Int) := by omega
        have hi2 : ((x : Int) + 1) < (n : Int) := by omega
        have hi0 : (0 : Int) ≤ (x : Int) := by omega
        by_cases c2 : y1 = 43
        · have g2 : (y1 == 43) = true := beq_iff_eq.2 c2
          obtain rfl : E = D := by rw [HE2.out, c2]; simp
          refine wp_region_cls (fun W => ∃ y : ScC s src x line m w, W = y.world) (by kernel_rfl) (by kernel_rfl) ⟨⟨w1.drew, HS1.out, HB1.out.drew⟩, rfl⟩ ?_
          repeat (go_big_quiet_step ((rename_i y; first | (go_at_call 95; refine (HOP.out _).mono ?_; rintro e w' ⟨rfl, hb⟩; exact ⟨rfl, y.ret hb⟩) | (go_at_call 96; refine (HDG.out _).mono ?_; rintro e w' ⟨rfl, hb⟩; exact ⟨rfl, y.ret hb.below⟩))))
          refine wpQuiet_nil ?_
          rintro W ⟨y, rfl⟩
          go_wp2_with fail
          go_meet
          exact ⟨rfl, ⟨y.sc⟩, ⟨y.but⟩⟩
        · have g2 : (y1 == 43) = false := beq_eq_false_iff_ne.2 c2
          by_cases c3 : y1 = 45
          · have g3 : (y1 == 45) = true := beq_iff_eq.2 c3
            obtain rfl : E = D := by rw [HE2.out, c3]; simp
            refine wp_region_cls (fun W => ∃ y : ScC s src x line m w, W = y.world) (by kernel_rfl) (by kernel_rfl) ⟨⟨w1.drew, HS1.out, HB1.out.drew⟩, rfl⟩ ?_
            repeat (go_big_quiet_step ((rename_i y; first | (go_at_call 95; refine (HOP.out _).mono ?_; rintro e w' ⟨rfl, hb⟩; exact ⟨rfl, y.ret hb⟩) | (go_at_call 96; refine (HDG.out _).mono ?_; rintro e w' ⟨rfl, hb⟩; exact ⟨rfl, y.ret hb.below⟩))))
            refine wpQuiet_nil ?_
            rintro W ⟨y, rfl⟩
            go_wp2_with fail
            go_meet
            exact ⟨rfl, ⟨y.sc⟩, ⟨y.but⟩⟩
          · have g3 : (y1 == 45) = false := beq_eq_false_iff_ne.2 c3
            obtain rfl : E = false := by rw [HE2.out]; simp [c2, c3]
            refine wp_region_cls (fun W => ∃ y : ScC s src x line m w, W = y.world) (by kernel_rfl) (by kernel_rfl) ⟨⟨w1.drew, HS1.out, HB1.out.drew⟩, rfl⟩ ?_
            repeat (go_big_quiet_step ((rename_i y; first | (go_at_call 95; refine (HOP.out _).mono ?_; rintro e w' ⟨rfl, hb⟩; exact ⟨rfl, y.ret hb⟩) | (go_at_call 96; refine (HDG.out _).mono ?_; rintro e w' ⟨rfl, hb⟩; exact ⟨rfl, y.ret hb.below⟩))))
            refine wpQuiet_nil ?_
            rintro W ⟨y, rfl⟩
            go_wp2_with fail
            go_meet
            exact ⟨rfl, ⟨y.sc⟩, ⟨y.but⟩⟩
      · have g1 : decide (((x : Int) + 1) < (n : Int)) = false := decide_eq_false (by omega)
        have g1' : decide (x + 1 < n) = false := decide_eq_false c1
        obtain rfl : E = false := by
          have := HEE.out
          rw [← this]
          have hlen : (L.drop x).length ≤ 1 := by rw [List.length_drop, HN.out]; omega
          rcases h0 : L.drop x with _ | ⟨a, _ | ⟨b, t⟩⟩
          · rfl
          · rfl
          · rw [h0] at hlen; simp at hlen
        refine wp_region_cls (fun W => ∃ y : ScC s src x line m w, W = y.world) (by kernel_rfl) (by kernel_rfl) ⟨⟨w1.drew, HS1.out, HB1.out.drew⟩, rfl⟩ ?_
        repeat (go_big_quiet_step ((rename_i y; (go_at_call 95; refine (HOP.out _).mono ?_; rintro e w' ⟨rfl, hb⟩; exact ⟨rfl, y.ret hb⟩))))
        refine wpQuiet_nil ?_
        rintro W ⟨y, rfl⟩
        go_wp2_with fail
        go_meet
        exact ⟨rfl, ⟨y.sc⟩, ⟨y.but⟩⟩
  case rest =>
    obtain ⟨rfl, HS2, HB2⟩ := hcut
    clear HS1 HB1 HOP
    obtain ⟨x2, hx2⟩ : ∃ x2 : Nat, i + S.symLen (L.drop i) = x2 := ⟨_, rfl⟩
    have hsl : S.symLen (L.drop i) = if E = true then r + 1 + S.run S.dig (L.drop (x + 1)) else r := by
      have h1 := HI.out
      have hE := HEE.out
      unfold S.symLen
      rw [HR.out, List.drop_drop, List.drop_drop, h1.1, show i + (r + 1) = x + 1 by omega, hop]
      by_cases hc : E = true
      · rw [if_pos hc]
        rw [hc] at hE
        rw [Bool.and_eq_true] at hE
        rw [if_pos hE]
      · rw [if_neg hc]
        rw [if_neg (fun q => hc (by rw [← hE, q.1, q.2]; rfl))]
    have hx2n : x2 ≤ n ∧ i ≤ x2 := by
      have h1 := HI.out
      by_cases hc : E = true
      · rw [if_pos hc] at hsl
        have := run_le S.dig (L.drop (x + 1))
        rw [List.length_drop, HN.out] at this
        have hE := HEE.out
        rw [hc, Bool.and_eq_true] at hE
        have h2 : x + 1 < n := by
          rcases Nat.lt_or_ge (x + 1) n with h | h
          · exact h
          · have hlen : (L.drop x).length ≤ 1 := by rw [List.length_drop, HN.out]; omega
            rcases h0 : L.drop x with _ | ⟨a, _ | ⟨b, t⟩⟩
            · rw [h0] at hE; cases hE.2
            · rw [h0] at hE; cases hE.2
            · rw [h0] at hlen; simp at hlen
        omega
      · rw [if_neg hc] at hsl
        omega
    have HT : Aside0 (S.symTok (L.drop i) = if 40 < x2 - i then .err 30 else .ok (((L.drop i).take (x2 - i)).map S.up) (x2 - i)) := ⟨by
      unfold S.symTok
      rw [show S.symLen (L.drop i) = x2 - i by omega]⟩
    go_upto_if 74 with (fail)
    go_cut [] from 4 (fun wc => Aside0 (Sc s src x2 line m wc) ∧ Aside0 (But (· = s) w wc))
    case first =>
      have d1 := HS2.out.c1
      have e1 := HS2.out.fr 1
      cases E with
      | false =>
        obtain rfl : x = x2 := by have h1 := HI.out; simp at hsl; omega
        go_wp2_with fail
        go_meet
        exact ⟨HS2, HB2⟩
      | true =>
        simp only [if_true] at hsl
        have hx3 : ((x + 1 + S.run S.dig (L.drop (x + 1)) : Nat) : Int) = (x2 : Int) := by have h1 := HI.out; omega
        have hxn : x + 1 ≤ n := by have h1 := HI.out; omega
        have HR2 := scan_run.calls s src x line m (x + 1) 96 S.dig wc (by omega) (by omega) dig_enters dig_tells HS2.out
        rw [HL.out, hx3] at HR2
        have HRR := Lib.hid HR2
        clear HR2 hx3
        go_wp2_with (go_at_call 94; refine HRR.out.mono ?_; rintro e w' ⟨rfl, ⟨⟨q, rfl⟩⟩⟩)
        go_meet
        exact ⟨⟨Sc.set1 (w := wc.drewN q) HS2.out _⟩, ⟨(HB2.out.drewN q).set _ _ rfl⟩⟩
    case rest =>
      obtain ⟨HS3, HB3⟩ := hcut
      clear HS2 HB2 HRUN
      have d0 := HS3.out.c0
      have d1 := HS3.out.c1
      have d2 := HS3.out.c2
      obtain ⟨k, hk⟩ : ∃ k, x2 - i = k := ⟨_, rfl⟩
      have HT2 := HT
      rw [hk] at HT2
      have hw2 : IntKind.i64.wrap ((x2 : Int) - (i : Int)) = (k : Int) := by rw [w64 _ (by omega) (by omega)]; omega
      by_cases h40 : 40 < k
      · have g1 : decide (40 < k) = true := decide_eq_true h40
        have g2 : decide ((40 : Int) < (k : Int)) = true := decide_eq_true (by omega)
        have HF := Lib.hid (scan_fail.calls (.pointer (some ⟨s, 0, none⟩)) 30 line wc)
        rw [if_pos h40] at HT2
        clear hk h40
        go_wp2_with (go_at_call 97; refine HF.out.mono ?_; rintro e w' ⟨rfl, rfl⟩; unfold Fails)
        rw [HT2.out]
        exact ⟨rfl, HB3.out, rfl, _, HS3.out⟩
      · have g1 : decide (40 < k) = false := decide_eq_false h40
        have g2 : decide ((40 : Int) < (k : Int)) = false := decide_eq_false (by omega)
        rw [if_neg h40] at HT2
        have hz3 : (i : Int) ≤ (x2 : Int) := by omega
        have hz4 : (x2 : Int) ≤ (n : Int) := by omega
        have hup : scan_upper.f (src.extract i x2) = some (strOfNums (((L.drop i).take k).map S.up)) := by
          unfold scan_upper.f upS
          rw [if_pos (by rw [ByteArray.size_extract]; omega), bytesOf_extract, HL.out, hk]
        have hcalls := fun W => scan_upper.calls (src.extract i x2) _ W hup
        have HK : Aside0 (x2 = i + k) := ⟨by omega⟩
        clear hk h40 hup
        obtain ⟨out, hout⟩ : ∃ out, strOfNums (((L.drop i).take k).map S.up) = out := ⟨_, rfl⟩
        rw [hout] at hcalls
        have HU := Lib.hid hcalls
        have HOUT := Aside0.mk hout
        clear hcalls hout
        have cc0 : ∀ y : ScC s src x2 line m w, y.world.cell? ⟨s, 0, none⟩ = some (.string src) := ScC.c0
        have cc1 : ∀ y : ScC s src x2 line m w, y.world.cell? ⟨s, 1, none⟩ = some (.int .i64 x2) := ScC.c1
        have hne : Nonempty (ScC s src x2 line m w) := ⟨⟨wc.drew, HS3.out, HB3.out.drew⟩⟩
        go_wp2
        refine wp_region_cls (fun W => ∃ y : ScC s src x2 line m w, W = y.world) (by kernel_rfl) (by kernel_rfl) ⟨⟨wc.drew, HS3.out, HB3.out.drew⟩, rfl⟩ ?_
        repeat (go_big_quiet_step ((rename_i y; (go_at_call 98; refine (HU.out _).mono ?_; rintro e w' ⟨rfl, hb⟩; exact ⟨rfl, y.ret hb⟩))))
        refine wpQuiet_nil ?_
        rintro W ⟨y, rfl⟩
        have HY := Aside0.mk (And.intro y.sc y.but)
        generalize y.world = W at *
        go_wp2
        go_ret
        refine ⟨HY.out.2, ?_⟩
        rw [HT2.out]
        exact ⟨by rw [HOUT.out]; rfl, by rw [← HK.out]; exact HY.out.1⟩
end Go.Proofs.YtkkpjonfaflkmaaGreatDoor.T

/- Of strings.Builder: WriteByte, WriteString and String, whatever the builder holds. -/
namespace Go.Proofs.YtkkpjonfaflkmaaGreatDoor.T
set_option linter.unusedSimpArgs false
set_option linter.unusedVariables false
open Go.RowKit Go.Proofs.YtkkpjonfaflkmaaGreatDoorW.PrintWords Go.Proofs.YtkkpjonfaflkmaaGreatDoorW.PrintLast Go.Proofs.YtkkpjonfaflkmaaGreatDoorW.PrintMore

def bldRen : Go.Shelf.Ren := ⟨fun | 167 => 106 | 166 => 112 | 240 => 132 | 276 => 153 | 169 => 107 | n => n, fun | 0 => 0 | 3 => 3 | 4 => 4 | 5 => 5 | 9 => 9 | 20 => 20 | 37 => 100 | 70 => 124 | 72 => 126 | 75 => 128 | 76 => 134 | 80 => 94 | 127 => 141 | 164 => 160 | n => n, fun | n => n⟩
theorem bldLays167 : Go.Proofs.Lays.n167 Tryz.prog bldRen := {
  mixed := by kernel_rfl
  f167 := Tryz.func106.trans (congrArg some (by kernel_rfl))
  f240 := Tryz.func132.trans (congrArg some (by kernel_rfl))
  f276 := Tryz.func153.trans (congrArg some (by kernel_rfl))
  t0 := Tryz.underlying0
  a0 := Tryz.isAgg0
  z0 := Tryz.sizeOf0
  v0 := Tryz.zeroValue0
  t4 := Tryz.underlying4
  a4 := Tryz.isAgg4
  z4 := Tryz.sizeOf4
  v4 := Tryz.zeroValue4
  t5 := Tryz.underlying5
  a5 := Tryz.isAgg5
  z5 := Tryz.sizeOf5
  v5 := Tryz.zeroValue5
  t9 := Tryz.underlying9
  a9 := Tryz.isAgg9
  z9 := Tryz.sizeOf9
  v9 := Tryz.zeroValue9
  t20 := Tryz.underlying20
  a20 := Tryz.isAgg20
  z20 := Tryz.sizeOf20
  v20 := Tryz.zeroValue20
  t37 := Tryz.underlying100
  a37 := Tryz.isAgg100
  z37 := Tryz.sizeOf100
  v37 := Tryz.zeroValue100
  t70 := Tryz.underlying124
  a70 := Tryz.isAgg124
  z70 := Tryz.sizeOf124
  v70 := Tryz.zeroValue124
  t72 := Tryz.underlying126
  a72 := Tryz.isAgg126
  z72 := Tryz.sizeOf126
  v72 := Tryz.zeroValue126
  t75 := Tryz.underlying128
  a75 := Tryz.isAgg128
  z75 := Tryz.sizeOf128
  v75 := Tryz.zeroValue128
  t164 := Tryz.underlying160
  a164 := Tryz.isAgg160
  z164 := Tryz.sizeOf160
  v164 := Tryz.zeroValue160 }
theorem bldLays166 : Go.Proofs.Lays.n166 Tryz.prog bldRen := {
  mixed := by kernel_rfl
  f166 := Tryz.func112.trans (congrArg some (by kernel_rfl))
  f240 := Tryz.func132.trans (congrArg some (by kernel_rfl))
  f276 := Tryz.func153.trans (congrArg some (by kernel_rfl))
  t0 := Tryz.underlying0
  a0 := Tryz.isAgg0
  z0 := Tryz.sizeOf0
  v0 := Tryz.zeroValue0
  t3 := Tryz.underlying3
  a3 := Tryz.isAgg3
  z3 := Tryz.sizeOf3
  v3 := Tryz.zeroValue3
  t4 := Tryz.underlying4
  a4 := Tryz.isAgg4
  z4 := Tryz.sizeOf4
  v4 := Tryz.zeroValue4
  t9 := Tryz.underlying9
  a9 := Tryz.isAgg9
  z9 := Tryz.sizeOf9
  v9 := Tryz.zeroValue9
  t20 := Tryz.underlying20
  a20 := Tryz.isAgg20
  z20 := Tryz.sizeOf20
  v20 := Tryz.zeroValue20
  t37 := Tryz.underlying100
  a37 := Tryz.isAgg100
  z37 := Tryz.sizeOf100
  v37 := Tryz.zeroValue100
  t70 := Tryz.underlying124
  a70 := Tryz.isAgg124
  z70 := Tryz.sizeOf124
  v70 := Tryz.zeroValue124
  t72 := Tryz.underlying126
  a72 := Tryz.isAgg126
  z72 := Tryz.sizeOf126
  v72 := Tryz.zeroValue126
  t75 := Tryz.underlying128
  a75 := Tryz.isAgg128
  z75 := Tryz.sizeOf128
  v75 := Tryz.zeroValue128
  t164 := Tryz.underlying160
  a164 := Tryz.isAgg160
  z164 := Tryz.sizeOf160
  v164 := Tryz.zeroValue160 }
theorem bldExtra : Builder.Extra Tryz.prog bldRen := {
  sizeBuilder := by kernel_rfl
  liesBuilder := by kernel_rfl
  t5 := Tryz.underlying5
  a5 := Tryz.isAgg5
  z5 := Tryz.sizeOf5
  v5 := Tryz.zeroValue5
  infoByte := by kernel_rfl
  cellsByte := by kernel_rfl
  sizeByte := by kernel_rfl
  neB5 := by decide }

/-- Block b is a builder that holds the bytes xs; its buffer lies from B on. -/
def Bld (B b : Nat) (xs : List Int) (w : World) : Prop := Lib.IsBuilderF 126 5 B b (xs.map (Value.int .u8)) w
theorem Bld.new (w : World) : Bld w.heap.size w.heap.size [] (w.alloc (.cells #[.pointer none, .slice none 0 0] 126)) :=
  .inl ⟨Nat.le_refl _, .slice none 0 0, heap_alloc_new w _, World.ownsRowF_nil _ _ _ _, by simp [Value.ownBlock]⟩
theorem bld_WriteByte (B b : Nat) (xs : List Int) (c : Int) (w : World) (h : Bld B b xs w) (hl : xs.length ≤ 100000000) (hB : B ≤ w.heap.size) :
    Calls Tryz.prog 106 #[.pointer (some ⟨b, 0, none⟩), .int .u8 c] w fun e w' => e = .returned .nilIface ∧ Bld B b (xs ++ [c]) w' ∧ Below B w w' := by
  refine (Any.Builder_WriteByte_k bldLays167 bldExtra B b _ c w h (by rw [List.length_map]; omega) hB).mono ?_
  rintro e w' ⟨rfl, h1, h2, _⟩
  refine ⟨rfl, ?_, h2⟩
  unfold Bld
  rw [List.map_append]
  exact .inr h1
theorem bld_WriteString (B b : Nat) (xs : List Int) (s : ByteArray) (w : World) (h : Bld B b xs w) (hl : xs.length + s.size ≤ 100000000) (hB : B ≤ w.heap.size) :
    Calls Tryz.prog 112 #[.pointer (some ⟨b, 0, none⟩), .string s] w fun e w' => e = .returned (.tuple #[.int .i64 s.size, .nilIface]) ∧ Bld B b (xs ++ bytesOf s) w' ∧ Below B w w' := by
  refine (Any.Builder_WriteString_k bldLays166 bldExtra B b _ s w h (by rw [List.length_map]; omega) hB).mono ?_
  rintro e w' ⟨rfl, h1, h2, _⟩
  refine ⟨rfl, ?_, h2⟩
  unfold Bld
  rw [List.map_append]
  have e : (bytesOf s).map (Value.int .u8) = Lib.strCells s := by simp [bytesOf, Lib.strCells, Lib.byteCells, Function.comp_def]
  rw [e]
  exact .inr h1
theorem bld_String (B b : Nat) (xs : List Int) (w : World) (h : Bld B b xs w) (hr : ∀ x ∈ xs, 0 ≤ x ∧ x < 256) (hB : B ≤ w.heap.size) :
    Calls Tryz.prog 107 #[.pointer (some ⟨b, 0, none⟩)] w fun e w' => e = .returned (.string (strOfNums xs)) ∧ Bld B b xs w' ∧ Below B w w' := by
  have e : xs.map (Value.int .u8) = Lib.byteCells (xs.map fun x => UInt8.ofNat x.toNat) := by
    simp only [Lib.byteCells, List.map_map]
    refine List.map_congr_left fun x hx => ?_
    obtain ⟨h0, h1⟩ := hr x hx
    simp only [Function.comp_apply]
    congr 1
    rw [UInt8.toNat_ofNat_of_lt' (by simp [UInt8.size]; omega)]
    omega
  unfold Bld at h ⊢
  rw [e] at h ⊢
  refine (Tryz.Builder_String_any_k B b _ w h hB).mono ?_
  rintro e' w' ⟨rfl, h1, h2, _⟩
  exact ⟨rfl, h1, h2⟩
end Go.Proofs.YtkkpjonfaflkmaaGreatDoor.T

/- A range over a function: the statement, and one round of it; a round may return out of the function. -/
namespace Go.Proofs.YtkkpjonfaflkmaaGreatDoor.T
set_option linter.unusedSimpArgs false
set_option linter.unusedVariables false
open Go.RowKit

/-- The loop's record. -/
def Rc (fn : FuncId) (tmps : Array Value) (ps : Array Tmp) (assign body : Code) (D : Nat) (st : LoopState) (pend : Option Code) : Loop :=
  { state := st, pending := pend, fn := fn, tmps := tmps, params := ps, assign := assign, body := body, defers := D }
/-- The world in which the iterator is called. -/
def rfWorld (w : World) (fn : FuncId) (tmps : Array Value) (ps : Array Tmp) (assign body : Code) : World :=
  (w.alloc (.deferred (some []))).alloc (.loop (Rc fn tmps ps assign body w.heap.size .ready none))

variable {F : Fence} {n : Nat} {P : Program}

theorem rf_enter {g : Operand} {ps : Array Tmp} {assign body : Code} {Q : Exit → Act → World → Prop} {a : Act} {w : World}
    (hro : F.round = none) (h1 : 1 ≤ n) {gf : Nat} {lb : Array Value} (hg : a.eval g = .func (.func gf) #[] lb) (hFg : F.fn gf) (eg : ∀ args w, (callFunc gf args).run P w = .ok (.enter gf args) w)
    (Rdy Dn : World → Prop)
    (hcall : ∀ fn rd X, F.fn fn → rd = Rc fn a.tmps ps assign body w.heap.size .ready none → X.heap.size = w.heap.size + 2 → Below w.heap.size w X → X.heap[w.heap.size]? = some (.deferred (some [])) → X.heap[w.heap.size + 1]? = some (.loop rd) →
      CallsIn F (n - 1) P gf (#[.func (.yield (w.heap.size + 1)) #[] #[]] ++ lb) X fun e Z => (∃ v, e = .returned v) ∧
        ((Z.heap[w.heap.size + 1]? = some (.loop rd) ∧ Rdy Z) ∨ (Z.heap[w.heap.size + 1]? = some (.loop { rd with state := .done, pending := some .ret }) ∧ Dn Z)))
    (hready : ∀ Z r, w.heap.size + 1 < Z.heap.size → Rdy Z → Q .normal { a with defers := { target := .collected w.heap.size, args := #[] } :: a.defers } (Z.putObj (w.heap.size + 1) (.loop r)))
    (hdone : ∀ Z r, w.heap.size + 1 < Z.heap.size → Dn Z → Code.ret.wpIn F n P Q { a with defers := { target := .collected w.heap.size, args := #[] } :: a.defers } (Z.putObj (w.heap.size + 1) (.loop r))) :
    (Code.rangeFunc g ps assign body).wpIn F n P Q a w := by
  refine wpIn_rangeFunc ?_
  intro fn hfn
  rw [hro]
  refine ⟨w.heap.size + 1, [{ target := .collected w.heap.size, args := #[] }], rfWorld w fn a.tmps ps assign body, { target := .fn (.func gf) lb, args := #[.func (.yield (w.heap.size + 1)) #[] #[]] }, rfWorld w fn a.tmps ps assign body, gf,
    #[.func (.yield (w.heap.size + 1)) #[] #[]] ++ lb, rfWorld w fn a.tmps ps assign body, ?_, ?_, ?_, ?_, fun _ => h1, ?_⟩
  · exact run_enterLoop_outer _ _ _ _ _
  · simp only [resolve, hg]
    simp [go_sem]
  · intro f' hf'
    simp [Target.leads] at hf'
    subst hf'
    exact hFg
  · simp [invoke, go_sem, eg]
  refine (hcall fn _ _ hfn rfl (by simp [rfWorld]) (((Below.refl _ w).alloc (Nat.le_refl _) _).alloc (by simp) _)
    ((Below.heap_alloc _ _ _ (by simp)).trans (World.alloc_heap_new w _)) (by have := World.alloc_heap_new (w.alloc (.deferred (some []))) (.loop (Rc fn a.tmps ps assign body w.heap.size .ready none)); rwa [World.size_alloc] at this)).mono ?_
  rintro e Z ⟨⟨v, rfl⟩, ⟨hb, hR⟩ | ⟨hb, hD⟩⟩
  · have hlt := (Array.getElem?_eq_some_iff.1 hb).1
    exact ⟨none, _, run_endLoop (P := P) hb (by simp [Rc]), hready _ _ hlt hR⟩
  · have hlt := (Array.getElem?_eq_some_iff.1 hb).1
    exact ⟨some .ret, _, run_endLoop (P := P) hb (by simp), hdone _ _ hlt hD⟩

/-- What a round's body is asked for at its end. -/
def RoundEnd (l : Nat) (R : Ending → World → Prop) (e : Exit) (W : World) : Prop :=
  ∃ r, W.heap[l]? = some (.loop r) ∧ match e with
    | .normal => R (.returned (.bool true)) (W.putObj l (.loop { r with state := .ready, pending := none }))
    | .ret => R (.returned (.bool false)) (W.putObj l (.loop { r with state := .done, pending := some .ret }))
    | _ => False

theorem rf_round {l D : Nat} {r : Loop} {fn : FuncId} {tmps : Array Value} {ps : Array Tmp} {assign body : Code} {args : Array Value} {W : World} {R : Ending → World → Prop} (hrd : r = Rc fn tmps ps assign body D .ready none) (hF : F.fn fn) (hl : W.heap[l]? = some (.loop r)) (hs : args.size = ps.size)
    (h : assign.wpIn (F.inRound l) n P (Exit.then (fun a1 W1 => W1.heap[l]? = some (.loop r) ∧ body.wpIn (F.inRound l) n P (fun e _ W2 => RoundEnd l R e W2) a1 (W1.putObj l (.loop { r with state := .busy }))) (fun _ _ _ => False))
      { tmps := (ps.zip args).foldl (fun t (p, v) => t.setIfInBounds p v) tmps, defers := [] } W) : YieldAt F n P l args W R := by
  have e1 : r.fn = fn := by rw [hrd]; rfl
  have e2 : r.tmps = tmps := by rw [hrd]; rfl
  have e3 : r.params = ps := by rw [hrd]; rfl
  have e4 : r.assign = assign := by rw [hrd]; rfl
  have e5 : r.body = body := by rw [hrd]; rfl
  have e6 : r.state = .ready := by rw [hrd]; rfl
  clear hrd
  subst e1 e2 e3 e4 e5
  refine ⟨r.fn, _, r.assign, r.body, run_yield hl hs, roundIn_of_wpIn hF (wpIn_mono h ?_)⟩
  intro e a1 W1 he
  cases e with
  | normal =>
    obtain ⟨h1, h2⟩ := he
    refine ⟨_, run_beginRound h1 e6, wpIn_mono h2 ?_⟩
    rintro e2 a2 W2 ⟨r2, h3, h4⟩
    cases e2 with
    | normal => exact ⟨_, _, run_endRound (P := P) none h3, h4⟩
    | ret => exact ⟨_, _, run_endRound (P := P) (some .ret) h3, h4⟩
    | exit id => exact h4.elim
    | goto t => exact h4.elim
    | panic ch => exact h4.elim
    | outgrown => exact h4.elim
  | exit id => exact he.elim
  | goto t => exact he.elim
  | ret => exact he.elim
  | panic ch => exact he.elim
  | outgrown => exact he.elim
end Go.Proofs.YtkkpjonfaflkmaaGreatDoor.T

/- scan.groups yields the parts of a list of bytes, so many bytes each. -/
namespace Go.Proofs.YtkkpjonfaflkmaaGreatDoor.T
set_option linter.unusedSimpArgs false
set_option linter.unusedVariables false
open Go.RowKit Go.Proofs.YtkkpjonfaflkmaaGreatDoorW.PrintWords Go.Proofs.YtkkpjonfaflkmaaGreatDoorW.PrintLast Go.Proofs.YtkkpjonfaflkmaaGreatDoorW.PrintMore
attribute [local go_sem] Oper.semAt_some

def msrG (n : Nat) (v : Value) : Nat := n + 1 - (intOf v).toNat

set_option maxRecDepth 100000 in
set_option maxHeartbeats 2000000 in
theorem groups_in (n : Nat) (hn : 1 ≤ n) (l B1 B2 g N c ww : Nat) (hw : 0 < ww) (hN : N ≤ 1000000) (hww : ww ≤ 8) (hc : N ≤ c) (hc2 : c ≤ 9223372036854775807) (J : Nat → World → Prop) (Jx : World → Prop)
    (hJc : ∀ k A, J k A → A.cell? ⟨B1, 0, none⟩ = some (.int .i64 ww) ∧ A.cell? ⟨B2, 0, none⟩ = some (.slice (some ⟨g, 0, none⟩) N c))
    (hY : ∀ k W, k < N / ww → J k W → YieldAt Fence.wide (n - 1) Tryz.prog l #[.slice (some ⟨g, k * ww, none⟩) ww ww] W fun e W' => (e = .returned (.bool true) ∧ J (k + 1) W') ∨ (e = .returned (.bool false) ∧ Jx W'))
    (W : World) (h0 : J 0 W) :
    CallsIn Fence.wide n Tryz.prog 154 #[.func (.yield l) #[] #[], .pointer (some ⟨B1, 0, none⟩), .pointer (some ⟨B2, 0, none⟩)] W fun e W' => (∃ v, e = .returned v) ∧ (J (N / ww) W' ∨ Jx W') := by
  have HY := Aside0.mk hY
  have HJ0 := Aside0.mk h0
  have HJc := Aside0.mk hJc
  clear hY h0 hJc
  refine callsIn_of_wp Tryz.func154 rfl trivial ?_ rfl
  simp only [Tryz.ntmps154, List.size_toArray, List.length_cons, List.length_nil, Nat.reduceAdd, Nat.reduceSub, Array.replicate_succ, Array.replicate_zero, List.push_toArray, List.append_toArray, List.nil_append, List.cons_append]
  gi_wp2
  gi_loopw [4] (fun v wr => ∃ k i : Nat, k ≤ N / ww ∧ i = k * ww ∧ i ≤ N ∧ v = .int .i64 i ∧ Aside0 (J k wr))
    (fun v wr => msrG N v)
  case atStart => exact ⟨0, 0, Nat.zero_le _, by omega, Nat.zero_le _, rfl, HJ0⟩
  case round =>
    obtain ⟨k, i, hk, hi, hiN, rfl, HJ⟩ := hrel
    obtain ⟨c1, c2⟩ := HJc.out k wr HJ.out
    by_cases hlt : k < N / ww
    · have hfit : i + ww ≤ N := by
        have h1 : (k + 1) * ww ≤ N := by
          have := Nat.mul_le_of_le_div ww (k + 1) N hlt
          exact this
        rw [Nat.add_mul] at h1
        omega
      have g1 : decide ((i : Int) + (ww : Int) ≤ (N : Int)) = true := decide_eq_true (by omega)
      have g2 : (i : Int) + (ww : Int) ≤ (N : Int) := by omega
      have g3 : (0 : Int) ≤ (i : Int) := by omega
      have g4 : (i : Int) ≤ (i : Int) + (ww : Int) := by omega
      have hlim : i + ww ≤ 1000000 := by omega
      obtain ⟨fn, tmps, assign, body, hy, hR⟩ := HY.out k wr hlt HJ.out
      rw [← hi] at hy
      have HR := Lib.hid hR
      have HI := Aside0.mk hi
      clear hR hi
      gi_wp2
      refine HR.out.mono ?_
      rintro e W3 (⟨rfl, hJ3⟩ | ⟨rfl, hJx3⟩)
      · obtain ⟨c1', c2'⟩ := HJc.out _ _ hJ3
        gi_wp2
        go_roundw
        case rel => exact ⟨k + 1, i + ww, by omega, by rw [HI.out, Nat.add_mul]; omega, hfit, by go_num, ⟨hJ3⟩⟩
        case measure =>
          have e1 : msrG N (.int .i64 ((i : Int) + (ww : Int))) = N + 1 - ((i : Int) + (ww : Int)).toNat := rfl
          have e2 : msrG N (.int .i64 (i : Int)) = N + 1 - (i : Int).toNat := rfl
          first | (rw [e1, e2]; omega) | (show N + 1 - _ < N + 1 - _; omega)
      · gi_wp2
        refine bodyPost_ret (results_none rfl _ _ _) rfl ?_
        exact ⟨⟨_, rfl⟩, .inr hJx3⟩
    · have hkN : k = N / ww := by omega
      have hbig : N < i + ww := by
        have h1 := Nat.div_add_mod N ww
        have h2 := Nat.mod_lt N hw
        rw [← hkN, Nat.mul_comm] at h1
        omega
      have g1 : decide ((i : Int) + (ww : Int) ≤ (N : Int)) = false := decide_eq_false (by omega)
      have hlim : i + ww ≤ 1000010 := by omega
      clear hi
      gi_wp2
      go_end0
      exact ⟨⟨_, rfl⟩, .inl (by rw [← hkN]; exact HJ.out)⟩

theorem groups.calls (v : Value) (hv : ∃ A N c, v = .slice A N c) (ww : Int) (w : World) :
    Calls Tryz.prog 133 #[v, .int .i64 ww] w fun e w' => e = .returned (.func (.func 154) #[] #[.pointer (some ⟨w.heap.size + 1, 0, none⟩), .pointer (some ⟨w.heap.size, 0, none⟩)]) ∧ w' = (w.alloc (.cells #[v] 100)).alloc (.cells #[.int .i64 ww] 3) := by
  obtain ⟨A, N, c, rfl⟩ : ∃ A N c, v = .slice A N c := hv
  go_enter Tryz.func133, Tryz.ntmps133
  go_wp2
  go_ret
  exact ⟨rfl, rfl⟩
theorem groups_enters : ∀ args w, (callFunc 154 args).run Tryz.prog w = .ok (.enter 154 args) w := enters_of Tryz.func154 (by kernel_rfl) rfl
end Go.Proofs.YtkkpjonfaflkmaaGreatDoor.T

/- A slice of bytes that the call itself made, known by its cells (what a conversion of a string made, too), and append onto it. -/
namespace Go.Proofs.YtkkpjonfaflkmaaGreatDoor.T
set_option linter.unusedSimpArgs false
set_option linter.unusedVariables false
open Go.RowKit Go.Proofs.YtkkpjonfaflkmaaGreatDoorW.PrintWords Go.Proofs.YtkkpjonfaflkmaaGreatDoorW.PrintLast Go.Proofs.YtkkpjonfaflkmaaGreatDoorW.PrintMore

/-- v is a slice of the bytes xs in a block from base on all of whose cells up to the capacity can be written; or nil. -/
def OwnM (base : Nat) (v : Value) (xs : List Int) (W : World) : Prop :=
  (v = .slice none 0 0 ∧ xs = []) ∨ ∃ g cap, v = .slice (some ⟨g, 0, none⟩) xs.length cap ∧ base ≤ g ∧ g < W.heap.size ∧ xs.length ≤ cap ∧ cap ≤ 9223372036854775807 ∧
    (∀ j, j < xs.length → W.cell? ⟨g, j, none⟩ = some (.int .u8 (xs.getD j 0))) ∧ ∀ j, j < cap → (W.cell? ⟨g, j, none⟩).isSome = true ∧ W.frozen? ⟨g, j, none⟩ = false
theorem OwnM.nil (base : Nat) (W : World) : OwnM base (.slice none 0 0) [] W := .inl ⟨rfl, rfl⟩
theorem OwnM.slice {base : Nat} {v : Value} {xs : List Int} {W : World} (h : OwnM base v xs W) : ∃ A c, v = .slice A xs.length c ∧ xs.length ≤ c := by
  rcases h with ⟨rfl, rfl⟩ | ⟨g, cap, rfl, _, _, h, _⟩
  · exact ⟨_, _, rfl, Nat.le_refl _⟩
  · exact ⟨_, _, rfl, h⟩
theorem OwnM.C {base : Nat} {A : Option Addr} {c : Nat} {xs : List Int} {W : World} (h : OwnM base (.slice A xs.length c) xs W) : Kd.C (Kd.int .u8) W A xs.length xs := by
  refine Kd.C_of_reads (d := (0 : Int)) (h1 := fun _ => rfl) ?_
  rcases h with ⟨h1, rfl⟩ | ⟨g, cap, h1, _, _, h2, h3, h4, _⟩
  · simp at h1
    obtain ⟨rfl, _⟩ := h1
    exact ⟨rfl, by decide, fun h => absurd h (by simp)⟩
  · simp at h1
    obtain ⟨rfl, rfl⟩ := h1
    exact ⟨rfl, by omega, fun _ => ⟨_, rfl, fun j hj => by rw [add_plain]; exact h4 j hj⟩⟩
theorem OwnM.mono {base base' : Nat} {v : Value} {xs : List Int} {W : World} (h : OwnM base v xs W) (hb : base' ≤ base) : OwnM base' v xs W :=
  h.imp id fun ⟨g, cap, h1, h2, h3⟩ => ⟨g, cap, h1, Nat.le_trans hb h2, h3⟩
theorem OwnM.below {base B : Nat} {v : Value} {xs : List Int} {W W' : World} (h : OwnM base v xs W) (hB : W.heap.size ≤ B) (hb : Below B W W') : OwnM base v xs W' := by
  rcases h with h | ⟨g, cap, h1, h2, h3, h4, h5, h6, h7⟩
  · exact .inl h
  · refine .inr ⟨g, cap, h1, h2, by have := hb.size; omega, h4, h5, fun j hj => ?_, fun j hj => ?_⟩
    · exact (hb.cell (p := ⟨g, j, none⟩) (by show g < B; omega)).trans (h6 j hj)
    · rw [hb.cell (p := ⟨g, j, none⟩) (by show g < B; omega), hb.frozen (p := ⟨g, j, none⟩) (by show g < B; omega)]
      exact h7 j hj
theorem OwnM.alloc {base : Nat} {v : Value} {xs : List Int} {W : World} (h : OwnM base v xs W) (o : Obj) : OwnM base v xs (W.alloc o) := h.below (Nat.le_refl _) (below_alloc (Below.refl _ _) o)
theorem OwnM.drewN {base : Nat} {v : Value} {xs : List Int} {W : World} (h : OwnM base v xs W) (n : Nat) : OwnM base v xs (W.drewN n) := h
theorem OwnM.conv {base : Nat} (W : World) (s : ByteArray) (hb : base ≤ W.heap.size) (hs : s.size ≤ 100000) : OwnM base (.slice (some ⟨W.heap.size, 0, none⟩) s.size (grownCap W s.size 0 5)) (bytesOf s) (Lib.bytesWorld W 5 s) := by
  have hB := Buf.new W s
  have hg : s.size ≤ grownCap W s.size 0 5 := grownCap_ge W s.size 0 5
  have hm : grownCap W s.size 0 5 ≤ maxLen := grownCap_le_maxLen W s.size 0 5 (by unfold maxLen; omega)
  unfold maxLen at hm
  have hz : (Lib.bytesCells W 5 s).size = grownCap W s.size 0 5 := by
    simp only [Lib.bytesCells, Array.size_append, Array.size_map, Array.size_replicate]
    have : s.data.size = s.size := rfl
    omega
  refine .inr ⟨W.heap.size, _, by rw [bytesOf_length], hb, by rw [Lib.bytesWorld_size]; omega, by rw [bytesOf_length]; exact hg, by omega, fun j hj => hB.cell j hj, fun j hj => ?_⟩
  have hn := Lib.bytesWorld_at_new W 5 s
  rw [hz] at hn
  constructor
  · simp only [World.cell?, hn]
    rw [Array.getElem?_eq_getElem (by rw [hz]; exact hj)]
    rfl
  · simp only [World.frozen?, hn]
    have : ¬ grownCap W s.size 0 5 ≤ j := by omega
    simp [this]
theorem below_setCells {B b : Nat} (hB : B ≤ b) : ∀ (vs : List Value) (o : Nat) (W W' : World), Below B W W' → Below B W (W'.setCells b o vs)
  | [], _, _, _, h => h
  | v :: vs, o, W, W', h => below_setCells hB vs (o + 1) W _ (h.setCell (p := ⟨b, o, none⟩) hB v)
theorem encs_u8_get (xs : List Int) (j : Nat) (hj : j < xs.length) : (xs.map (Value.int .u8))[j]? = some (.int .u8 (xs.getD j 0)) := by
  simp [List.getD_eq_getElem?_getD, List.getElem?_eq_getElem hj]
theorem getD_app (xs ys : List Int) (j : Nat) : (xs ++ ys).getD j 0 = if j < xs.length then xs.getD j 0 else ys.getD (j - xs.length) 0 := by
  simp only [List.getD_eq_getElem?_getD]
  by_cases h : j < xs.length
  · rw [if_pos h, List.getElem?_append_left h]
  · rw [if_neg h, List.getElem?_append_right (by omega)]

theorem run_append_M {P : Program} (W : World) (t tx ty e : TypeId) (i : TypeInfo) (ht : P.underlying t = some (.slice e)) (hi : P.info? e = some i) (hz : i.zero = some (.int .u8 0)) (h1 : i.size = 1) (h2 : i.bytes = 1)
    (base : Nat) (v : Value) (xs : List Int) (h : OwnM base v xs W) (x : Value) (news : List Int) (hs : Src P 1 tx x news.length (news.map (Value.int .u8)) W) (hl : xs.length + news.length ≤ 1000000000) (hb : base ≤ W.heap.size) :
    ∃ v' w', (Builtin.append_ #[t, tx] ty #[v, x]).run P W = .ok v' w' ∧ OwnM base v' (xs ++ news) w' ∧ Below base W w' := by
  have grow : ∀ (ao : Option Addr) (cap : Nat), v = .slice ao xs.length cap → cap < xs.length + news.length → (Builtin.firstCells 1 xs.length (.slice ao xs.length cap)).run P W.drew = .ok (xs.map (Value.int .u8)).toArray W.drew →
      ∃ v' w', (Builtin.append_ #[t, tx] ty #[v, x]).run P W = .ok v' w' ∧ OwnM base v' (xs ++ news) w' ∧ Below base W w' := by
    intro ao cap hv hg hold
    have hge := grownCap_ge W (xs.length + news.length) cap e
    have hcm := grownCap_le_maxLen W (xs.length + news.length) cap e (by unfold maxLen; omega)
    unfold maxLen at hcm
    have hr := run_append_grow_src (P := P) W t tx ty e i (.int .u8 0) ht hi hz ao xs.length cap (xs.map (Value.int .u8)) (by rw [h1]; exact hold) x news.length (news.map (Value.int .u8)) (by rw [h1]; exact hs) hg (by omega) (by rw [h2]; exact growslice_fits hg (by omega))
    rw [hv]
    have hsz : (((xs.map (Value.int .u8)) ++ (news.map (Value.int .u8))).toArray ++ Builtin.zeroCells (Value.int .u8 0).cells (grownCap W (xs.length + news.length) cap e - (xs.length + news.length))).size = grownCap W (xs.length + news.length) cap e := by
      have hz1 : (Value.int IntKind.u8 0).cells.size = 1 := rfl
      simp only [Array.size_append, List.size_toArray, size_zeroCells, hz1, List.length_append, List.length_map]
      omega
    have hn := heap_alloc_new W.drew (.cells (((xs.map (Value.int .u8)) ++ (news.map (Value.int .u8))).toArray ++ Builtin.zeroCells (Value.int .u8 0).cells (grownCap W (xs.length + news.length) cap e - (xs.length + news.length))) e)
    refine ⟨_, _, hr, .inr ⟨W.heap.size, _, by rw [List.length_append], hb, ?_, by rw [List.length_append]; omega, by omega, fun j hj => ?_, fun j hj => ?_⟩, (below_drew (Below.refl base W)).alloc hb _⟩
    · rw [World.size_alloc]; exact Nat.lt_succ_self _
    · rw [List.length_append] at hj
      have hn' : (W.drew.alloc (.cells (((xs.map (Value.int .u8)) ++ (news.map (Value.int .u8))).toArray ++ Builtin.zeroCells (Value.int .u8 0).cells (grownCap W (xs.length + news.length) cap e - (xs.length + news.length))) e)).heap[W.heap.size]? = _ := hn
      simp only [World.cell?, hn']
      rw [Array.getElem?_append_left (by simp; omega), List.getElem?_toArray, ← List.map_append, encs_u8_get _ j (by rw [List.length_append]; exact hj)]
      rfl
    · have hn' : (W.drew.alloc (.cells (((xs.map (Value.int .u8)) ++ (news.map (Value.int .u8))).toArray ++ Builtin.zeroCells (Value.int .u8 0).cells (grownCap W (xs.length + news.length) cap e - (xs.length + news.length))) e)).heap[W.heap.size]? = _ := hn
      constructor
      · simp only [World.cell?, hn']
        rw [Array.getElem?_eq_getElem (by rw [hsz]; exact hj)]
        rfl
      · simp only [World.frozen?, hn']
        simp
  rcases h with ⟨rfl, rfl⟩ | ⟨g, cap, rfl, h3, h4, h5, h6, h7, h8⟩
  · by_cases h0 : news.length = 0
    · obtain rfl := List.length_eq_zero_iff.1 h0
      refine ⟨.slice none 0 0, W, ?_, .inl ⟨rfl, rfl⟩, Below.refl _ _⟩
      have hc := hs.cells
      have hl := hs.len
      simp only [List.length_nil, List.map_nil] at hc hl
      rcases hs.kind with ⟨e', hk⟩ | hk <;> simp [Builtin.append_, run_underlying ht, run_underlying hk, sizeOf, typeInfo, hi, h1, hl, hc]
    · exact grow none 0 rfl (by simp; omega) (by simpa using run_firstCells_none W.drew 1 0 0 0)
  · by_cases hroom : xs.length + news.length ≤ cap
    · have hr := run_append_room_src (P := P) W t tx ty e i ht hi g 0 xs.length cap x news.length (news.map (Value.int .u8)) (by rw [h1]; exact hs) hroom
        (fun j hj => by rw [h1]; exact (h8 _ (by simp at hj; omega)).1) (fun j hj => by rw [h1]; exact (h8 _ (by simp at hj; omega)).2)
      rw [h1] at hr
      simp only [Nat.zero_add, Nat.mul_one] at hr
      refine ⟨_, _, hr, .inr ⟨g, cap, by rw [List.length_append], h3, ?_, by rw [List.length_append]; exact hroom, h6, fun j hj => ?_, fun j hj => ?_⟩, below_setCells h3 _ _ _ _ (Below.refl _ _)⟩
      · exact Nat.lt_of_lt_of_le h4 (below_setCells (B := base) h3 (news.map (Value.int .u8)) xs.length W W (Below.refl _ _)).size
      · rw [List.length_append] at hj
        rw [getD_app]
        by_cases hjx : j < xs.length
        · rw [if_pos hjx, World.cell?_setCells_out g _ _ _ _ (fun _ _ => .inl hjx)]
          exact h7 j hjx
        · rw [if_neg hjx]
          have := World.cell?_setCells_in g (news.map (Value.int .u8)) xs.length W (fun j' hj' => (h8 _ (by simp at hj'; omega)).1) (j - xs.length) (by simp; omega)
          rw [show xs.length + (j - xs.length) = j by omega] at this
          rw [this]
          simp [List.getD_eq_getElem?_getD, List.getElem?_eq_getElem (show j - xs.length < news.length by omega)]
      · rw [World.frozen?_setCells]
        exact ⟨World.isSome_setCells g _ _ _ _ (h8 j hj).1, (h8 j hj).2⟩
    · refine grow (some ⟨g, 0, none⟩) cap rfl (by omega) ?_
      refine run_firstCells_some W.drew 1 xs.length ⟨g, 0, none⟩ xs.length cap (xs.map (Value.int .u8)) (by simp) (fun j u hu => ?_)
      have hj : j < xs.length := by have := (List.getElem?_eq_some_iff.1 hu).1; simpa using this
      rw [encs_u8_get xs j hj] at hu
      cases hu
      rw [add_plain]
      exact h7 j hj

/-- append onto such a slice, for the walk. -/
theorem wpList_append_M {P : Program} {w0 W : World} {ops : Array Oper} {rest : List Oper} {o : Oper} {a : Act} {Q : Exit → Act → World → Prop} (hgd : o.guard = none) (sl x : Operand) (t tx e : TypeId)
    (ho : o.op = .call { callee := .builtin .append, args := #[sl, x], argTypes := #[t, tx] })
    (ht : P.underlying t = some (.slice e)) (hinfo : (P.info? e).map (fun i => (i.zero, i.size, i.bytes)) = some (some (.int .u8 0), 1, 1))
    (base : Nat) (v : Value) (xs : List Int) (hs : a.eval sl = v) (h : OwnM base v xs W) (xv : Value) (hx : a.eval x = xv) (news : List Int) (hsrc : Src P 1 tx xv news.length (news.map (Value.int .u8)) W)
    (hl : xs.length + news.length ≤ 1000000000) (hb : base ≤ W.heap.size) (HB : Below base w0 W)
    (hK : ∀ v' w', OwnM base v' (xs ++ news) w' → Below base w0 w' → wpList P ops Q rest (a.put o.dst v') w') : wpList P ops Q (o :: rest) a W := by
  refine wpList_plain hgd fun K hK' => ?_
  obtain ⟨i, hi, hz, h1, h2⟩ := info_parts hinfo
  obtain ⟨v', w', hr, ho', hb'⟩ := run_append_M (P := P) W t tx o.type e i ht hi hz h1 h2 base v xs h xv news hsrc hl hb
  unfold Oper.wp execOp
  simp only [ho, resolve, invoke, builtin, Sem.run_bind, Sem.run_pure, Result.andThen_ok, List.map_toArray, List.map_cons, List.map_nil, hs, hx, hr]
  exact hK' _ _ (hK v' w' ho' (HB.trans hb'))
theorem src_bytes {P : Program} {tx : TypeId} (W : World) (hk : P.underlying tx = some .string) (s : ByteArray) : Src P 1 tx (.string s) (bytesOf s).length ((bytesOf s).map (Value.int .u8)) W := by
  have h := Src.ofString (P := P) W hk s
  have e : Go.byteCells s = (bytesOf s).map (Value.int .u8) := by simp [Go.byteCells, bytesOf, Function.comp_def]
  rw [e, ← bytesOf_length] at h
  exact h
theorem src_own {P : Program} {tx e : TypeId} {base : Nat} {v : Value} {xs : List Int} {W : World} (hk : P.underlying tx = some (.slice e)) (h : OwnM base v xs W) : Src P 1 tx v xs.length (xs.map (Value.int .u8)) W := by
  rcases h with ⟨rfl, rfl⟩ | ⟨g, cap, rfl, h3, h4, h5, h6, h7, h8⟩
  · exact Src.ofNil W hk 0
  · refine Src.ofSlice W hk _ _ _ _ (by simp) (fun j u hu => ?_) (fun u hu => ?_)
    · have hj : j < xs.length := by have := (List.getElem?_eq_some_iff.1 hu).1; simpa using this
      rw [encs_u8_get xs j hj] at hu
      cases hu
      rw [add_plain]
      exact h7 j hj
    · obtain ⟨z, _, rfl⟩ := List.mem_map.1 hu
      rfl
theorem src_one {P : Program} {tx e : TypeId} (W : World) (hk : P.underlying tx = some (.slice e)) (x : Int) (t : TypeId) : Src P 1 tx (.slice (some ⟨W.heap.size, 0, none⟩) 1 1) [x].length ([x].map (Value.int .u8)) (W.alloc (.cells #[.int .u8 x] t)) := by
  refine Src.ofSlice _ hk _ _ _ _ (by simp) (fun j u hu => ?_) (fun u hu => ?_)
  · have hj : j < 1 := by have := (List.getElem?_eq_some_iff.1 hu).1; simpa using this
    obtain rfl : j = 0 := by omega
    simp at hu
    subst hu
    rw [add_plain]
    exact (blk_cell (heap_alloc_new W _) 0).trans rfl
  · simp at hu; subst hu; rfl
end Go.Proofs.YtkkpjonfaflkmaaGreatDoor.T

/- scan.decode returns what S.litDec says. -/
namespace Go.Proofs.YtkkpjonfaflkmaaGreatDoor.T
set_option linter.unusedSimpArgs false
set_option linter.unusedVariables false
open Go.RowKit Go.Proofs.YtkkpjonfaflkmaaGreatDoorW.PrintWords Go.Proofs.YtkkpjonfaflkmaaGreatDoorW.PrintLast Go.Proofs.YtkkpjonfaflkmaaGreatDoorW.PrintMore
attribute [local go_sem] Oper.semAt_some

theorem results_cells2 {P : Program} {fn : Func} {p q : Tmp} {tp tq : TypeId} (h : fn.results = #[.cell p tp, .cell q tq]) (tmps : Array Value) (w : World) (a b : Addr) (u v : Value)
    (hp : tmps.getD p undef = .pointer (some a)) (hq : tmps.getD q undef = .pointer (some b)) (hu : (loadVar tp a).run P w = .ok u w) (hv : (loadVar tq b).run P w = .ok v w) : (results fn tmps).run P w = .ok (.tuple #[u, v]) w := by
  have hp' : tmps[p]?.getD undef = .pointer (some a) := by simpa using hp
  have hq' : tmps[q]?.getD undef = .pointer (some b) := by simpa using hq
  simp [results, h, hp', hq', asAddr, Sem.run_bind, hu, hv, Result.andThen]
def baseOf (sx : Nat) : Int := if sx = 4 then 16 else 2
/-- What stands when k parts are decoded. -/
structure DcI (w0 : World) (H N ww sx c : Nat) (L : List Int) (r : Option Loop) (k : Nat) (v : Value) (out : List Int) (W : World) : Prop where
  b0 : W.heap[H]? = some (.cells #[.int .i64 sx] 3 (0, 0))
  b1 : W.heap[H + 1]? = some (.cells #[.string ⟨#[]⟩] 9 (0, 0))
  b2 : W.heap[H + 1 + 1]? = some (.cells #[.bool false] 4 (0, 0))
  b3 : W.heap[H + 1 + 1 + 1]? = some (.cells #[v] 100 (0, 0))
  b5 : W.heap[H + 5]? = some (.cells #[.slice (some ⟨H + 1 + 1 + 1 + 1, 0, none⟩) N c] 100 (0, 0))
  b6 : W.heap[H + 6]? = some (.cells #[.int .i64 ww] 3 (0, 0))
  b7 : W.heap[H + 7]? = some (.deferred (some []))
  b8 : ∀ r', r = some r' → W.heap[H + 8]? = some (.loop r')
  buf : Buf (H + 1 + 1 + 1 + 1) L W
  own : W.ownsRow (H + 9) 5 1 v k (out.map (Value.int .u8))
  len : out.length = k
  below : Below H w0 W
  dec : S.decK (baseOf sx) ww (N / ww) L = (S.decK (baseOf sx) ww (N / ww - k) (L.drop (k * ww))).map (out ++ ·)
theorem DcI.put {w0 : World} {H N ww sx c k : Nat} {L : List Int} {r : Option Loop} {v : Value} {out : List Int} {W : World} (h : DcI w0 H N ww sx c L r k v out W) (hw0 : w0.heap.size = H) (hb : H + 8 < W.heap.size) (r' : Loop) : DcI w0 H N ww sx c L (some r') k v out (W.putObj (H + 8) (.loop r')) := by
  have ho : ∀ j, j ≠ H + 8 → (W.putObj (H + 8) (.loop r')).heap[j]? = W.heap[j]? := fun j hj => World.putObj_heap_other hj
  refine ⟨(ho _ (by omega)).trans h.b0, (ho _ (by omega)).trans h.b1, (ho _ (by omega)).trans h.b2, (ho _ (by omega)).trans h.b3, (ho _ (by omega)).trans h.b5, (ho _ (by omega)).trans h.b6, (ho _ (by omega)).trans h.b7, fun r2 e => ?_, h.buf.blk (ho _ (by omega)), ?_, h.len, ?_, h.dec⟩
  · cases e; exact World.putObj_heap_same hb
  · refine h.own.kept (grownBy_putObj' W (H + 8) _) ?_
    rcases hv : v.ownBlock with _ | g
    · exact .inl rfl
    · have := (h.own.lt g hv).1
      exact .inr (by intro e; cases e; omega)
  · exact h.below.grown (grownBy_putObj' W (H + 8) _) (by have := h.below.size; omega) (fun k e => by cases e; omega)
theorem DcI.drewN {w0 : World} {H N ww sx c k : Nat} {L : List Int} {r : Option Loop} {v : Value} {out : List Int} {W : World} (h : DcI w0 H N ww sx c L r k v out W) (q : Nat) : DcI w0 H N ww sx c L r k v out (W.drewN q) :=
  ⟨h.b0, h.b1, h.b2, h.b3, h.b5, h.b6, h.b7, h.b8, h.buf, h.own, h.len, pw_below_drewN h.below q, h.dec⟩
/-- The results' boxes say: none. -/
theorem DcI.bad {w0 : World} {H N ww sx c k : Nat} {L : List Int} {r : Loop} {v : Value} {out : List Int} {W : World} (h : DcI w0 H N ww sx c L (some r) k v out W) (hw0 : w0.heap.size = H) :
    ((W.setCell ⟨H + 1, 0, none⟩ (.string ⟨#[]⟩)).setCell ⟨H + 1 + 1, 0, none⟩ (.bool false)).heap[H + 8]? = some (.loop r) ∧
    ((W.setCell ⟨H + 1, 0, none⟩ (.string ⟨#[]⟩)).setCell ⟨H + 1 + 1, 0, none⟩ (.bool false)).heap[H + 1]? = some (.cells #[.string ⟨#[]⟩] 9 (0, 0)) ∧
    ((W.setCell ⟨H + 1, 0, none⟩ (.string ⟨#[]⟩)).setCell ⟨H + 1 + 1, 0, none⟩ (.bool false)).heap[H + 1 + 1]? = some (.cells #[.bool false] 4 (0, 0)) ∧
    ((W.setCell ⟨H + 1, 0, none⟩ (.string ⟨#[]⟩)).setCell ⟨H + 1 + 1, 0, none⟩ (.bool false)).heap[H + 7]? = some (.deferred (some [])) ∧
    Below H w0 ((W.setCell ⟨H + 1, 0, none⟩ (.string ⟨#[]⟩)).setCell ⟨H + 1 + 1, 0, none⟩ (.bool false)) := by
  have o1 : ∀ (A : World) (b k : Nat) (u : Value), k ≠ b → (A.setCell ⟨b, 0, none⟩ u).heap[k]? = A.heap[k]? := fun A b k u hk => Below.heap_setCell A ⟨b, 0, none⟩ u k hk
  refine ⟨(o1 _ _ _ _ (by omega)).trans ((o1 _ _ _ _ (by omega)).trans (h.b8 _ rfl)), (o1 _ _ _ _ (by omega)).trans (blk_put (cs := #[.string ⟨#[]⟩]) h.b1 0 _ rfl),
    blk_put (cs := #[.bool false]) ((o1 _ _ _ _ (by omega)).trans h.b2) 0 _ rfl, (o1 _ _ _ _ (by omega)).trans ((o1 _ _ _ _ (by omega)).trans h.b7),
    (h.below.setCell (p := ⟨H + 1, 0, none⟩) (by show H ≤ H + 1; omega) _).setCell (p := ⟨H + 1 + 1, 0, none⟩) (by show H ≤ H + 1 + 1; omega) _⟩
theorem DcI.badEnd {w0 : World} {H N ww sx c k : Nat} {L : List Int} {r rdone : Loop} {v : Value} {out : List Int} {W : World} {Jn : World → Prop} {p : Prop} (h : DcI w0 H N ww sx c L (some r) k v out W) (hw0 : w0.heap.size = H) (hp : p) (hr : ({ r with state := .done, pending := some .ret } : Loop) = rdone) :
    RoundEnd (H + 8) (fun e Z => (e = .returned (.bool true) ∧ Jn Z) ∨ (e = .returned (.bool false) ∧ Z.heap[H + 8]? = some (.loop rdone) ∧ p ∧ Z.heap[H + 1]? = some (.cells #[.string ⟨#[]⟩] 9 (0, 0)) ∧ Z.heap[H + 1 + 1]? = some (.cells #[.bool false] 4 (0, 0)) ∧ Z.heap[H + 7]? = some (.deferred (some [])) ∧ Below H w0 Z)) .ret
      ((W.setCell ⟨H + 1, 0, none⟩ (.string ⟨#[]⟩)).setCell ⟨H + 1 + 1, 0, none⟩ (.bool false)) := by
  obtain ⟨z1, z2, z3, z4, z5⟩ := h.bad hw0
  refine ⟨r, z1, .inr ⟨rfl, ?_⟩⟩
  have zl := (Array.getElem?_eq_some_iff.1 z1).1
  exact ⟨(World.putObj_heap_same zl).trans (by rw [hr]), hp, (World.putObj_heap_other (by omega)).trans z2, (World.putObj_heap_other (by omega)).trans z3, (World.putObj_heap_other (by omega)).trans z4,
    Below.grown (row := some (H + 8)) z5 (grownBy_putObj' _ (H + 8) _) (by have := z5.size; omega) (fun k e => by cases e; omega)⟩
theorem DcI.next {w0 : World} {H N ww sx c k : Nat} {L : List Int} {rb : Loop} {v v' : Value} {out : List Int} {W w1 : World} {x : Int} {o1 : Obj} (h : DcI w0 H N ww sx c L (some rb) k v out W) (hw0 : w0.heap.size = H) (h8 : H + 8 < W.heap.size)
    (hown : w1.ownsRow (H + 9) 5 1 v' (k + 1) (out.map (Value.int .u8) ++ [.int .u8 x])) (hg : (W.alloc o1).grownBy w1 v.ownBlock)
    (hdec : S.decK (baseOf sx) ww (N / ww) L = (S.decK (baseOf sx) ww (N / ww - (k + 1)) (L.drop ((k + 1) * ww))).map ((out ++ [x]) ++ ·)) (r' : Loop) :
    (w1.setCell ⟨H + 1 + 1 + 1, 0, none⟩ v').heap[H + 8]? = some (.loop rb) ∧ DcI w0 H N ww sx c L (some r') (k + 1) v' (out ++ [x]) ((w1.setCell ⟨H + 1 + 1 + 1, 0, none⟩ v').putObj (H + 8) (.loop r')) := by
  have hgb : ∀ j, j < H + 9 → w1.heap[j]? = W.heap[j]? := fun j hj => by
    refine (hg.block j (by rw [World.size_alloc]; omega) ?_).trans (Below.heap_alloc _ _ _ (by omega))
    intro e
    have := (h.own.lt j e.symm).1
    omega
  have o1 : ∀ (A : World) (b k : Nat) (u : Value), k ≠ b → (A.setCell ⟨b, 0, none⟩ u).heap[k]? = A.heap[k]? := fun A b k u hk => Below.heap_setCell A ⟨b, 0, none⟩ u k hk
  have hs1 : W.heap.size < w1.heap.size := by have := hg.size; rw [World.size_alloc] at this; omega
  have hb8 : (w1.setCell ⟨H + 1 + 1 + 1, 0, none⟩ v').heap[H + 8]? = some (.loop rb) := (o1 _ _ _ _ (by omega)).trans ((hgb _ (by omega)).trans (h.b8 _ rfl))
  have zl := (Array.getElem?_eq_some_iff.1 hb8).1
  refine ⟨hb8, ?_⟩
  have hk : ∀ j, j < H + 8 → j ≠ H + 1 + 1 + 1 → ((w1.setCell ⟨H + 1 + 1 + 1, 0, none⟩ v').putObj (H + 8) (.loop r')).heap[j]? = W.heap[j]? := fun j hj hn =>
    (World.putObj_heap_other (by omega)).trans ((o1 _ _ _ _ hn).trans (hgb j (by omega)))
  have hgs : w1.grownBy (w1.setCell ⟨H + 1 + 1 + 1, 0, none⟩ v') (some (H + 1 + 1 + 1)) := ⟨rfl, rfl, rfl, by simp [World.setCell], fun k _ hk => o1 _ _ _ _ (fun e => hk (by rw [e]))⟩
  have hne : ∀ b, b < H + 9 → v'.ownBlock = none ∨ v'.ownBlock ≠ some b := fun b hb => by
    rcases hv : v'.ownBlock with _ | g
    · exact .inl rfl
    · have := (hown.lt g hv).1
      exact .inr (by intro e; cases e; omega)
  have hB1 : Below H w0 w1 := (h.below.alloc (by have := h.below.size; omega) _).grown hg (by have := h.below.size; rw [World.size_alloc]; omega) (fun k e => by have := (h.own.lt k e).1; omega)
  refine ⟨(hk _ (by omega) (by omega)).trans h.b0, (hk _ (by omega) (by omega)).trans h.b1, (hk _ (by omega) (by omega)).trans h.b2, ?_, (hk _ (by omega) (by omega)).trans h.b5, (hk _ (by omega) (by omega)).trans h.b6, (hk _ (by omega) (by omega)).trans h.b7, fun r2 e => ?_, h.buf.blk (hk _ (by omega) (by omega)), ?_, ?_, ?_, hdec⟩
  · exact (World.putObj_heap_other (by omega)).trans (blk_put (cs := #[v]) ((hgb _ (by omega)).trans h.b3) 0 _ rfl)
  · cases e; exact World.putObj_heap_same zl
  · rw [List.map_append]
    exact (hown.kept hgs (hne _ (by omega))).kept (grownBy_putObj' _ (H + 8) _) (hne _ (by omega))
  · rw [List.length_append, h.len]; rfl
  · refine Below.grown (row := some (H + 8)) ?_ (grownBy_putObj' _ (H + 8) _) (by have := hB1.size; simp [World.setCell]; omega) (fun k e => by cases e; omega)
    exact hB1.setCell (p := ⟨H + 1 + 1 + 1, 0, none⟩) (by show H ≤ H + 1 + 1 + 1; omega) _
/-- The digit's table, as the program has it. -/
def dval (y : Int) : Int := Lib.indexByte [48, 49, 50, 51, 52, 53, 54, 55, 56, 57, 97, 98, 99, 100, 101, 102] (bits .or .u8 y 32).toNat.toUInt8
theorem dval_spec (y : Int) (h0 : 0 ≤ y) (h1 : y < 256) : -1 ≤ dval y ∧ dval y ≤ 15 ∧ (S.dig y = true → 0 ≤ dval y ∧ S.hexv y = dval y) ∧ (S.dig y = false → y < 65 → S.hexv y < 0) ∧ (S.dig y = false → ¬ y < 65 → (dval y < 0 → S.hexv y < 0) ∧ (0 ≤ dval y → S.hexv y = dval y)) :=
  byte_all (fun y => -1 ≤ dval y ∧ dval y ≤ 15 ∧ (S.dig y = true → 0 ≤ dval y ∧ S.hexv y = dval y) ∧ (S.dig y = false → y < 65 → S.hexv y < 0) ∧ (S.dig y = false → ¬ y < 65 → (dval y < 0 → S.hexv y < 0) ∧ (0 ≤ dval y → S.hexv y = dval y))) (by decide +kernel) y h0 h1
theorem dval_f (y : Int) : strings_IndexByte.f ⟨#[48, 49, 50, 51, 52, 53, 54, 55, 56, 57, 97, 98, 99, 100, 101, 102]⟩ (bits .or .u8 y 32) = some (dval y) := rfl
theorem litDec_eq (L : List Int) (sx ww : Nat) (hsx : (sx = 4 ∧ ww = 2) ∨ (sx = 1 ∧ ww = 8)) (hm : L.length % ww = 0) : S.litDec L sx = S.decK (baseOf sx) ww (L.length / ww) L := by
  rcases hsx with ⟨rfl, rfl⟩ | ⟨rfl, rfl⟩ <;> simp [S.litDec, S.decode, baseOf, hm]
theorem or_add (sx : Nat) (hsx : sx = 4 ∨ sx = 1) (na dv : Int) (h0 : 0 ≤ na) (h1 : na < 256) (hd0 : 0 ≤ dv) (hd1 : dv < baseOf sx) : bits .or .i64 (wrap64 (na * 2 ^ sx)) dv = na * baseOf sx + dv := by
  have hw : ∀ n : Int, 0 ≤ n → n < 2 ^ 62 → IntKind.i64.wrap n = n := fun n h0 h1 => w64 n (by omega) (by omega)
  rcases hsx with rfl | rfl
  · have e1 : wrap64 (na * 2 ^ 4) = na * 16 := by unfold wrap64; omega
    have e2 : baseOf 4 = 16 := rfl
    rw [e2] at hd1
    rw [e1, e2]
    exact bits_join .i64 62 (by decide) hw 4 (na * 16) dv (by omega) (by omega) (by omega) hd0 (by omega) (by omega)
  · have e1 : wrap64 (na * 2 ^ 1) = na * 2 := by unfold wrap64; omega
    have e2 : baseOf 1 = 2 := rfl
    rw [e2] at hd1
    rw [e1, e2]
    exact bits_join .i64 62 (by decide) hw 1 (na * 2) dv (by omega) (by omega) (by omega) hd0 (by omega) (by omega)

set_option maxRecDepth 100000 in
set_option maxHeartbeats 4000000 in
theorem scan_decode.calls (a0 : ByteArray) (sx ww : Nat) (hsx : (sx = 4 ∧ ww = 2) ∨ (sx = 1 ∧ ww = 8)) (ha : a0.size ≤ 100000) (w : World) :
    Calls Tryz.prog 109 #[.string a0, .int .i64 sx] w fun e w' => e = .returned (.tuple #[.string (strOfNums ((S.litDec (bytesOf a0) sx).getD [])), .bool (S.litDec (bytesOf a0) sx).isSome]) ∧ Below w.heap.size w w' := by
  obtain ⟨n, hn⟩ : ∃ n, a0.size = n := ⟨_, rfl⟩
  have hq : Int.tdiv 8 (sx : Int) = (ww : Int) := by rcases hsx with ⟨rfl, rfl⟩ | ⟨rfl, rfl⟩ <;> rfl
  have hs0 : ((sx : Int) == 0) = false := by rcases hsx with ⟨rfl, rfl⟩ | ⟨rfl, rfl⟩ <;> rfl
  have hm : Int.tmod (n : Int) (ww : Int) = ((n % ww : Nat) : Int) := rfl
  by_cases hmod : n % ww = 0
  · have g1 : (((n % ww : Nat) : Int) != 0) = false := by rw [hmod]; rfl
    have g2 : ((ww : Int) == 0) = false := by rcases hsx with ⟨rfl, rfl⟩ | ⟨rfl, rfl⟩ <;> rfl
    have kb := fun W => print_bytes (P := Tryz.prog) 9 100 5 Tryz.underlying9 Tryz.underlying100 Tryz.underlying5 a0 W
    rw [hn] at kb
    have HG := Lib.hid (fun v hv W => groups.calls v hv ww W)
    refine (callsIn_wide (n := 8)).1 ?_
    refine callsIn_of_wp_marks Tryz.func109 rfl trivial ?_ rfl
    simp only [Tryz.ntmps109, List.size_toArray, List.length_cons, List.length_nil, Nat.reduceAdd, Nat.reduceSub, Array.replicate_succ, Array.replicate_zero, List.push_toArray, List.append_toArray, List.nil_append, List.cons_append]
    have hf1 : Fence.wide.fn 133 := trivial
    gi_wp2_with (gi_at_call 133; refine (callsIn_wide.2 (HG.out _ ⟨_, _, _, rfl⟩ _)).mono ?_; rintro e w' ⟨rfl, rfl⟩)
    generalize hU : (((w.alloc _).alloc _).alloc _).alloc _ = U
    have hUs : U.heap.size = w.heap.size + 1 + 1 + 1 + 1 := by rw [← hU]; simp
    have hUb : Below w.heap.size w U := by rw [← hU]; exact below_alloc (below_alloc (below_alloc (below_alloc (Below.refl _ _) _) _) _) _
    have u0 : U.heap[w.heap.size]? = some (.cells #[.int .i64 sx] 3 (0, 0)) := by
      rw [← hU]; exact (Below.heap_alloc _ _ _ (by simp <;> omega)).trans ((Below.heap_alloc _ _ _ (by simp <;> omega)).trans ((Below.heap_alloc _ _ _ (by simp)).trans (heap_alloc_new w _)))
    have u1 : U.heap[w.heap.size + 1]? = some (.cells #[.string ⟨#[]⟩] 9 (0, 0)) := by
      rw [← hU]; refine (Below.heap_alloc _ _ _ (by simp <;> omega)).trans ((Below.heap_alloc _ _ _ (by simp)).trans ?_)
      have := heap_alloc_new (w.alloc (.cells #[.int .i64 sx] 3)) (.cells #[.string ⟨#[]⟩] 9)
      rwa [World.size_alloc] at this
    have u2 : U.heap[w.heap.size + 1 + 1]? = some (.cells #[.bool false] 4 (0, 0)) := by
      rw [← hU]; refine (Below.heap_alloc _ _ _ (by simp)).trans ?_
      have := heap_alloc_new ((w.alloc (.cells #[.int .i64 sx] 3)).alloc (.cells #[.string ⟨#[]⟩] 9)) (.cells #[.bool false] 4)
      rwa [World.size_alloc, World.size_alloc] at this
    have u3 : U.heap[w.heap.size + 1 + 1 + 1]? = some (.cells #[.slice none 0 0] 100 (0, 0)) := by
      rw [← hU]
      have := heap_alloc_new (((w.alloc (.cells #[.int .i64 sx] 3)).alloc (.cells #[.string ⟨#[]⟩] 9)).alloc (.cells #[.bool false] 4)) (.cells #[.slice none 0 0] 100)
      rwa [World.size_alloc, World.size_alloc, World.size_alloc] at this
    clear hU
    generalize hc : grownCap U n 0 5 = c
    have hcn : n ≤ c := by rw [← hc]; exact grownCap_ge U n 0 5
    have hcm : c ≤ 9223372036854775807 := by
      have hm := grownCap_le_maxLen U n 0 5 (by unfold maxLen; omega)
      unfold maxLen at hm
      omega
    have hbw : Below U.heap.size U (Lib.bytesWorld U 5 a0) := bytes_below (Below.refl _ _) (Nat.le_refl _) 5 a0
    have hbuf := Buf.new U a0
    have hbws : (Lib.bytesWorld U 5 a0).heap.size = w.heap.size + 5 := by rw [Lib.bytesWorld_size, hUs]
    rw [hUs] at hbuf
    rw [hbws]
    generalize Lib.bytesWorld U 5 a0 = BW at *
    obtain ⟨V, hV⟩ : ∃ V, (BW.alloc (.cells #[.slice (some ⟨w.heap.size + 1 + 1 + 1 + 1, 0, none⟩) n c] 100)).alloc (.cells #[.int .i64 ww] 3) = V := ⟨_, rfl⟩
    rw [hV]
    have hVs : V.heap.size = w.heap.size + 7 := by rw [← hV]; simp [hbws]
    have hVB : Below (w.heap.size + 5) BW V := by rw [← hV, ← hbws]; exact below_alloc (below_alloc (Below.refl _ _) _) _
    have v5 : V.heap[w.heap.size + 5]? = some (.cells #[.slice (some ⟨w.heap.size + 1 + 1 + 1 + 1, 0, none⟩) n c] 100 (0, 0)) := by
      rw [← hV, ← hbws]
      exact (Below.heap_alloc _ _ _ (by simp)).trans (heap_alloc_new BW _)
    have v6 : V.heap[w.heap.size + 6]? = some (.cells #[.int .i64 ww] 3 (0, 0)) := by
      rw [← hV]
      have := heap_alloc_new (BW.alloc (.cells #[.slice (some ⟨w.heap.size + 1 + 1 + 1 + 1, 0, none⟩) n c] 100)) (.cells #[.int .i64 ww] 3)
      rw [World.size_alloc, hbws] at this
      exact this
    clear hV
    generalize hH : w.heap.size = H at *
    obtain ⟨N, hN⟩ : ∃ N, n / ww = N := ⟨_, rfl⟩
    refine rf_enter (F := Fence.wide) (n := 8) (gf := 154) rfl (by omega) rfl trivial groups_enters
      (fun Z => ∃ v out, DcI w H n ww sx c (bytesOf a0) none (n / ww) v out Z) (fun Z => S.litDec (bytesOf a0) sx = none ∧ Z.heap[H + 1]? = some (.cells #[.string ⟨#[]⟩] 9 (0, 0)) ∧ Z.heap[H + 1 + 1]? = some (.cells #[.bool false] 4 (0, 0)) ∧ Z.heap[H + 7]? = some (.deferred (some [])) ∧ Below H w Z)
      ?hcall ?hready ?hdone
    case hcall =>
      intro fn rd X hfn hrd hXs hXB x7 x8
      rw [hVs] at *
      have hX0 : Below H w X := ((hUb.trans (hbw.mono (by omega))).trans (hVB.mono (by omega))).trans (hXB.mono (by omega))
      have hUX : Below (H + 4) U X := ((hbw.mono (by omega)).trans (hVB.mono (by omega))).trans (hXB.mono (by omega))
      have hI0 : DcI w H n ww sx c (bytesOf a0) (some rd) 0 (.slice none 0 0) [] X :=
        ⟨(hUX.block _ (by omega)).trans u0, (hUX.block _ (by omega)).trans u1, (hUX.block _ (by omega)).trans u2, (hUX.block _ (by omega)).trans u3,
          (hXB.block _ (by omega)).trans v5, (hXB.block _ (by omega)).trans v6, x7, fun r' e => by cases e; exact x8,
          (hbuf.blk (((hVB.mono (by omega : H + 5 ≤ H + 5)).trans (hXB.mono (by omega))).block (H + 1 + 1 + 1 + 1) (by omega))), World.ownsRow_nil _ _ _ _, rfl, hX0, by simp⟩
      have HW2 : 0 < ww ∧ ww ≤ 8 := by rcases hsx with ⟨_, rfl⟩ | ⟨_, rfl⟩ <;> omega
      have hgr := groups_in 7 (by omega) (H + 8) (H + 6) (H + 5) (H + 1 + 1 + 1 + 1) n c ww HW2.1 (by omega) HW2.2 hcn hcm
        (fun k W => ∃ v out, DcI w H n ww sx c (bytesOf a0) (some rd) k v out W)
        (fun Z => Z.heap[H + 8]? = some (.loop { rd with state := .done, pending := some .ret }) ∧ S.litDec (bytesOf a0) sx = none ∧ Z.heap[H + 1]? = some (.cells #[.string ⟨#[]⟩] 9 (0, 0)) ∧ Z.heap[H + 1 + 1]? = some (.cells #[.bool false] 4 (0, 0)) ∧ Z.heap[H + 7]? = some (.deferred (some [])) ∧ Below H w Z)
        (fun k A ⟨v, out, hd⟩ => ⟨(blk_cell hd.b6 0).trans rfl, (blk_cell hd.b5 0).trans rfl⟩) ?hY X ⟨_, _, hI0⟩
      case hY =>
        rintro k W hk ⟨v, out, hd⟩
        refine rf_round (l := H + 8) hrd trivial (hd.b8 _ rfl) rfl ?_
        have HRD := Aside0.mk hrd
        clear hrd
        gi_wp2
        refine ⟨hd.b8 _ rfl, ?_⟩
        have hlt8 : H + 8 < W.heap.size := (Array.getElem?_eq_some_iff.1 (hd.b8 _ rfl)).1
        have HRF : Aside0 (∀ r2 : Loop, r2 = { rd with state := LoopState.busy } → ({ r2 with state := .ready, pending := none } : Loop) = rd ∧ ({ r2 with state := .done, pending := some .ret } : Loop) = { rd with state := .done, pending := some .ret }) := ⟨fun r2 e => by rw [e, HRD.out]; exact ⟨rfl, rfl⟩⟩
        generalize hrb : ({ rd with state := LoopState.busy } : Loop) = rb
        have HRB := Aside0.mk (HRF.out rb hrb.symm)
        have hdB := Aside0.mk (hd.put hH hlt8 rb)
        generalize W.putObj (H + 8) (.loop rb) = WB at *
        clear hrb hd HRF HRD
        obtain ⟨o, ho⟩ : ∃ o, k * ww = o := ⟨_, rfl⟩
        have HO := Aside0.mk ho
        have hfit : o + ww ≤ n := by
          have := Nat.mul_le_of_le_div ww (k + 1) n hk
          rw [Nat.add_mul] at this
          omega
        rw [ho]
        clear ho
        have hc0 : WB.cell? ⟨H, 0, none⟩ = some (.int .i64 sx) := (blk_cell hdB.out.b0 0).trans rfl
        obtain ⟨grp, hgrp⟩ : ∃ grp, ((bytesOf a0).drop o).take ww = grp := ⟨_, rfl⟩
        have HG2 := Aside0.mk hgrp
        clear hgrp
        have HBAD : Aside0 (S.decG (baseOf sx) grp 0 = none → S.litDec (bytesOf a0) sx = none) := ⟨fun hnone => by
          rw [litDec_eq _ sx ww hsx (by rw [bytesOf_length, hn]; exact hmod), bytesOf_length, hn, hdB.out.dec]
          obtain ⟨m, hm⟩ : ∃ m, n / ww - k = m + 1 := ⟨n / ww - k - 1, by omega⟩
          rw [hm, HO.out]
          unfold S.decK
          rw [HG2.out, hnone]
          rfl⟩
        gi_wp2
        gi_loopg [9, 11, 12, 27] ww (fun gg s9 _ _ s27 wr => ∃ (j : Nat) (na : Int), j ≤ ww ∧ ww - j ≤ gg ∧ s27 = .int .i64 j ∧ s9 = .int .i64 na ∧ Aside0 (Drawn0 WB wr) ∧ Aside0 (0 ≤ na ∧ na < (baseOf sx) ^ j) ∧ Aside0 (S.decG (baseOf sx) (grp.drop j) na = S.decG (baseOf sx) grp 0))
        case atStart => exact ⟨0, 0, Nat.zero_le _, by omega, rfl, rfl, ⟨.refl _⟩, ⟨Int.le_refl _, by simp⟩, ⟨rfl⟩⟩
        case round =>
          obtain ⟨j, na, hj, hg, rfl, rfl, HW, HNA, HA⟩ := hrel
          obtain ⟨⟨q, hq2⟩⟩ := HW.out
          subst hq2
          have s1 : WB.cell? ⟨H + 1, 0, none⟩ = some (.string ⟨#[]⟩) := (blk_cell hdB.out.b1 0).trans rfl
          have s2 : WB.cell? ⟨H + 1 + 1, 0, none⟩ = some (.bool false) := (blk_cell hdB.out.b2 0).trans rfl
          have t1 : WB.frozen? ⟨H + 1, 0, none⟩ = false := blk_frozen hdB.out.b1 0
          have t2 : WB.frozen? ⟨H + 1 + 1, 0, none⟩ = false := blk_frozen hdB.out.b2 0
          by_cases hlt : j < ww
          · have hltz : (j : Int) < (ww : Int) := by omega
            obtain ⟨y, hy⟩ : ∃ y, (bytesOf a0).getD (o + j) 0 = y := ⟨_, rfl⟩
            have hcell : WB.cell? ⟨H + 1 + 1 + 1 + 1, o + j, none⟩ = some (.int .u8 y) := by
              rw [← hy]
              exact hdB.out.buf.cell (o + j) (by rw [bytesOf_length]; omega)
            have hyr : 0 ≤ y ∧ y < 256 := by rw [← hy]; exact bo_range a0 _ (getD_mem _ _ (by rw [bytesOf_length]; omega))
            have HD2 : Aside0 (grp.drop j = y :: grp.drop (j + 1)) := ⟨by
              have hl : j < grp.length := by rw [← HG2.out, List.length_take, List.length_drop, bytesOf_length]; omega
              rw [drop_at grp j hl]
              congr 1
              rw [← hy, ← HG2.out]
              simp only [List.getD_eq_getElem?_getD]
              rw [List.getElem?_take_of_lt hlt, List.getElem?_drop]⟩
            have HIX := Lib.hid (fun W => strings_IndexByte.calls ⟨#[48, 49, 50, 51, 52, 53, 54, 55, 56, 57, 97, 98, 99, 100, 101, 102]⟩ _ _ W (dval_f y))
            have hDG := fun W => scan_digit.calls y (S.dig y) W (dig_f y)
            obtain ⟨p1, p2, p3, p4, p5⟩ := dval_spec y hyr.1 hyr.2
            have HST : Aside0 (S.decG (baseOf sx) grp 0 = if S.hexv y < 0 ∨ baseOf sx ≤ S.hexv y then none else S.decG (baseOf sx) (grp.drop (j + 1)) (na * baseOf sx + S.hexv y)) := ⟨by rw [← HA.out, HD2.out]; rfl⟩
            have hbs : wrap64 (2 ^ sx) = baseOf sx := by rcases hsx with ⟨rfl, _⟩ | ⟨rfl, _⟩ <;> simp [wrap64, baseOf]
            have hsx' : sx = 4 ∨ sx = 1 := by rcases hsx with ⟨h, _⟩ | ⟨h, _⟩ <;> simp [h]
            have hna : na < 256 := by
              have h1 := HNA.out.2
              have : (baseOf sx) ^ j ≤ 256 := by
                rcases hsx with ⟨rfl, rfl⟩ | ⟨rfl, rfl⟩
                · have : j = 0 ∨ j = 1 := by omega
                  rcases this with rfl | rfl <;> decide
                · have : j = 0 ∨ j = 1 ∨ j = 2 ∨ j = 3 ∨ j = 4 ∨ j = 5 ∨ j = 6 ∨ j = 7 := by omega
                  rcases this with rfl | rfl | rfl | rfl | rfl | rfl | rfl | rfl <;> decide
              omega
            have HNX : Aside0 (∀ dv, 0 ≤ dv → dv < baseOf sx → bits .or .i64 (wrap64 (na * 2 ^ sx)) dv = na * baseOf sx + dv ∧ 0 ≤ na * baseOf sx + dv ∧ na * baseOf sx + dv < (baseOf sx) ^ (j + 1)) := ⟨fun dv h0 h1 => ⟨or_add sx hsx' na dv HNA.out.1 hna h0 h1, by
              have := HNA.out
              have hb0 : 0 ≤ baseOf sx := by rcases hsx' with rfl | rfl <;> decide
              have := Int.mul_nonneg HNA.out.1 hb0
              omega, by
              have h2 : na + 1 ≤ (baseOf sx) ^ j := HNA.out.2
              have hb0 : 0 ≤ baseOf sx := by rcases hsx' with rfl | rfl <;> decide
              have h3 := Int.mul_le_mul_of_nonneg_right h2 hb0
              rw [Int.add_mul, Int.one_mul] at h3
              rw [Int.pow_succ]
              omega⟩⟩
            clear hy hyr
            generalize baseOf sx = bs at *
            obtain ⟨dv, hdv⟩ : ∃ dv, dval y = dv := ⟨_, rfl⟩
            rw [hdv] at HIX p1 p2 p3 p5
            by_cases c1 : S.dig y = true
            · rw [c1] at hDG
              have HDG := Lib.hid hDG
              obtain ⟨k1, k2⟩ := p3 c1
              have g1 : decide (dv < 0) = false := decide_eq_false (by omega)
              by_cases c3 : bs ≤ dv
              · have g2 : decide (bs ≤ dv) = true := decide_eq_true c3
                clear hDG p1 p2 p3 p4 p5 hdv
                gi_wp2_with (first | (refine ⟨trivial, ?_⟩; gi_at_call 93; refine (CallsIn.inRound (H + 8) (callsIn_wide.2 (HIX.out _))).mono ?_; rintro e' w' ⟨rfl, ⟨⟨q1, rfl⟩⟩⟩) | (refine ⟨trivial, ?_⟩; gi_at_call 96; refine (CallsIn.inRound (H + 8) (callsIn_wide.2 (HDG.out _))).mono ?_; rintro e' w' ⟨rfl, ⟨⟨q2, rfl⟩⟩⟩))
                exact (hdB.out.drewN (q + q1 + q2)).badEnd hH (HBAD.out (by rw [HST.out, if_pos (.inr (by omega))])) HRB.out.2
              · have g2 : decide (bs ≤ dv) = false := decide_eq_false c3
                have HHX := Aside0.mk k2
                clear hDG p1 p2 p3 p4 p5 hdv
                gi_wp2_with (first | (refine ⟨trivial, ?_⟩; gi_at_call 93; refine (CallsIn.inRound (H + 8) (callsIn_wide.2 (HIX.out _))).mono ?_; rintro e' w' ⟨rfl, ⟨⟨q1, rfl⟩⟩⟩) | (refine ⟨trivial, ?_⟩; gi_at_call 96; refine (CallsIn.inRound (H + 8) (callsIn_wide.2 (HDG.out _))).mono ?_; rintro e' w' ⟨rfl, ⟨⟨q2, rfl⟩⟩⟩))
                gi_roundg (ww - (j + 1))
                case measure => omega
                case rel =>
                  obtain ⟨k3, k4, k5⟩ := HNX.out dv (by omega) (by omega)
                  refine ⟨j + 1, na * bs + dv, by omega, by omega, by go_num, by rw [k3], ⟨⟨⟨q + q1 + q2, rfl⟩⟩⟩, ⟨⟨k4, k5⟩⟩, ⟨?_⟩⟩
                  rw [HST.out, if_neg (by rw [HHX.out]; omega), HHX.out]
            · have c1' : S.dig y = false := by simpa using c1
              rw [c1'] at hDG
              have HDG := Lib.hid hDG
              by_cases c2 : y < 65
              · have k2 := p4 c1' c2
                have g1 : decide (y < 65) = true := decide_eq_true c2
                clear hDG p1 p2 p3 p4 p5 hdv
                gi_wp2_with (first | (refine ⟨trivial, ?_⟩; gi_at_call 93; refine (CallsIn.inRound (H + 8) (callsIn_wide.2 (HIX.out _))).mono ?_; rintro e' w' ⟨rfl, ⟨⟨q1, rfl⟩⟩⟩) | (refine ⟨trivial, ?_⟩; gi_at_call 96; refine (CallsIn.inRound (H + 8) (callsIn_wide.2 (HDG.out _))).mono ?_; rintro e' w' ⟨rfl, ⟨⟨q2, rfl⟩⟩⟩))
                exact (hdB.out.drewN (q + q1 + q2)).badEnd hH (HBAD.out (by rw [HST.out, if_pos (.inl k2)])) HRB.out.2
              · have g1 : decide (y < 65) = false := decide_eq_false c2
                obtain ⟨k2, k3⟩ := p5 c1' c2
                by_cases c4 : dv < 0
                · have g2 : decide (dv < 0) = true := decide_eq_true c4
                  have k2 := k2 c4
                  clear hDG p1 p2 p3 p4 p5 hdv
                  gi_wp2_with (first | (refine ⟨trivial, ?_⟩; gi_at_call 93; refine (CallsIn.inRound (H + 8) (callsIn_wide.2 (HIX.out _))).mono ?_; rintro e' w' ⟨rfl, ⟨⟨q1, rfl⟩⟩⟩) | (refine ⟨trivial, ?_⟩; gi_at_call 96; refine (CallsIn.inRound (H + 8) (callsIn_wide.2 (HDG.out _))).mono ?_; rintro e' w' ⟨rfl, ⟨⟨q2, rfl⟩⟩⟩))
                  exact (hdB.out.drewN (q + q1 + q2)).badEnd hH (HBAD.out (by rw [HST.out, if_pos (.inl k2)])) HRB.out.2
                · have g2 : decide (dv < 0) = false := decide_eq_false c4
                  have k2 := k3 (by omega)
                  have HHX := Aside0.mk k2
                  by_cases c3 : bs ≤ dv
                  · have g3 : decide (bs ≤ dv) = true := decide_eq_true c3
                    clear hDG p1 p2 p3 p4 p5 hdv
                    gi_wp2_with (first | (refine ⟨trivial, ?_⟩; gi_at_call 93; refine (CallsIn.inRound (H + 8) (callsIn_wide.2 (HIX.out _))).mono ?_; rintro e' w' ⟨rfl, ⟨⟨q1, rfl⟩⟩⟩) | (refine ⟨trivial, ?_⟩; gi_at_call 96; refine (CallsIn.inRound (H + 8) (callsIn_wide.2 (HDG.out _))).mono ?_; rintro e' w' ⟨rfl, ⟨⟨q2, rfl⟩⟩⟩))
                    exact (hdB.out.drewN (q + q1 + q2)).badEnd hH (HBAD.out (by rw [HST.out, if_pos (.inr (by omega))])) HRB.out.2
                  · have g3 : decide (bs ≤ dv) = false := decide_eq_false c3
                    clear hDG p1 p2 p3 p4 p5 hdv
                    gi_wp2_with (first | (refine ⟨trivial, ?_⟩; gi_at_call 93; refine (CallsIn.inRound (H + 8) (callsIn_wide.2 (HIX.out _))).mono ?_; rintro e' w' ⟨rfl, ⟨⟨q1, rfl⟩⟩⟩) | (refine ⟨trivial, ?_⟩; gi_at_call 96; refine (CallsIn.inRound (H + 8) (callsIn_wide.2 (HDG.out _))).mono ?_; rintro e' w' ⟨rfl, ⟨⟨q2, rfl⟩⟩⟩))
                    gi_roundg (ww - (j + 1))
                    case measure => omega
                    case rel =>
                      obtain ⟨k3, k4, k5⟩ := HNX.out dv (by omega) (by omega)
                      refine ⟨j + 1, na * bs + dv, by omega, by omega, by go_num, by rw [k3], ⟨⟨⟨q + q1 + q2, rfl⟩⟩⟩, ⟨⟨k4, k5⟩⟩, ⟨?_⟩⟩
                      rw [HST.out, if_neg (by rw [HHX.out]; omega), HHX.out]
          · have hjw : j = ww := by omega
            have hna : 0 ≤ na ∧ na < 256 := by
              have h1 := HNA.out
              have : (baseOf sx) ^ j = 256 := by
                rw [hjw]
                rcases hsx with ⟨rfl, rfl⟩ | ⟨rfl, rfl⟩ <;> decide
              omega
            have HRES : Aside0 (S.decG (baseOf sx) grp 0 = some na) := ⟨by
              rw [← HA.out, List.drop_eq_nil_of_le (by rw [← HG2.out, List.length_take]; omega)]
              rfl⟩
            have hcv : IntKind.u8.wrap na = na := wrapU8 na hna.1 hna.2
            have hltz : ¬ (j : Int) < (ww : Int) := by omega
            have hPR := fun W => scan_printable.calls na (S.prn na) W (prn_f na)
            have hdec1 : S.decK (baseOf sx) ww (n / ww - k) ((bytesOf a0).drop o) = if S.prn na = true then (S.decK (baseOf sx) ww (n / ww - (k + 1)) ((bytesOf a0).drop (o + ww))).map (na :: ·) else none := by
              obtain ⟨m, hm⟩ : ∃ m, n / ww - k = m + 1 := ⟨n / ww - k - 1, by omega⟩
              rw [hm, show n / ww - (k + 1) = m by omega]
              conv => { lhs; unfold S.decK }
              rw [HG2.out, HRES.out, List.drop_drop]
            by_cases hpr : S.prn na = true
            · rw [hpr] at hPR
              have HPR := Lib.hid hPR
              rw [if_pos hpr] at hdec1
              have HDEC : Aside0 (S.decK (baseOf sx) ww (n / ww) (bytesOf a0) = (S.decK (baseOf sx) ww (n / ww - (k + 1)) ((bytesOf a0).drop ((k + 1) * ww))).map ((out ++ [na]) ++ ·)) := ⟨by
                rw [hdB.out.dec, HO.out, hdec1, Nat.add_mul, HO.out, Nat.one_mul, Option.map_map]
                congr 1
                funext x
                simp⟩
              obtain ⟨i0, hi, hz0, hz1, hz2⟩ := info_parts (show (Tryz.prog.info? 5).map (fun i => (i.zero, i.size, i.bytes)) = some (some (.int .u8 0), 1, 1) by kernel_rfl)
              have s3 : WB.cell? ⟨H + 1 + 1 + 1, 0, none⟩ = some v := (blk_cell hdB.out.b3 0).trans rfl
              have hkn : k < 1000000 := by
                have := Nat.div_le_self n ww
                omega
              have hWs : H + 9 ≤ WB.heap.size := by
                have := hdB.out.b8 _ rfl
                have := (Array.getElem?_eq_some_iff.1 this).1
                omega
              clear hdec1 hPR
              gi_wp2_with (first | (refine ⟨trivial, ?_⟩; gi_at_call 65; refine (CallsIn.inRound (H + 8) (callsIn_wide.2 (HPR.out _))).mono ?_; rintro e' w' ⟨rfl, ⟨⟨q1, rfl⟩⟩⟩) | (gi_at_builtin; refine wpListIn_append_own _ rfl _ _ 100 rfl (H + 9) 5 i0 (.int .u8 0) 1 1 Tryz.underlying100 hi hz0 hz1 hz2 rfl (by decide) _ k _ rfl ((hdB.out.drewN _).own.alloc _) ⟨WB.heap.size, 0, none⟩ 1 1 [.int .u8 na] rfl rfl (cell_one_new _ _ _) (by simp [Value.oneCell']) (by unfold maxLen; omega) (by omega) (by simp; omega) ?_; intro v' w1 hown' hgrow _; obtain ⟨g', cap', rfl⟩ := ownsRow_succ hown'; have hcb : w1.heap[H + 1 + 1 + 1]? = WB.heap[H + 1 + 1 + 1]? := (hgrow.block _ (by simp; omega) (by intro e; have := (hdB.out.own.lt _ e.symm).1; omega)).trans (Below.heap_alloc _ _ _ (by simp; omega)); have c3 : w1.cell? ⟨H + 1 + 1 + 1, 0, none⟩ = some v := (blk_cell (hcb.trans hdB.out.b3) 0).trans rfl; have f3 := blk_frozen (hcb.trans hdB.out.b3) 0))
              obtain ⟨z1, z2⟩ := DcI.next (x := na) (hdB.out.drewN (q + q1)) hH (by show H + 8 < WB.heap.size; omega) hown' hgrow HDEC.out rd
              exact ⟨rb, z1, .inl ⟨rfl, _, out ++ [na], by rw [HRB.out.1]; exact z2⟩⟩
            · have hpr' : S.prn na = false := by simpa using hpr
              rw [hpr'] at hPR
              have HPR := Lib.hid hPR
              rw [if_neg hpr] at hdec1
              have HNO : Aside0 (S.litDec (bytesOf a0) sx = none) := ⟨by
                rw [litDec_eq _ sx ww hsx (by rw [bytesOf_length, hn]; exact hmod), bytesOf_length, hn, hdB.out.dec, HO.out, hdec1]
                rfl⟩
              clear hdec1 hPR
              gi_wp2_with (refine ⟨trivial, ?_⟩; gi_at_call 65; refine (CallsIn.inRound (H + 8) (callsIn_wide.2 (HPR.out _))).mono ?_; rintro e' w' ⟨rfl, ⟨⟨q1, rfl⟩⟩⟩)
              exact (hdB.out.drewN (q + q1)).badEnd hH HNO.out HRB.out.2
      refine hgr.mono ?_
      rintro e Z ⟨hv, ⟨v, out, hd⟩ | ⟨j1, j2, j3, j4, j5, j6⟩⟩
      · exact ⟨hv, .inl ⟨hd.b8 _ rfl, v, out, ⟨hd.b0, hd.b1, hd.b2, hd.b3, hd.b5, hd.b6, hd.b7, fun r' e => (by cases e), hd.buf, hd.own, hd.len, hd.below, hd.dec⟩⟩⟩
      · exact ⟨hv, .inr ⟨j1, j2, j3, j4, j5, j6⟩⟩
    case hready =>
      rintro Z r hlt ⟨v, out, hd⟩
      rw [hVs] at hlt ⊢
      have hl : S.litDec (bytesOf a0) sx = some out := by
        rw [litDec_eq _ sx ww hsx (by rw [bytesOf_length, hn]; exact hmod), bytesOf_length, hn, hd.dec, Nat.sub_self]
        simp [S.decK]
      have hk := hd.put hH hlt r
      generalize Z.putObj (H + 8) (.loop r) = Z1 at *
      have c3 : Z1.cell? ⟨H + 1 + 1 + 1, 0, none⟩ = some v := (blk_cell hk.b3 0).trans rfl
      have HK := Aside0.mk hk
      have hconv0 : (convert 100 9 v).run Tryz.prog Z1 = .ok (.string (strOfNums out)) Z1 := own_string (P := Tryz.prog) Tryz.underlying100 Tryz.underlying5 Tryz.underlying9 hk.own
      have s1 : Z1.cell? ⟨H + 1, 0, none⟩ = some (.string ⟨#[]⟩) := (blk_cell hk.b1 0).trans rfl
      have s2 : Z1.cell? ⟨H + 1 + 1, 0, none⟩ = some (.bool false) := (blk_cell hk.b2 0).trans rfl
      have t1 : Z1.frozen? ⟨H + 1, 0, none⟩ = false := blk_frozen hk.b1 0
      have t2 : Z1.frozen? ⟨H + 1 + 1, 0, none⟩ = false := blk_frozen hk.b2 0
      gi_wp2
      have o1 : ∀ (A : World) (b k : Nat) (u : Value), k ≠ b → (A.setCell ⟨b, 0, none⟩ u).heap[k]? = A.heap[k]? := fun A b k u hk => Below.heap_setCell A ⟨b, 0, none⟩ u k hk
      have f1 : ((Z1.setCell ⟨H + 1, 0, none⟩ (.string (strOfNums out))).setCell ⟨H + 1 + 1, 0, none⟩ (.bool true)).heap[H + 1]? = some (.cells #[.string (strOfNums out)] 9 (0, 0)) := (o1 _ _ _ _ (by omega)).trans (blk_put (cs := #[.string ⟨#[]⟩]) HK.out.b1 0 _ rfl)
      have f2 : ((Z1.setCell ⟨H + 1, 0, none⟩ (.string (strOfNums out))).setCell ⟨H + 1 + 1, 0, none⟩ (.bool true)).heap[H + 1 + 1]? = some (.cells #[.bool true] 4 (0, 0)) := blk_put (cs := #[.bool false]) ((o1 _ _ _ _ (by omega)).trans HK.out.b2) 0 _ rfl
      have f7 : ((Z1.setCell ⟨H + 1, 0, none⟩ (.string (strOfNums out))).setCell ⟨H + 1 + 1, 0, none⟩ (.bool true)).heap[H + 7]? = some (.deferred (some [])) := (o1 _ _ _ _ (by omega)).trans ((o1 _ _ _ _ (by omega)).trans HK.out.b7)
      have fb : Below H w ((Z1.setCell ⟨H + 1, 0, none⟩ (.string (strOfNums out))).setCell ⟨H + 1 + 1, 0, none⟩ (.bool true)) := (HK.out.below.setCell (p := ⟨H + 1, 0, none⟩) (by show H ≤ H + 1; omega) _).setCell (p := ⟨H + 1 + 1, 0, none⟩) (by show H ≤ H + 1 + 1; omega) _
      generalize (Z1.setCell ⟨H + 1, 0, none⟩ (.string (strOfNums out))).setCell ⟨H + 1 + 1, 0, none⟩ (.bool true) = Z2 at *
      refine ⟨by simp, .inl ⟨_, _, rfl, run_takeDeferred f7, ?_⟩⟩
      have g1 : (Z2.putObj (H + 7) (.deferred none)).cell? ⟨H + 1, 0, none⟩ = some (.string (strOfNums out)) := (blk_cell ((World.putObj_heap_other (by omega)).trans f1) 0).trans rfl
      have g2 : (Z2.putObj (H + 7) (.deferred none)).cell? ⟨H + 1 + 1, 0, none⟩ = some (.bool true) := (blk_cell ((World.putObj_heap_other (by omega)).trans f2) 0).trans rfl
      refine ⟨_, results_cells2 (fn := Tryz.f109) rfl _ _ _ _ (.string (strOfNums out)) (.bool true) rfl rfl (by simp [go_sem, g1]) (by simp [go_sem, g2]), ?_⟩
      rw [hl]
      exact ⟨rfl, by rw [hH]; exact Below.grown (row := some (H + 7)) fb (grownBy_putObj' _ (H + 7) _) (by have := fb.size; omega) (fun k e => by cases e; omega)⟩
    case hdone =>
      rintro Z r hlt ⟨hno, j1, j2, j3, j4⟩
      rw [hVs] at hlt ⊢
      have f1 : (Z.putObj (H + 8) (.loop r)).heap[H + 1]? = some (.cells #[.string ⟨#[]⟩] 9 (0, 0)) := (World.putObj_heap_other (by omega)).trans j1
      have f2 : (Z.putObj (H + 8) (.loop r)).heap[H + 1 + 1]? = some (.cells #[.bool false] 4 (0, 0)) := (World.putObj_heap_other (by omega)).trans j2
      have f7 : (Z.putObj (H + 8) (.loop r)).heap[H + 7]? = some (.deferred (some [])) := (World.putObj_heap_other (by omega)).trans j3
      have fb : Below H w (Z.putObj (H + 8) (.loop r)) := Below.grown (row := some (H + 8)) j4 (grownBy_putObj' _ (H + 8) _) (by have := j4.size; omega) (fun k e => by cases e; omega)
      generalize Z.putObj (H + 8) (.loop r) = Z2 at *
      gi_wp2
      refine ⟨by simp, .inl ⟨_, _, rfl, run_takeDeferred f7, ?_⟩⟩
      have g1 : (Z2.putObj (H + 7) (.deferred none)).cell? ⟨H + 1, 0, none⟩ = some (.string ⟨#[]⟩) := (blk_cell ((World.putObj_heap_other (by omega)).trans f1) 0).trans rfl
      have g2 : (Z2.putObj (H + 7) (.deferred none)).cell? ⟨H + 1 + 1, 0, none⟩ = some (.bool false) := (blk_cell ((World.putObj_heap_other (by omega)).trans f2) 0).trans rfl
      refine ⟨_, results_cells2 (fn := Tryz.f109) rfl _ _ _ _ (.string ⟨#[]⟩) (.bool false) rfl rfl (by simp [go_sem, g1]) (by simp [go_sem, g2]), ?_⟩
      rw [hno]
      exact ⟨rfl, by rw [hH]; exact Below.grown (row := some (H + 7)) fb (grownBy_putObj' _ (H + 7) _) (by have := fb.size; omega) (fun k e => by cases e; omega)⟩
  · have g1 : (((n % ww : Nat) : Int) != 0) = true := bne_iff_ne.2 (by omega)
    have g2 : ((ww : Int) == 0) = false := by rcases hsx with ⟨rfl, rfl⟩ | ⟨rfl, rfl⟩ <;> rfl
    have hl : S.litDec (bytesOf a0) sx = none := by
      have hln : (bytesOf a0).length = n := by rw [bytesOf_length]; exact hn
      rcases hsx with ⟨rfl, rfl⟩ | ⟨rfl, rfl⟩ <;> simp [S.litDec, S.decode, hln, hmod]
    rw [hl]
    refine (callsIn_wide (n := 8)).1 ?_
    refine callsIn_of_wp_marks Tryz.func109 rfl trivial ?_ rfl
    simp only [Tryz.ntmps109, List.size_toArray, List.length_cons, List.length_nil, Nat.reduceAdd, Nat.reduceSub, Array.replicate_succ, Array.replicate_zero, List.push_toArray, List.append_toArray, List.nil_append, List.cons_append]
    gi_wp2
    have q1 : (((w.alloc (.cells #[.int .i64 sx] 3)).alloc (.cells #[.string ⟨#[]⟩] 9)).alloc (.cells #[.bool false] 4)).heap[w.heap.size + 1]? = some (.cells #[.string ⟨#[]⟩] 9 (0, 0)) := by
      refine (Below.heap_alloc _ _ _ (by simp)).trans ?_
      have := heap_alloc_new (w.alloc (.cells #[.int .i64 sx] 3)) (.cells #[.string ⟨#[]⟩] 9)
      rwa [World.size_alloc] at this
    have q2 : (((w.alloc (.cells #[.int .i64 sx] 3)).alloc (.cells #[.string ⟨#[]⟩] 9)).alloc (.cells #[.bool false] 4)).heap[w.heap.size + 1 + 1]? = some (.cells #[.bool false] 4 (0, 0)) := by
      have := heap_alloc_new ((w.alloc (.cells #[.int .i64 sx] 3)).alloc (.cells #[.string ⟨#[]⟩] 9)) (.cells #[.bool false] 4)
      rwa [World.size_alloc, World.size_alloc] at this
    have qb : Below w.heap.size w (((w.alloc (.cells #[.int .i64 sx] 3)).alloc (.cells #[.string ⟨#[]⟩] 9)).alloc (.cells #[.bool false] 4)) := below_alloc (below_alloc (below_alloc (Below.refl _ _) _) _) _
    have g3 := (blk_cell q1 0)
    have g4 := (blk_cell q2 0)
    generalize ((w.alloc (.cells #[.int .i64 sx] 3)).alloc (.cells #[.string ⟨#[]⟩] 9)).alloc (.cells #[.bool false] 4) = Z at *
    refine ⟨_, results_cells2 (fn := Tryz.f109) rfl _ _ _ _ (.string ⟨#[]⟩) (.bool false) rfl rfl (by simp [go_sem, g3]) (by simp [go_sem, g4]), rfl, qb⟩
end Go.Proofs.YtkkpjonfaflkmaaGreatDoor.T
