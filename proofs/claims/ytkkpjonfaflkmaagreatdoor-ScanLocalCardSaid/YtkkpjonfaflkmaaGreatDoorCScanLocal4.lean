/- Part 4 of the proof of ScanLocal: the functions that it calls return what their plain descriptions say. -/
import Derived.Test.YtkkpjonfaflkmaaGreatDoorProg
import Derived.Below
import Derived.Deep.Draws
import Derived.Deep.AppendLies
import Derived.Maps.AppendAt
import Derived.OwnWalk
import Derived.Laws.BytesArg
import Derived.Laws.MakeOwn
import Derived.Laws.OwnMore
import Derived.Deep.OwnRows
import Derived.Tactics
import Derived.Lib.ConvBytes
import Derived.Laws.Slices
import Derived.WalkKit
import Derived.KernelRfl
import Derived.RowKit3
import Derived.Deep.LoopGhost
import Derived.Deep.QuietTactic
import Derived.BigQuiet
import Derived.WideLaws
import Derived.Deep.DeepCutAuto
import Derived.Deep.CutBlock
import Derived.Deep.RegionHeld3
import Derived.Laws.Rows
import Derived.Lib.AppendStr
import Derived.ArgAppend
import Derived.Laws.IdiomCopy
import Derived.OrdersHeld
import Derived.Laws.BitsLemmas
import Derived.RowKit
import Derived.Test.YtkkpjonfaflkmaaGreatDoorCScanLocal0
import Derived.Test.YtkkpjonfaflkmaaGreatDoorCScanLocal1
import Derived.Test.YtkkpjonfaflkmaaGreatDoorCScanLocal2
import Init
import Derived.Lib.Hide
import Derived.Lib.BufferMore
import Derived.Shelf.Abstract
import Derived.WalkLawsBesides
import Derived.Test.YtkkpjonfaflkmaaGreatDoorCScanLocal3
import Derived.Lib.LaidU8
import Derived.Shelf.LaysM
import Derived.Shelf.Strings.SlTrimAscii

namespace Go.Proofs.YtkkpjonfaflkmaaGreatDoor.T
set_option linter.unusedSimpArgs false
open Go.RowKit Go.Proofs.YtkkpjonfaflkmaaGreatDoorW.PrintWords Go.Proofs.YtkkpjonfaflkmaaGreatDoorW.PrintLast Go.Proofs.YtkkpjonfaflkmaaGreatDoorW.PrintMore
attribute [local go_sem] max2_int min2_int max_two min_two max_three min_three max_four min_four   -- for this text's walks alone
set_option linter.unusedVariables false
set_option linter.unusedSimpArgs false
def errW : Option Int → Value
  | none => .nilIface
  | some c => .iface 0 (.int .i64 c)
theorem errW_none : errW none = .nilIface := rfl
theorem errW_some (c : Int) : errW (some c) = .iface 0 (.int .i64 c) := rfl
theorem info53 : (Tryz.prog.info? 53).map (fun i => (i.zero, i.size, i.bytes)) = some (some (.agg #[(.int .i64 0), (.string ⟨#[]⟩), (.bool false), (.int .i64 0), (.int .i64 0), (.int .i64 0)]), 6, 56) := by kernel_rfl
theorem info73 : (Tryz.prog.info? 73).map (fun i => (i.zero, i.size, i.bytes)) = some (some (.agg #[(.string ⟨#[]⟩), (.int .i64 0)]), 2, 24) := by kernel_rfl
structure S53 where
  f0 : Int
  f1 : ByteArray
  f2 : Bool
  f3 : Int
  f4 : Int
  f5 : Int
def z53 : S53 := ⟨(0 : Int), (⟨#[]⟩ : ByteArray), false, (0 : Int), (0 : Int), (0 : Int)⟩
def k53 : Kd S53 := Kd.iso (Kd.pair (Kd.int .i64) (Kd.pair Kd.string (Kd.pair Kd.bool (Kd.pair (Kd.int .i64) (Kd.pair (Kd.int .i64) (Kd.int .i64)))))) (fun x : S53 => (x.f0, x.f1, x.f2, x.f3, x.f4, x.f5))
theorem k53_open {w : World} {x : S53} {cs : List Value} (h : k53.K w x cs) : cs = [.int .i64 x.f0, .string x.f1, .bool x.f2, .int .i64 x.f3, .int .i64 x.f4, .int .i64 x.f5] := by
  obtain ⟨_, _, rfl, rfl, ⟨_, _, rfl, rfl, ⟨_, _, rfl, rfl, ⟨_, _, rfl, rfl, ⟨_, _, rfl, rfl, rfl⟩⟩⟩⟩⟩ := h
  exact rfl
theorem k53_mk (w : World) (x : S53)  : k53.K w x [.int .i64 x.f0, .string x.f1, .bool x.f2, .int .i64 x.f3, .int .i64 x.f4, .int .i64 x.f5] := ⟨[.int .i64 x.f0], [.string x.f1, .bool x.f2, .int .i64 x.f3, .int .i64 x.f4, .int .i64 x.f5], rfl, rfl, ⟨[.string x.f1], [.bool x.f2, .int .i64 x.f3, .int .i64 x.f4, .int .i64 x.f5], rfl, rfl, ⟨[.bool x.f2], [.int .i64 x.f3, .int .i64 x.f4, .int .i64 x.f5], rfl, rfl, ⟨[.int .i64 x.f3], [.int .i64 x.f4, .int .i64 x.f5], rfl, rfl, ⟨[.int .i64 x.f4], [.int .i64 x.f5], rfl, rfl, rfl⟩⟩⟩⟩⟩
theorem k53_mkM (w : World) (base : Nat) (ok : Nat → Prop) (x : S53)  : k53.M w base ok x [.int .i64 x.f0, .string x.f1, .bool x.f2, .int .i64 x.f3, .int .i64 x.f4, .int .i64 x.f5] := ⟨[.int .i64 x.f0], [.string x.f1, .bool x.f2, .int .i64 x.f3, .int .i64 x.f4, .int .i64 x.f5], rfl, rfl, ⟨[.string x.f1], [.bool x.f2, .int .i64 x.f3, .int .i64 x.f4, .int .i64 x.f5], rfl, rfl, ⟨[.bool x.f2], [.int .i64 x.f3, .int .i64 x.f4, .int .i64 x.f5], rfl, rfl, ⟨[.int .i64 x.f3], [.int .i64 x.f4, .int .i64 x.f5], rfl, rfl, ⟨[.int .i64 x.f4], [.int .i64 x.f5], rfl, rfl, rfl⟩⟩⟩⟩⟩
def rd_T53 (xs : List S53) (i : Int) : S53 := xs.getD i.toNat z53
theorem at_T53 {w : World} {A : Option Addr} {n : Nat} {xs : List S53} (h : Kd.C k53 w A n xs) (i : Int) (h0 : 0 ≤ i) (h1 : i < n) : ∃ ad , A = some ad ∧ w.cell? (ad.add (i.toNat * 6)) = some (.int .i64 (rd_T53 xs i).f0) ∧ w.cell? ⟨(ad.add (i.toNat * 6)).block, (ad.add (i.toNat * 6)).off + 1, none⟩ = some (.string (rd_T53 xs i).f1) ∧ w.cell? ⟨(ad.add (i.toNat * 6)).block, (ad.add (i.toNat * 6)).off + 2, none⟩ = some (.bool (rd_T53 xs i).f2) ∧ w.cell? ⟨(ad.add (i.toNat * 6)).block, (ad.add (i.toNat * 6)).off + 3, none⟩ = some (.int .i64 (rd_T53 xs i).f3) ∧ w.cell? ⟨(ad.add (i.toNat * 6)).block, (ad.add (i.toNat * 6)).off + 4, none⟩ = some (.int .i64 (rd_T53 xs i).f4) ∧ w.cell? ⟨(ad.add (i.toNat * 6)).block, (ad.add (i.toNat * 6)).off + 5, none⟩ = some (.int .i64 (rd_T53 xs i).f5) := by
  obtain ⟨ad, c, e, _, hK, hc0⟩ := Kd.C_get h z53 i h0 h1
  have hc : ∀ j u, c[j]? = some u → w.cell? (ad.add (i.toNat * 6 + j)) = some u := hc0
  obtain rfl := k53_open hK
  exact ⟨ad, e, hc 0 _ rfl, by rw [← add_field _ _ 1 (by omega)]; exact hc 1 _ rfl, by rw [← add_field _ _ 2 (by omega)]; exact hc 2 _ rfl, by rw [← add_field _ _ 3 (by omega)]; exact hc 3 _ rfl, by rw [← add_field _ _ 4 (by omega)]; exact hc 4 _ rfl, by rw [← add_field _ _ 5 (by omega)]; exact hc 5 _ rfl⟩
def rd_L4 (xs : List (List S53)) (i : Int) : (List S53) := xs.getD i.toNat ([] : List S53)
theorem at_L4 {w : World} {A : Option Addr} {n : Nat} {xs : List (List S53)} (h : Kd.C (Kd.slice 53 k53) w A n xs) (i : Int) (h0 : 0 ≤ i) (h1 : i < n) : ∃ ad A0 c0, A = some ad ∧ w.cell? (ad.add i.toNat) = some (.slice A0 (rd_L4 xs i).length c0) ∧ (rd_L4 xs i).length ≤ c0 ∧ k53.C w A0 (rd_L4 xs i).length (rd_L4 xs i) := by
  obtain ⟨ad, c, e, _, hK, hc0⟩ := Kd.C_get h ([] : List S53) i h0 h1
  have hc : ∀ j u, c[j]? = some u → w.cell? (ad.add (i.toNat * 1 + j)) = some u := hc0
  obtain ⟨A0, c0, rfl, l0, g0⟩ := hK
  exact ⟨ad, A0, c0, e, by have hq := hc 0 _ rfl; rwa [Nat.mul_one, Nat.add_zero] at hq, l0, g0⟩
structure S73 where
  f0 : ByteArray
  f1 : Int
def z73 : S73 := ⟨(⟨#[]⟩ : ByteArray), (0 : Int)⟩
def k73 : Kd S73 := Kd.iso (Kd.pair Kd.string (Kd.int .i64)) (fun x : S73 => (x.f0, x.f1))
theorem k73_open {w : World} {x : S73} {cs : List Value} (h : k73.K w x cs) : cs = [.string x.f0, .int .i64 x.f1] := by
  obtain ⟨_, _, rfl, rfl, rfl⟩ := h
  exact rfl
theorem k73_mkM (w : World) (base : Nat) (ok : Nat → Prop) (x : S73)  : k73.M w base ok x [.string x.f0, .int .i64 x.f1] := ⟨[.string x.f0], [.int .i64 x.f1], rfl, rfl, rfl⟩
def rd_T73 (xs : List S73) (i : Int) : S73 := xs.getD i.toNat z73
theorem at_T73 {w : World} {A : Option Addr} {n : Nat} {xs : List S73} (h : Kd.C k73 w A n xs) (i : Int) (h0 : 0 ≤ i) (h1 : i < n) : ∃ ad , A = some ad ∧ w.cell? (ad.add (i.toNat * 2)) = some (.string (rd_T73 xs i).f0) ∧ w.cell? ⟨(ad.add (i.toNat * 2)).block, (ad.add (i.toNat * 2)).off + 1, none⟩ = some (.int .i64 (rd_T73 xs i).f1) := by
  obtain ⟨ad, c, e, _, hK, hc0⟩ := Kd.C_get h z73 i h0 h1
  have hc : ∀ j u, c[j]? = some u → w.cell? (ad.add (i.toNat * 2 + j)) = some u := hc0
  obtain rfl := k73_open hK
  exact ⟨ad, e, hc 0 _ rfl, by rw [← add_field _ _ 1 (by omega)]; exact hc 1 _ rfl⟩
end Go.Proofs.YtkkpjonfaflkmaaGreatDoor.T

namespace Go.Proofs.YtkkpjonfaflkmaaGreatDoor.T
set_option linter.unusedSimpArgs false
open Go.RowKit Go.Proofs.YtkkpjonfaflkmaaGreatDoorW.PrintWords Go.Proofs.YtkkpjonfaflkmaaGreatDoorW.PrintLast Go.Proofs.YtkkpjonfaflkmaaGreatDoorW.PrintMore
attribute [local go_sem] max2_int min2_int max_two min_two max_three min_three max_four min_four   -- for this text's walks alone
set_option linter.unusedVariables false
set_option linter.unusedSimpArgs false
def qanatref03_Same.l0 : Nat → List (S53) → List (S53) → Int → Option (Bool)
  | 0, _, _, _ => none
  | k + 1, x0, x1, x5 => if x5 < (x0.length : Int) then (if 0 ≤ x5 then (if x5 < (x1.length : Int) then (if ((rd_T53 x0 x5).f0) = ((rd_T53 x1 x5).f0) then (if ((rd_T53 x0 x5).f1).toList = ((rd_T53 x1 x5).f1).toList then (if (((rd_T53 x0 x5).f2) != ((rd_T53 x1 x5).f2)) = true then (some false) else (qanatref03_Same.l0 k x0 x1 (wrap64 (x5 + 1)))) else (some false)) else (some false)) else (none)) else (none)) else (some true)
def qanatref03_Same.f (k : Nat) (l0 : List (S53)) (l1 : List (S53)) : Option (Bool) := if (l0.length : Int) = (l1.length : Int) then (qanatref03_Same.l0 k l0 l1 0) else (some false)
theorem qanatref03_Same.mono_l : ∀ k, (∀ y0 y1 y2, LeO (qanatref03_Same.l0 k y0 y1 y2) (qanatref03_Same.l0 (k + 1) y0 y1 y2))
  | 0 => fun _ _ _ r h => by simp [qanatref03_Same.l0] at h
  | k + 1 => by
    have ih0 := qanatref03_Same.mono_l k
    · intro y0 y1 y2
      unfold qanatref03_Same.l0
      repeat' first
      | (with_reducible exact ih0 _ _ _)
      | (with_reducible exact LeO.refl _)
      | (with_reducible exact LeO.none _)
      | (with_reducible refine LeO.ite ?_ ?_)
      | (with_reducible refine LeO.bind ?_ (fun _ => ?_))
      | exact ih0 _ _ _
      | exact LeO.none _
      | refine LeO.ite ?_ ?_
      | refine LeO.bind ?_ (fun _ => ?_)
theorem qanatref03_Same.mono : ∀ a0 a1 k, LeO (qanatref03_Same.f k a0 a1) (qanatref03_Same.f (k + 1) a0 a1) := by
  intro a0 a1 k
  have ih0 := qanatref03_Same.mono_l k
  unfold qanatref03_Same.f
  repeat' first
      | (with_reducible exact ih0 _ _ _)
      | (with_reducible exact LeO.refl _)
      | (with_reducible exact LeO.none _)
      | (with_reducible refine LeO.ite ?_ ?_)
      | (with_reducible refine LeO.bind ?_ (fun _ => ?_))
      | exact ih0 _ _ _
      | exact LeO.none _
      | refine LeO.ite ?_ ?_
      | refine LeO.bind ?_ (fun _ => ?_)
set_option maxHeartbeats 8000000 in
set_option maxRecDepth 100000 in
theorem qanatref03_Same.calls (k : Nat) (A0 : Option Addr) (c0 : Nat) (l0 : List (S53)) (A1 : Option Addr) (c1 : Nat) (l1 : List (S53)) (r : Bool) (w : World) (hr0 : Kd.C k53 w A0 l0.length l0) (hc0 : l0.length ≤ c0) (hr1 : Kd.C k53 w A1 l1.length l1) (hc1 : l1.length ≤ c1) (h : qanatref03_Same.f k l0 l1 = some r) :
    Calls Tryz.prog 38 #[.slice A0 l0.length c0, .slice A1 l1.length c1] w fun e w' => e = .returned (.bool r) ∧ Drawn0 w w' := by
  have HR0 := Aside0.mk hr0
  have HC0 := Aside0.mk hc0
  clear hr0 hc0
  have HR1 := Aside0.mk hr1
  have HC1 := Aside0.mk hc1
  clear hr1 hc1
  have H : (if (l0.length : Int) = (l1.length : Int) then (qanatref03_Same.l0 k l0 l1 0) else (some false)) = some r := h
  clear h
  by_cases c3 : (l0.length : Int) = (l1.length : Int)
  · rw [if_pos c3] at H
    have c3b0 : ((l0.length : Int) == (l1.length : Int)) = true := beq_iff_eq.mpr c3
    have c3b1 : ((l0.length : Int) != (l1.length : Int)) = false := bne_eq_false_iff_eq.mpr c3
    have c3b2 : (l0.length == l1.length) = true := by first | simpa using c3 | (simp at c3 ⊢; omega)
    clear c3
    have H' := Aside0.mk H
    clear H
    go_enter Tryz.func38, Tryz.ntmps38
    go_wp2
    repeat (go_quiet (fail); try go_wp2)
    go_loopg [5] k (fun kq v5 w' => ∃ (x5_1 : Int), v5 = .int .i64 x5_1 ∧ Aside0 (qanatref03_Same.l0 kq l0 l1 x5_1 = some r) ∧ Aside0 (kq ≤ k) ∧ Drawn0 w w')
    case atStart => exact ⟨(0), (by first | rfl | (simp; done) | (simp [*]; done)), H', ⟨Nat.le_refl _⟩, by repeat (first | exact Drawn0.refl _ | apply Drawn0.step)⟩
    case round =>
      clear H'
      try clear c1
      try clear p2
      try clear c3
      try clear c3b0
      try clear c3b1
      try clear c3b2
      obtain ⟨x5_1, rfl, HA, HK1, ⟨m1, rfl⟩⟩ := hrel
      cases gk with
      | zero => exact absurd HA.out (by simp [qanatref03_Same.l0])
      | succ k1 =>
        have H := HA.out
        clear HA
        simp only [qanatref03_Same.l0] at H
        by_cases c4 : x5_1 < (l0.length : Int)
        · rw [if_pos c4] at H
          have c4b0 : decide (x5_1 < (l0.length : Int)) = true := decide_eq_true c4
          clear c4
          by_cases c5 : 0 ≤ x5_1
          · rw [if_pos c5] at H
            have c5b0 : decide (0 ≤ x5_1) = true := decide_eq_true c5
            clear c5
            by_cases c6 : x5_1 < (l1.length : Int)
            · rw [if_pos c6] at H
              have c6b0 : decide (x5_1 < (l1.length : Int)) = true := decide_eq_true c6
              clear c6
              by_cases c7 : ((rd_T53 l0 x5_1).f0) = ((rd_T53 l1 x5_1).f0)
              · rw [if_pos c7] at H
                have c7b0 : (((rd_T53 l0 x5_1).f0) == ((rd_T53 l1 x5_1).f0)) = true := beq_iff_eq.mpr c7
                have c7b1 : (((rd_T53 l0 x5_1).f0) != ((rd_T53 l1 x5_1).f0)) = false := bne_eq_false_iff_eq.mpr c7
                clear c7
                by_cases c8 : ((rd_T53 l0 x5_1).f1).toList = ((rd_T53 l1 x5_1).f1).toList
                · rw [if_pos c8] at H
                  have c8b0 : (((rd_T53 l0 x5_1).f1).toList == ((rd_T53 l1 x5_1).f1).toList) = true := beq_iff_eq.mpr c8
                  have c8b1 : (((rd_T53 l0 x5_1).f1).toList != ((rd_T53 l1 x5_1).f1).toList) = false := bne_eq_false_iff_eq.mpr c8
                  clear c8
                  by_cases c9 : (((rd_T53 l0 x5_1).f2) != ((rd_T53 l1 x5_1).f2)) = true
                  · rw [if_pos c9] at H
                    have c9b0 : (((rd_T53 l0 x5_1).f2) != ((rd_T53 l1 x5_1).f2)) = true := c9
                    (try (have c9b1 : decide (((rd_T53 l0 x5_1).f2) = ((rd_T53 l1 x5_1).f2)) = false := by simpa using c9))
                    (try (have c9b2 : (((rd_T53 l0 x5_1).f2) == ((rd_T53 l1 x5_1).f2)) = false := by simpa using c9))
                    (try (have c9b3 : ¬ (((rd_T53 l0 x5_1).f2) = ((rd_T53 l1 x5_1).f2)) := by simpa using c9))
                    clear c9
                    obtain rfl := Option.some.inj H
                    have p371 : 0 ≤ (x5_1 : Int) := of_decide_eq_true (by first | (with_reducible assumption) | assumption)
                    have q371 : x5_1 < (l0.length : Int) := of_decide_eq_true (by first | (with_reducible assumption) | assumption)
                    obtain ⟨ad371, e371, hx371_0, hx371_1, hx371_2, hx371_3, hx371_4, hx371_5⟩ := at_T53 HR0.out x5_1 p371 q371
                    cases e371
                    replace p371 := eq_true p371
                    replace q371 := eq_true q371
                    have p372 : 0 ≤ (x5_1 : Int) := of_decide_eq_true (by first | (with_reducible assumption) | assumption)
                    have q372 : x5_1 < (l1.length : Int) := of_decide_eq_true (by first | (with_reducible assumption) | assumption)
                    obtain ⟨ad372, e372, hx372_0, hx372_1, hx372_2, hx372_3, hx372_4, hx372_5⟩ := at_T53 HR1.out x5_1 p372 q372
                    cases e372
                    replace p372 := eq_true p372
                    replace q372 := eq_true q372
                    have p373 : 0 ≤ (x5_1 : Int) := of_decide_eq_true (by first | (with_reducible assumption) | assumption)
                    have q373 : x5_1 < (l0.length : Int) := of_decide_eq_true (by first | (with_reducible assumption) | assumption)
                    obtain ⟨ad373, e373, hx373_0, hx373_1, hx373_2, hx373_3, hx373_4, hx373_5⟩ := at_T53 HR0.out x5_1 p373 q373
                    obtain rfl : ad371 = ad373 := (by injection e373)
                    replace p373 := eq_true p373
                    replace q373 := eq_true q373
                    have p374 : 0 ≤ (x5_1 : Int) := of_decide_eq_true (by first | (with_reducible assumption) | assumption)
                    have q374 : x5_1 < (l1.length : Int) := of_decide_eq_true (by first | (with_reducible assumption) | assumption)
                    obtain ⟨ad374, e374, hx374_0, hx374_1, hx374_2, hx374_3, hx374_4, hx374_5⟩ := at_T53 HR1.out x5_1 p374 q374
                    obtain rfl : ad372 = ad374 := (by injection e374)
                    replace p374 := eq_true p374
                    replace q374 := eq_true q374
                    have p375 : 0 ≤ (x5_1 : Int) := of_decide_eq_true (by first | (with_reducible assumption) | assumption)
                    have q375 : x5_1 < (l0.length : Int) := of_decide_eq_true (by first | (with_reducible assumption) | assumption)
                    obtain ⟨ad375, e375, hx375_0, hx375_1, hx375_2, hx375_3, hx375_4, hx375_5⟩ := at_T53 HR0.out x5_1 p375 q375
                    obtain rfl : ad371 = ad375 := (by injection e375)
                    replace p375 := eq_true p375
                    replace q375 := eq_true q375
                    have p376 : 0 ≤ (x5_1 : Int) := of_decide_eq_true (by first | (with_reducible assumption) | assumption)
                    have q376 : x5_1 < (l1.length : Int) := of_decide_eq_true (by first | (with_reducible assumption) | assumption)
                    obtain ⟨ad376, e376, hx376_0, hx376_1, hx376_2, hx376_3, hx376_4, hx376_5⟩ := at_T53 HR1.out x5_1 p376 q376
                    obtain rfl : ad372 = ad376 := (by injection e376)
                    replace p376 := eq_true p376
                    replace q376 := eq_true q376
                    go_wp2
                    repeat (go_quiet (fail); try go_wp2)
                    go_ret
                    exact ⟨by first | rfl | (simp; done) | (simp [*]; done), by repeat (first | exact Drawn0.refl _ | apply Drawn0.step)⟩
                  · rw [if_neg c9] at H
                    have c9b0 : (((rd_T53 l0 x5_1).f2) != ((rd_T53 l1 x5_1).f2)) = false := by simpa using c9
                    (try (have c9b1 : decide (((rd_T53 l0 x5_1).f2) = ((rd_T53 l1 x5_1).f2)) = true := by simpa using c9))
                    (try (have c9b2 : (((rd_T53 l0 x5_1).f2) == ((rd_T53 l1 x5_1).f2)) = true := by simpa using c9))
                    clear c9
                    have H' := Aside0.mk H
                    clear H
                    have p371 : 0 ≤ (x5_1 : Int) := of_decide_eq_true (by first | (with_reducible assumption) | assumption)
                    have q371 : x5_1 < (l0.length : Int) := of_decide_eq_true (by first | (with_reducible assumption) | assumption)
                    obtain ⟨ad371, e371, hx371_0, hx371_1, hx371_2, hx371_3, hx371_4, hx371_5⟩ := at_T53 HR0.out x5_1 p371 q371
                    cases e371
                    replace p371 := eq_true p371
                    replace q371 := eq_true q371
                    have p372 : 0 ≤ (x5_1 : Int) := of_decide_eq_true (by first | (with_reducible assumption) | assumption)
                    have q372 : x5_1 < (l1.length : Int) := of_decide_eq_true (by first | (with_reducible assumption) | assumption)
                    obtain ⟨ad372, e372, hx372_0, hx372_1, hx372_2, hx372_3, hx372_4, hx372_5⟩ := at_T53 HR1.out x5_1 p372 q372
                    cases e372
                    replace p372 := eq_true p372
                    replace q372 := eq_true q372
                    have p373 : 0 ≤ (x5_1 : Int) := of_decide_eq_true (by first | (with_reducible assumption) | assumption)
                    have q373 : x5_1 < (l0.length : Int) := of_decide_eq_true (by first | (with_reducible assumption) | assumption)
                    obtain ⟨ad373, e373, hx373_0, hx373_1, hx373_2, hx373_3, hx373_4, hx373_5⟩ := at_T53 HR0.out x5_1 p373 q373
                    obtain rfl : ad371 = ad373 := (by injection e373)
                    replace p373 := eq_true p373
                    replace q373 := eq_true q373
                    have p374 : 0 ≤ (x5_1 : Int) := of_decide_eq_true (by first | (with_reducible assumption) | assumption)
                    have q374 : x5_1 < (l1.length : Int) := of_decide_eq_true (by first | (with_reducible assumption) | assumption)
                    obtain ⟨ad374, e374, hx374_0, hx374_1, hx374_2, hx374_3, hx374_4, hx374_5⟩ := at_T53 HR1.out x5_1 p374 q374
                    obtain rfl : ad372 = ad374 := (by injection e374)
                    replace p374 := eq_true p374
                    replace q374 := eq_true q374
                    have p375 : 0 ≤ (x5_1 : Int) := of_decide_eq_true (by first | (with_reducible assumption) | assumption)
                    have q375 : x5_1 < (l0.length : Int) := of_decide_eq_true (by first | (with_reducible assumption) | assumption)
                    obtain ⟨ad375, e375, hx375_0, hx375_1, hx375_2, hx375_3, hx375_4, hx375_5⟩ := at_T53 HR0.out x5_1 p375 q375
                    obtain rfl : ad371 = ad375 := (by injection e375)
                    replace p375 := eq_true p375
                    replace q375 := eq_true q375
                    have p376 : 0 ≤ (x5_1 : Int) := of_decide_eq_true (by first | (with_reducible assumption) | assumption)
                    have q376 : x5_1 < (l1.length : Int) := of_decide_eq_true (by first | (with_reducible assumption) | assumption)
                    obtain ⟨ad376, e376, hx376_0, hx376_1, hx376_2, hx376_3, hx376_4, hx376_5⟩ := at_T53 HR1.out x5_1 p376 q376
                    obtain rfl : ad372 = ad376 := (by injection e376)
                    replace p376 := eq_true p376
                    replace q376 := eq_true q376
                    go_wp2
                    repeat (go_quiet (fail); try go_wp2)
                    go_roundg k1
                    case measure => have := HK1.out; omega
                    case rel => exact ⟨(wrap64 (x5_1 + 1)), (by first | rfl | (simp; done) | (simp [*]; done)), H', ⟨by have := HK1.out; omega⟩, by repeat (first | exact Drawn0.refl _ | apply Drawn0.step)⟩
                · rw [if_neg c8] at H
                  have c8b0 : (((rd_T53 l0 x5_1).f1).toList == ((rd_T53 l1 x5_1).f1).toList) = false := beq_eq_false_iff_ne.mpr c8
                  have c8b1 : (((rd_T53 l0 x5_1).f1).toList != ((rd_T53 l1 x5_1).f1).toList) = true := bne_iff_ne.mpr c8
                  obtain rfl := Option.some.inj H
                  have p371 : 0 ≤ (x5_1 : Int) := of_decide_eq_true (by first | (with_reducible assumption) | assumption)
                  have q371 : x5_1 < (l0.length : Int) := of_decide_eq_true (by first | (with_reducible assumption) | assumption)
                  obtain ⟨ad371, e371, hx371_0, hx371_1, hx371_2, hx371_3, hx371_4, hx371_5⟩ := at_T53 HR0.out x5_1 p371 q371
                  cases e371
                  replace p371 := eq_true p371
                  replace q371 := eq_true q371
                  have p372 : 0 ≤ (x5_1 : Int) := of_decide_eq_true (by first | (with_reducible assumption) | assumption)
                  have q372 : x5_1 < (l1.length : Int) := of_decide_eq_true (by first | (with_reducible assumption) | assumption)
                  obtain ⟨ad372, e372, hx372_0, hx372_1, hx372_2, hx372_3, hx372_4, hx372_5⟩ := at_T53 HR1.out x5_1 p372 q372
                  cases e372
                  replace p372 := eq_true p372
                  replace q372 := eq_true q372
                  have p373 : 0 ≤ (x5_1 : Int) := of_decide_eq_true (by first | (with_reducible assumption) | assumption)
                  have q373 : x5_1 < (l0.length : Int) := of_decide_eq_true (by first | (with_reducible assumption) | assumption)
                  obtain ⟨ad373, e373, hx373_0, hx373_1, hx373_2, hx373_3, hx373_4, hx373_5⟩ := at_T53 HR0.out x5_1 p373 q373
                  obtain rfl : ad371 = ad373 := (by injection e373)
                  replace p373 := eq_true p373
                  replace q373 := eq_true q373
                  have p374 : 0 ≤ (x5_1 : Int) := of_decide_eq_true (by first | (with_reducible assumption) | assumption)
                  have q374 : x5_1 < (l1.length : Int) := of_decide_eq_true (by first | (with_reducible assumption) | assumption)
                  obtain ⟨ad374, e374, hx374_0, hx374_1, hx374_2, hx374_3, hx374_4, hx374_5⟩ := at_T53 HR1.out x5_1 p374 q374
                  obtain rfl : ad372 = ad374 := (by injection e374)
                  replace p374 := eq_true p374
                  replace q374 := eq_true q374
                  go_wp2
                  repeat (go_quiet (fail); try go_wp2)
                  go_ret
                  exact ⟨by first | rfl | (simp; done) | (simp [*]; done), by repeat (first | exact Drawn0.refl _ | apply Drawn0.step)⟩
              · rw [if_neg c7] at H
                have c7b0 : (((rd_T53 l0 x5_1).f0) == ((rd_T53 l1 x5_1).f0)) = false := beq_eq_false_iff_ne.mpr c7
                have c7b1 : (((rd_T53 l0 x5_1).f0) != ((rd_T53 l1 x5_1).f0)) = true := bne_iff_ne.mpr c7
                obtain rfl := Option.some.inj H
                have p371 : 0 ≤ (x5_1 : Int) := of_decide_eq_true (by first | (with_reducible assumption) | assumption)
                have q371 : x5_1 < (l0.length : Int) := of_decide_eq_true (by first | (with_reducible assumption) | assumption)
                obtain ⟨ad371, e371, hx371_0, hx371_1, hx371_2, hx371_3, hx371_4, hx371_5⟩ := at_T53 HR0.out x5_1 p371 q371
                cases e371
                replace p371 := eq_true p371
                replace q371 := eq_true q371
                have p372 : 0 ≤ (x5_1 : Int) := of_decide_eq_true (by first | (with_reducible assumption) | assumption)
                have q372 : x5_1 < (l1.length : Int) := of_decide_eq_true (by first | (with_reducible assumption) | assumption)
                obtain ⟨ad372, e372, hx372_0, hx372_1, hx372_2, hx372_3, hx372_4, hx372_5⟩ := at_T53 HR1.out x5_1 p372 q372
                cases e372
                replace p372 := eq_true p372
                replace q372 := eq_true q372
                go_wp2
                repeat (go_quiet (fail); try go_wp2)
                go_ret
                exact ⟨by first | rfl | (simp; done) | (simp [*]; done), by repeat (first | exact Drawn0.refl _ | apply Drawn0.step)⟩
            · rw [if_neg c6] at H
              exact absurd H (by simp)
          · rw [if_neg c5] at H
            exact absurd H (by simp)
        · rw [if_neg c4] at H
          have c4b0 : decide (x5_1 < (l0.length : Int)) = false := decide_eq_false c4
          clear c4
          obtain rfl := Option.some.inj H
          go_wp2
          repeat (go_quiet (fail); try go_wp2)
          go_ret
          exact ⟨by first | rfl | (simp; done) | (simp [*]; done), by repeat (first | exact Drawn0.refl _ | apply Drawn0.step)⟩
  · rw [if_neg c3] at H
    have c3b0 : ((l0.length : Int) == (l1.length : Int)) = false := beq_eq_false_iff_ne.mpr c3
    have c3b1 : ((l0.length : Int) != (l1.length : Int)) = true := bne_iff_ne.mpr c3
    have c3b2 : (l0.length == l1.length) = false := by first | simpa using c3 | (simp at c3 ⊢; omega)
    obtain rfl := Option.some.inj H
    go_enter Tryz.func38, Tryz.ntmps38
    go_wp2
    repeat (go_quiet (fail); try go_wp2)
    go_ret
    exact ⟨by first | rfl | (simp; done) | (simp [*]; done), by repeat (first | exact Drawn0.refl _ | apply Drawn0.step)⟩
end Go.Proofs.YtkkpjonfaflkmaaGreatDoor.T

namespace Go.Proofs.YtkkpjonfaflkmaaGreatDoor.T
set_option linter.unusedSimpArgs false
open Go.RowKit Go.Proofs.YtkkpjonfaflkmaaGreatDoorW.PrintWords Go.Proofs.YtkkpjonfaflkmaaGreatDoorW.PrintLast Go.Proofs.YtkkpjonfaflkmaaGreatDoorW.PrintMore
attribute [local go_sem] max2_int min2_int max_two min_two max_three min_three max_four min_four   -- for this text's walks alone
set_option linter.unusedVariables false
set_option linter.unusedSimpArgs false
def qanatlaw03_small.f (a0 : ByteArray) : Option (Bool) := some (decide ((a0.size : Int) ≤ 3000))
set_option maxHeartbeats 8000000 in
set_option maxRecDepth 100000 in
theorem qanatlaw03_small.calls (a0 : ByteArray) (r : Bool) (w : World) (h : qanatlaw03_small.f a0 = some r) :
    Calls Tryz.prog 39 #[.string a0] w fun e w' => e = .returned (.bool r) ∧ Drawn0 w w' := by
  have H : (some (decide ((a0.size : Int) ≤ 3000))) = some r := h
  clear h
  obtain rfl := Option.some.inj H
  go_enter Tryz.func39, Tryz.ntmps39
  go_wp2
  go_ret
  exact ⟨by first | rfl | (simp; done) | (simp [*]; done), by repeat (first | exact Drawn0.refl _ | apply Drawn0.step)⟩
end Go.Proofs.YtkkpjonfaflkmaaGreatDoor.T

namespace Go.Proofs.YtkkpjonfaflkmaaGreatDoor.T
set_option linter.unusedSimpArgs false
open Go.RowKit Go.Proofs.YtkkpjonfaflkmaaGreatDoorW.PrintWords Go.Proofs.YtkkpjonfaflkmaaGreatDoorW.PrintLast Go.Proofs.YtkkpjonfaflkmaaGreatDoorW.PrintMore
attribute [local go_sem] max2_int min2_int max_two min_two max_three min_three max_four min_four   -- for this text's walks alone
set_option linter.unusedVariables false
set_option linter.unusedSimpArgs false
def qanatlaw03_feeds.l0 : Nat → ByteArray → Int → Int → Option (Int)
  | 0, _, _, _ => none
  | k + 1, x0, x3, x4 => if x4 < (x0.size : Int) then (if 0 ≤ x4 then (if (bt x0 x4) = 10 then (qanatlaw03_feeds.l0 k x0 (wrap64 (x3 + 1)) (wrap64 (x4 + 1))) else (qanatlaw03_feeds.l0 k x0 x3 (wrap64 (x4 + 1)))) else (none)) else (some x3)
def qanatlaw03_feeds.f (k : Nat) (a0 : ByteArray) : Option (Int) := qanatlaw03_feeds.l0 k a0 0 0
theorem qanatlaw03_feeds.mono_l : ∀ k, (∀ y0 y1 y2, LeO (qanatlaw03_feeds.l0 k y0 y1 y2) (qanatlaw03_feeds.l0 (k + 1) y0 y1 y2))
  | 0 => fun _ _ _ r h => by simp [qanatlaw03_feeds.l0] at h
  | k + 1 => by
    have ih0 := qanatlaw03_feeds.mono_l k
    · intro y0 y1 y2
      unfold qanatlaw03_feeds.l0
      repeat' first
      | (with_reducible exact ih0 _ _ _)
      | (with_reducible exact LeO.refl _)
      | (with_reducible exact LeO.none _)
      | (with_reducible refine LeO.ite ?_ ?_)
      | (with_reducible refine LeO.bind ?_ (fun _ => ?_))
      | exact ih0 _ _ _
      | exact LeO.none _
      | refine LeO.ite ?_ ?_
      | refine LeO.bind ?_ (fun _ => ?_)
theorem qanatlaw03_feeds.mono : ∀ a0 k, LeO (qanatlaw03_feeds.f k a0) (qanatlaw03_feeds.f (k + 1) a0) := by
  intro a0 k
  have ih0 := qanatlaw03_feeds.mono_l k
  unfold qanatlaw03_feeds.f
  repeat' first
      | (with_reducible exact ih0 _ _ _)
      | (with_reducible exact LeO.refl _)
      | (with_reducible exact LeO.none _)
      | (with_reducible refine LeO.ite ?_ ?_)
      | (with_reducible refine LeO.bind ?_ (fun _ => ?_))
      | exact ih0 _ _ _
      | exact LeO.none _
      | refine LeO.ite ?_ ?_
      | refine LeO.bind ?_ (fun _ => ?_)
set_option maxHeartbeats 8000000 in
set_option maxRecDepth 100000 in
theorem qanatlaw03_feeds.calls (k : Nat) (a0 : ByteArray) (r : Int) (w : World) (h : qanatlaw03_feeds.f k a0 = some r) :
    Calls Tryz.prog 40 #[.string a0] w fun e w' => e = .returned (.int .i64 r) ∧ Drawn0 w w' := by
  have H : (qanatlaw03_feeds.l0 k a0 0 0) = some r := h
  clear h
  have H' := Aside0.mk H
  clear H
  go_enter Tryz.func40, Tryz.ntmps40
  go_wp2
  go_loopg [3, 4] k (fun kq v3 v4 w' => ∃ (x3_1 : Int) (x4_1 : Int), v3 = .int .i64 x3_1 ∧ v4 = .int .i64 x4_1 ∧ Aside0 (qanatlaw03_feeds.l0 kq a0 x3_1 x4_1 = some r) ∧ Aside0 (kq ≤ k) ∧ Drawn0 w w')
  case atStart => exact ⟨(0), (0), (by first | rfl | (simp; done) | (simp [*]; done)), (by first | rfl | (simp; done) | (simp [*]; done)), H', ⟨Nat.le_refl _⟩, by repeat (first | exact Drawn0.refl _ | apply Drawn0.step)⟩
  case round =>
    clear H'
    obtain ⟨x3_1, x4_1, rfl, rfl, HA, HK1, ⟨m1, rfl⟩⟩ := hrel
    cases gk with
    | zero => exact absurd HA.out (by simp [qanatlaw03_feeds.l0])
    | succ k1 =>
      have H := HA.out
      clear HA
      simp only [qanatlaw03_feeds.l0] at H
      by_cases c2 : x4_1 < (a0.size : Int)
      · rw [if_pos c2] at H
        have c2b0 : decide (x4_1 < (a0.size : Int)) = true := decide_eq_true c2
        clear c2
        by_cases c3 : 0 ≤ x4_1
        · rw [if_pos c3] at H
          have c3b0 : decide (0 ≤ x4_1) = true := decide_eq_true c3
          clear c3
          by_cases c5 : (bt a0 x4_1) = 10
          · rw [if_pos c5] at H
            have c5b0 : ((bt a0 x4_1) == 10) = true := beq_iff_eq.mpr c5
            have c5b1 : ((bt a0 x4_1) != 10) = false := bne_eq_false_iff_eq.mpr c5
            clear c5
            have H' := Aside0.mk H
            clear H
            have p4 : 0 ≤ (x4_1 : Int) := of_decide_eq_true (by first | (with_reducible assumption) | assumption)
            have q4 : x4_1 < (a0.size : Int) := of_decide_eq_true (by first | (with_reducible assumption) | assumption)
            have hx4 := bt_at a0 x4_1
            replace p4 := eq_true p4
            replace q4 := eq_true q4
            go_wp2
            go_roundg k1
            case measure => have := HK1.out; omega
            case rel => exact ⟨(wrap64 (x3_1 + 1)), (wrap64 (x4_1 + 1)), (by first | rfl | (simp; done) | (simp [*]; done)), (by first | rfl | (simp; done) | (simp [*]; done)), H', ⟨by have := HK1.out; omega⟩, by repeat (first | exact Drawn0.refl _ | apply Drawn0.step)⟩
          · rw [if_neg c5] at H
            have c5b0 : ((bt a0 x4_1) == 10) = false := beq_eq_false_iff_ne.mpr c5
            have c5b1 : ((bt a0 x4_1) != 10) = true := bne_iff_ne.mpr c5
            have H' := Aside0.mk H
            clear H
            have p4 : 0 ≤ (x4_1 : Int) := of_decide_eq_true (by first | (with_reducible assumption) | assumption)
            have q4 : x4_1 < (a0.size : Int) := of_decide_eq_true (by first | (with_reducible assumption) | assumption)
            have hx4 := bt_at a0 x4_1
            replace p4 := eq_true p4
            replace q4 := eq_true q4
            go_wp2
            go_roundg k1
            case measure => have := HK1.out; omega
            case rel => exact ⟨(x3_1), (wrap64 (x4_1 + 1)), (by first | rfl | (simp; done) | (simp [*]; done)), (by first | rfl | (simp; done) | (simp [*]; done)), H', ⟨by have := HK1.out; omega⟩, by repeat (first | exact Drawn0.refl _ | apply Drawn0.step)⟩
        · rw [if_neg c3] at H
          exact absurd H (by simp)
      · rw [if_neg c2] at H
        have c2b0 : decide (x4_1 < (a0.size : Int)) = false := decide_eq_false c2
        clear c2
        obtain rfl := Option.some.inj H
        go_wp2
        go_ret
        exact ⟨by first | rfl | (simp; done) | (simp [*]; done), by repeat (first | exact Drawn0.refl _ | apply Drawn0.step)⟩
end Go.Proofs.YtkkpjonfaflkmaaGreatDoor.T

namespace Go.Proofs.YtkkpjonfaflkmaaGreatDoor.T
set_option linter.unusedSimpArgs false
open Go.RowKit Go.Proofs.YtkkpjonfaflkmaaGreatDoorW.PrintWords Go.Proofs.YtkkpjonfaflkmaaGreatDoorW.PrintLast Go.Proofs.YtkkpjonfaflkmaaGreatDoorW.PrintMore
attribute [local go_sem] max2_int min2_int max_two min_two max_three min_three max_four min_four   -- for this text's walks alone
set_option linter.unusedVariables false
set_option linter.unusedSimpArgs false
theorem eqA53 (d : Nat) (w : World) (x0 y0 : Int) (x1 y1 : ByteArray) (x2 y2 : Bool) (x3 y3 : Int) (x4 y4 : Int) (x5 y5 : Int) :
    (Op.equalIn (d + 2) 53 (.agg #[.int .i64 x0, .string x1, .bool x2, .int .i64 x3, .int .i64 x4, .int .i64 x5]) (.agg #[.int .i64 y0, .string y1, .bool y2, .int .i64 y3, .int .i64 y4, .int .i64 y5])).run Tryz.prog w = .ok (x0 == y0 && (x1.toList == y1.toList && (x2 == y2 && (x3 == y3 && (x4 == y4 && (x5 == y5)))))) w := by
  refine eqA_of Tryz.underlying53 (by kernel_rfl) ?_
  refine eqf_cons (by rfl) (by go_simp; rfl) (by go_simp; rfl) (by go_simp) ?_
  refine eqf_cons (by rfl) (by go_simp; rfl) (by go_simp; rfl) (by go_simp) ?_
  refine eqf_cons (by rfl) (by go_simp; rfl) (by go_simp; rfl) (by go_simp) ?_
  refine eqf_cons (by rfl) (by go_simp; rfl) (by go_simp; rfl) (by go_simp) ?_
  refine eqf_cons (by rfl) (by go_simp; rfl) (by go_simp; rfl) (by go_simp) ?_
  exact eqf_last (by rfl) (by go_simp; rfl) (by go_simp; rfl) (by go_simp)
end Go.Proofs.YtkkpjonfaflkmaaGreatDoor.T

namespace Go.Proofs.YtkkpjonfaflkmaaGreatDoor.S
set_option linter.unusedSimpArgs false
set_option linter.unusedVariables false
def sym (c : Int) : Bool := (decide (97 ≤ c) && decide (c ≤ 122)) || (decide (65 ≤ c) && decide (c ≤ 90)) || (decide (48 ≤ c) && decide (c ≤ 57)) || decide (c = 46) || decide (c = 95) || decide (c = 33) || decide (c = 63)
def dig (c : Int) : Bool := decide (48 ≤ c) && decide (c ≤ 57)
def prn (c : Int) : Bool := decide (32 ≤ c) && decide (c ≤ 126)
def up (c : Int) : Int := if 97 ≤ c ∧ c ≤ 122 then c - 32 else c
inductive CR where
  | eof
  | done (at_ line bad : Nat)
deriving DecidableEq
def cmt : List Int → (i deep line bad : Nat) → CR
  | [], _, _, _, _ => .eof
  | [_], _, _, _, _ => .eof
  | c :: d :: t, i, deep, line, bad =>
    if c = 47 ∧ d = 42 then cmt t (i + 2) (deep + 1) line bad
    else if c = 42 ∧ d = 47 then (if deep = 1 then .done (i + 2) line bad else cmt t (i + 2) (deep - 1) line bad)
    else cmt (d :: t) (i + 1) deep (if c = 10 then line + 1 else line) (if c ≠ 10 ∧ prn c = false ∧ bad = 0 then line else bad)
def lit (q : Int) : List Int → Nat → List Int → Option (List Int × Nat)
  | [], _, _ => none
  | [c], i, acc => if c = 10 then none else if c = q then some (acc, i) else none
  | c :: d :: t, i, acc =>
    if c = 10 then none
    else if c = q then (if d = q then lit q t (i + 2) (acc ++ [q]) else some (acc, i))
    else lit q (d :: t) (i + 1) (acc ++ [c])
def hexv (c : Int) : Int := if 48 ≤ c ∧ c ≤ 57 then c - 48 else if 97 ≤ c ∧ c ≤ 102 then c - 87 else if 65 ≤ c ∧ c ≤ 70 then c - 55 else -1
def decG (base : Int) : List Int → Int → Option Int
  | [], n => some n
  | c :: t, n => if hexv c < 0 ∨ base ≤ hexv c then none else decG base t (n * base + hexv c)
def decK (base : Int) (w : Nat) : Nat → List Int → Option (List Int)
  | 0, _ => some []
  | k + 1, xs => match decG base (xs.take w) 0 with
    | none => none
    | some n => if prn n = true then (decK base w k (xs.drop w)).map (n :: ·) else none
def decode (base : Int) (w : Nat) (xs : List Int) : Option (List Int) := if xs.length % w ≠ 0 then none else decK base w (xs.length / w) xs
inductive TR where
  | err (code : Nat)
  | ok (text : List Int) (n : Nat)
deriving DecidableEq
def sfxOf (c : Int) : Nat := if c = 88 ∨ c = 120 then 4 else if c = 66 ∨ c = 98 then 1 else 0
def sfx : List Int → Nat
  | [] => 0
  | [c] => sfxOf c
  | c :: d :: _ => if sym d = true then 0 else sfxOf c
def litEnd (v : List Int) (n : Nat) : TR := if 1000 < v.length then .err 30 else .ok v n
def litDec (v : List Int) (sx : Nat) : Option (List Int) := if sx = 4 then decode 16 2 v else decode 2 8 v
def litTok : List Int → TR
  | [] => .err 6
  | q :: t => match lit q t 1 [] with
    | none => .err 6
    | some (v, i) =>
      if v.all prn = true then
        (if sfx ((q :: t).drop (i + 1)) = 0 then litEnd v (i + 1) else match litDec v (sfx ((q :: t).drop (i + 1))) with
          | none => .err 15
          | some u => litEnd u (i + 2))
      else .err 13
def run (p : Int → Bool) : List Int → Nat
  | [] => 0
  | c :: t => if p c = true then run p t + 1 else 0
def mant (xs : List Int) : Bool :=
  match xs.getLast? with
  | none => false
  | some e => (decide (e = 69) || decide (e = 101)) && xs.dropLast.all (fun c => dig c || decide (c = 46)) && xs.dropLast.any dig && decide (xs.dropLast.count 46 ≤ 1)
def expo : List Int → Bool
  | c :: d :: _ => (decide (c = 43) || decide (c = 45)) && dig d
  | _ => false
def symLen (xs : List Int) : Nat := if mant (xs.take (run sym xs)) = true ∧ expo (xs.drop (run sym xs)) = true then run sym xs + 1 + run dig (xs.drop (run sym xs + 1)) else run sym xs
def symTok (xs : List Int) : TR := if 40 < symLen xs then .err 30 else .ok ((xs.take (symLen xs)).map up) (symLen xs)
def signs : List (List Int) := [[92, 61, 61], [92, 62, 62], [92, 60, 60], [62, 62, 61], [60, 60, 61], [42, 42], [47, 47], [124, 124], [38, 38], [61, 61], [92, 61], [92, 62], [92, 60], [62, 61], [60, 61], [62, 62], [60, 60], [62, 60], [60, 62],
  [43], [45], [42], [47], [37], [124], [38], [61], [62], [60], [92], [40], [41], [44], [58], [59]]
def signTok (xs : List Int) : TR := match signs.find? (fun x => x.isPrefixOf xs) with
  | none => .err 13
  | some x => .ok x x.length
inductive Step where
  | fin
  | line
  | blank
  | cmt (n dl : Nat)
  | tok (kind : Nat) (text : List Int) (n : Nat)
  | err (code dl : Nat)
deriving DecidableEq
def tokStep (k : Nat) : TR → Step
  | .err c => .err c 0
  | .ok t n => .tok k t n
def cmtStep : CR → Step
  | .eof => .err 6 0
  | .done i l bad => if bad = 0 then .cmt i (l - 1) else .err 13 (bad - 1)
def st2 (a b : Int) : List Int → Bool
  | c :: d :: _ => decide (c = a) && decide (d = b)
  | _ => false
def starts2 : List Int → Bool
  | c :: d :: _ => decide (c = 47) && decide (d = 42)
  | _ => false
theorem starts2_eq (xs : List Int) : starts2 xs = st2 47 42 xs := by rcases xs with _ | ⟨_, _ | ⟨_, _⟩⟩ <;> rfl
def step (xs : List Int) : Step := match xs with
  | [] => .fin
  | c :: t =>
    if c = 10 then .line
    else if c = 32 then .blank
    else if starts2 (c :: t) = true then cmtStep (cmt (c :: t) 0 0 1 0)
    else if c = 39 ∨ c = 34 then tokStep 2 (litTok (c :: t))
    else if sym c = true then tokStep 1 (symTok (c :: t))
    else tokStep 3 (signTok (c :: t))
structure Tk where
  kind : Nat
  text : List Int
  gap : Bool
  line : Nat
  at_ : Nat
  «to» : Nat
deriving DecidableEq
def comma (l : List Tk) : Bool := match l.getLast? with
  | none => false
  | some t => decide (t.kind = 3) && decide (t.text = [44])
def label : List Tk → Bool
  | [a, b] => decide (a.kind = 1) && decide (b.kind = 3) && decide (b.text = [58])
  | _ => false
def endTk (i j line : Nat) : Tk := ⟨4, [], false, line, i, j⟩
def emit (cur : List Tk) (i j line : Nat) : List (List Tk) := if cur = [] then [] else [cur ++ [endTk i j line]]
def cut (cur : List Tk) : List Tk := if comma cur = true then cur.dropLast else cur
structure Out where
  cl : List (List Tk)
  err : Option (Nat × Nat)
deriving DecidableEq
def Out.pre (l : List (List Tk)) (o : Out) : Out := ⟨l ++ o.cl, o.err⟩
def go : Nat → List Int → (i line : Nat) → List Tk → Bool → Out
  | 0, _, _, _, _, _ => ⟨[], none⟩
  | f + 1, xs, i, line, cur, gap => match step xs with
    | .fin => ⟨emit (cut cur) i i line, none⟩
    | .line => if comma cur = true then go f (xs.drop 1) (i + 1) (line + 1) cur.dropLast true else (go f (xs.drop 1) (i + 1) (line + 1) [] false).pre (emit cur i (i + 1) line)
    | .blank => go f (xs.drop 1) (i + 1) line cur true
    | .cmt n dl => go f (xs.drop n) (i + n) (line + dl) cur gap
    | .tok k t n =>
      if k = 3 ∧ t = [59] then (go f (xs.drop n) (i + n) line [] false).pre (emit cur i (i + n) line)
      else if label (cur ++ [⟨k, t, gap && !decide (cur = []), line, i, i + n⟩]) = true then
        (go f (xs.drop n) (i + n) line [] false).pre (emit (cur ++ [⟨k, t, gap && !decide (cur = []), line, i, i + n⟩]) (i + n) (i + n) line)
      else go f (xs.drop n) (i + n) line (cur ++ [⟨k, t, gap && !decide (cur = []), line, i, i + n⟩]) false
    | .err code dl => ⟨if cur = [] then [] else [cur], some (code, line + dl)⟩
def scan (xs : List Int) : Out := go (xs.length + 1) xs 0 1 [] false
def tokens (xs : List Int) : List Tk := (scan xs).cl.flatten
end Go.Proofs.YtkkpjonfaflkmaaGreatDoor.S

namespace Go.Proofs.YtkkpjonfaflkmaaGreatDoor.T
set_option linter.unusedSimpArgs false
set_option linter.unusedVariables false
open Go.RowKit Go.Proofs.YtkkpjonfaflkmaaGreatDoorW.PrintWords Go.Proofs.YtkkpjonfaflkmaaGreatDoorW.PrintLast Go.Proofs.YtkkpjonfaflkmaaGreatDoorW.PrintMore
def Buf (g : Nat) (xs : List Int) (W : World) : Prop :=
  ∃ (c : Array Value) (e lo hi : Nat), W.heap[g]? = some (.cells c e (lo, hi)) ∧ (xs.length ≤ lo ∨ hi = 0) ∧ ∀ j, j < xs.length → c[j]? = some (.int .u8 (xs.getD j 0))
theorem Buf.new (W : World) (s : ByteArray) : Buf W.heap.size (bytesOf s) (Lib.bytesWorld W 5 s) := by
  refine ⟨_, _, _, _, Lib.bytesWorld_at_new W 5 s, .inl ?_, fun j hj => ?_⟩
  · rw [bytesOf_length]
    simp [Lib.bytesCells]
  · rw [bytesOf_length] at hj
    have h := Lib.bytesWorld_cell W 5 s j hj
    simp only [World.cell?, Lib.bytesWorld_at_new] at h
    have h' : j < s.data.toList.length := by rw [data_length]; exact hj
    rw [show (Lib.bytesCells W 5 s)[j]? = some (.int .u8 (s.data.toList.getD j 0).toNat) from h]
    simp [bytesOf, List.getD_eq_getElem?_getD, List.getElem?_eq_getElem h']
theorem Buf.cell {g : Nat} {xs : List Int} {W : World} (h : Buf g xs W) (j : Nat) (hj : j < xs.length) : W.cell? ⟨g, j, none⟩ = some (.int .u8 (xs.getD j 0)) := by
  obtain ⟨c, e, lo, hi, hg, hl, hc⟩ := h
  simp only [World.cell?, hg]
  exact hc j hj
theorem Buf.free {g : Nat} {xs : List Int} {W : World} (h : Buf g xs W) (j : Nat) (hj : j < xs.length) : W.frozen? ⟨g, j, none⟩ = false := by
  obtain ⟨c, e, lo, hi, hg, hl, hc⟩ := h
  simp only [World.frozen?, hg]
  rcases hl with hl | rfl
  · have : ¬ lo ≤ j := by omega
    simp [this]
  · simp
theorem Buf.set {g : Nat} {xs : List Int} {W : World} (h : Buf g xs W) (j : Nat) (x : Int) (hj : j < xs.length) : Buf g (xs.set j x) (W.setCell ⟨g, j, none⟩ (.int .u8 x)) := by
  obtain ⟨c, e, lo, hi, hg, hl, hc⟩ := h
  refine ⟨c.setIfInBounds j (.int .u8 x), e, lo, hi, Lib.heap_setCell_same hg _, by rw [List.length_set]; exact hl, fun k hk => ?_⟩
  rw [List.length_set] at hk
  rw [Array.getElem?_setIfInBounds]
  by_cases e1 : j = k
  · subst e1
    have h1 : j < c.size := (Array.getElem?_eq_some_iff.1 (hc j hj)).1
    simp [h1, List.getD_eq_getElem?_getD, hj]
  · simp only [e1, if_false]
    rw [hc k hk]
    simp [List.getD_eq_getElem?_getD, e1]
theorem Buf.reads {g : Nat} {xs : List Int} {W : World} (h : Buf g xs W) (hl : xs.length ≤ 9223372036854775807) : ReadsInt W .u8 (some ⟨g, 0, none⟩) xs.length xs :=
  ⟨rfl, hl, fun _ => ⟨_, rfl, fun j hj => by rw [add_plain]; exact h.cell j hj⟩⟩
theorem Buf.drewN {g : Nat} {xs : List Int} {W : World} (h : Buf g xs W) (n : Nat) : Buf g xs (W.drewN n) := h
theorem Buf.drawn {g : Nat} {xs : List Int} {W W' : World} (h : Buf g xs W) (hd : Drawn0 W W') : Buf g xs W' := by
  obtain ⟨n, rfl⟩ := hd.out
  exact h
theorem Buf.blk {g : Nat} {xs : List Int} {W W' : World} (h : Buf g xs W) (e : W'.heap[g]? = W.heap[g]?) : Buf g xs W' := by
  obtain ⟨c, t, lo, hi, hg, hl, hc⟩ := h
  exact ⟨c, t, lo, hi, e.trans hg, hl, hc⟩
theorem bt_getD (s : ByteArray) (k : Nat) (hk : k < s.size) : bt s (k : Int) = (bytesOf s).getD k 0 := by
  have h' : k < s.data.toList.length := by rw [data_length]; exact hk
  simp [bt, hk, bytesOf, List.getD_eq_getElem?_getD, List.getElem?_eq_getElem h']
  rfl
theorem bo_range (s : ByteArray) (x : Int) (h : x ∈ bytesOf s) : 0 ≤ x ∧ x < 256 := by
  simp only [bytesOf, List.mem_map] at h
  obtain ⟨b, _, rfl⟩ := h
  have := b.toNat_lt
  omega
def part_map (f : Int → Int) (k : Nat) (xs : List Int) : List Int := (xs.take k).map f ++ xs.drop k
theorem part_map_length (f : Int → Int) (k : Nat) (xs : List Int) : (part_map f k xs).length = xs.length := by
  simp [part_map]; omega
theorem part_map_zero (f : Int → Int) (xs : List Int) : part_map f 0 xs = xs := by simp [part_map]
theorem part_map_all (f : Int → Int) (xs : List Int) : part_map f xs.length xs = xs.map f := by simp [part_map]
theorem part_map_at (f : Int → Int) (k : Nat) (xs : List Int) (hk : k < xs.length) : (part_map f k xs).getD k 0 = xs.getD k 0 := by
  have h1 : ((xs.take k).map f).length = k := by simp; omega
  simp only [part_map, List.getD_eq_getElem?_getD]
  rw [List.getElem?_append_right (by omega), h1]
  simp
theorem part_map_set (f : Int → Int) (k : Nat) (xs : List Int) (hk : k < xs.length) : (part_map f k xs).set k (f (xs.getD k 0)) = part_map f (k + 1) xs := by
  have h1 : ((xs.take k).map f).length = k := by simp; omega
  unfold part_map
  have h2 : xs.take (k + 1) = xs.take k ++ [xs[k]] := by rw [List.take_add_one, List.getElem?_eq_getElem hk]; rfl
  rw [List.set_append_right _ _ (by omega), h1, Nat.sub_self, List.drop_eq_getElem_cons hk, List.set_cons_zero, h2, List.map_append, List.append_assoc]
  simp [List.getD_eq_getElem?_getD, List.getElem?_eq_getElem hk]
theorem getD_mem (xs : List Int) (k : Nat) (hk : k < xs.length) : xs.getD k 0 ∈ xs := by
  have h1 : xs.getD k 0 = xs[k] := by simp [List.getD_eq_getElem?_getD, List.getElem?_eq_getElem hk]
  rw [h1]; exact List.getElem_mem hk
end Go.Proofs.YtkkpjonfaflkmaaGreatDoor.T

namespace Go.Proofs.YtkkpjonfaflkmaaGreatDoor.T
set_option linter.unusedSimpArgs false
set_option linter.unusedVariables false
open Go.RowKit Go.Proofs.YtkkpjonfaflkmaaGreatDoorW.PrintWords Go.Proofs.YtkkpjonfaflkmaaGreatDoorW.PrintLast Go.Proofs.YtkkpjonfaflkmaaGreatDoorW.PrintMore
def Sc (s : Nat) (src : ByteArray) (i line : Int) (m : Value) (w : World) : Prop := w.heap[s]? = some (.cells #[.string src, .int .i64 i, .int .i64 line, m] 93 (0, 0))
theorem Sc.c0 {s : Nat} {src : ByteArray} {i line : Int} {m : Value} {w : World} (h : Sc s src i line m w) : w.cell? ⟨s, 0, none⟩ = some (.string src) := (blk_cell h 0).trans rfl
theorem Sc.c1 {s : Nat} {src : ByteArray} {i line : Int} {m : Value} {w : World} (h : Sc s src i line m w) : w.cell? ⟨s, 1, none⟩ = some (.int .i64 i) := (blk_cell h 1).trans rfl
theorem Sc.c2 {s : Nat} {src : ByteArray} {i line : Int} {m : Value} {w : World} (h : Sc s src i line m w) : w.cell? ⟨s, 2, none⟩ = some (.int .i64 line) := (blk_cell h 2).trans rfl
theorem Sc.c3 {s : Nat} {src : ByteArray} {i line : Int} {m : Value} {w : World} (h : Sc s src i line m w) : w.cell? ⟨s, 3, none⟩ = some m := (blk_cell h 3).trans rfl
theorem Sc.fr {s : Nat} {src : ByteArray} {i line : Int} {m : Value} {w : World} (h : Sc s src i line m w) (j : Nat) : w.frozen? ⟨s, j, none⟩ = false := blk_frozen h j
theorem Sc.lt {s : Nat} {src : ByteArray} {i line : Int} {m : Value} {w : World} (h : Sc s src i line m w) : s < w.heap.size := (Array.getElem?_eq_some_iff.1 h).1
theorem Sc.set1 {s : Nat} {src : ByteArray} {i line : Int} {m : Value} {w : World} (h : Sc s src i line m w) (x : Int) : Sc s src x line m (w.setCell ⟨s, 1, none⟩ (.int .i64 x)) := blk_put (cs := #[.string src, .int .i64 i, .int .i64 line, m]) h 1 _ rfl
theorem Sc.set2 {s : Nat} {src : ByteArray} {i line : Int} {m : Value} {w : World} (h : Sc s src i line m w) (x : Int) : Sc s src i x m (w.setCell ⟨s, 2, none⟩ (.int .i64 x)) := blk_put (cs := #[.string src, .int .i64 i, .int .i64 line, m]) h 2 _ rfl
theorem Sc.drawn {s : Nat} {src : ByteArray} {i line : Int} {m : Value} {w w' : World} (h : Sc s src i line m w) (hd : Drawn0 w w') : Sc s src i line m w' := by obtain ⟨n, rfl⟩ := hd.out; exact h
theorem Sc.below {s : Nat} {src : ByteArray} {i line : Int} {m : Value} {w w' : World} (h : Sc s src i line m w) (hb : Below w.heap.size w w') : Sc s src i line m w' := (hb.block _ h.lt).trans h
def fl (code line : Int) : Value := .iface 76 (.agg #[.int .i64 code, .int .i64 line])
def Fails (code line : Int) : Ending := .panicked [{ v := fl code line, recovered := false }]
theorem scan_fail.calls (p : Value) (c l : Int) (w : World) : Calls Tryz.prog 97 #[p, .int .i64 c, .int .i64 l] w fun e w' => e = Fails c l ∧ w' = w := by
  unfold Fails fl
  go_enter Tryz.func97, Tryz.ntmps97
  go_wp2
  exact ⟨rfl, rfl, rfl⟩
theorem drop_at (L : List Int) (k : Nat) (hk : k < L.length) : L.drop k = L.getD k 0 :: L.drop (k + 1) := by
  rw [List.drop_eq_getElem_cons hk]
  simp [List.getD_eq_getElem?_getD, List.getElem?_eq_getElem hk]
def Tells (g : Nat) (p : Int → Bool) : Prop := ∀ (W : World) (x : Int), 0 ≤ x → x < 256 → Calls Tryz.prog g #[.int .u8 x] W fun e W' => e = .returned (.bool (p x)) ∧ Drawn0 W W'
set_option maxHeartbeats 2000000 in
theorem scan_run.calls (s : Nat) (src : ByteArray) (i line : Int) (m : Value) (frm : Nat) (g : Nat) (p : Int → Bool) (w : World) (hsz : src.size ≤ 1000000) (hf : frm ≤ src.size)
    (eg : ∀ args w, (callFunc g args).run Tryz.prog w = .ok (.enter g args) w) (hp : Tells g p) (h : Sc s src i line m w) :
    Calls Tryz.prog 94 #[.pointer (some ⟨s, 0, none⟩), .int .i64 frm, .func (.func g) #[] #[]] w fun e w' => e = .returned (.int .i64 ((frm + S.run p ((bytesOf src).drop frm) : Nat) : Int)) ∧ Drawn0 w w' := by
  have HP := Aside0.mk hp
  have HS := Aside0.mk h
  clear hp h
  obtain ⟨n, hn⟩ : ∃ n, src.size = n := ⟨_, rfl⟩
  obtain ⟨L, hL⟩ : ∃ L, bytesOf src = L := ⟨_, rfl⟩
  have HN : Aside0 (L.length = n) := ⟨by rw [← hL, bytesOf_length]; exact hn⟩
  rw [hL]
  obtain ⟨R, hR⟩ : ∃ R : Nat, frm + S.run p (L.drop frm) = R := ⟨_, rfl⟩
  rw [hR]
  have HR := Aside0.mk hR
  have HL := Aside0.mk hL
  clear hR hL
  rw [hn] at hsz hf
  go_enter Tryz.func94, Tryz.ntmps94
  go_wp2
  go_loopg [1] n (fun gg s1 wr => ∃ kk : Nat, kk ≤ n ∧ n - kk ≤ gg ∧ s1 = .int .i64 kk ∧ Aside0 (Drawn0 w wr) ∧ Aside0 (kk + S.run p (L.drop kk) = R))
  case atStart => exact ⟨frm, hf, by omega, rfl, ⟨.refl _⟩, HR⟩
  case round =>
    obtain ⟨kk, hkk, hg, rfl, HB, HA⟩ := hrel
    have c0 := (HS.out.drawn HB.out).c0
    by_cases hlt : kk < n
    · have hltz : (kk : Int) < (n : Int) := by omega
      have hl : kk < src.size := by omega
      have hx : ((src[kk]'hl).toNat : Int) = bt src (kk : Int) := by simp [bt, hl]
      have hr := bt_range src (kk : Int)
      have hy0 : bt src (kk : Int) = L.getD kk 0 := by rw [← HL.out]; exact bt_getD src kk hl
      have HD := Aside0.mk (drop_at L kk (by have := HN.out; omega))
      rw [← hy0] at HD
      generalize bt src (kk : Int) = y at hx hr HD
      have hcall := HP.out wr y hr.1 (by omega)
      clear hr hy0
      cases hq : p y with
      | true =>
        rw [hq] at hcall
        have HC := Lib.hid hcall
        have HQ := Aside0.mk hq
        clear hcall hq
        go_wp2_with (go_at_fn g; refine HC.out.mono ?_; rintro e w' ⟨rfl, ⟨⟨q, rfl⟩⟩⟩)
        go_roundg (n - (kk + 1))
        case measure => omega
        case rel =>
          refine ⟨kk + 1, by omega, by omega, by go_num, ⟨HB.out.step q⟩, ⟨?_⟩⟩
          have := HA.out
          rw [HD.out] at this
          simp only [S.run, HQ.out, if_true] at this
          omega
      | false =>
        rw [hq] at hcall
        have HC := Lib.hid hcall
        have HQ := Aside0.mk hq
        clear hcall hq
        go_wp2_with (go_at_fn g; refine HC.out.mono ?_; rintro e w' ⟨rfl, ⟨⟨q, rfl⟩⟩⟩)
        go_ret
        refine ⟨?_, HB.out.step q⟩
        have := HA.out
        rw [HD.out] at this
        simp only [S.run, HQ.out, Bool.false_eq_true, if_false] at this
        have e : kk = R := by omega
        rw [e]; rfl
    · have hltz : ¬ (kk : Int) < (n : Int) := by omega
      have hkn : kk = n := by omega
      subst hkn
      go_wp2
      go_ret
      refine ⟨?_, HB.out⟩
      have := HA.out
      rw [List.drop_eq_nil_of_le (by have := HN.out; omega)] at this
      simp only [S.run] at this
      have e : kk = R := by omega
      rw [e]; rfl
end Go.Proofs.YtkkpjonfaflkmaaGreatDoor.T

namespace Go.Proofs.YtkkpjonfaflkmaaGreatDoor.T
set_option linter.unusedSimpArgs false
set_option linter.unusedVariables false
open Go.RowKit Go.Proofs.YtkkpjonfaflkmaaGreatDoorW.PrintWords Go.Proofs.YtkkpjonfaflkmaaGreatDoorW.PrintLast Go.Proofs.YtkkpjonfaflkmaaGreatDoorW.PrintMore
structure But (A : Nat → Prop) (w w' : World) : Prop where
  os : w'.os = w.os
  tape : w'.tape = w.tape
  output : w'.output = w.output
  size : w.heap.size ≤ w'.heap.size
  block : ∀ k, k < w.heap.size → ¬ A k → w'.heap[k]? = w.heap[k]?
theorem But.refl (A : Nat → Prop) (w : World) : But A w w := ⟨rfl, rfl, rfl, Nat.le_refl _, fun _ _ _ => rfl⟩
theorem But.trans {A B C : Nat → Prop} {w w' w'' : World} (h : But A w w') (h' : But B w' w'') (hA : ∀ k, k < w.heap.size → A k → C k) (hB : ∀ k, k < w.heap.size → B k → C k) : But C w w'' :=
  ⟨h'.os.trans h.os, h'.tape.trans h.tape, h'.output.trans h.output, Nat.le_trans h.size h'.size, fun k hk hc => (h'.block k (Nat.lt_of_lt_of_le hk h.size) (fun e => hc (hB k hk e))).trans (h.block k hk (fun e => hc (hA k hk e)))⟩
theorem But.trans' {A : Nat → Prop} {w w' w'' : World} (h : But A w w') (h' : But A w' w'') : But A w w'' := h.trans h' (fun _ _ e => e) (fun _ _ e => e)
theorem But.mono {A B : Nat → Prop} {w w' : World} (h : But A w w') (hA : ∀ k, k < w.heap.size → A k → B k) : But B w w' := ⟨h.os, h.tape, h.output, h.size, fun k hk hb => h.block k hk (fun e => hb (hA k hk e))⟩
theorem But.of_below {A : Nat → Prop} {w w' : World} (h : Below w.heap.size w w') : But A w w' := ⟨h.os, h.tape, h.output, h.size, fun k hk _ => h.block k hk⟩
theorem But.below {w w' : World} (h : But (fun _ => False) w w') : Below w.heap.size w w' := ⟨h.os, h.tape, h.output, h.size, fun k hk => h.block k hk (fun e => e)⟩
theorem But.belowB {A : Nat → Prop} {B : Nat} {w w' : World} (h : But A w w') (hB : B ≤ w.heap.size) (hA : ∀ k, k < B → ¬ A k) : Below B w w' := ⟨h.os, h.tape, h.output, h.size, fun k hk => h.block k (by omega) (hA k hk)⟩
theorem But.then {A : Nat → Prop} {w w' w'' : World} (h : But A w w') (h' : Below w'.heap.size w' w'') : But A w w'' := h.trans' (.of_below h')
theorem But.set {A : Nat → Prop} {w w' : World} (h : But A w w') (a : Addr) (v : Value) (ha : A a.block) : But A w (w'.setCell a v) := by
  have hg : w'.grownBy (w'.setCell a v) (some a.block) := ⟨rfl, rfl, rfl, by simp [World.setCell], fun k _ hk => Below.heap_setCell w' a v k (fun e => hk (by rw [e]))⟩
  exact ⟨hg.os.trans h.os, hg.tape.trans h.tape, hg.output.trans h.output, Nat.le_trans h.size hg.size, fun k hk hn => (hg.block k (Nat.lt_of_lt_of_le hk h.size) (fun e => hn (by cases e; exact ha))).trans (h.block k hk hn)⟩
theorem But.drewN {A : Nat → Prop} {w w' : World} (h : But A w w') (n : Nat) : But A w (w'.drewN n) := ⟨h.os, h.tape, h.output, h.size, h.block⟩
theorem But.drew {A : Nat → Prop} {w w' : World} (h : But A w w') : But A w w'.drew := ⟨h.os, h.tape, h.output, h.size, h.block⟩
theorem But.drawn {A : Nat → Prop} {w w' w'' : World} (h : But A w w') (hd : Drawn0 w' w'') : But A w w'' := by obtain ⟨n, rfl⟩ := hd.out; exact h.drewN n
theorem But.alloc {A : Nat → Prop} {w w' : World} (h : But A w w') (o : Obj) : But A w (w'.alloc o) := h.then (below_alloc (Below.refl _ _) o)
end Go.Proofs.YtkkpjonfaflkmaaGreatDoor.T

namespace Go.Proofs.YtkkpjonfaflkmaaGreatDoor.T
set_option linter.unusedSimpArgs false
set_option linter.unusedVariables false
open Go.RowKit Go.Proofs.YtkkpjonfaflkmaaGreatDoorW.PrintWords Go.Proofs.YtkkpjonfaflkmaaGreatDoorW.PrintLast Go.Proofs.YtkkpjonfaflkmaaGreatDoorW.PrintMore
structure TabOK (w : World) : Prop where
  most : ∃ m, w.cell? ⟨0, 0, none⟩ = some (.int .i64 m)
  space : Lib.TabIs Tryz.prog w "strings.asciiSpace" .u8 Lib.asciiSpaceTab
  white : Lib.WhiteTab 2 w
theorem TabOK.of_below {w w' : World} (h : TabOK w) (hb : Below w.heap.size w w') : TabOK w' where
  most := by
    obtain ⟨m, hm⟩ := h.most
    exact ⟨m, pw_cell_below hb hm⟩
  space := by
    have h := h.space
    have hgn : Tryz.prog.globalNamed "strings.asciiSpace" = some 1 := by kernel_rfl
    unfold Lib.TabIs World.var? at h ⊢
    rw [hgn] at h ⊢
    simp only [Option.bind_some] at h ⊢
    have hlt : 1 < w.heap.size := by
      rcases Nat.lt_or_ge 1 w.heap.size with h' | h'
      · exact h'
      · rw [Array.getElem?_eq_none h'] at h; cases h
    rw [hb.block 1 hlt]
    exact h
  white := WhiteTab_below h.white hb
theorem tabIs_of_reads {P : Program} {W : World} {name : String} {k : IntKind} {zs : List Int} {g : Nat} {t e : TypeId} {n : Nat}
    (hg : P.globalNamed name = some g) (hty : (P.globals[g]?).map (·.type) = some t) (ht : P.underlying t = some (.array n e)) (he : P.underlying e = some (.int k)) (hce : P.cellsOf e = 1) (hct : P.cellsOf t = n)
    (h : Lib.VarReads P W name (Lib.tabData k zs)) : Lib.TabIs P W name k zs := by
  obtain ⟨g', t', cs, fuel, p, hg', ht', hvar, hd⟩ := h
  obtain rfl := Option.some.inj (hg.symm.trans hg')
  obtain rfl := Option.some.inj (hty.symm.trans ht')
  unfold Lib.TabIs
  rw [hvar, ← Lib.cells_of_tab ht he hce hct hd]
theorem tabOK_of (W : World) (hsh : W.ShapedOpen Tryz.prog) (h1 : Lib.VarReads Tryz.prog W "strings.asciiSpace" (Lib.tabData .u8 Lib.asciiSpaceTab)) (h2 : Lib.VarReads Tryz.prog W "unicode.White_Space" Lib.whiteData) : TabOK W where
  most := Tryz.laysM155.s1_3 W hsh
  space := tabIs_of_reads (g := 1) (t := 146) (e := 5) (n := 256) (by kernel_rfl) (by kernel_rfl) (by kernel_rfl) Tryz.underlying5 (by kernel_rfl) (by kernel_rfl) h1
  white := whiteTab_of_reads Tryz.lays199 ⟨by kernel_rfl, by kernel_rfl, by kernel_rfl, by kernel_rfl, by kernel_rfl, by kernel_rfl, by kernel_rfl, by kernel_rfl⟩ h2
end Go.Proofs.YtkkpjonfaflkmaaGreatDoor.T

namespace Go.Proofs.YtkkpjonfaflkmaaGreatDoor.T
set_option linter.unusedSimpArgs false
set_option linter.unusedVariables false
open Go.RowKit Go.Proofs.YtkkpjonfaflkmaaGreatDoorW.PrintWords Go.Proofs.YtkkpjonfaflkmaaGreatDoorW.PrintLast Go.Proofs.YtkkpjonfaflkmaaGreatDoorW.PrintMore
def strings_IndexByte.f (a0 : ByteArray) (a1 : Int) : Option Int := some (Lib.indexByte a0.data.toList a1.toNat.toUInt8)
theorem strings_IndexByte.calls (a0 : ByteArray) (a1 : Int) (r : Int) (w : World) (h : strings_IndexByte.f a0 a1 = some r) :
    Calls Tryz.prog 93 #[.string a0, .int .u8 a1] w fun e w' => e = .returned (.int .i64 r) ∧ Drawn0 w w' := by
  obtain rfl := Option.some.inj h
  refine (Tryz.strings_IndexByte a0 a1 w).mono ?_
  rintro e w' ⟨rfl, rfl⟩
  exact ⟨rfl, .refl _⟩
def strings_HasPrefix.f (a0 a1 : ByteArray) : Option Bool := some (Lib.hasPrefix a0.data.toList a1.data.toList)
theorem strings_HasPrefix.calls (a0 a1 : ByteArray) (r : Bool) (w : World) (h : strings_HasPrefix.f a0 a1 = some r) :
    Calls Tryz.prog 123 #[.string a0, .string a1] w fun e w' => e = .returned (.bool r) ∧ Drawn0 w w' := by
  obtain rfl := Option.some.inj h
  refine (Tryz.strings_HasPrefix a0 a1 w).mono ?_
  rintro e w' ⟨rfl, rfl⟩
  exact ⟨rfl, .refl _⟩
def strings_Count.f (a0 a1 : ByteArray) : Option Int :=
  match a1 with
  | ⟨⟨[c]⟩⟩ => some (Lib.countByte a0.data.toList c)
  | _ => none
theorem strings_Count.calls (a0 a1 : ByteArray) (r : Int) (w : World) (h : strings_Count.f a0 a1 = some r) :
    Calls Tryz.prog 77 #[.string a0, .string a1] w fun e w' => e = .returned (.int .i64 r) ∧ Drawn0 w w' := by
  unfold strings_Count.f at h
  split at h
  · next c =>
    obtain rfl := Option.some.inj h
    refine (Tryz.strings_Count_one a0 c w).mono ?_
    rintro e w' ⟨rfl, rfl⟩
    exact ⟨rfl, .refl _⟩
  · cases h
def strings_TrimRight.f (a0 a1 : ByteArray) : Option ByteArray :=
  if a0.size ≤ 100000 ∧ a1.size ≤ 1000 ∧ a1.data.toList.all (fun b => decide (b.toNat < 128)) = true then some ⟨(Lib.trimRightS a0.data.toList a1.data.toList).toArray⟩ else none
theorem ascii_all (a1 : ByteArray) (h : a1.data.toList.all (fun b => decide (b.toNat < 128)) = true) : ∀ (j : Nat) b, a1.data.toList[j]? = some b → b.toNat < 128 := fun j b hb =>
  of_decide_eq_true (List.all_eq_true.1 h b (List.mem_of_getElem? hb))
theorem strings_TrimRight.calls (a0 a1 : ByteArray) (r : ByteArray) (w : World) (h : strings_TrimRight.f a0 a1 = some r) :
    Calls Tryz.prog 127 #[.string a0, .string a1] w fun e w' => e = .returned (.string r) ∧ Below w.heap.size w w' := by
  unfold strings_TrimRight.f at h
  split at h
  · next hc =>
    obtain rfl := Option.some.inj h
    exact Any.strings_TrimRight_laid Tryz.lays162 (by kernel_rfl) a0 a1 w (by omega) (by omega) (ascii_all a1 hc.2.2)
  · cases h
def strings_Trim.f (a0 a1 : ByteArray) : Option ByteArray :=
  if a0.size ≤ 100000 ∧ a1.size ≤ 1000 ∧ a1.data.toList.all (fun b => decide (b.toNat < 128)) = true then some ⟨(Lib.trimS a0.data.toList a1.data.toList).toArray⟩ else none
theorem strings_Trim.calls (a0 a1 : ByteArray) (r : ByteArray) (w : World) (h : strings_Trim.f a0 a1 = some r) :
    Calls Tryz.prog 128 #[.string a0, .string a1] w fun e w' => e = .returned (.string r) ∧ Below w.heap.size w w' := by
  unfold strings_Trim.f at h
  split at h
  · next hc =>
    obtain rfl := Option.some.inj h
    exact Any.strings_Trim_laid Tryz.lays160 (by kernel_rfl) a0 a1 w (by omega) (by omega) (ascii_all a1 hc.2.2)
  · cases h
def strings_ReplaceAll.f (a0 a1 a2 : ByteArray) : Option ByteArray :=
  if a0.size ≤ 100000 ∧ 1 ≤ a1.size ∧ a0.size + Lib.countB a0 a1 * a2.size ≤ 100000000 then some ⟨(Lib.replaceAll a0.data.toList a1.data.toList a2.data.toList).toArray⟩ else none
theorem strings_ReplaceAll.calls (a0 a1 a2 : ByteArray) (r : ByteArray) (w : World) (hT : TabOK w) (h : strings_ReplaceAll.f a0 a1 a2 = some r) :
    Calls Tryz.prog 105 #[.string a0, .string a1, .string a2] w fun e w' => e = .returned (.string r) ∧ Below w.heap.size w w' := by
  unfold strings_ReplaceAll.f at h
  split at h
  · next hc =>
    obtain rfl := Option.some.inj h
    obtain ⟨m, hm⟩ := hT.most
    exact Tryz.strings_ReplaceAll a0 a1 a2 m w (by omega) hm hc.2.1 (by omega)
  · cases h
def strings_Cut.f (a0 a1 : ByteArray) : Option (ByteArray × ByteArray × Bool) :=
  if a0.size ≤ 100000 then some (⟨(Lib.cut a0.data.toList a1.data.toList).1.toArray⟩, ⟨(Lib.cut a0.data.toList a1.data.toList).2.1.toArray⟩, (Lib.cut a0.data.toList a1.data.toList).2.2) else none
theorem strings_Cut.calls (a0 a1 : ByteArray) (r1 r2 : ByteArray) (r3 : Bool) (w : World) (hT : TabOK w) (h : strings_Cut.f a0 a1 = some (r1, r2, r3)) :
    Calls Tryz.prog 61 #[.string a0, .string a1] w fun e w' => e = .returned (.tuple #[.string r1, .string r2, .bool r3]) ∧ Drawn0 w w' := by
  unfold strings_Cut.f at h
  split at h
  · next hc =>
    have h := Option.some.inj h
    simp only [Prod.mk.injEq] at h
    obtain ⟨rfl, rfl, rfl⟩ := h
    obtain ⟨m, hm⟩ := hT.most
    refine (Tryz.strings_Cut a0 a1 m w (by omega) hm).mono ?_
    rintro e w' ⟨rfl, n, rfl⟩
    exact ⟨rfl, ⟨⟨n, rfl⟩⟩⟩
  · cases h
end Go.Proofs.YtkkpjonfaflkmaaGreatDoor.T
