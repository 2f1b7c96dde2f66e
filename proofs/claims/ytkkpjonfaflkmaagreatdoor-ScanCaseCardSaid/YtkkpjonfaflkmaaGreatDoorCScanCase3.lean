/- Part 3 of the proof of ScanCase: the functions that it calls return what their plain descriptions say. -/
import Derived.Test.YtkkpjonfaflkmaaGreatDoorProg
import Derived.Below
import Derived.Deep.Draws
import Derived.Deep.AppendLies
import Derived.Maps.AppendAt
import Derived.OwnWalk
import Derived.Laws.BytesArg
import Derived.Laws.MakeOwn
import Derived.Laws.OwnMore
import Derived.Deep.OwnRows
import Derived.Tactics
import Derived.Lib.ConvBytes
import Derived.Laws.Slices
import Derived.WalkKit
import Derived.KernelRfl
import Derived.RowKit3
import Derived.Deep.LoopGhost
import Derived.Deep.QuietTactic
import Derived.BigQuiet
import Derived.WideLaws
import Derived.Deep.DeepCutAuto
import Derived.Deep.CutBlock
import Derived.Deep.RegionHeld3
import Derived.Laws.Rows
import Derived.Lib.AppendStr
import Derived.ArgAppend
import Derived.Laws.IdiomCopy
import Derived.OrdersHeld
import Derived.Laws.BitsLemmas
import Derived.RowKit
import Derived.Test.YtkkpjonfaflkmaaGreatDoorCScanCase0
import Derived.Test.YtkkpjonfaflkmaaGreatDoorCScanCase1
import Init
import Derived.Lib.Hide
import Derived.Shelf.Abstract
import Derived.Lib.BufferMore
import Derived.WalkLawsBesides

namespace Go.Proofs.YtkkpjonfaflkmaaGreatDoor.T
set_option linter.unusedSimpArgs false
open Go.RowKit Go.Proofs.YtkkpjonfaflkmaaGreatDoorW.PrintWords Go.Proofs.YtkkpjonfaflkmaaGreatDoorW.PrintLast Go.Proofs.YtkkpjonfaflkmaaGreatDoorW.PrintMore
attribute [local go_sem] max2_int min2_int max_two min_two max_three min_three max_four min_four   -- for this text's walks alone
set_option linter.unusedVariables false
set_option linter.unusedSimpArgs false
def errW : Option Int → Value
  | none => .nilIface
  | some c => .iface 0 (.int .i64 c)
theorem errW_none : errW none = .nilIface := rfl
theorem errW_some (c : Int) : errW (some c) = .iface 0 (.int .i64 c) := rfl
theorem info73 : (Tryz.prog.info? 73).map (fun i => (i.zero, i.size, i.bytes)) = some (some (.agg #[(.string ⟨#[]⟩), (.int .i64 0)]), 2, 24) := by kernel_rfl
structure S53 where
  f0 : Int
  f1 : ByteArray
  f2 : Bool
  f3 : Int
  f4 : Int
  f5 : Int
def z53 : S53 := ⟨(0 : Int), (⟨#[]⟩ : ByteArray), false, (0 : Int), (0 : Int), (0 : Int)⟩
def k53 : Kd S53 := Kd.iso (Kd.pair (Kd.int .i64) (Kd.pair Kd.string (Kd.pair Kd.bool (Kd.pair (Kd.int .i64) (Kd.pair (Kd.int .i64) (Kd.int .i64)))))) (fun x : S53 => (x.f0, x.f1, x.f2, x.f3, x.f4, x.f5))
theorem k53_open {w : World} {x : S53} {cs : List Value} (h : k53.K w x cs) : cs = [.int .i64 x.f0, .string x.f1, .bool x.f2, .int .i64 x.f3, .int .i64 x.f4, .int .i64 x.f5] := by
  obtain ⟨_, _, rfl, rfl, ⟨_, _, rfl, rfl, ⟨_, _, rfl, rfl, ⟨_, _, rfl, rfl, ⟨_, _, rfl, rfl, rfl⟩⟩⟩⟩⟩ := h
  exact rfl
theorem k53_mk (w : World) (x : S53)  : k53.K w x [.int .i64 x.f0, .string x.f1, .bool x.f2, .int .i64 x.f3, .int .i64 x.f4, .int .i64 x.f5] := ⟨[.int .i64 x.f0], [.string x.f1, .bool x.f2, .int .i64 x.f3, .int .i64 x.f4, .int .i64 x.f5], rfl, rfl, ⟨[.string x.f1], [.bool x.f2, .int .i64 x.f3, .int .i64 x.f4, .int .i64 x.f5], rfl, rfl, ⟨[.bool x.f2], [.int .i64 x.f3, .int .i64 x.f4, .int .i64 x.f5], rfl, rfl, ⟨[.int .i64 x.f3], [.int .i64 x.f4, .int .i64 x.f5], rfl, rfl, ⟨[.int .i64 x.f4], [.int .i64 x.f5], rfl, rfl, rfl⟩⟩⟩⟩⟩
theorem k53_mkM (w : World) (base : Nat) (ok : Nat → Prop) (x : S53)  : k53.M w base ok x [.int .i64 x.f0, .string x.f1, .bool x.f2, .int .i64 x.f3, .int .i64 x.f4, .int .i64 x.f5] := ⟨[.int .i64 x.f0], [.string x.f1, .bool x.f2, .int .i64 x.f3, .int .i64 x.f4, .int .i64 x.f5], rfl, rfl, ⟨[.string x.f1], [.bool x.f2, .int .i64 x.f3, .int .i64 x.f4, .int .i64 x.f5], rfl, rfl, ⟨[.bool x.f2], [.int .i64 x.f3, .int .i64 x.f4, .int .i64 x.f5], rfl, rfl, ⟨[.int .i64 x.f3], [.int .i64 x.f4, .int .i64 x.f5], rfl, rfl, ⟨[.int .i64 x.f4], [.int .i64 x.f5], rfl, rfl, rfl⟩⟩⟩⟩⟩
def rd_T53 (xs : List S53) (i : Int) : S53 := xs.getD i.toNat z53
theorem at_T53 {w : World} {A : Option Addr} {n : Nat} {xs : List S53} (h : Kd.C k53 w A n xs) (i : Int) (h0 : 0 ≤ i) (h1 : i < n) : ∃ ad , A = some ad ∧ w.cell? (ad.add (i.toNat * 6)) = some (.int .i64 (rd_T53 xs i).f0) ∧ w.cell? ⟨(ad.add (i.toNat * 6)).block, (ad.add (i.toNat * 6)).off + 1, none⟩ = some (.string (rd_T53 xs i).f1) ∧ w.cell? ⟨(ad.add (i.toNat * 6)).block, (ad.add (i.toNat * 6)).off + 2, none⟩ = some (.bool (rd_T53 xs i).f2) ∧ w.cell? ⟨(ad.add (i.toNat * 6)).block, (ad.add (i.toNat * 6)).off + 3, none⟩ = some (.int .i64 (rd_T53 xs i).f3) ∧ w.cell? ⟨(ad.add (i.toNat * 6)).block, (ad.add (i.toNat * 6)).off + 4, none⟩ = some (.int .i64 (rd_T53 xs i).f4) ∧ w.cell? ⟨(ad.add (i.toNat * 6)).block, (ad.add (i.toNat * 6)).off + 5, none⟩ = some (.int .i64 (rd_T53 xs i).f5) := by
  obtain ⟨ad, c, e, _, hK, hc0⟩ := Kd.C_get h z53 i h0 h1
  have hc : ∀ j u, c[j]? = some u → w.cell? (ad.add (i.toNat * 6 + j)) = some u := hc0
  obtain rfl := k53_open hK
  exact ⟨ad, e, hc 0 _ rfl, by rw [← add_field _ _ 1 (by omega)]; exact hc 1 _ rfl, by rw [← add_field _ _ 2 (by omega)]; exact hc 2 _ rfl, by rw [← add_field _ _ 3 (by omega)]; exact hc 3 _ rfl, by rw [← add_field _ _ 4 (by omega)]; exact hc 4 _ rfl, by rw [← add_field _ _ 5 (by omega)]; exact hc 5 _ rfl⟩
def rd_L4 (xs : List (List S53)) (i : Int) : (List S53) := xs.getD i.toNat ([] : List S53)
theorem at_L4 {w : World} {A : Option Addr} {n : Nat} {xs : List (List S53)} (h : Kd.C (Kd.slice 53 k53) w A n xs) (i : Int) (h0 : 0 ≤ i) (h1 : i < n) : ∃ ad A0 c0, A = some ad ∧ w.cell? (ad.add i.toNat) = some (.slice A0 (rd_L4 xs i).length c0) ∧ (rd_L4 xs i).length ≤ c0 ∧ k53.C w A0 (rd_L4 xs i).length (rd_L4 xs i) := by
  obtain ⟨ad, c, e, _, hK, hc0⟩ := Kd.C_get h ([] : List S53) i h0 h1
  have hc : ∀ j u, c[j]? = some u → w.cell? (ad.add (i.toNat * 1 + j)) = some u := hc0
  obtain ⟨A0, c0, rfl, l0, g0⟩ := hK
  exact ⟨ad, A0, c0, e, by have hq := hc 0 _ rfl; rwa [Nat.mul_one, Nat.add_zero] at hq, l0, g0⟩
structure S73 where
  f0 : ByteArray
  f1 : Int
def z73 : S73 := ⟨(⟨#[]⟩ : ByteArray), (0 : Int)⟩
def k73 : Kd S73 := Kd.iso (Kd.pair Kd.string (Kd.int .i64)) (fun x : S73 => (x.f0, x.f1))
theorem k73_open {w : World} {x : S73} {cs : List Value} (h : k73.K w x cs) : cs = [.string x.f0, .int .i64 x.f1] := by
  obtain ⟨_, _, rfl, rfl, rfl⟩ := h
  exact rfl
theorem k73_mkM (w : World) (base : Nat) (ok : Nat → Prop) (x : S73)  : k73.M w base ok x [.string x.f0, .int .i64 x.f1] := ⟨[.string x.f0], [.int .i64 x.f1], rfl, rfl, rfl⟩
def rd_T73 (xs : List S73) (i : Int) : S73 := xs.getD i.toNat z73
theorem at_T73 {w : World} {A : Option Addr} {n : Nat} {xs : List S73} (h : Kd.C k73 w A n xs) (i : Int) (h0 : 0 ≤ i) (h1 : i < n) : ∃ ad , A = some ad ∧ w.cell? (ad.add (i.toNat * 2)) = some (.string (rd_T73 xs i).f0) ∧ w.cell? ⟨(ad.add (i.toNat * 2)).block, (ad.add (i.toNat * 2)).off + 1, none⟩ = some (.int .i64 (rd_T73 xs i).f1) := by
  obtain ⟨ad, c, e, _, hK, hc0⟩ := Kd.C_get h z73 i h0 h1
  have hc : ∀ j u, c[j]? = some u → w.cell? (ad.add (i.toNat * 2 + j)) = some u := hc0
  obtain rfl := k73_open hK
  exact ⟨ad, e, hc 0 _ rfl, by rw [← add_field _ _ 1 (by omega)]; exact hc 1 _ rfl⟩
end Go.Proofs.YtkkpjonfaflkmaaGreatDoor.T

namespace Go.Proofs.YtkkpjonfaflkmaaGreatDoor.T
set_option linter.unusedSimpArgs false
open Go.RowKit Go.Proofs.YtkkpjonfaflkmaaGreatDoorW.PrintWords Go.Proofs.YtkkpjonfaflkmaaGreatDoorW.PrintLast Go.Proofs.YtkkpjonfaflkmaaGreatDoorW.PrintMore
attribute [local go_sem] max2_int min2_int max_two min_two max_three min_three max_four min_four   -- for this text's walks alone
set_option linter.unusedVariables false
set_option linter.unusedSimpArgs false
def scan_printable.f (a0 : Int) : Option (Bool) := if a0 ≥ 32 then (some (decide (a0 ≤ 126))) else (some false)
set_option maxHeartbeats 8000000 in
set_option maxRecDepth 100000 in
theorem scan_printable.calls (a0 : Int) (r : Bool) (w : World) (h : scan_printable.f a0 = some r) :
    Calls Tryz.prog 65 #[.int .u8 a0] w fun e w' => e = .returned (.bool r) ∧ Drawn0 w w' := by
  have H : (if a0 ≥ 32 then (some (decide (a0 ≤ 126))) else (some false)) = some r := h
  clear h
  by_cases c2 : a0 ≥ 32
  · rw [if_pos c2] at H
    have c2b0 : decide (32 ≤ a0) = true := decide_eq_true c2
    clear c2
    obtain rfl := Option.some.inj H
    go_enter Tryz.func65, Tryz.ntmps65
    go_wp2
    go_ret
    exact ⟨by first | rfl | (simp; done) | (simp [*]; done), by repeat (first | exact Drawn0.refl _ | apply Drawn0.step)⟩
  · rw [if_neg c2] at H
    have c2b0 : decide (32 ≤ a0) = false := decide_eq_false c2
    clear c2
    obtain rfl := Option.some.inj H
    go_enter Tryz.func65, Tryz.ntmps65
    go_wp2
    go_ret
    exact ⟨by first | rfl | (simp; done) | (simp [*]; done), by repeat (first | exact Drawn0.refl _ | apply Drawn0.step)⟩
end Go.Proofs.YtkkpjonfaflkmaaGreatDoor.T

namespace Go.Proofs.YtkkpjonfaflkmaaGreatDoor.S
set_option linter.unusedSimpArgs false
set_option linter.unusedVariables false
def sym (c : Int) : Bool := (decide (97 ≤ c) && decide (c ≤ 122)) || (decide (65 ≤ c) && decide (c ≤ 90)) || (decide (48 ≤ c) && decide (c ≤ 57)) || decide (c = 46) || decide (c = 95) || decide (c = 33) || decide (c = 63)
def dig (c : Int) : Bool := decide (48 ≤ c) && decide (c ≤ 57)
def prn (c : Int) : Bool := decide (32 ≤ c) && decide (c ≤ 126)
def up (c : Int) : Int := if 97 ≤ c ∧ c ≤ 122 then c - 32 else c
inductive CR where
  | eof
  | done (at_ line bad : Nat)
deriving DecidableEq
def cmt : List Int → (i deep line bad : Nat) → CR
  | [], _, _, _, _ => .eof
  | [_], _, _, _, _ => .eof
  | c :: d :: t, i, deep, line, bad =>
    if c = 47 ∧ d = 42 then cmt t (i + 2) (deep + 1) line bad
    else if c = 42 ∧ d = 47 then (if deep = 1 then .done (i + 2) line bad else cmt t (i + 2) (deep - 1) line bad)
    else cmt (d :: t) (i + 1) deep (if c = 10 then line + 1 else line) (if c ≠ 10 ∧ prn c = false ∧ bad = 0 then line else bad)
def lit (q : Int) : List Int → Nat → List Int → Option (List Int × Nat)
  | [], _, _ => none
  | [c], i, acc => if c = 10 then none else if c = q then some (acc, i) else none
  | c :: d :: t, i, acc =>
    if c = 10 then none
    else if c = q then (if d = q then lit q t (i + 2) (acc ++ [q]) else some (acc, i))
    else lit q (d :: t) (i + 1) (acc ++ [c])
def hexv (c : Int) : Int := if 48 ≤ c ∧ c ≤ 57 then c - 48 else if 97 ≤ c ∧ c ≤ 102 then c - 87 else if 65 ≤ c ∧ c ≤ 70 then c - 55 else -1
def decG (base : Int) : List Int → Int → Option Int
  | [], n => some n
  | c :: t, n => if hexv c < 0 ∨ base ≤ hexv c then none else decG base t (n * base + hexv c)
def decK (base : Int) (w : Nat) : Nat → List Int → Option (List Int)
  | 0, _ => some []
  | k + 1, xs => match decG base (xs.take w) 0 with
    | none => none
    | some n => if prn n = true then (decK base w k (xs.drop w)).map (n :: ·) else none
def decode (base : Int) (w : Nat) (xs : List Int) : Option (List Int) := if xs.length % w ≠ 0 then none else decK base w (xs.length / w) xs
inductive TR where
  | err (code : Nat)
  | ok (text : List Int) (n : Nat)
deriving DecidableEq
def sfxOf (c : Int) : Nat := if c = 88 ∨ c = 120 then 4 else if c = 66 ∨ c = 98 then 1 else 0
def sfx : List Int → Nat
  | [] => 0
  | [c] => sfxOf c
  | c :: d :: _ => if sym d = true then 0 else sfxOf c
def litEnd (v : List Int) (n : Nat) : TR := if 1000 < v.length then .err 30 else .ok v n
def litDec (v : List Int) (sx : Nat) : Option (List Int) := if sx = 4 then decode 16 2 v else decode 2 8 v
def litTok : List Int → TR
  | [] => .err 6
  | q :: t => match lit q t 1 [] with
    | none => .err 6
    | some (v, i) =>
      if v.all prn = true then
        (if sfx ((q :: t).drop (i + 1)) = 0 then litEnd v (i + 1) else match litDec v (sfx ((q :: t).drop (i + 1))) with
          | none => .err 15
          | some u => litEnd u (i + 2))
      else .err 13
def run (p : Int → Bool) : List Int → Nat
  | [] => 0
  | c :: t => if p c = true then run p t + 1 else 0
def mant (xs : List Int) : Bool :=
  match xs.getLast? with
  | none => false
  | some e => (decide (e = 69) || decide (e = 101)) && xs.dropLast.all (fun c => dig c || decide (c = 46)) && xs.dropLast.any dig && decide (xs.dropLast.count 46 ≤ 1)
def expo : List Int → Bool
  | c :: d :: _ => (decide (c = 43) || decide (c = 45)) && dig d
  | _ => false
def symLen (xs : List Int) : Nat := if mant (xs.take (run sym xs)) = true ∧ expo (xs.drop (run sym xs)) = true then run sym xs + 1 + run dig (xs.drop (run sym xs + 1)) else run sym xs
def symTok (xs : List Int) : TR := if 40 < symLen xs then .err 30 else .ok ((xs.take (symLen xs)).map up) (symLen xs)
def signs : List (List Int) := [[92, 61, 61], [92, 62, 62], [92, 60, 60], [62, 62, 61], [60, 60, 61], [42, 42], [47, 47], [124, 124], [38, 38], [61, 61], [92, 61], [92, 62], [92, 60], [62, 61], [60, 61], [62, 62], [60, 60], [62, 60], [60, 62],
  [43], [45], [42], [47], [37], [124], [38], [61], [62], [60], [92], [40], [41], [44], [58], [59]]
def signTok (xs : List Int) : TR := match signs.find? (fun x => x.isPrefixOf xs) with
  | none => .err 13
  | some x => .ok x x.length
inductive Step where
  | fin
  | line
  | blank
  | cmt (n dl : Nat)
  | tok (kind : Nat) (text : List Int) (n : Nat)
  | err (code dl : Nat)
deriving DecidableEq
def tokStep (k : Nat) : TR → Step
  | .err c => .err c 0
  | .ok t n => .tok k t n
def cmtStep : CR → Step
  | .eof => .err 6 0
  | .done i l bad => if bad = 0 then .cmt i (l - 1) else .err 13 (bad - 1)
def st2 (a b : Int) : List Int → Bool
  | c :: d :: _ => decide (c = a) && decide (d = b)
  | _ => false
def starts2 : List Int → Bool
  | c :: d :: _ => decide (c = 47) && decide (d = 42)
  | _ => false
theorem starts2_eq (xs : List Int) : starts2 xs = st2 47 42 xs := by rcases xs with _ | ⟨_, _ | ⟨_, _⟩⟩ <;> rfl
def step (xs : List Int) : Step := match xs with
  | [] => .fin
  | c :: t =>
    if c = 10 then .line
    else if c = 32 then .blank
    else if starts2 (c :: t) = true then cmtStep (cmt (c :: t) 0 0 1 0)
    else if c = 39 ∨ c = 34 then tokStep 2 (litTok (c :: t))
    else if sym c = true then tokStep 1 (symTok (c :: t))
    else tokStep 3 (signTok (c :: t))
structure Tk where
  kind : Nat
  text : List Int
  gap : Bool
  line : Nat
  at_ : Nat
  «to» : Nat
deriving DecidableEq
def comma (l : List Tk) : Bool := match l.getLast? with
  | none => false
  | some t => decide (t.kind = 3) && decide (t.text = [44])
def label : List Tk → Bool
  | [a, b] => decide (a.kind = 1) && decide (b.kind = 3) && decide (b.text = [58])
  | _ => false
def endTk (i j line : Nat) : Tk := ⟨4, [], false, line, i, j⟩
def emit (cur : List Tk) (i j line : Nat) : List (List Tk) := if cur = [] then [] else [cur ++ [endTk i j line]]
def cut (cur : List Tk) : List Tk := if comma cur = true then cur.dropLast else cur
structure Out where
  cl : List (List Tk)
  err : Option (Nat × Nat)
deriving DecidableEq
def Out.pre (l : List (List Tk)) (o : Out) : Out := ⟨l ++ o.cl, o.err⟩
def go : Nat → List Int → (i line : Nat) → List Tk → Bool → Out
  | 0, _, _, _, _, _ => ⟨[], none⟩
  | f + 1, xs, i, line, cur, gap => match step xs with
    | .fin => ⟨emit (cut cur) i i line, none⟩
    | .line => if comma cur = true then go f (xs.drop 1) (i + 1) (line + 1) cur.dropLast true else (go f (xs.drop 1) (i + 1) (line + 1) [] false).pre (emit cur i (i + 1) line)
    | .blank => go f (xs.drop 1) (i + 1) line cur true
    | .cmt n dl => go f (xs.drop n) (i + n) (line + dl) cur gap
    | .tok k t n =>
      if k = 3 ∧ t = [59] then (go f (xs.drop n) (i + n) line [] false).pre (emit cur i (i + n) line)
      else if label (cur ++ [⟨k, t, gap && !decide (cur = []), line, i, i + n⟩]) = true then
        (go f (xs.drop n) (i + n) line [] false).pre (emit (cur ++ [⟨k, t, gap && !decide (cur = []), line, i, i + n⟩]) (i + n) (i + n) line)
      else go f (xs.drop n) (i + n) line (cur ++ [⟨k, t, gap && !decide (cur = []), line, i, i + n⟩]) false
    | .err code dl => ⟨if cur = [] then [] else [cur], some (code, line + dl)⟩
def scan (xs : List Int) : Out := go (xs.length + 1) xs 0 1 [] false
def tokens (xs : List Int) : List Tk := (scan xs).cl.flatten
end Go.Proofs.YtkkpjonfaflkmaaGreatDoor.S

namespace Go.Proofs.YtkkpjonfaflkmaaGreatDoor.T
set_option linter.unusedSimpArgs false
open Go.RowKit Go.Proofs.YtkkpjonfaflkmaaGreatDoorW.PrintWords Go.Proofs.YtkkpjonfaflkmaaGreatDoorW.PrintLast Go.Proofs.YtkkpjonfaflkmaaGreatDoorW.PrintMore
def idxI {α : Type} (p : α → Bool) (xs : List α) : Int := match xs.findIdx? p with
  | some i => (i : Int)
  | none => -1
theorem idxI_hit {α : Type} (p : α → Bool) (xs : List α) (z : α) (kk : Nat) (hlt : kk < xs.length) (hp : p (xs.getD kk z) = true) (hn : ∀ j, j < kk → p (xs.getD j z) = false) : idxI p xs = (kk : Int) := by
  have h : xs.findIdx? p = some kk := by
    rw [List.findIdx?_eq_some_iff_getElem]
    refine ⟨hlt, ?_, fun j hj => ?_⟩
    · have h1 : xs.getD kk z = xs[kk] := by simp [List.getD_eq_getElem?_getD, List.getElem?_eq_getElem hlt]
      rw [h1] at hp; exact hp
    · have h1 : xs.getD j z = xs[j] := by simp [List.getD_eq_getElem?_getD, List.getElem?_eq_getElem (show j < xs.length by omega)]
      have := hn j hj
      rw [h1] at this
      simp [this]
  simp [idxI, h]
theorem idxI_miss {α : Type} (p : α → Bool) (xs : List α) (z : α) (hn : ∀ j, j < xs.length → p (xs.getD j z) = false) : idxI p xs = -1 := by
  have h : xs.findIdx? p = none := by
    rw [List.findIdx?_eq_none_iff]
    intro x hx
    obtain ⟨j, hj, rfl⟩ := List.mem_iff_getElem.1 hx
    have := hn j hj
    simpa [List.getD_eq_getElem?_getD, List.getElem?_eq_getElem hj] using this
  simp [idxI, h]
theorem idxI_any {α : Type} (p : α → Bool) (xs : List α) : decide (0 ≤ idxI p xs) = xs.any p := by
  unfold idxI
  cases h : xs.findIdx? p with
  | none =>
    rw [List.findIdx?_eq_none_iff] at h
    have : xs.any p = false := by rw [List.any_eq_false]; intro x hx; simp [h x hx]
    rw [this]; rfl
  | some i =>
    rw [List.findIdx?_eq_some_iff_getElem] at h
    obtain ⟨hlt, hp, _⟩ := h
    have : xs.any p = true := by rw [List.any_eq_true]; exact ⟨_, List.getElem_mem hlt, hp⟩
    rw [this]
    exact decide_eq_true (show (0 : Int) ≤ (i : Int) by omega)
def Pays {α : Type} (g : Nat) (lb : Array Value) (enc : α → Value) (p : α → Bool) (D : α → Prop) (w : World) : Prop :=
  ∀ (W : World) (x : α), D x → Below w.heap.size w W → Calls Tryz.prog g (#[enc x] ++ lb) W fun e W' => e = .returned (.bool (p x)) ∧ Below W.heap.size W W'
theorem Pays.later {α : Type} {g : Nat} {lb : Array Value} {enc : α → Value} {p : α → Bool} {D : α → Prop} {w w' : World} (h : Pays g lb enc p D w) (hb : Below w.heap.size w w') : Pays g lb enc p D w' :=
  fun W x hx hW => h W x hx (below_step hb hW)
set_option maxHeartbeats 2000000 in
theorem idxB.calls (A : Option Addr) (c : Nat) (xs : List Int) (g : Nat) (lb : Array Value) (p : Int → Bool) (D : Int → Prop) (w : World)
    (eg : ∀ args w, (callFunc g args).run Tryz.prog w = .ok (.enter g args) w) (hr : Kd.C (Kd.int .u8) w A xs.length xs) (hD : ∀ x ∈ xs, D x) (hp : Pays g lb (fun x => Value.int .u8 x) p D w) :
    Calls Tryz.prog 104 #[.slice A xs.length c, .func (.func g) #[] lb] w fun e w' => e = .returned (.int .i64 (idxI p xs)) ∧ Below w.heap.size w w' := by
  have HR := Aside0.mk hr
  have HP := Aside0.mk hp
  have HD := Aside0.mk hD
  clear hr hp hD
  have hbig : xs.length ≤ 9223372036854775807 := Kd.C_max HR.out
  obtain ⟨n, hn⟩ : ∃ n, xs.length = n := ⟨_, rfl⟩
  have HN := Aside0.mk hn
  rw [hn] at hbig ⊢
  clear hn
  go_enter Tryz.func104, Tryz.ntmps104
  go_wp2
  go_loopg [5, 8] n (fun gg _ s8 wr => ∃ kk : Nat, kk ≤ n ∧ n - kk ≤ gg ∧ s8 = .int .i64 kk ∧ Aside0 (Below w.heap.size w wr) ∧ Aside0 (∀ j, j < kk → p (xs.getD j 0) = false))
  case atStart => exact ⟨0, Nat.zero_le _, by omega, rfl, ⟨Below.refl _ _⟩, ⟨fun j hj => absurd hj (Nat.not_lt_zero _)⟩⟩
  case round =>
    obtain ⟨kk, hkk, hg, rfl, HB, HA⟩ := hrel
    by_cases hlt : kk < n
    · have hltz : (kk : Int) < (n : Int) := by omega
      obtain ⟨ad, rfl, hcell0⟩ := Kd.at_int (Kd.C_below HR.out HB.out) (kk : Int) (by omega) (by have := HN.out; omega)
      have hy0 : rd xs (kk : Int) = xs.getD kk 0 := by simp [rd]
      rw [hy0] at hcell0
      have hmem : xs.getD kk 0 ∈ xs := by
        have hk : kk < xs.length := by have := HN.out; omega
        have h1 : xs.getD kk 0 = xs[kk] := by simp [List.getD_eq_getElem?_getD, List.getElem?_eq_getElem hk]
        rw [h1]; exact List.getElem_mem hk
      generalize hy : xs.getD kk 0 = y at hcell0 hmem
      have HY := Aside0.mk hy
      have hcell : wr.cell? (ad.add kk) = some (.int .u8 y) := by simpa using hcell0
      clear hy hy0 hcell0
      have hcall := HP.out wr y (HD.out y hmem) HB.out
      clear hmem
      cases hq : p y with
      | true =>
        rw [hq] at hcall
        have HC := Lib.hid hcall
        have HQ := Aside0.mk hq
        clear hcall hq
        go_wp2_with (go_at_fn g; refine HC.out.mono ?_; rintro e w' ⟨rfl, hb⟩)
        go_ret
        refine ⟨?_, below_step HB.out hb⟩
        rw [idxI_hit p xs 0 kk (by have := HN.out; omega) (by rw [HY.out]; exact HQ.out) HA.out]
        rfl
      | false =>
        rw [hq] at hcall
        have HC := Lib.hid hcall
        have HQ := Aside0.mk hq
        clear hcall hq
        go_wp2_with (go_at_fn g; refine HC.out.mono ?_; rintro e w' ⟨rfl, hb⟩)
        go_roundg (n - (kk + 1))
        case measure => omega
        case rel =>
          refine ⟨kk + 1, by omega, by omega, by go_num, ⟨below_step HB.out hb⟩, ⟨fun j hj => ?_⟩⟩
          by_cases e : j = kk
          · subst e
            rw [HY.out]; exact HQ.out
          · exact HA.out j (by omega)
    · have hltz : ¬ (kk : Int) < (n : Int) := by omega
      have hkn : kk = n := by omega
      subst hkn
      go_wp2
      go_ret
      refine ⟨?_, HB.out⟩
      rw [idxI_miss p xs 0 (by rw [HN.out]; exact HA.out)]
      rfl
set_option maxHeartbeats 1000000 in
theorem contB.calls (A : Option Addr) (c : Nat) (xs : List Int) (g : Nat) (lb : Array Value) (p : Int → Bool) (D : Int → Prop) (w : World)
    (eg : ∀ args w, (callFunc g args).run Tryz.prog w = .ok (.enter g args) w) (hr : Kd.C (Kd.int .u8) w A xs.length xs) (hD : ∀ x ∈ xs, D x) (hp : Pays g lb (fun x => Value.int .u8 x) p D w) :
    Calls Tryz.prog 63 #[.slice A xs.length c, .func (.func g) #[] lb] w fun e w' => e = .returned (.bool (xs.any p)) ∧ Below w.heap.size w w' := by
  rw [← idxI_any]
  have HC := Lib.hid (idxB.calls A c xs g lb p D w eg hr hD hp)
  clear hr hD hp
  obtain ⟨q, hq⟩ : ∃ q, idxI p xs = q := ⟨_, rfl⟩
  rw [hq] at HC ⊢
  clear hq
  go_enter Tryz.func63, Tryz.ntmps63
  go_wp2_with (go_at_call 104; refine HC.out.mono ?_; rintro e w' ⟨rfl, hb⟩)
  go_ret
  exact ⟨rfl, hb⟩
theorem prn_f (x : Int) : scan_printable.f x = some (S.prn x) := by
  unfold scan_printable.f S.prn
  by_cases h1 : 32 ≤ x <;> by_cases h2 : x ≤ 126 <;> simp [h1, h2]
theorem litNP_enters : ∀ args w, (callFunc 108 args).run Tryz.prog w = .ok (.enter 108 args) w := enters_of Tryz.func108 (by kernel_rfl) rfl
theorem LitNP_enters : ∀ args w, (callFunc 64 args).run Tryz.prog w = .ok (.enter 64 args) w := enters_of Tryz.func64 (by kernel_rfl) rfl
theorem litNP.pays (w : World) : Pays 108 #[] (fun x => Value.int .u8 x) (fun x => !S.prn x) (fun _ => True) w := by
  intro W x _ _
  show Calls Tryz.prog 108 #[.int .u8 x] W fun e W' => e = .returned (.bool (!S.prn x)) ∧ Below W.heap.size W W'
  have HC := Lib.hid (scan_printable.calls x (S.prn x) W (prn_f x))
  obtain ⟨q, hq⟩ : ∃ q, S.prn x = q := ⟨_, rfl⟩
  rw [hq] at HC ⊢
  clear hq
  go_enter Tryz.func108, Tryz.ntmps108
  go_wp2_with (go_at_call 65; refine HC.out.mono ?_; rintro e w' ⟨rfl, hb⟩)
  go_ret
  exact ⟨rfl, hb.below⟩
theorem LitNP.pays (w : World) : Pays 64 #[] (fun x => Value.int .u8 x) (fun x => !S.prn x) (fun _ => True) w := by
  intro W x _ _
  show Calls Tryz.prog 64 #[.int .u8 x] W fun e W' => e = .returned (.bool (!S.prn x)) ∧ Below W.heap.size W W'
  have HC := Lib.hid (scan_printable.calls x (S.prn x) W (prn_f x))
  obtain ⟨q, hq⟩ : ∃ q, S.prn x = q := ⟨_, rfl⟩
  rw [hq] at HC ⊢
  clear hq
  go_enter Tryz.func64, Tryz.ntmps64
  go_wp2_with (go_at_call 65; refine HC.out.mono ?_; rintro e w' ⟨rfl, hb⟩)
  go_ret
  exact ⟨rfl, hb.below⟩
end Go.Proofs.YtkkpjonfaflkmaaGreatDoor.T

namespace Go.Proofs.YtkkpjonfaflkmaaGreatDoor.T
set_option linter.unusedSimpArgs false
set_option linter.unusedVariables false
open Go.RowKit Go.Proofs.YtkkpjonfaflkmaaGreatDoorW.PrintWords Go.Proofs.YtkkpjonfaflkmaaGreatDoorW.PrintLast Go.Proofs.YtkkpjonfaflkmaaGreatDoorW.PrintMore
def Buf (g : Nat) (xs : List Int) (W : World) : Prop :=
  ∃ (c : Array Value) (e lo hi : Nat), W.heap[g]? = some (.cells c e (lo, hi)) ∧ (xs.length ≤ lo ∨ hi = 0) ∧ ∀ j, j < xs.length → c[j]? = some (.int .u8 (xs.getD j 0))
theorem Buf.new (W : World) (s : ByteArray) : Buf W.heap.size (bytesOf s) (Lib.bytesWorld W 5 s) := by
  refine ⟨_, _, _, _, Lib.bytesWorld_at_new W 5 s, .inl ?_, fun j hj => ?_⟩
  · rw [bytesOf_length]
    simp [Lib.bytesCells]
  · rw [bytesOf_length] at hj
    have h := Lib.bytesWorld_cell W 5 s j hj
    simp only [World.cell?, Lib.bytesWorld_at_new] at h
    have h' : j < s.data.toList.length := by rw [data_length]; exact hj
    rw [show (Lib.bytesCells W 5 s)[j]? = some (.int .u8 (s.data.toList.getD j 0).toNat) from h]
    simp [bytesOf, List.getD_eq_getElem?_getD, List.getElem?_eq_getElem h']
theorem Buf.cell {g : Nat} {xs : List Int} {W : World} (h : Buf g xs W) (j : Nat) (hj : j < xs.length) : W.cell? ⟨g, j, none⟩ = some (.int .u8 (xs.getD j 0)) := by
  obtain ⟨c, e, lo, hi, hg, hl, hc⟩ := h
  simp only [World.cell?, hg]
  exact hc j hj
theorem Buf.free {g : Nat} {xs : List Int} {W : World} (h : Buf g xs W) (j : Nat) (hj : j < xs.length) : W.frozen? ⟨g, j, none⟩ = false := by
  obtain ⟨c, e, lo, hi, hg, hl, hc⟩ := h
  simp only [World.frozen?, hg]
  rcases hl with hl | rfl
  · have : ¬ lo ≤ j := by omega
    simp [this]
  · simp
theorem Buf.set {g : Nat} {xs : List Int} {W : World} (h : Buf g xs W) (j : Nat) (x : Int) (hj : j < xs.length) : Buf g (xs.set j x) (W.setCell ⟨g, j, none⟩ (.int .u8 x)) := by
  obtain ⟨c, e, lo, hi, hg, hl, hc⟩ := h
  refine ⟨c.setIfInBounds j (.int .u8 x), e, lo, hi, Lib.heap_setCell_same hg _, by rw [List.length_set]; exact hl, fun k hk => ?_⟩
  rw [List.length_set] at hk
  rw [Array.getElem?_setIfInBounds]
  by_cases e1 : j = k
  · subst e1
    have h1 : j < c.size := (Array.getElem?_eq_some_iff.1 (hc j hj)).1
    simp [h1, List.getD_eq_getElem?_getD, hj]
  · simp only [e1, if_false]
    rw [hc k hk]
    simp [List.getD_eq_getElem?_getD, e1]
theorem Buf.reads {g : Nat} {xs : List Int} {W : World} (h : Buf g xs W) (hl : xs.length ≤ 9223372036854775807) : ReadsInt W .u8 (some ⟨g, 0, none⟩) xs.length xs :=
  ⟨rfl, hl, fun _ => ⟨_, rfl, fun j hj => by rw [add_plain]; exact h.cell j hj⟩⟩
theorem Buf.drewN {g : Nat} {xs : List Int} {W : World} (h : Buf g xs W) (n : Nat) : Buf g xs (W.drewN n) := h
theorem Buf.drawn {g : Nat} {xs : List Int} {W W' : World} (h : Buf g xs W) (hd : Drawn0 W W') : Buf g xs W' := by
  obtain ⟨n, rfl⟩ := hd.out
  exact h
theorem Buf.blk {g : Nat} {xs : List Int} {W W' : World} (h : Buf g xs W) (e : W'.heap[g]? = W.heap[g]?) : Buf g xs W' := by
  obtain ⟨c, t, lo, hi, hg, hl, hc⟩ := h
  exact ⟨c, t, lo, hi, e.trans hg, hl, hc⟩
theorem bt_getD (s : ByteArray) (k : Nat) (hk : k < s.size) : bt s (k : Int) = (bytesOf s).getD k 0 := by
  have h' : k < s.data.toList.length := by rw [data_length]; exact hk
  simp [bt, hk, bytesOf, List.getD_eq_getElem?_getD, List.getElem?_eq_getElem h']
  rfl
theorem bo_range (s : ByteArray) (x : Int) (h : x ∈ bytesOf s) : 0 ≤ x ∧ x < 256 := by
  simp only [bytesOf, List.mem_map] at h
  obtain ⟨b, _, rfl⟩ := h
  have := b.toNat_lt
  omega
def part_map (f : Int → Int) (k : Nat) (xs : List Int) : List Int := (xs.take k).map f ++ xs.drop k
theorem part_map_length (f : Int → Int) (k : Nat) (xs : List Int) : (part_map f k xs).length = xs.length := by
  simp [part_map]; omega
theorem part_map_zero (f : Int → Int) (xs : List Int) : part_map f 0 xs = xs := by simp [part_map]
theorem part_map_all (f : Int → Int) (xs : List Int) : part_map f xs.length xs = xs.map f := by simp [part_map]
theorem part_map_at (f : Int → Int) (k : Nat) (xs : List Int) (hk : k < xs.length) : (part_map f k xs).getD k 0 = xs.getD k 0 := by
  have h1 : ((xs.take k).map f).length = k := by simp; omega
  simp only [part_map, List.getD_eq_getElem?_getD]
  rw [List.getElem?_append_right (by omega), h1]
  simp
theorem part_map_set (f : Int → Int) (k : Nat) (xs : List Int) (hk : k < xs.length) : (part_map f k xs).set k (f (xs.getD k 0)) = part_map f (k + 1) xs := by
  have h1 : ((xs.take k).map f).length = k := by simp; omega
  unfold part_map
  have h2 : xs.take (k + 1) = xs.take k ++ [xs[k]] := by rw [List.take_add_one, List.getElem?_eq_getElem hk]; rfl
  rw [List.set_append_right _ _ (by omega), h1, Nat.sub_self, List.drop_eq_getElem_cons hk, List.set_cons_zero, h2, List.map_append, List.append_assoc]
  simp [List.getD_eq_getElem?_getD, List.getElem?_eq_getElem hk]
theorem getD_mem (xs : List Int) (k : Nat) (hk : k < xs.length) : xs.getD k 0 ∈ xs := by
  have h1 : xs.getD k 0 = xs[k] := by simp [List.getD_eq_getElem?_getD, List.getElem?_eq_getElem hk]
  rw [h1]; exact List.getElem_mem hk
end Go.Proofs.YtkkpjonfaflkmaaGreatDoor.T

namespace Go.Proofs.YtkkpjonfaflkmaaGreatDoor.T
set_option linter.unusedSimpArgs false
set_option linter.unusedVariables false
open Go.RowKit Go.Proofs.YtkkpjonfaflkmaaGreatDoorW.PrintWords Go.Proofs.YtkkpjonfaflkmaaGreatDoorW.PrintLast Go.Proofs.YtkkpjonfaflkmaaGreatDoorW.PrintMore
def Sc (s : Nat) (src : ByteArray) (i line : Int) (m : Value) (w : World) : Prop := w.heap[s]? = some (.cells #[.string src, .int .i64 i, .int .i64 line, m] 93 (0, 0))
theorem Sc.c0 {s : Nat} {src : ByteArray} {i line : Int} {m : Value} {w : World} (h : Sc s src i line m w) : w.cell? ⟨s, 0, none⟩ = some (.string src) := (blk_cell h 0).trans rfl
theorem Sc.c1 {s : Nat} {src : ByteArray} {i line : Int} {m : Value} {w : World} (h : Sc s src i line m w) : w.cell? ⟨s, 1, none⟩ = some (.int .i64 i) := (blk_cell h 1).trans rfl
theorem Sc.c2 {s : Nat} {src : ByteArray} {i line : Int} {m : Value} {w : World} (h : Sc s src i line m w) : w.cell? ⟨s, 2, none⟩ = some (.int .i64 line) := (blk_cell h 2).trans rfl
theorem Sc.c3 {s : Nat} {src : ByteArray} {i line : Int} {m : Value} {w : World} (h : Sc s src i line m w) : w.cell? ⟨s, 3, none⟩ = some m := (blk_cell h 3).trans rfl
theorem Sc.fr {s : Nat} {src : ByteArray} {i line : Int} {m : Value} {w : World} (h : Sc s src i line m w) (j : Nat) : w.frozen? ⟨s, j, none⟩ = false := blk_frozen h j
theorem Sc.lt {s : Nat} {src : ByteArray} {i line : Int} {m : Value} {w : World} (h : Sc s src i line m w) : s < w.heap.size := (Array.getElem?_eq_some_iff.1 h).1
theorem Sc.set1 {s : Nat} {src : ByteArray} {i line : Int} {m : Value} {w : World} (h : Sc s src i line m w) (x : Int) : Sc s src x line m (w.setCell ⟨s, 1, none⟩ (.int .i64 x)) := blk_put (cs := #[.string src, .int .i64 i, .int .i64 line, m]) h 1 _ rfl
theorem Sc.set2 {s : Nat} {src : ByteArray} {i line : Int} {m : Value} {w : World} (h : Sc s src i line m w) (x : Int) : Sc s src i x m (w.setCell ⟨s, 2, none⟩ (.int .i64 x)) := blk_put (cs := #[.string src, .int .i64 i, .int .i64 line, m]) h 2 _ rfl
theorem Sc.drawn {s : Nat} {src : ByteArray} {i line : Int} {m : Value} {w w' : World} (h : Sc s src i line m w) (hd : Drawn0 w w') : Sc s src i line m w' := by obtain ⟨n, rfl⟩ := hd.out; exact h
theorem Sc.below {s : Nat} {src : ByteArray} {i line : Int} {m : Value} {w w' : World} (h : Sc s src i line m w) (hb : Below w.heap.size w w') : Sc s src i line m w' := (hb.block _ h.lt).trans h
def fl (code line : Int) : Value := .iface 76 (.agg #[.int .i64 code, .int .i64 line])
def Fails (code line : Int) : Ending := .panicked [{ v := fl code line, recovered := false }]
theorem scan_fail.calls (p : Value) (c l : Int) (w : World) : Calls Tryz.prog 97 #[p, .int .i64 c, .int .i64 l] w fun e w' => e = Fails c l ∧ w' = w := by
  unfold Fails fl
  go_enter Tryz.func97, Tryz.ntmps97
  go_wp2
  exact ⟨rfl, rfl, rfl⟩
theorem drop_at (L : List Int) (k : Nat) (hk : k < L.length) : L.drop k = L.getD k 0 :: L.drop (k + 1) := by
  rw [List.drop_eq_getElem_cons hk]
  simp [List.getD_eq_getElem?_getD, List.getElem?_eq_getElem hk]
def Tells (g : Nat) (p : Int → Bool) : Prop := ∀ (W : World) (x : Int), 0 ≤ x → x < 256 → Calls Tryz.prog g #[.int .u8 x] W fun e W' => e = .returned (.bool (p x)) ∧ Drawn0 W W'
set_option maxHeartbeats 2000000 in
theorem scan_run.calls (s : Nat) (src : ByteArray) (i line : Int) (m : Value) (frm : Nat) (g : Nat) (p : Int → Bool) (w : World) (hsz : src.size ≤ 1000000) (hf : frm ≤ src.size)
    (eg : ∀ args w, (callFunc g args).run Tryz.prog w = .ok (.enter g args) w) (hp : Tells g p) (h : Sc s src i line m w) :
    Calls Tryz.prog 94 #[.pointer (some ⟨s, 0, none⟩), .int .i64 frm, .func (.func g) #[] #[]] w fun e w' => e = .returned (.int .i64 ((frm + S.run p ((bytesOf src).drop frm) : Nat) : Int)) ∧ Drawn0 w w' := by
  have HP := Aside0.mk hp
  have HS := Aside0.mk h
  clear hp h
  obtain ⟨n, hn⟩ : ∃ n, src.size = n := ⟨_, rfl⟩
  obtain ⟨L, hL⟩ : ∃ L, bytesOf src = L := ⟨_, rfl⟩
  have HN : Aside0 (L.length = n) := ⟨by rw [← hL, bytesOf_length]; exact hn⟩
  rw [hL]
  obtain ⟨R, hR⟩ : ∃ R : Nat, frm + S.run p (L.drop frm) = R := ⟨_, rfl⟩
  rw [hR]
  have HR := Aside0.mk hR
  have HL := Aside0.mk hL
  clear hR hL
  rw [hn] at hsz hf
  go_enter Tryz.func94, Tryz.ntmps94
  go_wp2
  go_loopg [1] n (fun gg s1 wr => ∃ kk : Nat, kk ≤ n ∧ n - kk ≤ gg ∧ s1 = .int .i64 kk ∧ Aside0 (Drawn0 w wr) ∧ Aside0 (kk + S.run p (L.drop kk) = R))
  case atStart => exact ⟨frm, hf, by omega, rfl, ⟨.refl _⟩, HR⟩
  case round =>
    obtain ⟨kk, hkk, hg, rfl, HB, HA⟩ := hrel
    have c0 := (HS.out.drawn HB.out).c0
    by_cases hlt : kk < n
    · have hltz : (kk : Int) < (n : Int) := by omega
      have hl : kk < src.size := by omega
      have hx : ((src[kk]'hl).toNat : Int) = bt src (kk : Int) := by simp [bt, hl]
      have hr := bt_range src (kk : Int)
      have hy0 : bt src (kk : Int) = L.getD kk 0 := by rw [← HL.out]; exact bt_getD src kk hl
      have HD := Aside0.mk (drop_at L kk (by have := HN.out; omega))
      rw [← hy0] at HD
      generalize bt src (kk : Int) = y at hx hr HD
      have hcall := HP.out wr y hr.1 (by omega)
      clear hr hy0
      cases hq : p y with
      | true =>
        rw [hq] at hcall
        have HC := Lib.hid hcall
        have HQ := Aside0.mk hq
        clear hcall hq
        go_wp2_with (go_at_fn g; refine HC.out.mono ?_; rintro e w' ⟨rfl, ⟨⟨q, rfl⟩⟩⟩)
        go_roundg (n - (kk + 1))
        case measure => omega
        case rel =>
          refine ⟨kk + 1, by omega, by omega, by go_num, ⟨HB.out.step q⟩, ⟨?_⟩⟩
          have := HA.out
          rw [HD.out] at this
          simp only [S.run, HQ.out, if_true] at this
          omega
      | false =>
        rw [hq] at hcall
        have HC := Lib.hid hcall
        have HQ := Aside0.mk hq
        clear hcall hq
        go_wp2_with (go_at_fn g; refine HC.out.mono ?_; rintro e w' ⟨rfl, ⟨⟨q, rfl⟩⟩⟩)
        go_ret
        refine ⟨?_, HB.out.step q⟩
        have := HA.out
        rw [HD.out] at this
        simp only [S.run, HQ.out, Bool.false_eq_true, if_false] at this
        have e : kk = R := by omega
        rw [e]; rfl
    · have hltz : ¬ (kk : Int) < (n : Int) := by omega
      have hkn : kk = n := by omega
      subst hkn
      go_wp2
      go_ret
      refine ⟨?_, HB.out⟩
      have := HA.out
      rw [List.drop_eq_nil_of_le (by have := HN.out; omega)] at this
      simp only [S.run] at this
      have e : kk = R := by omega
      rw [e]; rfl
end Go.Proofs.YtkkpjonfaflkmaaGreatDoor.T

namespace Go.Proofs.YtkkpjonfaflkmaaGreatDoor.T
set_option linter.unusedSimpArgs false
set_option linter.unusedVariables false
open Go.RowKit Go.Proofs.YtkkpjonfaflkmaaGreatDoorW.PrintWords Go.Proofs.YtkkpjonfaflkmaaGreatDoorW.PrintLast Go.Proofs.YtkkpjonfaflkmaaGreatDoorW.PrintMore
def upS (s : ByteArray) : ByteArray := strOfNums ((bytesOf s).map S.up)
def scan_upper.f (a0 : ByteArray) : Option ByteArray := if a0.size ≤ 1000000 then some (upS a0) else none
theorem wrapU8 (x : Int) (h0 : 0 ≤ x) (h1 : x < 256) : IntKind.u8.wrap x = x := by
  have : IntKind.u8.wrap x = x % 256 := rfl
  rw [this]; omega
theorem set_same (xs : List Int) (k : Nat) (h : k < xs.length) : xs.set k (xs.getD k 0) = xs := by
  have h1 : xs.getD k 0 = xs[k] := by simp [List.getD_eq_getElem?_getD, List.getElem?_eq_getElem h]
  rw [h1, List.set_getElem_self]
set_option maxHeartbeats 2000000 in
theorem scan_upper.calls (a0 : ByteArray) (r : ByteArray) (w : World) (h : scan_upper.f a0 = some r) :
    Calls Tryz.prog 98 #[.string a0] w fun e w' => e = .returned (.string r) ∧ Below w.heap.size w w' := by
  unfold scan_upper.f at h
  by_cases ha : a0.size ≤ 1000000
  · rw [if_pos ha] at h
    obtain rfl := Option.some.inj h
    unfold upS
    clear h
    obtain ⟨n, hn⟩ : ∃ n, a0.size = n := ⟨_, rfl⟩
    have HB0 := Aside0.mk (Buf.new w a0)
    have HL0 := Aside0.mk (bytes_below (Below.refl w.heap.size w) (Nat.le_refl _) 5 a0)
    have HN : Aside0 ((bytesOf a0).length = n) := ⟨by rw [bytesOf_length]; exact hn⟩
    have kb := fun W => print_bytes (P := Tryz.prog) 9 100 5 Tryz.underlying9 Tryz.underlying100 Tryz.underlying5 a0 W
    rw [hn] at kb ha
    have kc := fun W c => string_of_reads (P := Tryz.prog) (w := W) (src := 100) (dst := 9) (e := 5) (A := some ⟨w.heap.size, 0, none⟩) (n := n) (c := c) (xs := (bytesOf a0).map S.up) Tryz.underlying100 Tryz.underlying5 Tryz.underlying9
    go_enter Tryz.func98, Tryz.ntmps98
    go_wp2
    go_loopg [4, 5, 10] n (fun gg _ _ s10 wr => ∃ kk : Nat, kk ≤ n ∧ n - kk ≤ gg ∧ s10 = .int .i64 kk ∧ Aside0 (Below w.heap.size w wr) ∧ Aside0 (Buf w.heap.size (part_map S.up kk (bytesOf a0)) wr))
    case atStart => exact ⟨0, Nat.zero_le _, by omega, rfl, HL0, ⟨by rw [part_map_zero]; exact HB0.out⟩⟩
    case round =>
      obtain ⟨kk, hkk, hg, rfl, HB, HF⟩ := hrel
      by_cases hlt : kk < n
      · have hltz : (kk : Int) < (n : Int) := by omega
        have hl : kk < (bytesOf a0).length := by have := HN.out; omega
        have hcell0 := HF.out.cell kk (by rw [part_map_length]; exact hl)
        rw [part_map_at S.up kk _ hl] at hcell0
        obtain ⟨hx0, hx1⟩ := bo_range a0 _ (getD_mem _ kk hl)
        have HS : Aside0 (Buf w.heap.size ((part_map S.up kk (bytesOf a0)).set kk (S.up ((bytesOf a0).getD kk 0))) (wr.setCell ⟨w.heap.size, kk, none⟩ (.int .u8 (S.up ((bytesOf a0).getD kk 0))))) := ⟨HF.out.set kk _ (by rw [part_map_length]; exact hl)⟩
        have HQ := Aside0.mk (part_map_set S.up kk _ hl)
        have HG : Aside0 ((part_map S.up kk (bytesOf a0)).getD kk 0 = (bytesOf a0).getD kk 0) := ⟨part_map_at S.up kk _ hl⟩
        generalize (bytesOf a0).getD kk 0 = y at hcell0 hx0 hx1 HS HQ HG
        have hfree : wr.frozen? ⟨w.heap.size, kk, none⟩ = false := HF.out.free kk (by rw [part_map_length]; exact hl)
        by_cases c1 : 97 ≤ y
        · by_cases c2 : y ≤ 122
          · have d1 : decide (97 ≤ y) = true := decide_eq_true c1
            have d2 : decide (y ≤ 122) = true := decide_eq_true c2
            have hu : S.up y = y - 32 := by unfold S.up; rw [if_pos ⟨c1, c2⟩]
            rw [hu] at HS HQ
            have hw : IntKind.u8.wrap (y - 32) = y - 32 := wrapU8 _ (by omega) (by omega)
            clear c1 c2 hx0 hx1 hl hu
            go_wp2
            go_roundg (n - (kk + 1))
            case measure => omega
            case rel =>
              refine ⟨kk + 1, by omega, by omega, by go_num, ⟨below_set HB.out (Nat.le_refl _)⟩, ⟨?_⟩⟩
              rw [← HQ.out]
              exact HS.out
          · have d1 : decide (97 ≤ y) = true := decide_eq_true c1
            have d2 : decide (y ≤ 122) = false := decide_eq_false c2
            have HU : Aside0 (S.up y = y) := ⟨by unfold S.up; rw [if_neg (fun q => c2 q.2)]⟩
            clear c1 c2 hx0 hx1
            go_wp2
            go_roundg (n - (kk + 1))
            case measure => omega
            case rel =>
              refine ⟨kk + 1, by omega, by omega, by go_num, HB, ⟨?_⟩⟩
              rw [← HQ.out, HU.out, ← HG.out, set_same _ kk (by rw [part_map_length]; exact hl)]
              exact HF.out
        · have d1 : decide (97 ≤ y) = false := decide_eq_false c1
          have HU : Aside0 (S.up y = y) := ⟨by unfold S.up; rw [if_neg (fun q => c1 q.1)]⟩
          clear c1 hx0 hx1
          go_wp2
          go_roundg (n - (kk + 1))
          case measure => omega
          case rel =>
            refine ⟨kk + 1, by omega, by omega, by go_num, HB, ⟨?_⟩⟩
            rw [← HQ.out, HU.out, ← HG.out, set_same _ kk (by rw [part_map_length]; exact hl)]
            exact HF.out
      · obtain rfl : kk = n := by omega
        have HR : Aside0 (Buf w.heap.size ((bytesOf a0).map S.up) wr) := ⟨by have := HF.out; rw [← HN.out, part_map_all] at this; exact this⟩
        have hconv := fun c => kc wr c (by have := HR.out.reads (by simp; have := HN.out; omega); rw [List.length_map, HN.out] at this; exact this)
        go_wp2
        go_ret
        exact ⟨rfl, HB.out⟩
  · rw [if_neg ha] at h
    cases h
end Go.Proofs.YtkkpjonfaflkmaaGreatDoor.T

namespace Go.Proofs.YtkkpjonfaflkmaaGreatDoor.S
set_option linter.unusedSimpArgs false
set_option linter.unusedVariables false
theorem cmt_bounds : ∀ (xs : List Int) (i d l b i' l' b' : Nat), cmt xs i d l b = .done i' l' b' → i < i' ∧ i' ≤ i + xs.length ∧ l ≤ l' ∧ l' + i ≤ l + i'
  | [], _, _, _, _, _, _, _ => fun h => by cases h
  | [_], _, _, _, _, _, _, _ => fun h => by cases h
  | c :: e :: t, i, d, l, b, i', l', b' => fun h => by
    rw [cmt] at h
    by_cases h1 : c = 47 ∧ e = 42
    · rw [if_pos h1] at h
      have := cmt_bounds t _ _ _ _ _ _ _ h
      simp only [List.length_cons]; omega
    · rw [if_neg h1] at h
      by_cases h2 : c = 42 ∧ e = 47
      · rw [if_pos h2] at h
        by_cases h3 : d = 1
        · rw [if_pos h3] at h; cases h; simp only [List.length_cons]; omega
        · rw [if_neg h3] at h
          have := cmt_bounds t _ _ _ _ _ _ _ h
          simp only [List.length_cons]; omega
      · rw [if_neg h2] at h
        have := cmt_bounds (e :: t) _ _ _ _ _ _ _ h
        simp only [List.length_cons] at this ⊢
        by_cases hc : c = 10
        · simp only [hc, if_true] at this; omega
        · simp only [hc, if_false] at this; omega
  termination_by xs => xs.length
theorem lit_bounds (q : Int) (P : Int → Prop) (hq : P q) : ∀ (xs : List Int) (i : Nat) (acc v : List Int) (j : Nat), lit q xs i acc = some (v, j) → (∀ x ∈ acc, P x) → (∀ x ∈ xs, P x) → i ≤ j ∧ j < i + xs.length ∧ ∀ x ∈ v, P x
  | [], i, acc, v, j => fun h _ _ => by cases h
  | [c], i, acc, v, j => fun h ha _ => by
    rw [lit] at h
    by_cases h1 : c = 10
    · rw [if_pos h1] at h; cases h
    · rw [if_neg h1] at h
      by_cases h2 : c = q
      · rw [if_pos h2] at h; cases h; exact ⟨Nat.le_refl _, by simp, ha⟩
      · rw [if_neg h2] at h; cases h
  | c :: d :: t, i, acc, v, j => fun h ha hx => by
    rw [lit] at h
    by_cases h1 : c = 10
    · rw [if_pos h1] at h; cases h
    · rw [if_neg h1] at h
      by_cases h2 : c = q
      · rw [if_pos h2] at h
        by_cases h3 : d = q
        · rw [if_pos h3] at h
          have := lit_bounds q P hq t (i + 2) (acc ++ [q]) v j h (fun x hx' => by
            rcases List.mem_append.1 hx' with e | e
            · exact ha x e
            · rw [List.mem_singleton.1 e]; exact hq) (fun x e => hx x (by simp [e]))
          simp only [List.length_cons]
          exact ⟨by omega, by omega, this.2.2⟩
        · rw [if_neg h3] at h; cases h; exact ⟨Nat.le_refl _, by simp only [List.length_cons]; omega, ha⟩
      · rw [if_neg h2] at h
        have := lit_bounds q P hq (d :: t) (i + 1) (acc ++ [c]) v j h (fun x hx' => by
          rcases List.mem_append.1 hx' with e | e
          · exact ha x e
          · rw [List.mem_singleton.1 e]; exact hx c (by simp)) (fun x e => hx x (by simp only [List.mem_cons] at e ⊢; exact .inr e))
        simp only [List.length_cons] at this ⊢
        exact ⟨by omega, by omega, this.2.2⟩
  termination_by xs => xs.length
theorem decK_prn (base : Int) (w : Nat) : ∀ (k : Nat) (xs v : List Int), decK base w k xs = some v → ∀ x ∈ v, prn x = true
  | 0, xs, v, h => by cases h; simp
  | k + 1, xs, v, h => by
    rw [decK] at h
    cases hg : decG base (xs.take w) 0 with
    | none => rw [hg] at h; cases h
    | some n =>
      rw [hg] at h
      simp only at h
      by_cases hp : prn n = true
      · rw [if_pos hp] at h
        cases hr : decK base w k (xs.drop w) with
        | none => rw [hr] at h; cases h
        | some u =>
          rw [hr] at h
          simp only [Option.map_some, Option.some.injEq] at h
          subst h
          intro x hx
          rcases List.mem_cons.1 hx with rfl | hx
          · exact hp
          · exact decK_prn base w k _ u hr x hx
      · rw [if_neg hp] at h; cases h
theorem prn_byte {x : Int} (h : prn x = true) : 0 ≤ x ∧ x < 256 := by
  simp only [prn, Bool.and_eq_true, decide_eq_true_eq] at h
  omega
theorem litDec_bytes {v u : List Int} {sx : Nat} (h : litDec v sx = some u) : ∀ x ∈ u, 0 ≤ x ∧ x < 256 := by
  have key : ∀ (b : Int) (w : Nat), decode b w v = some u → ∀ x ∈ u, 0 ≤ x ∧ x < 256 := by
    intro b w h x hx
    unfold decode at h
    by_cases hm : v.length % w ≠ 0
    · rw [if_pos hm] at h; cases h
    · rw [if_neg hm] at h; exact prn_byte (decK_prn _ _ _ _ _ h x hx)
  unfold litDec at h
  by_cases hs : sx = 4
  · rw [if_pos hs] at h; exact key _ _ h
  · rw [if_neg hs] at h; exact key _ _ h
theorem litEnd_ok {v t : List Int} {n m : Nat} (h : litEnd v n = .ok t m) : t = v ∧ m = n := by
  unfold litEnd at h
  by_cases hv : 1000 < v.length
  · rw [if_pos hv] at h; cases h
  · rw [if_neg hv] at h; cases h; exact ⟨rfl, rfl⟩
theorem litTok_ok {xs t : List Int} {n : Nat} (hb : ∀ x ∈ xs, 0 ≤ x ∧ x < 256) (h : litTok xs = .ok t n) : 1 ≤ n ∧ n ≤ xs.length ∧ ∀ x ∈ t, 0 ≤ x ∧ x < 256 := by
  rcases xs with _ | ⟨q, r⟩
  · cases h
  simp only [litTok] at h
  cases hl : lit q r 1 [] with
  | none => rw [hl] at h; cases h
  | some p =>
    obtain ⟨v, i⟩ := p
    rw [hl] at h
    simp only at h
    obtain ⟨b1, b2, b3⟩ := lit_bounds q (fun x => 0 ≤ x ∧ x < 256) (hb q (by simp)) r 1 [] v i hl (by simp) (fun x e => hb x (by simp [e]))
    by_cases hp : v.all prn = true
    · rw [if_pos hp] at h
      by_cases hs : sfx ((q :: r).drop (i + 1)) = 0
      · rw [if_pos hs] at h
        obtain ⟨rfl, rfl⟩ := litEnd_ok h
        exact ⟨by omega, by simp only [List.length_cons]; omega, b3⟩
      · rw [if_neg hs] at h
        have hlen : i + 2 ≤ (q :: r).length := by
          have : 0 < ((q :: r).drop (i + 1)).length := by
            rcases hd : (q :: r).drop (i + 1) with _ | ⟨a, b⟩
            · rw [hd] at hs; exact absurd rfl hs
            · simp
          rw [List.length_drop] at this
          omega
        cases hd : litDec v (sfx ((q :: r).drop (i + 1))) with
        | none => rw [hd] at h; cases h
        | some u =>
          rw [hd] at h
          obtain ⟨rfl, rfl⟩ := litEnd_ok h
          exact ⟨by omega, hlen, litDec_bytes hd⟩
    · rw [if_neg hp] at h; cases h
theorem run_le' (p : Int → Bool) : ∀ l : List Int, run p l ≤ l.length
  | [] => Nat.le_refl _
  | c :: t => by
    unfold run
    by_cases h : p c = true
    · rw [if_pos h]; simpa using run_le' p t
    · rw [if_neg h]; exact Nat.zero_le _
theorem up_byte {x : Int} (h : 0 ≤ x ∧ x < 256) : 0 ≤ up x ∧ up x < 256 := by
  unfold up
  by_cases hc : 97 ≤ x ∧ x ≤ 122
  · rw [if_pos hc]; omega
  · rw [if_neg hc]; exact h
theorem symTok_ok {c : Int} {r t : List Int} {n : Nat} (hb : ∀ x ∈ c :: r, 0 ≤ x ∧ x < 256) (hc : sym c = true) (h : symTok (c :: r) = .ok t n) : 1 ≤ n ∧ n ≤ (c :: r).length ∧ ∀ x ∈ t, 0 ≤ x ∧ x < 256 := by
  unfold symTok at h
  by_cases h4 : 40 < symLen (c :: r)
  · rw [if_pos h4] at h; cases h
  · rw [if_neg h4] at h
    cases h
    have hr := run_le' sym (c :: r)
    have h1 : 1 ≤ run sym (c :: r) := by unfold run; rw [if_pos hc]; omega
    refine ⟨?_, ?_, fun x hx => ?_⟩
    · unfold symLen
      split <;> omega
    · unfold symLen
      split
      · rename_i hm
        have hd := run_le' dig ((c :: r).drop (run sym (c :: r) + 1))
        rw [List.length_drop] at hd
        have hx : run sym (c :: r) + 1 ≤ (c :: r).length := by
          rcases hq : (c :: r).drop (run sym (c :: r)) with _ | ⟨a, b⟩
          · rw [hq] at hm; exact absurd hm.2 (by simp [expo])
          · have : ((c :: r).drop (run sym (c :: r))).length = (a :: b).length := by rw [hq]
            rw [List.length_drop] at this
            have h2 : 0 < (a :: b).length := by simp
            omega
        omega
      · exact hr
    · obtain ⟨y, hy, rfl⟩ := List.mem_map.1 hx
      exact up_byte (hb y (List.mem_of_mem_take hy))
theorem signs_ok : ∀ l ∈ signs, 1 ≤ l.length ∧ ∀ x ∈ l, 0 ≤ x ∧ x < 256 := by decide
theorem prefix_len : ∀ (a b : List Int), a.isPrefixOf b = true → a.length ≤ b.length
  | [], b, _ => Nat.zero_le _
  | _ :: _, [], h => by cases h
  | x :: a, y :: b, h => by
    simp only [List.isPrefixOf, Bool.and_eq_true] at h
    have := prefix_len a b h.2
    simp only [List.length_cons]; omega
theorem signTok_ok {xs t : List Int} {n : Nat} (h : signTok xs = .ok t n) : 1 ≤ n ∧ n ≤ xs.length ∧ ∀ x ∈ t, 0 ≤ x ∧ x < 256 := by
  unfold signTok at h
  cases hf : signs.find? (fun x => x.isPrefixOf xs) with
  | none => rw [hf] at h; cases h
  | some l =>
    rw [hf] at h
    simp only [TR.ok.injEq] at h
    obtain ⟨rfl, rfl⟩ := h
    obtain ⟨h1, h2⟩ := signs_ok l (List.mem_of_find?_eq_some hf)
    exact ⟨h1, prefix_len _ _ (by simpa using List.find?_some hf), h2⟩
theorem tokStep_tok {k k' n : Nat} {t : List Int} {r : TR} (h : tokStep k r = .tok k' t n) : k' = k ∧ r = .ok t n := by
  cases r with
  | err c => cases h
  | ok t' n' => cases h; exact ⟨rfl, rfl⟩
theorem cmtStep_ne {r : CR} {k n : Nat} {t : List Int} (h : cmtStep r = .tok k t n) : False := by
  cases r with
  | eof => cases h
  | done i l b => unfold cmtStep at h; by_cases hb : b = 0 <;> simp [hb] at h
theorem step_tok {xs t : List Int} {k n : Nat} (hb : ∀ x ∈ xs, 0 ≤ x ∧ x < 256) (h : step xs = .tok k t n) : 1 ≤ n ∧ n ≤ xs.length ∧ (∀ x ∈ t, 0 ≤ x ∧ x < 256) ∧ 1 ≤ k ∧ k ≤ 3 := by
  rcases xs with _ | ⟨c, r⟩
  · cases h
  simp only [step] at h
  by_cases h1 : c = 10
  · rw [if_pos h1] at h; cases h
  rw [if_neg h1] at h
  by_cases h2 : c = 32
  · rw [if_pos h2] at h; cases h
  rw [if_neg h2] at h
  by_cases h3 : starts2 (c :: r) = true
  · rw [if_pos h3] at h; exact (cmtStep_ne h).elim
  rw [if_neg h3] at h
  by_cases h4 : c = 39 ∨ c = 34
  · rw [if_pos h4] at h
    obtain ⟨rfl, hr⟩ := tokStep_tok h
    obtain ⟨a, b, d⟩ := litTok_ok hb hr
    exact ⟨a, b, d, by omega, by omega⟩
  rw [if_neg h4] at h
  by_cases h5 : sym c = true
  · rw [if_pos h5] at h
    obtain ⟨rfl, hr⟩ := tokStep_tok h
    obtain ⟨a, b, d⟩ := symTok_ok hb h5 hr
    exact ⟨a, b, d, by omega, by omega⟩
  rw [if_neg h5] at h
  obtain ⟨rfl, hr⟩ := tokStep_tok h
  obtain ⟨a, b, d⟩ := signTok_ok hr
  exact ⟨a, b, d, by omega, by omega⟩
theorem step_cmt {xs : List Int} {n dl : Nat} (h : step xs = .cmt n dl) : 1 ≤ n ∧ n ≤ xs.length ∧ dl ≤ n := by
  rcases xs with _ | ⟨c, r⟩
  · cases h
  simp only [step] at h
  have key : ∀ k R, tokStep k R ≠ .cmt n dl := fun k R e => by cases R <;> cases e
  by_cases h1 : c = 10
  · rw [if_pos h1] at h; cases h
  rw [if_neg h1] at h
  by_cases h2 : c = 32
  · rw [if_pos h2] at h; cases h
  rw [if_neg h2] at h
  by_cases h3 : starts2 (c :: r) = true
  · rw [if_pos h3] at h
    cases hR : cmt (c :: r) 0 0 1 0 with
    | eof => rw [hR] at h; cases h
    | done i l b =>
      rw [hR] at h
      simp only [cmtStep] at h
      by_cases hb : b = 0
      · rw [if_pos hb] at h
        cases h
        have := cmt_bounds _ _ _ _ _ _ _ _ hR
        omega
      · rw [if_neg hb] at h; cases h
  rw [if_neg h3] at h
  by_cases h4 : c = 39 ∨ c = 34
  · rw [if_pos h4] at h; exact (key _ _ h).elim
  rw [if_neg h4] at h
  by_cases h5 : sym c = true
  · rw [if_pos h5] at h; exact (key _ _ h).elim
  rw [if_neg h5] at h; exact (key _ _ h).elim
theorem step_some {xs : List Int} (h : step xs ≠ .fin) : 1 ≤ xs.length := by
  rcases xs with _ | ⟨c, r⟩
  · exact absurd rfl h
  · simp
end Go.Proofs.YtkkpjonfaflkmaaGreatDoor.S

namespace Go.Proofs.YtkkpjonfaflkmaaGreatDoor.S
set_option linter.unusedSimpArgs false
set_option linter.unusedVariables false
theorem tokStep_err {k c dl : Nat} {r : TR} (h : tokStep k r = .err c dl) : r = .err c := by
  cases r with
  | err c' => cases h; rfl
  | ok t n => cases h
theorem litEnd_err {v : List Int} {n c : Nat} (h : litEnd v n = .err c) : c = 30 := by
  unfold litEnd at h
  by_cases hv : 1000 < v.length
  · rw [if_pos hv] at h; cases h; rfl
  · rw [if_neg hv] at h; cases h
theorem litTok_err {xs : List Int} {c : Nat} (h : litTok xs = .err c) : c ≠ 0 := by
  rcases xs with _ | ⟨q, r⟩
  · cases h; decide
  simp only [litTok] at h
  cases hl : lit q r 1 [] with
  | none => rw [hl] at h; cases h; decide
  | some p =>
    obtain ⟨v, i⟩ := p
    rw [hl] at h
    simp only at h
    by_cases hp : v.all prn = true
    · rw [if_pos hp] at h
      by_cases hs : sfx ((q :: r).drop (i + 1)) = 0
      · rw [if_pos hs] at h
        rw [litEnd_err h]; decide
      · rw [if_neg hs] at h
        cases hd : litDec v (sfx ((q :: r).drop (i + 1))) with
        | none => rw [hd] at h; cases h; decide
        | some u => rw [hd] at h; rw [litEnd_err h]; decide
    · rw [if_neg hp] at h; cases h; decide
theorem symTok_err {xs : List Int} {c : Nat} (h : symTok xs = .err c) : c ≠ 0 := by
  unfold symTok at h
  by_cases h4 : 40 < symLen xs
  · rw [if_pos h4] at h; cases h; decide
  · rw [if_neg h4] at h; cases h
theorem signTok_err {xs : List Int} {c : Nat} (h : signTok xs = .err c) : c ≠ 0 := by
  unfold signTok at h
  cases hf : signs.find? (fun x => x.isPrefixOf xs) with
  | none => rw [hf] at h; cases h; decide
  | some l => rw [hf] at h; cases h
theorem step_err {xs : List Int} {c dl : Nat} (h : step xs = .err c dl) : c ≠ 0 := by
  rcases xs with _ | ⟨x, r⟩
  · cases h
  simp only [step] at h
  by_cases h1 : x = 10
  · rw [if_pos h1] at h; cases h
  rw [if_neg h1] at h
  by_cases h2 : x = 32
  · rw [if_pos h2] at h; cases h
  rw [if_neg h2] at h
  by_cases h3 : starts2 (x :: r) = true
  · rw [if_pos h3] at h
    cases hR : cmt (x :: r) 0 0 1 0 with
    | eof => rw [hR] at h; cases h; decide
    | done i l b =>
      rw [hR] at h
      simp only [cmtStep] at h
      by_cases hb : b = 0
      · rw [if_pos hb] at h; cases h
      · rw [if_neg hb] at h; cases h; decide
  rw [if_neg h3] at h
  by_cases h4 : x = 39 ∨ x = 34
  · rw [if_pos h4] at h; exact litTok_err (tokStep_err h)
  rw [if_neg h4] at h
  by_cases h5 : sym x = true
  · rw [if_pos h5] at h; exact symTok_err (tokStep_err h)
  rw [if_neg h5] at h; exact signTok_err (tokStep_err h)
theorem go_err : ∀ (f : Nat) (xs : List Int) (i line : Nat) (cur : List Tk) (gap : Bool) (c ln : Nat), (go f xs i line cur gap).err = some (c, ln) → c ≠ 0
  | 0, _, _, _, _, _, _, _, h => by cases h
  | f + 1, xs, i, line, cur, gap, c, ln, h => by
    simp only [go] at h
    cases hS : step xs with
    | fin => rw [hS] at h; cases h
    | line =>
      rw [hS] at h
      simp only at h
      by_cases hc : comma cur = true
      · rw [if_pos hc] at h; exact go_err f _ _ _ _ _ c ln h
      · rw [if_neg hc] at h; exact go_err f _ _ _ _ _ c ln h
    | blank => rw [hS] at h; exact go_err f _ _ _ _ _ c ln h
    | cmt n dl => rw [hS] at h; exact go_err f _ _ _ _ _ c ln h
    | tok k t n =>
      rw [hS] at h
      simp only at h
      by_cases h1 : k = 3 ∧ t = [59]
      · rw [if_pos h1] at h; exact go_err f _ _ _ _ _ c ln h
      · rw [if_neg h1] at h
        split at h
        · exact go_err f _ _ _ _ _ c ln h
        · exact go_err f _ _ _ _ _ c ln h
    | err c' dl =>
      rw [hS] at h
      simp only [Option.some.injEq, Prod.mk.injEq] at h
      rw [← h.1]
      exact step_err hS
theorem scan_err {xs : List Int} {c ln : Nat} (h : (scan xs).err = some (c, ln)) : c ≠ 0 := go_err _ _ _ _ _ _ c ln h
end Go.Proofs.YtkkpjonfaflkmaaGreatDoor.S

namespace Go.Proofs.YtkkpjonfaflkmaaGreatDoor.S
set_option linter.unusedSimpArgs false
set_option linter.unusedVariables false
theorem lit_loc (q : Int) : ∀ (xs : List Int) (i : Nat) (acc v : List Int) (j : Nat), lit q xs i acc = some (v, j) →
    ∃ U R, xs = U ++ q :: R ∧ U.length + i = j ∧ R.head? ≠ some q ∧ ∀ R', R'.head? ≠ some q → lit q (U ++ q :: R') i acc = some (v, j)
  | [], _, _, _, _ => fun h => by cases h
  | [c], i, acc, v, j => fun h => by
    rw [lit] at h
    by_cases h1 : c = 10
    · rw [if_pos h1] at h; cases h
    · rw [if_neg h1] at h
      by_cases h2 : c = q
      · rw [if_pos h2] at h; cases h
        subst h2
        refine ⟨[], [], rfl, by simp, by simp, fun R' hR => ?_⟩
        rcases R' with _ | ⟨d, t⟩
        · simp [lit, h1]
        · simp only [List.head?_cons, ne_eq, Option.some.injEq] at hR
          simp [lit, h1, hR]
      · rw [if_neg h2] at h; cases h
  | c :: d :: t, i, acc, v, j => fun h => by
    rw [lit] at h
    by_cases h1 : c = 10
    · rw [if_pos h1] at h; cases h
    · rw [if_neg h1] at h
      by_cases h2 : c = q
      · rw [if_pos h2] at h
        by_cases h3 : d = q
        · rw [if_pos h3] at h
          obtain ⟨U, R, e1, e2, e3, e4⟩ := lit_loc q t (i + 2) (acc ++ [q]) v j h
          subst h2 h3
          refine ⟨d :: d :: U, R, by rw [e1]; rfl, by simp only [List.length_cons]; omega, e3, fun R' hR => ?_⟩
          have := e4 R' hR
          show lit d (d :: d :: (U ++ d :: R')) i acc = _
          rw [lit, if_neg h1, if_pos rfl, if_pos rfl]; exact this
        · rw [if_neg h3] at h; cases h
          subst h2
          refine ⟨[], d :: t, rfl, by simp, by simpa using h3, fun R' hR => ?_⟩
          rcases R' with _ | ⟨d, t⟩
          · simp [lit, h1]
          · simp only [List.head?_cons, ne_eq, Option.some.injEq] at hR
            simp [lit, h1, hR]
      · rw [if_neg h2] at h
        obtain ⟨U, R, e1, e2, e3, e4⟩ := lit_loc q (d :: t) (i + 1) (acc ++ [c]) v j h
        refine ⟨c :: U, R, by rw [e1]; rfl, by simp only [List.length_cons]; omega, e3, fun R' hR => ?_⟩
        have := e4 R' hR
        show lit q (c :: (U ++ q :: R')) i acc = _
        rcases hu : U ++ q :: R' with _ | ⟨e, s⟩
        · simp at hu
        · rw [hu] at this
          rw [lit, if_neg h1, if_neg h2]; exact this
theorem litTok_eq (q : Int) (U R R' : List Int) (v : List Int) (h : lit q (U ++ q :: R) 1 [] = some (v, U.length + 1)) (h' : lit q (U ++ q :: R') 1 [] = some (v, U.length + 1)) (hs : sfx R' = sfx R) :
    litTok (q :: (U ++ q :: R')) = litTok (q :: (U ++ q :: R)) := by
  have d : ∀ R : List Int, (q :: (U ++ q :: R)).drop (U.length + 1 + 1) = R := fun R => by
    rw [List.drop_succ_cons, List.drop_append, List.drop_eq_nil_of_le (by omega)]
    simp
  simp only [litTok, h, h', d, hs]
theorem litTok_parts {q : Int} {t : List Int} {x : List Int} {n : Nat} (h : litTok (q :: t) = .ok x n) :
    ∃ v U R, t = U ++ q :: R ∧ R.head? ≠ some q ∧ (∀ R', R'.head? ≠ some q → lit q (U ++ q :: R') 1 [] = some (v, U.length + 1)) ∧ ((sfx R = 0 ∧ n = U.length + 2) ∨ (sfx R ≠ 0 ∧ n = U.length + 3)) := by
  simp only [litTok] at h
  cases hl : lit q t 1 [] with
  | none => rw [hl] at h; cases h
  | some p =>
    obtain ⟨v, i⟩ := p
    rw [hl] at h
    simp only at h
    obtain ⟨U, R, e1, e2, e3, e4⟩ := lit_loc q t 1 [] v i hl
    subst e1
    obtain rfl : i = U.length + 1 := by omega
    have d : (q :: (U ++ q :: R)).drop (U.length + 1 + 1) = R := by
      rw [List.drop_succ_cons, List.drop_append, List.drop_eq_nil_of_le (by omega)]
      simp
    rw [d] at h
    refine ⟨v, U, R, rfl, e3, e4, ?_⟩
    by_cases hp : v.all prn = true
    · rw [if_pos hp] at h
      by_cases hs : sfx R = 0
      · rw [if_pos hs] at h
        exact .inl ⟨hs, (litEnd_ok h).2⟩
      · rw [if_neg hs] at h
        cases hd : litDec v (sfx R) with
        | none => rw [hd] at h; cases h
        | some u => rw [hd] at h; exact .inr ⟨hs, (litEnd_ok h).2⟩
    · rw [if_neg hp] at h; cases h
end Go.Proofs.YtkkpjonfaflkmaaGreatDoor.S
