/- Part 4 of the proof of ScanComments: the functions that it calls return what their plain descriptions say. -/
import Derived.Test.YtkkpjonfaflkmaaGreatDoorCScanComments2
import Derived.Test.YtkkpjonfaflkmaaGreatDoorCScanComments3
import Derived.Maps.OwnIn
import Derived.Maps.AppendAt
import Derived.StillTail
import Derived.StillTactics

-- Written by a program of this session (mp.py over the kit's print.py), out of the translation.
namespace Go.Proofs.YtkkpjonfaflkmaaGreatDoor.T
set_option linter.unusedSimpArgs false
open Go.RowKit Go.Proofs.YtkkpjonfaflkmaaGreatDoorW.PrintWords Go.Proofs.YtkkpjonfaflkmaaGreatDoorW.PrintLast Go.Proofs.YtkkpjonfaflkmaaGreatDoorW.PrintMore
attribute [local go_sem] max2_int min2_int max_two min_two max_three min_three max_four min_four   -- for this text's walks alone
set_option linter.unusedVariables false
set_option linter.unusedSimpArgs false

/-! ### scan_label: function 54 -/
def scan_label.f (l0 : List (S53)) : Option (Bool) := if (l0.length : Int) = 2 then (if 0 < (l0.length : Int) then (if ((rd_T53 l0 0).f0) = 1 then (if 1 < (l0.length : Int) then (if ((rd_T53 l0 1).f0) = 3 then (some (((rd_T53 l0 1).f1).toList == ([58] : List UInt8))) else (some false)) else (none)) else (some false)) else (none)) else (some false)
set_option maxHeartbeats 8000000 in
set_option maxRecDepth 100000 in
theorem scan_label.calls (A0 : Option Addr) (c0 : Nat) (l0 : List (S53)) (r : Bool) (w : World) (hr0 : Kd.C k53 w A0 l0.length l0) (hc0 : l0.length ≤ c0) (h : scan_label.f l0 = some r) :
    Calls Tryz.prog 54 #[.slice A0 l0.length c0] w fun e w' => e = .returned (.bool r) ∧ Drawn0 w w' := by
  have HR0 := Aside0.mk hr0
  have HC0 := Aside0.mk hc0
  clear hr0 hc0
  have H : (if (l0.length : Int) = 2 then (if 0 < (l0.length : Int) then (if ((rd_T53 l0 0).f0) = 1 then (if 1 < (l0.length : Int) then (if ((rd_T53 l0 1).f0) = 3 then (some (((rd_T53 l0 1).f1).toList == ([58] : List UInt8))) else (some false)) else (none)) else (some false)) else (none)) else (some false)) = some r := h
  clear h
  by_cases c2 : (l0.length : Int) = 2
  · rw [if_pos c2] at H
    have c2b0 : ((l0.length : Int) == 2) = true := beq_iff_eq.mpr c2
    have c2b1 : ((l0.length : Int) != 2) = false := bne_eq_false_iff_eq.mpr c2
    clear c2
    by_cases c3 : 0 < (l0.length : Int)
    · rw [if_pos c3] at H
      have c3b0 : decide (0 < (l0.length : Int)) = true := decide_eq_true c3
      have c3b1 : decide (0 < l0.length) = true := decide_eq_true (by omega)
      clear c3
      by_cases c4 : ((rd_T53 l0 0).f0) = 1
      · rw [if_pos c4] at H
        have c4b0 : (((rd_T53 l0 0).f0) == 1) = true := beq_iff_eq.mpr c4
        have c4b1 : (((rd_T53 l0 0).f0) != 1) = false := bne_eq_false_iff_eq.mpr c4
        clear c4
        by_cases c5 : 1 < (l0.length : Int)
        · rw [if_pos c5] at H
          have c5b0 : decide (1 < (l0.length : Int)) = true := decide_eq_true c5
          have c5b1 : decide (1 < l0.length) = true := decide_eq_true (by omega)
          clear c5
          by_cases c6 : ((rd_T53 l0 1).f0) = 3
          · rw [if_pos c6] at H
            have c6b0 : (((rd_T53 l0 1).f0) == 3) = true := beq_iff_eq.mpr c6
            have c6b1 : (((rd_T53 l0 1).f0) != 3) = false := bne_eq_false_iff_eq.mpr c6
            clear c6
            obtain rfl := Option.some.inj H
            have p102 : 0 ≤ (0 : Int) := (by omega)
            have q102 : 0 < (l0.length : Int) := of_decide_eq_true (by first | (with_reducible assumption) | assumption)
            obtain ⟨ad102, e102, hx102_0, hx102_1, hx102_2, hx102_3, hx102_4, hx102_5⟩ := at_T53 HR0.out 0 p102 q102
            cases e102
            have qi102 : (0 < l0.length) = True := eq_true (by omega)
            (try rw [show ((0 : Int)).toNat = 0 from rfl] at hx102_0)
            (try rw [show 0 * 6 = 0 from rfl] at hx102_0)
            (try rw [Addr.add_zero'] at hx102_0)
            (try rw [show ((0 : Int)).toNat = 0 from rfl] at hx102_1)
            (try rw [show 0 * 6 = 0 from rfl] at hx102_1)
            (try rw [Addr.add_zero'] at hx102_1)
            (try rw [show ((0 : Int)).toNat = 0 from rfl] at hx102_2)
            (try rw [show 0 * 6 = 0 from rfl] at hx102_2)
            (try rw [Addr.add_zero'] at hx102_2)
            (try rw [show ((0 : Int)).toNat = 0 from rfl] at hx102_3)
            (try rw [show 0 * 6 = 0 from rfl] at hx102_3)
            (try rw [Addr.add_zero'] at hx102_3)
            (try rw [show ((0 : Int)).toNat = 0 from rfl] at hx102_4)
            (try rw [show 0 * 6 = 0 from rfl] at hx102_4)
            (try rw [Addr.add_zero'] at hx102_4)
            (try rw [show ((0 : Int)).toNat = 0 from rfl] at hx102_5)
            (try rw [show 0 * 6 = 0 from rfl] at hx102_5)
            (try rw [Addr.add_zero'] at hx102_5)
            replace p102 := eq_true p102
            replace q102 := eq_true q102
            have p103 : 0 ≤ (1 : Int) := (by omega)
            have q103 : 1 < (l0.length : Int) := of_decide_eq_true (by first | (with_reducible assumption) | assumption)
            obtain ⟨ad103, e103, hx103_0, hx103_1, hx103_2, hx103_3, hx103_4, hx103_5⟩ := at_T53 HR0.out 1 p103 q103
            obtain rfl : ad102 = ad103 := (by injection e103)
            (try simp only [show (1 : Int).toNat = 1 from rfl, Nat.reduceMul, Nat.reduceEqDiff, Go.Addr.add, ↓reduceIte] at hx103_0)
            (try simp only [show (1 : Int).toNat = 1 from rfl, Nat.reduceMul, Nat.reduceEqDiff, Go.Addr.add, ↓reduceIte] at hx103_1)
            (try simp only [show (1 : Int).toNat = 1 from rfl, Nat.reduceMul, Nat.reduceEqDiff, Go.Addr.add, ↓reduceIte] at hx103_2)
            (try simp only [show (1 : Int).toNat = 1 from rfl, Nat.reduceMul, Nat.reduceEqDiff, Go.Addr.add, ↓reduceIte] at hx103_3)
            (try simp only [show (1 : Int).toNat = 1 from rfl, Nat.reduceMul, Nat.reduceEqDiff, Go.Addr.add, ↓reduceIte] at hx103_4)
            (try simp only [show (1 : Int).toNat = 1 from rfl, Nat.reduceMul, Nat.reduceEqDiff, Go.Addr.add, ↓reduceIte] at hx103_5)
            have qi103 : (1 < l0.length) = True := eq_true (by omega)
            (try rw [show ((1 : Int)).toNat = 1 from rfl] at hx103_0)
            (try rw [show 1 * 6 = 6 from rfl] at hx103_0)
            (try rw [show ((1 : Int)).toNat = 1 from rfl] at hx103_1)
            (try rw [show 1 * 6 = 6 from rfl] at hx103_1)
            (try rw [show ((1 : Int)).toNat = 1 from rfl] at hx103_2)
            (try rw [show 1 * 6 = 6 from rfl] at hx103_2)
            (try rw [show ((1 : Int)).toNat = 1 from rfl] at hx103_3)
            (try rw [show 1 * 6 = 6 from rfl] at hx103_3)
            (try rw [show ((1 : Int)).toNat = 1 from rfl] at hx103_4)
            (try rw [show 1 * 6 = 6 from rfl] at hx103_4)
            (try rw [show ((1 : Int)).toNat = 1 from rfl] at hx103_5)
            (try rw [show 1 * 6 = 6 from rfl] at hx103_5)
            replace p103 := eq_true p103
            replace q103 := eq_true q103
            have p104 : 0 ≤ (1 : Int) := (by omega)
            have q104 : 1 < (l0.length : Int) := of_decide_eq_true (by first | (with_reducible assumption) | assumption)
            obtain ⟨ad104, e104, hx104_0, hx104_1, hx104_2, hx104_3, hx104_4, hx104_5⟩ := at_T53 HR0.out 1 p104 q104
            obtain rfl : ad102 = ad104 := (by injection e104)
            (try simp only [show (1 : Int).toNat = 1 from rfl, Nat.reduceMul, Nat.reduceEqDiff, Go.Addr.add, ↓reduceIte] at hx104_0)
            (try simp only [show (1 : Int).toNat = 1 from rfl, Nat.reduceMul, Nat.reduceEqDiff, Go.Addr.add, ↓reduceIte] at hx104_1)
            (try simp only [show (1 : Int).toNat = 1 from rfl, Nat.reduceMul, Nat.reduceEqDiff, Go.Addr.add, ↓reduceIte] at hx104_2)
            (try simp only [show (1 : Int).toNat = 1 from rfl, Nat.reduceMul, Nat.reduceEqDiff, Go.Addr.add, ↓reduceIte] at hx104_3)
            (try simp only [show (1 : Int).toNat = 1 from rfl, Nat.reduceMul, Nat.reduceEqDiff, Go.Addr.add, ↓reduceIte] at hx104_4)
            (try simp only [show (1 : Int).toNat = 1 from rfl, Nat.reduceMul, Nat.reduceEqDiff, Go.Addr.add, ↓reduceIte] at hx104_5)
            have qi104 : (1 < l0.length) = True := eq_true (by omega)
            (try rw [show ((1 : Int)).toNat = 1 from rfl] at hx104_0)
            (try rw [show 1 * 6 = 6 from rfl] at hx104_0)
            (try rw [show ((1 : Int)).toNat = 1 from rfl] at hx104_1)
            (try rw [show 1 * 6 = 6 from rfl] at hx104_1)
            (try rw [show ((1 : Int)).toNat = 1 from rfl] at hx104_2)
            (try rw [show 1 * 6 = 6 from rfl] at hx104_2)
            (try rw [show ((1 : Int)).toNat = 1 from rfl] at hx104_3)
            (try rw [show 1 * 6 = 6 from rfl] at hx104_3)
            (try rw [show ((1 : Int)).toNat = 1 from rfl] at hx104_4)
            (try rw [show 1 * 6 = 6 from rfl] at hx104_4)
            (try rw [show ((1 : Int)).toNat = 1 from rfl] at hx104_5)
            (try rw [show 1 * 6 = 6 from rfl] at hx104_5)
            replace p104 := eq_true p104
            replace q104 := eq_true q104
            go_enter Tryz.func54, Tryz.ntmps54
            go_wp2
            go_ret
            exact ⟨by first | rfl | (simp; done) | (simp [*]; done), by repeat (first | exact Drawn0.refl _ | apply Drawn0.step)⟩
          · rw [if_neg c6] at H
            have c6b0 : (((rd_T53 l0 1).f0) == 3) = false := beq_eq_false_iff_ne.mpr c6
            have c6b1 : (((rd_T53 l0 1).f0) != 3) = true := bne_iff_ne.mpr c6
            obtain rfl := Option.some.inj H
            have p102 : 0 ≤ (0 : Int) := (by omega)
            have q102 : 0 < (l0.length : Int) := of_decide_eq_true (by first | (with_reducible assumption) | assumption)
            obtain ⟨ad102, e102, hx102_0, hx102_1, hx102_2, hx102_3, hx102_4, hx102_5⟩ := at_T53 HR0.out 0 p102 q102
            cases e102
            have qi102 : (0 < l0.length) = True := eq_true (by omega)
            (try rw [show ((0 : Int)).toNat = 0 from rfl] at hx102_0)
            (try rw [show 0 * 6 = 0 from rfl] at hx102_0)
            (try rw [Addr.add_zero'] at hx102_0)
            (try rw [show ((0 : Int)).toNat = 0 from rfl] at hx102_1)
            (try rw [show 0 * 6 = 0 from rfl] at hx102_1)
            (try rw [Addr.add_zero'] at hx102_1)
            (try rw [show ((0 : Int)).toNat = 0 from rfl] at hx102_2)
            (try rw [show 0 * 6 = 0 from rfl] at hx102_2)
            (try rw [Addr.add_zero'] at hx102_2)
            (try rw [show ((0 : Int)).toNat = 0 from rfl] at hx102_3)
            (try rw [show 0 * 6 = 0 from rfl] at hx102_3)
            (try rw [Addr.add_zero'] at hx102_3)
            (try rw [show ((0 : Int)).toNat = 0 from rfl] at hx102_4)
            (try rw [show 0 * 6 = 0 from rfl] at hx102_4)
            (try rw [Addr.add_zero'] at hx102_4)
            (try rw [show ((0 : Int)).toNat = 0 from rfl] at hx102_5)
            (try rw [show 0 * 6 = 0 from rfl] at hx102_5)
            (try rw [Addr.add_zero'] at hx102_5)
            replace p102 := eq_true p102
            replace q102 := eq_true q102
            have p103 : 0 ≤ (1 : Int) := (by omega)
            have q103 : 1 < (l0.length : Int) := of_decide_eq_true (by first | (with_reducible assumption) | assumption)
            obtain ⟨ad103, e103, hx103_0, hx103_1, hx103_2, hx103_3, hx103_4, hx103_5⟩ := at_T53 HR0.out 1 p103 q103
            obtain rfl : ad102 = ad103 := (by injection e103)
            (try simp only [show (1 : Int).toNat = 1 from rfl, Nat.reduceMul, Nat.reduceEqDiff, Go.Addr.add, ↓reduceIte] at hx103_0)
            (try simp only [show (1 : Int).toNat = 1 from rfl, Nat.reduceMul, Nat.reduceEqDiff, Go.Addr.add, ↓reduceIte] at hx103_1)
            (try simp only [show (1 : Int).toNat = 1 from rfl, Nat.reduceMul, Nat.reduceEqDiff, Go.Addr.add, ↓reduceIte] at hx103_2)
            (try simp only [show (1 : Int).toNat = 1 from rfl, Nat.reduceMul, Nat.reduceEqDiff, Go.Addr.add, ↓reduceIte] at hx103_3)
            (try simp only [show (1 : Int).toNat = 1 from rfl, Nat.reduceMul, Nat.reduceEqDiff, Go.Addr.add, ↓reduceIte] at hx103_4)
            (try simp only [show (1 : Int).toNat = 1 from rfl, Nat.reduceMul, Nat.reduceEqDiff, Go.Addr.add, ↓reduceIte] at hx103_5)
            have qi103 : (1 < l0.length) = True := eq_true (by omega)
            (try rw [show ((1 : Int)).toNat = 1 from rfl] at hx103_0)
            (try rw [show 1 * 6 = 6 from rfl] at hx103_0)
            (try rw [show ((1 : Int)).toNat = 1 from rfl] at hx103_1)
            (try rw [show 1 * 6 = 6 from rfl] at hx103_1)
            (try rw [show ((1 : Int)).toNat = 1 from rfl] at hx103_2)
            (try rw [show 1 * 6 = 6 from rfl] at hx103_2)
            (try rw [show ((1 : Int)).toNat = 1 from rfl] at hx103_3)
            (try rw [show 1 * 6 = 6 from rfl] at hx103_3)
            (try rw [show ((1 : Int)).toNat = 1 from rfl] at hx103_4)
            (try rw [show 1 * 6 = 6 from rfl] at hx103_4)
            (try rw [show ((1 : Int)).toNat = 1 from rfl] at hx103_5)
            (try rw [show 1 * 6 = 6 from rfl] at hx103_5)
            replace p103 := eq_true p103
            replace q103 := eq_true q103
            go_enter Tryz.func54, Tryz.ntmps54
            go_wp2
            go_ret
            exact ⟨by first | rfl | (simp; done) | (simp [*]; done), by repeat (first | exact Drawn0.refl _ | apply Drawn0.step)⟩
        · rw [if_neg c5] at H
          exact absurd H (by simp)
      · rw [if_neg c4] at H
        have c4b0 : (((rd_T53 l0 0).f0) == 1) = false := beq_eq_false_iff_ne.mpr c4
        have c4b1 : (((rd_T53 l0 0).f0) != 1) = true := bne_iff_ne.mpr c4
        obtain rfl := Option.some.inj H
        have p102 : 0 ≤ (0 : Int) := (by omega)
        have q102 : 0 < (l0.length : Int) := of_decide_eq_true (by first | (with_reducible assumption) | assumption)
        obtain ⟨ad102, e102, hx102_0, hx102_1, hx102_2, hx102_3, hx102_4, hx102_5⟩ := at_T53 HR0.out 0 p102 q102
        cases e102
        have qi102 : (0 < l0.length) = True := eq_true (by omega)
        (try rw [show ((0 : Int)).toNat = 0 from rfl] at hx102_0)
        (try rw [show 0 * 6 = 0 from rfl] at hx102_0)
        (try rw [Addr.add_zero'] at hx102_0)
        (try rw [show ((0 : Int)).toNat = 0 from rfl] at hx102_1)
        (try rw [show 0 * 6 = 0 from rfl] at hx102_1)
        (try rw [Addr.add_zero'] at hx102_1)
        (try rw [show ((0 : Int)).toNat = 0 from rfl] at hx102_2)
        (try rw [show 0 * 6 = 0 from rfl] at hx102_2)
        (try rw [Addr.add_zero'] at hx102_2)
        (try rw [show ((0 : Int)).toNat = 0 from rfl] at hx102_3)
        (try rw [show 0 * 6 = 0 from rfl] at hx102_3)
        (try rw [Addr.add_zero'] at hx102_3)
        (try rw [show ((0 : Int)).toNat = 0 from rfl] at hx102_4)
        (try rw [show 0 * 6 = 0 from rfl] at hx102_4)
        (try rw [Addr.add_zero'] at hx102_4)
        (try rw [show ((0 : Int)).toNat = 0 from rfl] at hx102_5)
        (try rw [show 0 * 6 = 0 from rfl] at hx102_5)
        (try rw [Addr.add_zero'] at hx102_5)
        replace p102 := eq_true p102
        replace q102 := eq_true q102
        go_enter Tryz.func54, Tryz.ntmps54
        go_wp2
        go_ret
        exact ⟨by first | rfl | (simp; done) | (simp [*]; done), by repeat (first | exact Drawn0.refl _ | apply Drawn0.step)⟩
    · rw [if_neg c3] at H
      exact absurd H (by simp)
  · rw [if_neg c2] at H
    have c2b0 : ((l0.length : Int) == 2) = false := beq_eq_false_iff_ne.mpr c2
    have c2b1 : ((l0.length : Int) != 2) = true := bne_iff_ne.mpr c2
    obtain rfl := Option.some.inj H
    go_enter Tryz.func54, Tryz.ntmps54
    go_wp2
    go_ret
    exact ⟨by first | rfl | (simp; done) | (simp [*]; done), by repeat (first | exact Drawn0.refl _ | apply Drawn0.step)⟩

end Go.Proofs.YtkkpjonfaflkmaaGreatDoor.T

/- Rows of tokens in the printer's words; comma, label. -/
namespace Go.Proofs.YtkkpjonfaflkmaaGreatDoor.T
set_option linter.unusedSimpArgs false
set_option linter.unusedVariables false
open Go.RowKit Go.Proofs.YtkkpjonfaflkmaaGreatDoorW.PrintWords Go.Proofs.YtkkpjonfaflkmaaGreatDoorW.PrintLast Go.Proofs.YtkkpjonfaflkmaaGreatDoorW.PrintMore

def toS (t : S.Tk) : S53 := ⟨t.kind, strOfNums t.text, t.gap, t.line, t.at_, t.to⟩
theorem tksL_at : ∀ (l : List S.Tk) (j : Nat) (t : S.Tk), l[j]? = some t → ((tksL l).drop (j * 6)).take 6 = tkL t
  | [], j, t, h => by simp at h
  | a :: l, 0, t, h => by
    simp only [List.getElem?_cons_zero, Option.some.injEq] at h
    subst h
    simp only [tksL, List.map_cons, List.flatten_cons, Nat.zero_mul, List.drop_zero]
    rw [List.take_append, List.take_of_length_le (by show 6 ≤ 6; omega)]
    have : 6 - (tkL a).length = 0 := rfl
    rw [this, List.take_zero, List.append_nil]
  | a :: l, j + 1, t, h => by
    simp only [List.getElem?_cons_succ] at h
    have := tksL_at l j t h
    rw [← this]
    congr 1
    simp only [tksL, List.map_cons, List.flatten_cons]
    rw [List.drop_append]
    rw [List.drop_eq_nil_of_le (by show 6 ≤ _; omega), List.nil_append]
    congr 1
    show (j + 1) * 6 - 6 = j * 6
    omega
theorem tks_reps {W : World} {base : Nat} {ok : Nat → Prop} (cur : List S.Tk) : Reps (k53.M W base ok) 6 (cur.map toS) (tksL cur) := by
  refine ⟨by rw [tksL_length, List.length_map], fun j p hj => ?_⟩
  rw [List.getElem?_map] at hj
  cases hc : cur[j]? with
  | none => rw [hc] at hj; cases hj
  | some t =>
    rw [hc] at hj
    simp only [Option.map_some, Option.some.injEq] at hj
    subst hj
    rw [tksL_at cur j t hc]
    exact k53_mkM W base ok (toS t)
theorem tks_R {W : World} {base : Nat} {v : Value} {cur : List S.Tk} (h : W.ownsRow base 53 6 v cur.length (tksL cur)) : Kd.R k53 53 W base (fun _ => True) v (cur.map toS) :=
  ⟨fun _ _ => trivial, tksL cur, by rw [List.length_map]; exact h, tks_reps cur⟩
theorem tks_C {W : World} {base : Nat} {A : Option Addr} {n c : Nat} {cur : List S.Tk} (h : W.ownsRow base 53 6 (.slice A n c) cur.length (tksL cur)) : n = cur.length ∧ n ≤ c ∧ Kd.C k53 W A (cur.map toS).length (cur.map toS) := by
  obtain ⟨A', c', e, hc, hC⟩ := Kd.R_reads (tks_R h)
  simp only [Value.slice.injEq, List.length_map] at e hc
  obtain ⟨rfl, rfl, rfl⟩ := e
  exact ⟨rfl, hc, hC⟩
def Bytes (t : S.Tk) : Prop := ∀ x ∈ t.text, 0 ≤ x ∧ x < 256
theorem text_eq {t : S.Tk} (h : Bytes t) (c : UInt8) : ((strOfNums t.text).toList == [c]) = decide (t.text = [(c.toNat : Int)]) := by
  rw [str_eq, bytesOf_str _ h]
  rfl
theorem comma_f (cur : List S.Tk) (hb : ∀ t ∈ cur, Bytes t) (hl : cur.length ≤ 1000000) : scan_comma.f (cur.map toS) = some (S.comma cur) := by
  unfold scan_comma.f S.comma
  rcases List.eq_nil_or_concat cur with rfl | ⟨l, t, rfl⟩
  · rfl
  · have hlen : ((List.concat l t).map toS).length = l.length + 1 := by simp
    have hw : wrap64 ((((List.concat l t).map toS).length : Int) - 1) = (l.length : Int) := by
      rw [hlen]
      have : l.length ≤ 1000000 := by simp at hl; omega
      unfold wrap64; omega
    rw [if_pos (by rw [hlen]; omega), hw, if_pos (by omega), if_pos (by rw [hlen]; omega)]
    have hrd : rd_T53 ((List.concat l t).map toS) (l.length : Int) = toS t := by
      unfold rd_T53
      simp
    rw [hrd]
    have hlast : (List.concat l t).getLast? = some t := by simp
    rw [hlast]
    have ht : Bytes t := hb t (by simp)
    show (if ((t.kind : Nat) : Int) = 3 then some ((strOfNums t.text).toList == [44]) else some false) = some (decide (t.kind = 3) && decide (t.text = [44]))
    rw [text_eq ht]
    by_cases hk : t.kind = 3
    · rw [if_pos (by omega)]; simp [hk]
    · rw [if_neg (by omega)]; simp [hk]
theorem label_f (cur : List S.Tk) (hb : ∀ t ∈ cur, Bytes t) : scan_label.f (cur.map toS) = some (S.label cur) := by
  unfold scan_label.f
  rcases cur with _ | ⟨a, _ | ⟨b, _ | ⟨c, r⟩⟩⟩
  · rfl
  · rw [if_neg (by simp)]; rfl
  · have hlen : (([a, b] : List S.Tk).map toS).length = 2 := rfl
    rw [hlen, if_pos (by omega), if_pos (by omega)]
    have ha : rd_T53 (([a, b] : List S.Tk).map toS) 0 = toS a := rfl
    have hb' : rd_T53 (([a, b] : List S.Tk).map toS) 1 = toS b := rfl
    rw [ha, hb', if_pos (by omega : (1 : Int) < (2 : Nat))]
    show (if ((a.kind : Nat) : Int) = 1 then (if ((b.kind : Nat) : Int) = 3 then some ((strOfNums b.text).toList == [58]) else some false) else some false) = some (decide (a.kind = 1) && decide (b.kind = 3) && decide (b.text = [58]))
    rw [text_eq (hb b (by simp))]
    by_cases h1 : a.kind = 1
    · rw [if_pos (by omega)]
      by_cases h2 : b.kind = 3
      · rw [if_pos (by omega)]; simp [h1, h2]
      · rw [if_neg (by omega)]; simp [h1, h2]
    · rw [if_neg (by omega)]; simp [h1]
  · rw [if_neg (by simp only [List.map_cons, List.length_cons]; omega)]; rfl
end Go.Proofs.YtkkpjonfaflkmaaGreatDoor.T

/- clauses: the iterator. -/
namespace Go.Proofs.YtkkpjonfaflkmaaGreatDoor.T
set_option linter.unusedSimpArgs false
set_option linter.unusedVariables false
open Go.RowKit Go.Maps Go.Proofs.YtkkpjonfaflkmaaGreatDoorW.PrintWords Go.Proofs.YtkkpjonfaflkmaaGreatDoorW.PrintLast Go.Proofs.YtkkpjonfaflkmaaGreatDoorW.PrintMore
attribute [local go_sem] Oper.semAt_some

/-- What stands at each round: the scanner in s, its map in H + 1, the boxes of cur and gap behind s, that of yield in H. -/
structure It (l H s fp FB : Nat) (src : ByteArray) (hd : Int → Value) (D : DataW Unit) (J : List (List S.Tk) → (Nat → Prop) → World → Prop) (i line : Nat) (v : Value) (cur : List S.Tk) (gap : Bool) (pre : List (List S.Tk)) (F : Nat → Prop) (W : World) : Prop where
  sm : ScM s src i line (H + 1) (H + 1 + 2) hd D W
  cu : Cur (s + 1) (s + 1 + 1) H l (s + 3) v cur gap W
  jj : J pre F W
  ff : ∀ k, F k → (k < H ∨ s + 3 ≤ k) ∧ v.ownBlock ≠ some k ∧ k ≠ fp ∧ k ≠ FB
  hfp : W.heap[fp]? = some (.cells #[.int .i64 0, .int .i64 0] 76 (0, 0))
  hfb : W.heap[FB]? = some (.cells #[.pointer (some ⟨fp, 0, none⟩)] 88 (0, 0))
  byt : ∀ t ∈ cur, Bytes t
  len : pre.flatten.length + 2 * cur.length ≤ 2 * i
  l1 : H + 1 < s
  l2 : fp < H
  l3 : FB < H
  rows : ∀ c g, (hd c).ownBlock = some g → H + 1 < g ∧ g < s

section
variable {l n H s fp FB : Nat} {src : ByteArray} {hd : Int → Value} {D : DataW Unit} {J : List (List S.Tk) → (Nat → Prop) → World → Prop} {i line : Nat} {v : Value} {cur : List S.Tk} {gap : Bool} {pre : List (List S.Tk)} {F : Nat → Prop} {W W' : World}
theorem It.own_ge (h : It l H s fp FB src hd D J i line v cur gap pre F W) : ∀ k, v.ownBlock = some k → s + 3 ≤ k := fun k e => (h.cu.own.lt k e).1
/-- The scanner goes on. -/
theorem It.step (C : Client l n J) (h : It l H s fp FB src hd D J i line v cur gap pre F W) {i' line' : Nat} (hb : But (· = s) W W') (hs : Sc s src i' line' (.map (some (H + 1))) W') (hi : i ≤ i') : It l H s fp FB src hd D J i' line' v cur gap pre F W' := by
  have h1 := h.l1
  have h2 := h.l2
  have h3 := h.l3
  have hsm := h.sm
  refine ⟨⟨hs, hsm.sg.but hsm.nm hsm.nr hb, hsm.nm, hsm.nr⟩, h.cu.but hb (fun k e => ⟨by omega, by omega, by omega, fun e2 => by have := h.own_ge k e2; omega⟩), C.stable h.jj (hb.mono (fun k _ e hf => by have := (h.ff k hf).1; omega)), h.ff, (hb.block fp (Array.getElem?_eq_some_iff.1 h.hfp).1 (by show ¬ fp = s; omega)).trans h.hfp, (hb.block FB (Array.getElem?_eq_some_iff.1 h.hfb).1 (by show ¬ FB = s; omega)).trans h.hfb, h.byt, by have := h.len; omega, h1, h2, h3, h.rows⟩
/-- New memory. -/
theorem It.new (C : Client l n J) (h : It l H s fp FB src hd D J i line v cur gap pre F W) (hb : But (fun _ => False) W W') : It l H s fp FB src hd D J i line v cur gap pre F W' := by
  have hb2 : But (· = s) W W' := hb.mono (fun _ _ e => e.elim)
  refine h.step C hb2 ?_ (Nat.le_refl _)
  exact (hb.block s h.sm.sc.lt (fun e => e)).trans h.sm.sc
/-- The boxes of cur and gap turn. -/
theorem It.put (C : Client l n J) (h : It l H s fp FB src hd D J i line v cur gap pre F W) {v' : Value} {cur' : List S.Tk} {gap' : Bool} (hb : But (fun k => k = s + 1 ∨ k = s + 1 + 1 ∨ v.ownBlock = some k) W W') (hc : Cur (s + 1) (s + 1 + 1) H l (s + 3) v' cur' gap' W')
    (hv : ∀ k, v'.ownBlock = some k → v.ownBlock = some k ∨ W.heap.size ≤ k) (hby : ∀ t ∈ cur', Bytes t) (hl : pre.flatten.length + 2 * cur'.length ≤ 2 * i) : It l H s fp FB src hd D J i line v' cur' gap' pre F W' := by
  have h1 := h.l1
  have h2 := h.l2
  have h3 := h.l3
  have hsm := h.sm
  have ho := h.own_ge
  have hne : ∀ k, k < s + 1 → ¬ (k = s + 1 ∨ k = s + 1 + 1 ∨ v.ownBlock = some k) := fun k hk e => by
    rcases e with e | e | e
    · omega
    · omega
    · have := ho k e; omega
  have hblk : ∀ k, k < s + 1 → k < W.heap.size → W'.heap[k]? = W.heap[k]? := fun k hk hl => hb.block k hl (hne k hk)
  refine ⟨⟨(hblk s (by omega) hsm.sc.lt).trans hsm.sc, hsm.sg.blk (hblk _ (by omega) hsm.sg.map.lt) (fun c g hg => hblk g (by have := h.rows c g hg; omega) ((hsm.sg.row c).lt g hg).2), hsm.nm, hsm.nr⟩, hc, C.stable h.jj (hb.mono (fun k _ e hf => ?_)), fun k hf => ?_,
    (hblk fp (by omega) (Array.getElem?_eq_some_iff.1 h.hfp).1).trans h.hfp, (hblk FB (by omega) (Array.getElem?_eq_some_iff.1 h.hfb).1).trans h.hfb, hby, hl, h1, h2, h3, h.rows⟩
  · obtain ⟨q1, q2, _⟩ := h.ff k hf
    rcases e with e | e | e
    · omega
    · omega
    · exact q2 e
  · obtain ⟨q1, q2, q3, q4⟩ := h.ff k hf
    refine ⟨q1, fun e => ?_, q3, q4⟩
    rcases hv k e with e2 | e2
    · exact q2 e2
    · have := C.lt h.jj k hf; omega
/-- A clause has ended. -/
theorem It.ended (C : Client l n J) (h : It l H s fp FB src hd D J i line v cur gap pre F W) {pre' : List (List S.Tk)} {F' : Nat → Prop} (hj : J pre' F' W') (hc : Cur (s + 1) (s + 1 + 1) H l (s + 3) (.slice none 0 0) [] false W')
    (hb : But (fun k => F k ∨ k = s + 1 ∨ k = s + 1 + 1 ∨ v.ownBlock = some k) W W') (hF : ∀ k, F' k → F k ∨ W.heap.size ≤ k ∨ v.ownBlock = some k) (hl : pre'.flatten.length ≤ 2 * i) : It l H s fp FB src hd D J i line (.slice none 0 0) [] false pre' F' W' := by
  have h1 := h.l1
  have h2 := h.l2
  have h3 := h.l3
  have hsm := h.sm
  have ho := h.own_ge
  have hne : ∀ k, H ≤ k → k < s + 1 → ¬ (F k ∨ k = s + 1 ∨ k = s + 1 + 1 ∨ v.ownBlock = some k) := fun k hk hk2 e => by
    rcases e with e | e | e | e
    · have := (h.ff k e).1; omega
    · omega
    · omega
    · have := ho k e; omega
  have hblk : ∀ k, H ≤ k → k < s + 1 → k < W.heap.size → W'.heap[k]? = W.heap[k]? := fun k hk hk2 hl => hb.block k hl (hne k hk hk2)
  have hfb : ∀ k, (k = fp ∨ k = FB) → k < W.heap.size → W'.heap[k]? = W.heap[k]? := fun k hk hl => hb.block k hl (fun e => by
    rcases e with e | e | e | e
    · have := (h.ff k e).2.2; omega
    · omega
    · omega
    · have := ho k e; omega)
  have hsz : s + 3 ≤ W.heap.size := h.cu.lw
  refine ⟨⟨(hblk s (by omega) (by omega) hsm.sc.lt).trans hsm.sc, hsm.sg.blk (hblk _ (by omega) (by omega) hsm.sg.map.lt) (fun c g hg => hblk g (by have := h.rows c g hg; omega) (by have := h.rows c g hg; omega) ((hsm.sg.row c).lt g hg).2), hsm.nm, hsm.nr⟩, hc, hj, fun k hf => ?_,
    (hfb fp (.inl rfl) (Array.getElem?_eq_some_iff.1 h.hfp).1).trans h.hfp, (hfb FB (.inr rfl) (Array.getElem?_eq_some_iff.1 h.hfb).1).trans h.hfb, by simp, by simpa using hl, h1, h2, h3, h.rows⟩
  refine ⟨?_, by simp [Value.ownBlock], ?_, ?_⟩
  · rcases hF k hf with e | e | e
    · exact (h.ff k e).1
    · omega
    · have := ho k e; omega
  · rcases hF k hf with e | e | e
    · exact (h.ff k e).2.2.1
    · omega
    · have := ho k e; omega
  · rcases hF k hf with e | e | e
    · exact (h.ff k e).2.2.2
    · omega
    · have := ho k e; omega
theorem It.drewN (C : Client l n J) (h : It l H s fp FB src hd D J i line v cur gap pre F W) (q : Nat) : It l H s fp FB src hd D J i line v cur gap pre F (W.drewN q) := h.new C ((But.refl _ W).drewN q)
/-- The gap's box. -/
theorem It.setGap (C : Client l n J) (h : It l H s fp FB src hd D J i line v cur gap pre F W) (g : Bool) : It l H s fp FB src hd D J i line v cur g pre F (W.setCell ⟨s + 1 + 1, 0, none⟩ (.bool g)) := by
  have hb : But (fun k => k = s + 1 + 1) W (W.setCell ⟨s + 1 + 1, 0, none⟩ (.bool g)) := (But.refl (fun k => k = s + 1 + 1) W).set ⟨s + 1 + 1, 0, none⟩ _ rfl
  have h1 := h.l1
  have hc := h.cu
  refine h.put C (hb.mono (fun k _ e => .inr (.inl e))) ⟨(hb.block (s + 1) (by have := hc.lw; omega) (by omega)).trans hc.cb, blk_put (cs := #[_]) hc.gb 0 _ rfl, (hb.block H (by have := hc.lw; omega) (by omega)).trans hc.yb, own_but hc.own hb (fun k e e2 => by have := h.own_ge k e2; omega), hc.l1, hc.l2, hc.l3, hc.n1, hc.n2, hc.n3, Nat.le_trans hc.lw hb.size⟩ (fun k e => .inl e) h.byt h.len
/-- The box of cur. -/
theorem It.setCur (C : Client l n J) (h : It l H s fp FB src hd D J i line v cur gap pre F W) {v' : Value} {cur' : List S.Tk} (ho : W.ownsRow (s + 3) 53 6 v' cur'.length (tksL cur')) (hv : ∀ k, v'.ownBlock = some k → v.ownBlock = some k) (hby : ∀ t ∈ cur', Bytes t) (hl : pre.flatten.length + 2 * cur'.length ≤ 2 * i) :
    It l H s fp FB src hd D J i line v' cur' gap pre F (W.setCell ⟨s + 1, 0, none⟩ v') := by
  have hb : But (fun k => k = s + 1) W (W.setCell ⟨s + 1, 0, none⟩ v') := (But.refl (fun k => k = s + 1) W).set ⟨s + 1, 0, none⟩ _ rfl
  have h1 := h.l1
  have hc := h.cu
  refine h.put C (hb.mono (fun k _ e => .inl e)) ⟨blk_put (cs := #[_]) hc.cb 0 _ rfl, (hb.block (s + 1 + 1) (by have := hc.lw; omega) (by omega)).trans hc.gb, (hb.block H (by have := hc.lw; omega) (by omega)).trans hc.yb, own_but ho hb (fun k e e2 => by have := (ho.lt k e2).1; omega), hc.l1, hc.l2, hc.l3, hc.n1, hc.n2, hc.n3, Nat.le_trans hc.lw hb.size⟩ (fun k e => .inl (hv k e)) hby hl
theorem own_cut {A : Option Addr} {cn cap base : Nat} (h : W.ownsRow base 53 6 (.slice A cn cap) cur.length (tksL cur)) (hne : cur ≠ []) : W.ownsRow base 53 6 (.slice A (cn - 1) cap) cur.dropLast.length (tksL cur.dropLast) := by
  refine ⟨tksL_length _, .inr ?_⟩
  rcases h.2 with ⟨e, e2⟩ | ⟨g, cap', cs, e, hg, hb, h1, h2, h3, h4⟩
  · exact absurd (List.length_eq_zero_iff.1 e2) hne
  · simp only [Value.slice.injEq] at e
    obtain ⟨rfl, rfl, rfl⟩ := e
    refine ⟨g, cap, cs, by rw [List.length_dropLast], hg, hb, by rw [List.length_dropLast]; omega, h2, h3, ?_⟩
    have e1 : cur.dropLast = cur.take (cur.length - 1) := List.dropLast_eq_take
    rw [List.length_dropLast, e1, ← tksL_take, ← h4, List.take_take]
    congr 1
    omega
/-- The last token goes. -/
theorem It.cutc (C : Client l n J) {A : Option Addr} {cn cap : Nat} (h : It l H s fp FB src hd D J i line (.slice A cn cap) cur gap pre F W) (hne : cur ≠ []) : It l H s fp FB src hd D J i line (.slice A (cn - 1) cap) cur.dropLast gap pre F (W.setCell ⟨s + 1, 0, none⟩ (.slice A (cn - 1) cap)) :=
  h.setCur C (own_cut h.cu.own hne) (fun k e => by cases A with | none => simp [Value.ownBlock] at e | some a => exact e) (fun t ht => h.byt t ((List.dropLast_sublist _).subset ht)) (by have := h.len; rw [List.length_dropLast]; omega)
/-- A token more. -/
theorem It.more (C : Client l n J) {X w1 : World} (h : It l H s fp FB src hd D J i line v cur gap pre F W) (hX : But (fun _ => False) W X) {v' : Value} {t : S.Tk} (ho : w1.ownsRow (s + 3) 53 6 v' (cur.length + 1) (tksL cur ++ tkL t)) (hg : X.grownBy w1 v.ownBlock)
    (hv : v'.ownBlock = v.ownBlock ∨ v'.ownBlock = some X.heap.size) (hby : Bytes t) (hl : pre.flatten.length + 2 * (cur.length + 1) ≤ 2 * i) :
    It l H s fp FB src hd D J i line v' (cur ++ [t]) false pre F ((w1.setCell ⟨s + 1, 0, none⟩ v').setCell ⟨s + 1 + 1, 0, none⟩ (.bool false)) := by
  have hb1 : But (fun k => v.ownBlock = some k) X w1 := ⟨hg.os, hg.tape, hg.output, hg.size, fun k hk hn => hg.block k hk (fun e => hn e.symm)⟩
  have hb2 : But (fun k => k = s + 1 ∨ k = s + 1 + 1) w1 ((w1.setCell ⟨s + 1, 0, none⟩ v').setCell ⟨s + 1 + 1, 0, none⟩ (.bool false)) := ((But.refl (fun k => k = s + 1 ∨ k = s + 1 + 1) w1).set ⟨s + 1, 0, none⟩ _ (.inl rfl)).set ⟨s + 1 + 1, 0, none⟩ _ (.inr rfl)
  have h01 : But (fun k => v.ownBlock = some k) W w1 := hX.trans hb1 (fun _ _ e => e.elim) (fun _ _ e => e)
  have h02 : But (fun k => k = s + 1 ∨ k = s + 1 + 1 ∨ v.ownBlock = some k) W ((w1.setCell ⟨s + 1, 0, none⟩ v').setCell ⟨s + 1 + 1, 0, none⟩ (.bool false)) :=
    h01.trans hb2 (fun _ _ e => .inr (.inr e)) (fun _ _ e => e.elim .inl (fun e => .inr (.inl e)))
  have h1 := h.l1
  have hc := h.cu
  have hlw := hc.lw
  have hge := h.own_ge
  have hs1 := h01.size
  refine h.put C h02 ⟨?_, ?_, ?_, ?_, hc.l1, hc.l2, hc.l3, hc.n1, hc.n2, hc.n3, Nat.le_trans hlw h02.size⟩ (fun k e => ?_) (fun t' ht' => ?_) (by rw [List.length_append]; exact hl)
  · exact (Below.heap_setCell _ ⟨s + 1 + 1, 0, none⟩ _ (s + 1) (by show s + 1 ≠ s + 1 + 1; omega)).trans (blk_put (cs := #[_]) ((h01.block (s + 1) (by omega) (fun e => by have := hge _ e; omega)).trans hc.cb) 0 _ rfl)
  · exact blk_put (cs := #[_]) ((Below.heap_setCell _ ⟨s + 1, 0, none⟩ _ (s + 1 + 1) (by show s + 1 + 1 ≠ s + 1; omega)).trans ((h01.block (s + 1 + 1) (by omega) (fun e => by have := hge _ e; omega)).trans hc.gb)) 0 _ rfl
  · exact (h02.block H (by omega) (fun e => by rcases e with e | e | e; omega; omega; have := hge _ e; omega)).trans hc.yb
  · rw [List.length_append, tksL_append]
    have e : tksL [t] = tkL t := by simp [tksL]
    rw [e]
    refine own_but ho hb2 (fun k e e2 => ?_)
    have := (ho.lt k e2).1
    omega
  · rcases hv with hv | hv
    · exact .inl (by rw [← hv, e])
    · refine .inr ?_
      rw [hv] at e
      have := hX.size
      cases e
      exact this
  · rcases List.mem_append.1 ht' with ht' | ht'
    · exact h.byt t' ht'
    · rw [List.mem_singleton.1 ht']; exact hby
theorem comma_calls {A : Option Addr} {cn cap base : Nat} (h : W.ownsRow base 53 6 (.slice A cn cap) cur.length (tksL cur)) (hb : ∀ t ∈ cur, Bytes t) (hl : cur.length ≤ 1000000) :
    Calls Tryz.prog 92 #[.slice A cn cap] W fun e w' => e = .returned (.bool (S.comma cur)) ∧ Drawn0 W w' := by
  obtain ⟨rfl, hc, hC⟩ := tks_C h
  have := scan_comma.calls A cap (cur.map toS) (S.comma cur) W hC (by rw [List.length_map]; exact hc) (comma_f cur hb hl)
  rwa [List.length_map] at this
theorem label_calls {A : Option Addr} {cn cap base : Nat} (h : W.ownsRow base 53 6 (.slice A cn cap) cur.length (tksL cur)) (hb : ∀ t ∈ cur, Bytes t) :
    Calls Tryz.prog 54 #[.slice A cn cap] W fun e w' => e = .returned (.bool (S.label cur)) ∧ Drawn0 W w' := by
  obtain ⟨rfl, hc, hC⟩ := tks_C h
  have := scan_label.calls A cap (cur.map toS) (S.label cur) W hC (by rw [List.length_map]; exact hc) (label_f cur hb)
  rwa [List.length_map] at this
/-- A block turns that is none of these. -/
theorem It.other (C : Client l n J) (h : It l H s fp FB src hd D J i line v cur gap pre F W) {A : Nat → Prop} (hb : But A W W') (hA : ∀ k, A k → s + 3 ≤ k ∧ ¬ F k ∧ v.ownBlock ≠ some k) : It l H s fp FB src hd D J i line v cur gap pre F W' := by
  have h1 := h.l1
  have h2 := h.l2
  have h3 := h.l3
  have hsm := h.sm
  have hblk : ∀ k, k < s + 3 → k < W.heap.size → W'.heap[k]? = W.heap[k]? := fun k hk hl => hb.block k hl (fun e => by have := (hA k e).1; omega)
  exact ⟨⟨(hblk s (by omega) hsm.sc.lt).trans hsm.sc, hsm.sg.blk (hblk _ (by omega) hsm.sg.map.lt) (fun c g hg => hblk g (by have := h.rows c g hg; omega) ((hsm.sg.row c).lt g hg).2), hsm.nm, hsm.nr⟩, h.cu.but hb (fun k e => by have := hA k e; exact ⟨by omega, by omega, by omega, this.2.2⟩), C.stable h.jj (hb.mono (fun k _ e hf => (hA k e).2.1 hf)), h.ff,
    (hblk fp (by omega) (Array.getElem?_eq_some_iff.1 h.hfp).1).trans h.hfp, (hblk FB (by omega) (Array.getElem?_eq_some_iff.1 h.hfb).1).trans h.hfb, h.byt, h.len, h1, h2, h3, h.rows⟩
theorem emit_len (pre : List (List S.Tk)) (cur : List S.Tk) (a b c : Nat) : (pre ++ S.emit cur a b c).flatten.length ≤ pre.flatten.length + 2 * cur.length := by
  unfold S.emit
  by_cases h : cur = []
  · rw [if_pos h]; simp
  · rw [if_neg h]
    have : 0 < cur.length := List.length_pos_iff.2 h
    simp only [List.flatten_append, List.flatten_cons, List.flatten_nil, List.append_nil, List.length_append, List.length_cons, List.length_nil]
    omega
theorem pre_pre (a b : List (List S.Tk)) (o : S.Out) : (S.Out.pre b o).pre a = o.pre (a ++ b) := by simp [S.Out.pre]
theorem It.endc (C : Client l n J) {cn cap : Nat} {A : Option Addr} (h : It l H s fp FB src hd D J i line (.slice A cn cap) cur gap pre F W) (hi : i ≤ 100000) (a b c : Nat) :
    CallsIn Fence.wide (n + 1) Tryz.prog 90 #[.int .i64 a, .int .i64 b, .int .i64 c, .pointer (some ⟨s + 1, 0, none⟩), .pointer (some ⟨s + 1 + 1, 0, none⟩), .pointer (some ⟨H, 0, none⟩)] W fun e W' =>
      e = .returned (.bool true) ∧ ∃ F', It l H s fp FB src hd D J i line (.slice none 0 0) [] false (pre ++ S.emit cur a b c) F' W' := by
  have h1 := h.l1
  refine (end_in (n + 1) (by omega) (C : Client l (n + 1 - 1) J) a b c W h.cu h.jj (fun k hk => ?_) (by have := h.len; omega)).mono ?_
  · obtain ⟨q1, q2, _⟩ := h.ff k hk
    exact ⟨by omega, by omega, by omega, q2⟩
  · rintro e W' ⟨rfl, F', hj, hc, hb, hf⟩
    exact ⟨rfl, F', h.ended C hj hc hb hf (by have := emit_len pre cur a b c; have := h.len; omega)⟩
/-- The scanner has left by a panic. -/
theorem It.fail (C : Client l n J) (h : It l H s fp FB src hd D J i line v cur gap pre F W) (hb : But (· = s) W W') : Cur (s + 1) (s + 1 + 1) H l (s + 3) v cur gap W' ∧ J pre F W' ∧ (∀ k, F k → k ≠ s + 1 ∧ k ≠ s + 1 + 1 ∧ k ≠ H ∧ v.ownBlock ≠ some k) ∧ (∀ k, F k → k ≠ fp) ∧
    W'.heap[fp]? = some (.cells #[.int .i64 0, .int .i64 0] 76 (0, 0)) ∧ W'.heap[FB]? = some (.cells #[.pointer (some ⟨fp, 0, none⟩)] 88 (0, 0)) := by
  have h1 := h.l1
  have h2 := h.l2
  have h3 := h.l3
  refine ⟨h.cu.but hb (fun k e => ⟨by omega, by omega, by omega, fun e2 => by have := h.own_ge k e2; omega⟩), C.stable h.jj (hb.mono (fun k _ e hf => by have := (h.ff k hf).1; omega)), fun k hk => ?_, fun k hk => (h.ff k hk).2.2.1, (hb.block fp (Array.getElem?_eq_some_iff.1 h.hfp).1 (by show ¬ fp = s; omega)).trans h.hfp, (hb.block FB (Array.getElem?_eq_some_iff.1 h.hfb).1 (by show ¬ FB = s; omega)).trans h.hfb⟩
  obtain ⟨q1, q2, _⟩ := h.ff k hk
  exact ⟨by omega, by omega, by omega, q2⟩
end
end Go.Proofs.YtkkpjonfaflkmaaGreatDoor.T

/- clauses: the iterator's walk. -/
namespace Go.Proofs.YtkkpjonfaflkmaaGreatDoor.T
set_option linter.unusedSimpArgs false
set_option linter.unusedVariables false
open Go.RowKit Go.Maps Go.Proofs.YtkkpjonfaflkmaaGreatDoorW.PrintWords Go.Proofs.YtkkpjonfaflkmaaGreatDoorW.PrintLast Go.Proofs.YtkkpjonfaflkmaaGreatDoorW.PrintMore
attribute [local go_sem] Oper.semAt_some

def errV : Option (Nat × Nat) → Array Value
  | none => #[.int .i64 0, .int .i64 0]
  | some (c, ln) => #[.int .i64 c, .int .i64 ln]
theorem end_enters : ∀ args w, (callFunc 90 args).run Tryz.prog w = .ok (.enter 90 args) w := enters_of Tryz.func90 (by kernel_rfl) rfl

set_option maxRecDepth 100000 in
set_option maxHeartbeats 4000000 in
theorem iter_in (m : Nat) {l B0 FB fp : Nat} {src : ByteArray} {J : List (List S.Tk) → (Nat → Prop) → World → Prop} (C : Client l m J) {F : Nat → Prop} (W : World) (hsz : src.size ≤ 100000) (hT : TabOK W)
    (hJ : J [] F W) (hF : ∀ k, F k → k ≠ fp ∧ k ≠ FB) (hB0 : W.heap[B0]? = some (.cells #[.string src] 9 (0, 0))) (hfb : W.heap[FB]? = some (.cells #[.pointer (some ⟨fp, 0, none⟩)] 88 (0, 0)))
    (hfp : W.heap[fp]? = some (.cells #[.int .i64 0, .int .i64 0] 76 (0, 0))) :
    CallsIn Fence.wide (m + 2) Tryz.prog 87 #[.func (.yield l) #[] #[], .pointer (some ⟨B0, 0, none⟩), .pointer (some ⟨FB, 0, none⟩)] W fun e W' =>
      (∃ v, e = .returned v) ∧ ∃ F', J (S.scan (bytesOf src)).cl F' W' ∧ W'.heap[fp]? = some (.cells (errV (S.scan (bytesOf src)).err) 76 (0, 0)) := by
  have hmf : ∀ (fn : Fn) (first cap : Array Value) (w : World), (Instr.makeFunc fn first cap).run Tryz.prog w = .ok (.func fn first cap) w := fun _ _ _ _ => rfl
  have hwf : ∀ f, Fence.wide.fn f := fun _ => trivial
  have HJ := Aside0.mk hJ
  have HF := Aside0.mk hF
  have HFB := Aside0.mk hfb
  have HFP := Aside0.mk hfp
  obtain ⟨H, hH⟩ : ∃ H, W.heap.size = H := ⟨_, rfl⟩
  have hlt : B0 < H ∧ FB < H ∧ fp < H := by
    rw [← hH]
    exact ⟨(Array.getElem?_eq_some_iff.1 hB0).1, (Array.getElem?_eq_some_iff.1 hfb).1, (Array.getElem?_eq_some_iff.1 hfp).1⟩
  obtain ⟨L, hL⟩ : ∃ L, bytesOf src = L := ⟨_, rfl⟩
  obtain ⟨N, hN⟩ : ∃ N, src.size = N := ⟨_, rfl⟩
  have HN : Aside0 (L.length = N) := ⟨by rw [← hL, bytesOf_length]; exact hN⟩
  have HL := Aside0.mk hL
  have HSZ : Aside0 (src.size = N) := ⟨hN⟩
  have hNb : N ≤ 100000 := by rw [← hN]; exact hsz
  rw [hL]
  obtain ⟨OUT, hO⟩ : ∃ OUT, S.scan L = OUT := ⟨_, rfl⟩
  rw [hO]
  have HO := Aside0.mk hO
  have hb1 : But (fun _ => False) W (W.alloc (.cells #[.func (.yield l) #[] #[]] 55)) := (But.refl _ W).alloc _
  have hy1 := heap_alloc_new W (.cells #[.func (.yield l) #[] #[]] 55)
  have hs1 := World.size_alloc W (.cells #[.func (.yield l) #[] #[]] 55)
  rw [hH] at hy1 hs1
  have c0 : (W.alloc (.cells #[.func (.yield l) #[] #[]] 55)).cell? ⟨B0, 0, none⟩ = some (.string src) := (blk_cell ((hb1.block B0 (by omega) (fun e => e)).trans hB0) 0).trans rfl
  have HB1 := Aside0.mk hb1
  have HY1 := Aside0.mk hy1
  have hT1 : TabOK (W.alloc (.cells #[.func (.yield l) #[] #[]] 55)) := hT.of_below hb1.below
  have HT1 := Aside0.mk hT1
  clear hJ hF hfb hfp hB0 hL hN hO hb1 hy1 hT hT1
  refine callsIn_of_wp_defers Tryz.func87 rfl trivial ?_ rfl
  simp only [Tryz.ntmps87, List.size_toArray, List.length_cons, List.length_nil, Nat.reduceAdd, Nat.reduceSub, Array.replicate_succ, Array.replicate_zero, List.push_toArray, List.append_toArray, List.nil_append, List.cons_append]
  gi_upto_region 1 with (fail)
  try rw [hH]
  generalize W.alloc (.cells #[.func (.yield l) #[] #[]] 55) = W1 at *
  gi_cut [4] from 11 (fun s4 wc => ∃ (s : Nat) (hd : Int → Value) (D : DataW Unit), s4 = .pointer (some ⟨s, 0, none⟩) ∧ Aside0 (wc.heap.size = s + 1 ∧ H + 2 < s + 1 ∧ But (fun _ => False) W1 wc ∧ ScM s src 0 1 (H + 1) (H + 1 + 2) hd D wc ∧ ∀ c g, (hd c).ownBlock = some g → H + 1 < g ∧ g < s))
  case first =>
    have hsg : Calls Tryz.prog 88 #[] W1.drew fun e w' => e = .returned (.map (some (H + 1))) ∧ Below (H + 1) W1.drew w' ∧ ∃ hd D, SgI w' (H + 1) (H + 1 + 2) sgPs hd D := by
      have := scan_signs.calls W1.drew ((HT1.out.of_below (below_alloc (below_drew (Below.refl _ _)) (.map #[] 0))).space)
      rw [show W1.drew.heap.size = H + 1 from hs1] at this
      exact this
    have HSG := Lib.hid hsg
    have HREL : Aside0 (∀ (w' : World) (hd : Int → Value) (D : DataW Unit), Below (H + 1) W1.drew w' → SgI w' (H + 1) (H + 1 + 2) sgPs hd D → ∃ (s : Nat) (hd : Int → Value) (D : DataW Unit), Value.pointer (some ⟨w'.heap.size, 0, none⟩) = .pointer (some ⟨s, 0, none⟩) ∧
        Aside0 ((w'.alloc (.cells #[.string src, .int .i64 0, .int .i64 1, .map (some (H + 1))] 93)).heap.size = s + 1 ∧ H + 2 < s + 1 ∧ But (fun _ => False) W1 (w'.alloc (.cells #[.string src, .int .i64 0, .int .i64 1, .map (some (H + 1))] 93)) ∧
          ScM s src 0 1 (H + 1) (H + 1 + 2) hd D (w'.alloc (.cells #[.string src, .int .i64 0, .int .i64 1, .map (some (H + 1))] 93)) ∧ ∀ c g, (hd c).ownBlock = some g → H + 1 < g ∧ g < s)) := ⟨fun w' hd D hb hsg => by
      have hal : But (fun _ => False) w' (w'.alloc (.cells #[.string src, .int .i64 0, .int .i64 1, .map (some (H + 1))] 93)) := (But.refl _ w').alloc _
      have hml : H + 1 < w'.heap.size := hsg.map.lt
      have hrl : ∀ c g, (hd c).ownBlock = some g → H + 1 + 2 ≤ g ∧ g < w'.heap.size := fun c g e => (hsg.row c).lt g e
      refine ⟨w'.heap.size, hd, D, rfl, ⟨World.size_alloc _ _, by omega, ?_, ⟨heap_alloc_new _ _, hsg.blk (hal.block _ hml (fun e => e)) (fun c g e => hal.block g (hrl c g e).2 (fun e => e)), by omega, fun c g e => by have := hrl c g e; omega⟩, fun c g e => by have := hrl c g e; omega⟩⟩
      have h0 : But (fun _ => False) W1 w' := ⟨hb.os, hb.tape, hb.output, hb.size, fun k hk _ => hb.block k (by have h9 : k < W1.heap.size := hk; omega)⟩
      exact h0.trans' hal⟩
    clear hsg
    refine wpIn_region_any (by kernel_rfl) ?_
    change wpAnyIn _ _ _ _ _ _ _ _ _ (World.drew W1)
    refine wpAnyIn_ready (rs := [0, 1]) (by kernel_rfl) (by simp) ?_
    refine AllReadyIn.cons rfl (fun K hK => ?_) (AllReadyIn.cons rfl (fun K hK => ?_) AllReadyIn.nil)
    · go_simp
      refine hK _ _ ?_
      clear hK K
      refine wpAnyIn_ready (rs := [1]) (by kernel_rfl) (by simp) ?_
      refine AllReadyIn.cons rfl (fun K hK => ?_) AllReadyIn.nil
      go_simp
      refine (callsIn_wide.2 HSG.out).mono ?_
      rintro e w' ⟨rfl, hb, hd, D, hsg⟩
      refine hK _ _ ?_
      clear hK K
      refine wpAnyIn_ready (rs := [2]) (by kernel_rfl) (by simp) ?_
      refine AllReadyIn.cons rfl (fun K hK => ?_) AllReadyIn.nil
      go_simp
      refine hK _ _ ?_
      clear hK K
      refine wpAnyIn_ready (rs := [3]) (by kernel_rfl) (by simp) ?_
      refine AllReadyIn.cons rfl (fun K hK => ?_) AllReadyIn.nil
      go_simp
      refine hK _ _ ?_
      clear hK K
      refine wpAnyIn_ready (rs := [4]) (by kernel_rfl) (by simp) ?_
      refine AllReadyIn.cons rfl (fun K hK => ?_) AllReadyIn.nil
      go_simp
      refine hK _ _ ?_
      clear hK K
      refine wpAnyIn_done (by kernel_rfl) ?_ _
      gi_wp2
      gi_meet
      case rel => exact HREL.out w' hd D hb hsg
    · go_simp
      refine (callsIn_wide.2 HSG.out).mono ?_
      rintro e w' ⟨rfl, hb, hd, D, hsg⟩
      refine hK _ _ ?_
      clear hK K
      have c0' : w'.cell? ⟨B0, 0, none⟩ = some (.string src) := (hb.cell (p := ⟨B0, 0, none⟩) (by show B0 < H + 1; omega)).trans c0
      refine wpAnyIn_ready (rs := [0]) (by kernel_rfl) (by simp) ?_
      refine AllReadyIn.cons rfl (fun K hK => ?_) AllReadyIn.nil
      go_simp
      refine hK _ _ ?_
      clear hK K
      refine wpAnyIn_ready (rs := [2]) (by kernel_rfl) (by simp) ?_
      refine AllReadyIn.cons rfl (fun K hK => ?_) AllReadyIn.nil
      go_simp
      refine hK _ _ ?_
      clear hK K
      refine wpAnyIn_ready (rs := [3]) (by kernel_rfl) (by simp) ?_
      refine AllReadyIn.cons rfl (fun K hK => ?_) AllReadyIn.nil
      go_simp
      refine hK _ _ ?_
      clear hK K
      refine wpAnyIn_ready (rs := [4]) (by kernel_rfl) (by simp) ?_
      refine AllReadyIn.cons rfl (fun K hK => ?_) AllReadyIn.nil
      go_simp
      refine hK _ _ ?_
      clear hK K
      refine wpAnyIn_done (by kernel_rfl) ?_ _
      gi_wp2
      gi_meet
      case rel => exact HREL.out w' hd D hb hsg
  case rest =>
    obtain ⟨s, hd, D, rfl, HX⟩ := hcut
    have hws := HX.out.1
    gi_upto_region 6 with (fail)
    obtain ⟨hws', hH2, hbX, hsmX, hrX⟩ := HX.out
    have ha1 : But (fun _ => False) wc (wc.alloc (.cells #[.slice none 0 0] 24)) := (But.refl _ wc).alloc _
    have ha2 : But (fun _ => False) (wc.alloc (.cells #[.slice none 0 0] 24)) ((wc.alloc (.cells #[.slice none 0 0] 24)).alloc (.cells #[.bool false] 4)) := (But.refl _ _).alloc _
    have hn1 := heap_alloc_new wc (.cells #[.slice none 0 0] 24)
    have hn2 := heap_alloc_new (wc.alloc (.cells #[.slice none 0 0] 24)) (.cells #[.bool false] 4)
    have hz1 := World.size_alloc wc (.cells #[.slice none 0 0] 24)
    have hz2 := World.size_alloc (wc.alloc (.cells #[.slice none 0 0] 24)) (.cells #[.bool false] 4)
    rw [hws] at hn1 hz1
    rw [hz1] at hn2 hz2
    have haX : But (fun _ => False) W1 ((wc.alloc (.cells #[.slice none 0 0] 24)).alloc (.cells #[.bool false] 4)) := (hbX.trans' ha1).trans' ha2
    have haW := HB1.out.trans' haX
    have ha12 := ha1.trans' ha2
    have hI0 : It l H s fp FB src hd D J 0 1 (.slice none 0 0) [] false [] F ((wc.alloc (.cells #[.slice none 0 0] 24)).alloc (.cells #[.bool false] 4)) := by
      refine ⟨⟨(ha12.block s (by omega) (fun e => e)).trans hsmX.sc, hsmX.sg.but hsmX.nm hsmX.nr (ha12.mono (fun _ _ e => e.elim)), hsmX.nm, hsmX.nr⟩, ⟨(ha2.block (s + 1) (by omega) (fun e => e)).trans hn1, hn2, (haX.block H (by omega) (fun e => e)).trans HY1.out, World.ownsRow_nil _ _ _ _, by omega, by omega, by omega, by omega, by omega, by omega, by omega⟩,
        C.stable HJ.out (haW.mono (fun _ _ e => e.elim)), fun k hk => ⟨.inl (by have := C.lt HJ.out k hk; omega), by simp [Value.ownBlock], HF.out k hk⟩, (haW.block fp (by omega) (fun e => e)).trans HFP.out, (haW.block FB (by omega) (fun e => e)).trans HFB.out, by simp, by simp, by omega, by omega, by omega, hrX⟩
    have HI0 := Aside0.mk hI0
    clear hI0 ha1 ha2 hn1 hn2 hz1 hz2 haX haW ha12 hws' hbX hsmX hrX hws c0 hH hs1
    generalize (wc.alloc (.cells #[.slice none 0 0] 24)).alloc (.cells #[.bool false] 4) = W3 at *
    gi_loopg [8] (N + 1) (fun gg s8 wr => ∃ (i line : Nat) (v : Value) (cur : List S.Tk) (gap : Bool) (pre : List (List S.Tk)) (F' : Nat → Prop) (f : Nat), i ≤ N ∧ N + 1 - i ≤ gg ∧ N + 1 - i ≤ f ∧ 0 < line ∧ line ≤ i + 1 ∧ Aside0 (It l H s fp FB src hd D J i line v cur gap pre F' wr) ∧ Aside0 ((S.go f (L.drop i) i line cur gap).pre pre = OUT))
    case atStart =>
      refine ⟨0, 1, _, [], false, [], F, N + 1, Nat.zero_le _, by omega, by omega, by omega, by omega, HI0, ⟨?_⟩⟩
      rw [← HO.out]
      unfold S.scan
      rw [HN.out]
      simp [S.Out.pre]
    case round =>
      obtain ⟨i, line, v, cur, gap, pre, F', f, hi, hg, hf, hl0, hl1, HI, HA⟩ := hrel
      obtain ⟨A, cn, cap, rfl, hcn⟩ : ∃ A cn cap, v = .slice A cn cap ∧ cur.length = cn := by
        rcases HI.out.cu.own.2 with ⟨rfl, e2⟩ | ⟨g, cap, cs, rfl, _⟩
        · exact ⟨_, _, _, rfl, e2⟩
        · exact ⟨_, _, _, rfl, rfl⟩
      have HCN := Aside0.mk hcn
      clear hcn
      obtain ⟨f0, rfl⟩ : ∃ f0, f = f0 + 1 := ⟨f - 1, by omega⟩
      have hst := scan_step.calls s src i line (H + 1) (H + 1 + 2) hd D wr hsz (by have := HSZ.out; omega) hl0 (by have := HSZ.out; omega) HI.out.sm
      rw [HL.out] at hst
      have hA := HA.out
      simp only [S.go] at hA
      clear HA
      have hdr : ∀ k, (L.drop i).drop k = L.drop (i + k) := fun k => by rw [List.drop_drop]
      have heg := end_enters
      cases hS : S.step (L.drop i) with
      | fin =>
        rw [hS] at hst hA
        simp only [StepPost, rTk, zTk] at hst
        have HST := Lib.hid hst
        have HA := Aside0.mk hA
        clear hst hA hS
        gi_upto_region 7 with (gi_at_call 91; refine (callsIn_wide.2 HST.out).mono ?_; rintro e w3 ⟨hb3, rfl, hs3⟩)
        have HI3 := Aside0.mk (HI.out.step C hb3 hs3 (by omega))
        have hlen0 := HI.out.len
        obtain ⟨T, hT⟩ : ∃ T, w3.heap.size = T := ⟨_, rfl⟩
        have hb4 : But (fun _ => False) w3 (w3.alloc (.cells #[.int .i64 0, .string ⟨#[]⟩, .bool false, .int .i64 0, .int .i64 0, .int .i64 0] 53)) := (But.refl _ w3).alloc _
        have hn4 := heap_alloc_new w3 (.cells #[.int .i64 0, .string ⟨#[]⟩, .bool false, .int .i64 0, .int .i64 0, .int .i64 0] 53)
        have HI4 := Aside0.mk (HI3.out.new C hb4)
        have hz4 := World.size_alloc w3 (.cells #[.int .i64 0, .string ⟨#[]⟩, .bool false, .int .i64 0, .int .i64 0, .int .i64 0] 53)
        rw [hT] at hn4 hz4
        have hTs : s + 3 ≤ T := by have := HI3.out.cu.lw; omega
        have HTF : Aside0 (¬ F' T ∧ (Value.slice A cn cap).ownBlock ≠ some T) := ⟨fun hf => by have := C.lt HI3.out.jj T hf; omega, fun e => by have := (HI3.out.cu.own.lt T e).2; omega⟩
        try rw [hT]
        clear hb3 hs3 hb4 HI HI3 hT HST
        generalize w3.alloc (.cells #[.int .i64 0, .string ⟨#[]⟩, .bool false, .int .i64 0, .int .i64 0, .int .i64 0] 53) = W4 at *
        have c0 := HI4.out.sm.sc.c1
        have c00 := HI4.out.sm.sc.c2
        have c1 : W4.cell? ⟨s + 1, 0, none⟩ = some (.slice A cn cap) := (blk_cell HI4.out.cu.cb 0).trans rfl
        have c2 : W4.cell? ⟨s + 1 + 1, 0, none⟩ = some (.bool gap) := (blk_cell HI4.out.cu.gb 0).trans rfl
        have f1 := blk_frozen HI4.out.cu.cb 0
        have f2 := blk_frozen HI4.out.cu.gb 0
        have k0 := (blk_cell hn4 0)
        have k1 := (blk_cell hn4 1)
        have k3 := (blk_cell hn4 3)
        have k4 := (blk_cell hn4 4)
        have k5 := (blk_cell hn4 5)
        have hcmc := comma_calls HI4.out.cu.own HI4.out.byt (by have := HI4.out.len; omega)
        cases hcm : S.comma cur with
        | true =>
          have hA := HA.out
          have hct : S.cut cur = cur.dropLast := by unfold S.cut; rw [if_pos hcm]
          rw [hct] at hA
          rw [hcm] at hcmc
          have HCM := Lib.hid hcmc
          have hne : cur ≠ [] := by rintro rfl; cases hcm
          obtain ⟨cq, rfl⟩ : ∃ cq, cn = cq + 1 := ⟨cn - 1, by have := HCN.out; have := List.length_pos_iff.2 hne; omega⟩
          obtain ⟨g, rfl⟩ : ∃ g, A = some ⟨g, 0, none⟩ := by
            rcases HI4.out.cu.own.2 with ⟨e, e2⟩ | ⟨g, cap', cs, e, _⟩
            · exact absurd (List.length_eq_zero_iff.1 e2) hne
            · simp only [Value.slice.injEq] at e; exact ⟨g, e.1⟩
          have hcq := (tks_C HI4.out.cu.own).2.1
          have hcb : cq ≤ 1000000 := by have := HCN.out; have := HI4.out.len; omega
          have hw1 : IntKind.i64.wrap (((cq + 1 : Nat) : Int) - 1) = (cq : Int) := (w64 _ (by omega) (by omega)).trans (by omega)
          have hw2 : ((cq + 1 : Nat) : Int) - 1 = (cq : Int) := by omega
          have hw3 : IntKind.i64.wrap ((cq : Int) + 1 - 1) = (cq : Int) := (w64 _ (by omega) (by omega)).trans (by omega)
          have hw4 : (cq : Int) + 1 - 1 = (cq : Int) := by omega
          have HA := Aside0.mk hA
          clear hA hct hcm hcmc
          gi_upto_region 12 with (gi_at_call 92; refine (callsIn_wide.2 HCM.out).mono ?_; rintro e w' ⟨rfl, ⟨⟨q, rfl⟩⟩⟩)
          have HI6 : Aside0 (It l H s fp FB src hd D J i line (.slice (some ⟨g, 0, none⟩) cq cap) cur.dropLast gap pre F' ((W4.drewN q).setCell ⟨s + 1, 0, none⟩ (.slice (some ⟨g, 0, none⟩) cq cap))) := ⟨(HI4.out.drewN C q).cutc C hne⟩
          clear c0 c00 c1 c2 f1 f2 k0 k1 k3 k4 k5 hn4 hz4
          generalize (W4.drewN q).setCell ⟨s + 1, 0, none⟩ (.slice (some ⟨g, 0, none⟩) cq cap) = W6 at *
          have c0 := HI6.out.sm.sc.c1
          have c00 := HI6.out.sm.sc.c2
          have hen : ∀ q, CallsIn Fence.wide (m + 1) Tryz.prog 90 #[.int .i64 i, .int .i64 ((i : Int)), .int .i64 line, .pointer (some ⟨s + 1, 0, none⟩), .pointer (some ⟨s + 1 + 1, 0, none⟩), .pointer (some ⟨H, 0, none⟩)] (W6.drewN q) fun e W' =>
              e = .returned (.bool true) ∧ ∃ F5, It l H s fp FB src hd D J i line (.slice none 0 0) [] false (pre ++ S.emit cur.dropLast i i line) F5 W' := fun q => (HI6.out.drewN C q).endc C (by omega) i i line
          have HEN := Lib.hid hen
          clear hen
          refine wide_region_still_tail 13 (by kernel_rfl) (by kernel_rfl) ?_
          simp only [List.take_succ_cons, List.take_zero, List.drop_succ_cons, List.drop_zero]
          still_step
          repeat still_step
          refine wpStill_nil ?_
          gi_wp2_with (gi_at_call 90; refine (HEN.out _).mono ?_; rintro e w5 ⟨rfl, F5, hi5⟩; have HI5 := Aside0.mk hi5; clear hi5)
          refine leavesIn_cons (f := 89) (args := #[.pointer (some ⟨FB, 0, none⟩), .pointer (some ⟨s + 1, 0, none⟩), .pointer (some ⟨H, 0, none⟩)]) (by simp) (fun e => by cases e) (by simp [go_sem]) (fun g _ => trivial) ?_
          refine (deferred_idle _ _ _ _ _).mono ?_
          rintro e u' w'' ⟨rfl, rfl, rfl⟩
          simp only [LeavesIn, settle]
          refine ⟨_, results_none rfl _ _ _, ⟨_, rfl⟩, F5, ?_, ?_⟩
          · rw [← HA.out]; exact HI5.out.jj
          · rw [← HA.out]; exact HI5.out.hfp
        | false =>
          have hA := HA.out
          have hct : S.cut cur = cur := by unfold S.cut; rw [hcm, if_neg Bool.false_ne_true]
          rw [hct] at hA
          rw [hcm] at hcmc
          have HCM := Lib.hid hcmc
          have HA := Aside0.mk hA
          clear hA hct hcm hcmc
          gi_upto_region 12 with (gi_at_call 92; refine (callsIn_wide.2 HCM.out).mono ?_; rintro e w' ⟨rfl, ⟨⟨q, rfl⟩⟩⟩)
          have hen : ∀ q, CallsIn Fence.wide (m + 1) Tryz.prog 90 #[.int .i64 i, .int .i64 ((i : Int)), .int .i64 line, .pointer (some ⟨s + 1, 0, none⟩), .pointer (some ⟨s + 1 + 1, 0, none⟩), .pointer (some ⟨H, 0, none⟩)] (W4.drewN q) fun e W' =>
              e = .returned (.bool true) ∧ ∃ F5, It l H s fp FB src hd D J i line (.slice none 0 0) [] false (pre ++ S.emit cur i i line) F5 W' := fun q => (HI4.out.drewN C q).endc C (by omega) i i line
          have HEN := Lib.hid hen
          clear hen
          refine wide_region_still_tail 13 (by kernel_rfl) (by kernel_rfl) ?_
          simp only [List.take_succ_cons, List.take_zero, List.drop_succ_cons, List.drop_zero]
          still_step
          repeat still_step
          refine wpStill_nil ?_
          gi_wp2_with (gi_at_call 90; refine (HEN.out _).mono ?_; rintro e w5 ⟨rfl, F5, hi5⟩; have HI5 := Aside0.mk hi5; clear hi5)
          refine leavesIn_cons (f := 89) (args := #[.pointer (some ⟨FB, 0, none⟩), .pointer (some ⟨s + 1, 0, none⟩), .pointer (some ⟨H, 0, none⟩)]) (by simp) (fun e => by cases e) (by simp [go_sem]) (fun g _ => trivial) ?_
          refine (deferred_idle _ _ _ _ _).mono ?_
          rintro e u' w'' ⟨rfl, rfl, rfl⟩
          simp only [LeavesIn, settle]
          refine ⟨_, results_none rfl _ _ _, ⟨_, rfl⟩, F5, ?_, ?_⟩
          · rw [← HA.out]; exact HI5.out.jj
          · rw [← HA.out]; exact HI5.out.hfp
      | line =>
        have hiN : i < N := by
          have := S.step_some (xs := L.drop i) (by rw [hS]; intro e; cases e)
          rw [List.length_drop, HN.out] at this
          omega
        rw [hS] at hst hA
        simp only [hdr] at hA
        simp only [StepPost, rTk] at hst
        have HST := Lib.hid hst
        have HA := Aside0.mk hA
        clear hst hA hS
        gi_upto_region 7 with (gi_at_call 91; refine (callsIn_wide.2 HST.out).mono ?_; rintro e w3 ⟨hb3, rfl, hs3⟩)
        have HI3 := Aside0.mk (HI.out.step C hb3 hs3 (by omega))
        have hlen0 := HI.out.len
        obtain ⟨T, hT⟩ : ∃ T, w3.heap.size = T := ⟨_, rfl⟩
        have hb4 : But (fun _ => False) w3 (w3.alloc (.cells #[.int .i64 0, .string ⟨#[]⟩, .bool false, .int .i64 line, .int .i64 i, .int .i64 0] 53)) := (But.refl _ w3).alloc _
        have hn4 := heap_alloc_new w3 (.cells #[.int .i64 0, .string ⟨#[]⟩, .bool false, .int .i64 line, .int .i64 i, .int .i64 0] 53)
        have HI4 := Aside0.mk (HI3.out.new C hb4)
        have hz4 := World.size_alloc w3 (.cells #[.int .i64 0, .string ⟨#[]⟩, .bool false, .int .i64 line, .int .i64 i, .int .i64 0] 53)
        rw [hT] at hn4 hz4
        have hTs : s + 3 ≤ T := by have := HI3.out.cu.lw; omega
        have HTF : Aside0 (¬ F' T ∧ (Value.slice A cn cap).ownBlock ≠ some T) := ⟨fun hf => by have := C.lt HI3.out.jj T hf; omega, fun e => by have := (HI3.out.cu.own.lt T e).2; omega⟩
        try rw [hT]
        clear hb3 hs3 hb4 HI HI3 hT HST
        generalize w3.alloc (.cells #[.int .i64 0, .string ⟨#[]⟩, .bool false, .int .i64 line, .int .i64 i, .int .i64 0] 53) = W4 at *
        have c0 := HI4.out.sm.sc.c1
        have c00 := HI4.out.sm.sc.c2
        have c1 : W4.cell? ⟨s + 1, 0, none⟩ = some (.slice A cn cap) := (blk_cell HI4.out.cu.cb 0).trans rfl
        have c2 : W4.cell? ⟨s + 1 + 1, 0, none⟩ = some (.bool gap) := (blk_cell HI4.out.cu.gb 0).trans rfl
        have f1 := blk_frozen HI4.out.cu.cb 0
        have f2 := blk_frozen HI4.out.cu.gb 0
        have k0 := (blk_cell hn4 0)
        have k1 := (blk_cell hn4 1)
        have k3 := (blk_cell hn4 3)
        have k4 := (blk_cell hn4 4)
        have k5 := (blk_cell hn4 5)
        have hcmc := comma_calls HI4.out.cu.own HI4.out.byt (by have := HI4.out.len; omega)
        cases hcm : S.comma cur with
        | true =>
          have hA := HA.out
          rw [hcm, if_pos rfl] at hA
          rw [hcm] at hcmc
          have HCM := Lib.hid hcmc
          have hne : cur ≠ [] := by rintro rfl; cases hcm
          obtain ⟨cq, rfl⟩ : ∃ cq, cn = cq + 1 := ⟨cn - 1, by have := HCN.out; have := List.length_pos_iff.2 hne; omega⟩
          obtain ⟨g, rfl⟩ : ∃ g, A = some ⟨g, 0, none⟩ := by
            rcases HI4.out.cu.own.2 with ⟨e, e2⟩ | ⟨g, cap', cs, e, _⟩
            · exact absurd (List.length_eq_zero_iff.1 e2) hne
            · simp only [Value.slice.injEq] at e; exact ⟨g, e.1⟩
          have hcq := (tks_C HI4.out.cu.own).2.1
          have hcb : cq ≤ 1000000 := by have := HCN.out; have := HI4.out.len; omega
          have hw1 : IntKind.i64.wrap (((cq + 1 : Nat) : Int) - 1) = (cq : Int) := (w64 _ (by omega) (by omega)).trans (by omega)
          have hw2 : ((cq + 1 : Nat) : Int) - 1 = (cq : Int) := by omega
          have hw3 : IntKind.i64.wrap ((cq : Int) + 1 - 1) = (cq : Int) := (w64 _ (by omega) (by omega)).trans (by omega)
          have hw4 : (cq : Int) + 1 - 1 = (cq : Int) := by omega
          have HA := Aside0.mk hA
          clear hA hcm hcmc
          gi_wp2_with (gi_at_call 92; refine (callsIn_wide.2 HCM.out).mono ?_; rintro e w' ⟨rfl, ⟨⟨q, rfl⟩⟩⟩)
          gi_roundg (N + 1 - (i + 1))
          case measure => omega
          case rel => exact ⟨(i + 1), (line + 1), .slice (some ⟨g, 0, none⟩) cq cap, cur.dropLast, true, pre, F', f0, by omega, by omega, by omega, by omega, by omega, ⟨((HI4.out.drewN C q).cutc C hne).setGap C true⟩, ⟨HA.out⟩⟩
        | false =>
          have hA := HA.out
          rw [hcm, if_neg Bool.false_ne_true] at hA
          rw [hcm] at hcmc
          have HCM := Lib.hid hcmc
          have HA := Aside0.mk hA
          clear hA hcm hcmc
          have hen : ∀ q, CallsIn Fence.wide (m + 1) Tryz.prog 90 #[.int .i64 i, .int .i64 ((i : Int) + 1), .int .i64 line, .pointer (some ⟨s + 1, 0, none⟩), .pointer (some ⟨s + 1 + 1, 0, none⟩), .pointer (some ⟨H, 0, none⟩)] (W4.drewN q) fun e W' =>
              e = .returned (.bool true) ∧ ∃ F5, It l H s fp FB src hd D J (i + 1) (line + 1) (.slice none 0 0) [] false (pre ++ S.emit cur i (i + 1) line) F5 W' := fun q => (HI4.out.drewN C q).endc C (by omega) i (i + 1) line
          have HEN := Lib.hid hen
          clear hen
          gi_wp2_with (first | (gi_at_call 92; refine (callsIn_wide.2 HCM.out).mono ?_; rintro e w' ⟨rfl, ⟨⟨q, rfl⟩⟩⟩) | (gi_at_call 90; refine (HEN.out _).mono ?_; rintro e w5 ⟨rfl, F5, hi5⟩; have HI5 := Aside0.mk hi5; clear hi5))
          gi_roundg (N + 1 - (i + 1))
          case measure => omega
          case rel => exact ⟨(i + 1), (line + 1), _, [], false, _, F5, f0, by omega, by omega, by omega, by omega, by omega, ⟨HI5.out⟩, ⟨by rw [← pre_pre]; exact HA.out⟩⟩
      | blank =>
        have hiN : i < N := by
          have := S.step_some (xs := L.drop i) (by rw [hS]; intro e; cases e)
          rw [List.length_drop, HN.out] at this
          omega
        rw [hS] at hst hA
        simp only [hdr] at hA
        simp only [StepPost, rTk] at hst
        have HST := Lib.hid hst
        have HA := Aside0.mk hA
        clear hst hA hS
        gi_upto_region 7 with (gi_at_call 91; refine (callsIn_wide.2 HST.out).mono ?_; rintro e w3 ⟨hb3, rfl, hs3⟩)
        have HI3 := Aside0.mk (HI.out.step C hb3 hs3 (by omega))
        have hlen0 := HI.out.len
        obtain ⟨T, hT⟩ : ∃ T, w3.heap.size = T := ⟨_, rfl⟩
        have hb4 : But (fun _ => False) w3 (w3.alloc (.cells #[.int .i64 0, .string ⟨#[]⟩, .bool false, .int .i64 line, .int .i64 i, .int .i64 0] 53)) := (But.refl _ w3).alloc _
        have hn4 := heap_alloc_new w3 (.cells #[.int .i64 0, .string ⟨#[]⟩, .bool false, .int .i64 line, .int .i64 i, .int .i64 0] 53)
        have HI4 := Aside0.mk (HI3.out.new C hb4)
        have hz4 := World.size_alloc w3 (.cells #[.int .i64 0, .string ⟨#[]⟩, .bool false, .int .i64 line, .int .i64 i, .int .i64 0] 53)
        rw [hT] at hn4 hz4
        have hTs : s + 3 ≤ T := by have := HI3.out.cu.lw; omega
        have HTF : Aside0 (¬ F' T ∧ (Value.slice A cn cap).ownBlock ≠ some T) := ⟨fun hf => by have := C.lt HI3.out.jj T hf; omega, fun e => by have := (HI3.out.cu.own.lt T e).2; omega⟩
        try rw [hT]
        clear hb3 hs3 hb4 HI HI3 hT HST
        generalize w3.alloc (.cells #[.int .i64 0, .string ⟨#[]⟩, .bool false, .int .i64 line, .int .i64 i, .int .i64 0] 53) = W4 at *
        have c0 := HI4.out.sm.sc.c1
        have c00 := HI4.out.sm.sc.c2
        have c1 : W4.cell? ⟨s + 1, 0, none⟩ = some (.slice A cn cap) := (blk_cell HI4.out.cu.cb 0).trans rfl
        have c2 : W4.cell? ⟨s + 1 + 1, 0, none⟩ = some (.bool gap) := (blk_cell HI4.out.cu.gb 0).trans rfl
        have f1 := blk_frozen HI4.out.cu.cb 0
        have f2 := blk_frozen HI4.out.cu.gb 0
        have k0 := (blk_cell hn4 0)
        have k1 := (blk_cell hn4 1)
        have k3 := (blk_cell hn4 3)
        have k4 := (blk_cell hn4 4)
        have k5 := (blk_cell hn4 5)
        gi_wp2
        gi_roundg (N + 1 - (i + 1))
        case measure => omega
        case rel => exact ⟨(i + 1), line, _, cur, true, pre, F', f0, by omega, by omega, by omega, by omega, by omega, ⟨HI4.out.setGap C true⟩, ⟨HA.out⟩⟩
      | cmt k dl =>
        have hk := S.step_cmt hS
        rw [List.length_drop, HN.out] at hk
        rw [hS] at hst hA
        simp only [hdr] at hA
        simp only [StepPost, rTk] at hst
        have HST := Lib.hid hst
        have HA := Aside0.mk hA
        clear hst hA hS
        gi_upto_region 7 with (gi_at_call 91; refine (callsIn_wide.2 HST.out).mono ?_; rintro e w3 ⟨hb3, rfl, hs3⟩)
        have HI3 := Aside0.mk (HI.out.step C hb3 hs3 (by omega))
        have hlen0 := HI.out.len
        obtain ⟨T, hT⟩ : ∃ T, w3.heap.size = T := ⟨_, rfl⟩
        have hb4 : But (fun _ => False) w3 (w3.alloc (.cells #[.int .i64 0, .string ⟨#[]⟩, .bool false, .int .i64 line, .int .i64 i, .int .i64 0] 53)) := (But.refl _ w3).alloc _
        have hn4 := heap_alloc_new w3 (.cells #[.int .i64 0, .string ⟨#[]⟩, .bool false, .int .i64 line, .int .i64 i, .int .i64 0] 53)
        have HI4 := Aside0.mk (HI3.out.new C hb4)
        have hz4 := World.size_alloc w3 (.cells #[.int .i64 0, .string ⟨#[]⟩, .bool false, .int .i64 line, .int .i64 i, .int .i64 0] 53)
        rw [hT] at hn4 hz4
        have hTs : s + 3 ≤ T := by have := HI3.out.cu.lw; omega
        have HTF : Aside0 (¬ F' T ∧ (Value.slice A cn cap).ownBlock ≠ some T) := ⟨fun hf => by have := C.lt HI3.out.jj T hf; omega, fun e => by have := (HI3.out.cu.own.lt T e).2; omega⟩
        try rw [hT]
        clear hb3 hs3 hb4 HI HI3 hT HST
        generalize w3.alloc (.cells #[.int .i64 0, .string ⟨#[]⟩, .bool false, .int .i64 line, .int .i64 i, .int .i64 0] 53) = W4 at *
        have c0 := HI4.out.sm.sc.c1
        have c00 := HI4.out.sm.sc.c2
        have c1 : W4.cell? ⟨s + 1, 0, none⟩ = some (.slice A cn cap) := (blk_cell HI4.out.cu.cb 0).trans rfl
        have c2 : W4.cell? ⟨s + 1 + 1, 0, none⟩ = some (.bool gap) := (blk_cell HI4.out.cu.gb 0).trans rfl
        have f1 := blk_frozen HI4.out.cu.cb 0
        have f2 := blk_frozen HI4.out.cu.gb 0
        have k0 := (blk_cell hn4 0)
        have k1 := (blk_cell hn4 1)
        have k3 := (blk_cell hn4 3)
        have k4 := (blk_cell hn4 4)
        have k5 := (blk_cell hn4 5)
        gi_wp2
        gi_roundg (N + 1 - (i + k))
        case measure => omega
        case rel => exact ⟨(i + k), (line + dl), _, cur, gap, pre, F', f0, by omega, by omega, by omega, by omega, by omega, ⟨HI4.out⟩, ⟨HA.out⟩⟩
      | tok k t k' =>
        obtain ⟨b1, b2, b3, b4, b5⟩ := S.step_tok (xs := L.drop i) (fun x hx => bo_range src x (by rw [HL.out]; exact List.mem_of_mem_drop hx)) hS
        rw [List.length_drop, HN.out] at b2
        obtain ⟨E, hE⟩ : ∃ E, i + k' = E := ⟨_, rfl⟩
        rw [hS] at hst hA
        simp only [hdr, hE] at hA
        simp only [StepPost, rTk, hE] at hst
        have HST := Lib.hid hst
        have HA := Aside0.mk hA
        clear hst hA hS
        gi_upto_region 7 with (gi_at_call 91; refine (callsIn_wide.2 HST.out).mono ?_; rintro e w3 ⟨hb3, rfl, hs3⟩)
        have HI3 := Aside0.mk (HI.out.step C hb3 hs3 (by omega))
        have hlen0 := HI.out.len
        obtain ⟨T, hT⟩ : ∃ T, w3.heap.size = T := ⟨_, rfl⟩
        have hb4 : But (fun _ => False) w3 (w3.alloc (.cells #[.int .i64 k, .string (strOfNums t), .bool false, .int .i64 line, .int .i64 i, .int .i64 E] 53)) := (But.refl _ w3).alloc _
        have hn4 := heap_alloc_new w3 (.cells #[.int .i64 k, .string (strOfNums t), .bool false, .int .i64 line, .int .i64 i, .int .i64 E] 53)
        have HI4 := Aside0.mk (HI3.out.new C hb4)
        have hz4 := World.size_alloc w3 (.cells #[.int .i64 k, .string (strOfNums t), .bool false, .int .i64 line, .int .i64 i, .int .i64 E] 53)
        rw [hT] at hn4 hz4
        have hTs : s + 3 ≤ T := by have := HI3.out.cu.lw; omega
        have HTF : Aside0 (¬ F' T ∧ (Value.slice A cn cap).ownBlock ≠ some T) := ⟨fun hf => by have := C.lt HI3.out.jj T hf; omega, fun e => by have := (HI3.out.cu.own.lt T e).2; omega⟩
        try rw [hT]
        clear hb3 hs3 hb4 HI HI3 hT HST
        generalize w3.alloc (.cells #[.int .i64 k, .string (strOfNums t), .bool false, .int .i64 line, .int .i64 i, .int .i64 E] 53) = W4 at *
        have c0 := HI4.out.sm.sc.c1
        have c00 := HI4.out.sm.sc.c2
        have c1 : W4.cell? ⟨s + 1, 0, none⟩ = some (.slice A cn cap) := (blk_cell HI4.out.cu.cb 0).trans rfl
        have c2 : W4.cell? ⟨s + 1 + 1, 0, none⟩ = some (.bool gap) := (blk_cell HI4.out.cu.gb 0).trans rfl
        have f1 := blk_frozen HI4.out.cu.cb 0
        have f2 := blk_frozen HI4.out.cu.gb 0
        have k0 := (blk_cell hn4 0)
        have k1 := (blk_cell hn4 1)
        have k3 := (blk_cell hn4 3)
        have k4 := (blk_cell hn4 4)
        have k5 := (blk_cell hn4 5)
        by_cases hsem : k = 3 ∧ t = [59]
        · obtain ⟨rfl, rfl⟩ := hsem
          have hA := HA.out
          rw [if_pos ⟨rfl, rfl⟩] at hA
          have HA := Aside0.mk hA
          have hts : ((strOfNums [59]).toList == ([59] : List UInt8)) = true := by rw [str_eq, bytesOf_str _ (by decide)]; rfl
          clear hA
          have hen : ∀ q, CallsIn Fence.wide (m + 1) Tryz.prog 90 #[.int .i64 i, .int .i64 ((E : Int)), .int .i64 line, .pointer (some ⟨s + 1, 0, none⟩), .pointer (some ⟨s + 1 + 1, 0, none⟩), .pointer (some ⟨H, 0, none⟩)] (W4.drewN q) fun e W' =>
              e = .returned (.bool true) ∧ ∃ F5, It l H s fp FB src hd D J E line (.slice none 0 0) [] false (pre ++ S.emit cur i E line) F5 W' := fun q => (HI4.out.drewN C q).endc C (by omega) i E line
          have HEN := Lib.hid hen
          clear hen
          have HEN0 := Lib.hid (HEN.out 0)
          gi_wp2_with (gi_at_call 90; refine (HEN0.out).mono ?_; rintro e w5 ⟨rfl, F5, hi5⟩; have HI5 := Aside0.mk hi5; clear hi5)
          gi_roundg (N + 1 - E)
          case measure => omega
          case rel => exact ⟨E, line, _, [], false, _, F5, f0, by omega, by omega, by omega, by omega, by omega, ⟨HI5.out⟩, ⟨by rw [← pre_pre]; exact HA.out⟩⟩
        · have hor : ((((k : Nat) : Int) == 3) = false) ∨ ((((k : Nat) : Int) == 3) = true ∧ ((strOfNums t).toList == ([59] : List UInt8)) = false) := by
            by_cases h3 : k = 3
            · refine .inr ⟨beq_iff_eq.2 (by omega), ?_⟩
              rw [str_eq, bytesOf_str _ b3]
              exact decide_eq_false (fun e => hsem ⟨h3, e⟩)
            · exact .inl (beq_eq_false_iff_ne.2 (by omega))
          obtain ⟨gv, hgv⟩ : ∃ gv, (gap && !decide (cur = [])) = gv := ⟨_, rfl⟩
          have hA := HA.out
          clear HA
          rw [if_neg hsem, hgv] at hA
          have hgvf : (gap = false ∧ gv = false) ∨ (gap = true ∧ decide ((0 : Int) < (cn : Int)) = gv ∧ decide (0 < cn) = gv) := by
            cases gap with
            | false => exact .inl ⟨rfl, by rw [← hgv]; rfl⟩
            | true =>
              refine .inr ⟨rfl, ?_, ?_⟩
              all_goals
                rw [← hgv]
                by_cases hz : cur = []
                · have hc0 : cn = 0 := by rw [← HCN.out, hz]; rfl
                  subst hc0
                  simp [hz]
                · have := List.length_pos_iff.2 hz
                  have hc0 : 0 < cn := by rw [← HCN.out]; exact this
                  have hc1 : (0 : Int) < (cn : Int) := by omega
                  simp [hz, hc0]
          obtain ⟨tk, htk⟩ : ∃ tk : S.Tk, tk = ⟨k, t, gv, line, i, E⟩ := ⟨_, rfl⟩
          rw [← htk] at hA
          have HA := Aside0.mk hA
          have HTK : Aside0 (tkL tk = [.int .i64 k, .string (strOfNums t), .bool gv, .int .i64 line, .int .i64 i, .int .i64 E] ∧ Bytes tk) := ⟨by rw [htk]; exact ⟨rfl, b3⟩⟩
          have HI5 := Aside0.mk (HI4.out.other C (A := fun k => k = T) ((But.refl (fun k => k = T) W4).set ⟨T, 2, none⟩ (.bool gv) rfl) (fun k e => ⟨by omega, by rw [e]; exact HTF.out.1, by rw [e]; exact HTF.out.2⟩))
          have hn5 : (W4.setCell ⟨T, 2, none⟩ (.bool gv)).heap[T]? = some (.cells #[.int .i64 k, .string (strOfNums t), .bool gv, .int .i64 line, .int .i64 i, .int .i64 E] 53 (0, 0)) := blk_put hn4 2 (.bool gv) rfl
          have HN5 := Aside0.mk hn5
          have k2 := blk_cell hn4 2
          have g2 := blk_frozen hn4 2
          have HOW : Aside0 (∀ X, But (fun _ => False) (W4.setCell ⟨T, 2, none⟩ (.bool gv)) X → X.ownsRow (s + 3) 53 6 (.slice A cn cap) cn (tksL cur)) := ⟨fun X hX => by
            have := own_but HI5.out.cu.own hX (fun k e => e.elim)
            rwa [HCN.out] at this⟩
          have hcnb : cn ≤ 1000000 := by have := HCN.out; have := HI4.out.len; omega
          have hlwb : s + 3 ≤ (W4.setCell ⟨T, 2, none⟩ (.bool gv)).heap.size := HI5.out.cu.lw
          obtain ⟨i0, hi0, hz0, hz1, hz2⟩ := info_parts (show (Tryz.prog.info? 53).map (fun i => (i.zero, i.size, i.bytes)) = some (some (.agg zTk), 6, 56) by kernel_rfl)
          clear hA hgv htk hsem hn5
          rcases hor with e3 | ⟨e3, ets⟩
          all_goals
            rcases hgvf with ⟨rfl, rfl⟩ | ⟨rfl, y1, y2⟩
            · gi_upto_region 23 with (fail)
              generalize W4.setCell ⟨T, 2, none⟩ (.bool false) = W5 at *
              clear c0 c00 c1 c2 f1 f2 k0 k1 k2 k3 k4 k5 g2 hn4 hz4
              have c1 : W5.cell? ⟨s + 1, 0, none⟩ = some (.slice A cn cap) := (blk_cell HI5.out.cu.cb 0).trans rfl
              have c2 := blk_cell HI5.out.cu.gb 0
              have k0 := blk_cell HN5.out 0
              have k1 := blk_cell HN5.out 1
              have k2 := blk_cell HN5.out 2
              have k3 := blk_cell HN5.out 3
              have k4 := blk_cell HN5.out 4
              have k5 := blk_cell HN5.out 5
              have hnX := heap_alloc_new W5 (.cells #[.int .i64 k, .string (strOfNums t), .bool false, .int .i64 line, .int .i64 i, .int .i64 E] 53)
              have hXb : But (fun _ => False) W5 (W5.alloc (.cells #[.int .i64 k, .string (strOfNums t), .bool false, .int .i64 line, .int .i64 i, .int .i64 E] 53)) := (But.refl _ W5).alloc _
              have HXO := Aside0.mk (HOW.out _ hXb)
              have HXB := Aside0.mk hXb
              have HXN := Aside0.mk hnX
              have HCB : Aside0 (∀ w1, (W5.alloc (.cells #[.int .i64 k, .string (strOfNums t), .bool false, .int .i64 line, .int .i64 i, .int .i64 E] 53)).grownBy w1 (Value.slice A cn cap).ownBlock → w1.heap[s + 1]? = some (.cells #[.slice A cn cap] 24 (0, 0)) ∧ w1.heap[s + 1 + 1]? = some (.cells #[.bool false] 4 (0, 0))) := ⟨fun w1 hg => by
                have hge := HI5.out.own_ge
                have hsz := HXB.out.size
                exact ⟨(hg.block (s + 1) (by omega) (fun e => by have := hge _ e.symm; omega)).trans ((HXB.out.block (s + 1) (by omega) (fun e => e)).trans HI5.out.cu.cb), (hg.block (s + 1 + 1) (by omega) (fun e => by have := hge _ e.symm; omega)).trans ((HXB.out.block (s + 1 + 1) (by omega) (fun e => e)).trans HI5.out.cu.gb)⟩⟩
              clear hXb hnX
              gi_upto_region 24 with (gi_at_builtin; refine wpListIn_append_own_at _ rfl (.tmp 91) (.tmp 93) 24 rfl (s + 3) 53 i0 (.agg zTk) 6 56 Tryz.underlying24 hi0 hz0 hz1 hz2 rfl (by decide) (.slice A cn cap) cn (tksL cur) rfl HXO.out ⟨W5.heap.size, 0, none⟩ 1 1 (tkL tk) rfl (by rw [HTK.out.1]; rfl) (fun j u hu => by rw [add_plain, blk_cell HXN.out j]; rw [HTK.out.1] at hu; simpa using hu) (tkL_one _) (by unfold maxLen; omega) (by omega) (by rw [World.size_alloc]; omega) ?_; intro v' w1 hown' hgrow _ hat; obtain ⟨g', cap', rfl⟩ := ownsRow_succ hown'; have HOW1 := Aside0.mk hown'; have HGR := Aside0.mk hgrow; have HAT := Aside0.mk hat; have e1 := blk_cell (HCB.out w1 hgrow).1 0; have e2 := blk_cell (HCB.out w1 hgrow).2 0; have q1 := blk_frozen (HCB.out w1 hgrow).1 0; have q2 := blk_frozen (HCB.out w1 hgrow).2 0; clear hown' hgrow hat)
              have HI6 := Aside0.mk (HI5.out.more C HXB.out (v' := .slice (some ⟨g', 0, none⟩) (cn + 1) cap') (t := tk) (by rw [HCN.out]; exact HOW1.out) HGR.out HAT.out HTK.out.2 (by omega))
              generalize (w1.setCell ⟨s + 1, 0, none⟩ (.slice (some ⟨g', 0, none⟩) (cn + 1) cap')).setCell ⟨s + 1 + 1, 0, none⟩ (.bool false) = W6 at *
              clear c1 c2 k0 k1 k2 k3 k4 k5 e1 e2 q1 q2
              have c0 := HI6.out.sm.sc.c1
              have c00 := HI6.out.sm.sc.c2
              have c1 : W6.cell? ⟨s + 1, 0, none⟩ = some (.slice (some ⟨g', 0, none⟩) (cn + 1) cap') := (blk_cell HI6.out.cu.cb 0).trans rfl
              have hlbc := label_calls HI6.out.cu.own HI6.out.byt
              have hA := HA.out
              cases hlb : S.label (cur ++ [tk]) with
              | true =>
                rw [hlb, if_pos rfl] at hA
                rw [hlb] at hlbc
                have HLB := Lib.hid hlbc
                have HA := Aside0.mk hA
                clear hA hlb hlbc
                have hen : ∀ q, CallsIn Fence.wide (m + 1) Tryz.prog 90 #[.int .i64 E, .int .i64 ((E : Int)), .int .i64 line, .pointer (some ⟨s + 1, 0, none⟩), .pointer (some ⟨s + 1 + 1, 0, none⟩), .pointer (some ⟨H, 0, none⟩)] (W6.drewN q) fun e W' =>
                    e = .returned (.bool true) ∧ ∃ F5, It l H s fp FB src hd D J E line (.slice none 0 0) [] false (pre ++ S.emit (cur ++ [tk]) E E line) F5 W' := fun q => (HI6.out.drewN C q).endc C (by omega) E E line
                have HEN := Lib.hid hen
                clear hen

                gi_upto_region 25 with (gi_at_call 54; refine (callsIn_wide.2 HLB.out).mono ?_; rintro e w' ⟨rfl, ⟨⟨q, rfl⟩⟩⟩)
                refine wide_region_still_tail 13 (by kernel_rfl) (by kernel_rfl) ?_
                simp only [List.take_succ_cons, List.take_zero, List.drop_succ_cons, List.drop_zero]
                still_step
                repeat still_step
                refine wpStill_nil ?_

                gi_wp2_with (gi_at_call 90; refine (HEN.out _).mono ?_; rintro e w5 ⟨rfl, F5, hi5⟩; have HI5 := Aside0.mk hi5; clear hi5)
                gi_roundg (N + 1 - E)
                case measure => omega
                case rel => exact ⟨E, line, _, [], false, _, F5, f0, by omega, by omega, by omega, by omega, by omega, ⟨HI5.out⟩, ⟨by rw [← pre_pre]; exact HA.out⟩⟩

              | false =>
                rw [hlb, if_neg Bool.false_ne_true] at hA
                rw [hlb] at hlbc
                have HLB := Lib.hid hlbc
                have HA := Aside0.mk hA
                clear hA hlb hlbc
                gi_wp2_with (gi_at_call 54; refine (callsIn_wide.2 HLB.out).mono ?_; rintro e w' ⟨rfl, ⟨⟨q, rfl⟩⟩⟩)
                gi_roundg (N + 1 - E)
                case measure => omega
                case rel => exact ⟨E, line, _, cur ++ [tk], false, pre, F', f0, by omega, by omega, by omega, by omega, by omega, ⟨HI6.out.drewN C _⟩, ⟨HA.out⟩⟩
            · gi_upto_region 23 with (fail)
              generalize W4.setCell ⟨T, 2, none⟩ (.bool gv) = W5 at *
              clear c0 c00 c1 c2 f1 f2 k0 k1 k2 k3 k4 k5 g2 hn4 hz4
              have c1 : W5.cell? ⟨s + 1, 0, none⟩ = some (.slice A cn cap) := (blk_cell HI5.out.cu.cb 0).trans rfl
              have c2 := blk_cell HI5.out.cu.gb 0
              have k0 := blk_cell HN5.out 0
              have k1 := blk_cell HN5.out 1
              have k2 := blk_cell HN5.out 2
              have k3 := blk_cell HN5.out 3
              have k4 := blk_cell HN5.out 4
              have k5 := blk_cell HN5.out 5
              have hnX := heap_alloc_new W5 (.cells #[.int .i64 k, .string (strOfNums t), .bool gv, .int .i64 line, .int .i64 i, .int .i64 E] 53)
              have hXb : But (fun _ => False) W5 (W5.alloc (.cells #[.int .i64 k, .string (strOfNums t), .bool gv, .int .i64 line, .int .i64 i, .int .i64 E] 53)) := (But.refl _ W5).alloc _
              have HXO := Aside0.mk (HOW.out _ hXb)
              have HXB := Aside0.mk hXb
              have HXN := Aside0.mk hnX
              have HCB : Aside0 (∀ w1, (W5.alloc (.cells #[.int .i64 k, .string (strOfNums t), .bool gv, .int .i64 line, .int .i64 i, .int .i64 E] 53)).grownBy w1 (Value.slice A cn cap).ownBlock → w1.heap[s + 1]? = some (.cells #[.slice A cn cap] 24 (0, 0)) ∧ w1.heap[s + 1 + 1]? = some (.cells #[.bool true] 4 (0, 0))) := ⟨fun w1 hg => by
                have hge := HI5.out.own_ge
                have hsz := HXB.out.size
                exact ⟨(hg.block (s + 1) (by omega) (fun e => by have := hge _ e.symm; omega)).trans ((HXB.out.block (s + 1) (by omega) (fun e => e)).trans HI5.out.cu.cb), (hg.block (s + 1 + 1) (by omega) (fun e => by have := hge _ e.symm; omega)).trans ((HXB.out.block (s + 1 + 1) (by omega) (fun e => e)).trans HI5.out.cu.gb)⟩⟩
              clear hXb hnX
              gi_upto_region 24 with (gi_at_builtin; refine wpListIn_append_own_at _ rfl (.tmp 91) (.tmp 93) 24 rfl (s + 3) 53 i0 (.agg zTk) 6 56 Tryz.underlying24 hi0 hz0 hz1 hz2 rfl (by decide) (.slice A cn cap) cn (tksL cur) rfl HXO.out ⟨W5.heap.size, 0, none⟩ 1 1 (tkL tk) rfl (by rw [HTK.out.1]; rfl) (fun j u hu => by rw [add_plain, blk_cell HXN.out j]; rw [HTK.out.1] at hu; simpa using hu) (tkL_one _) (by unfold maxLen; omega) (by omega) (by rw [World.size_alloc]; omega) ?_; intro v' w1 hown' hgrow _ hat; obtain ⟨g', cap', rfl⟩ := ownsRow_succ hown'; have HOW1 := Aside0.mk hown'; have HGR := Aside0.mk hgrow; have HAT := Aside0.mk hat; have e1 := blk_cell (HCB.out w1 hgrow).1 0; have e2 := blk_cell (HCB.out w1 hgrow).2 0; have q1 := blk_frozen (HCB.out w1 hgrow).1 0; have q2 := blk_frozen (HCB.out w1 hgrow).2 0; clear hown' hgrow hat)
              have HI6 := Aside0.mk (HI5.out.more C HXB.out (v' := .slice (some ⟨g', 0, none⟩) (cn + 1) cap') (t := tk) (by rw [HCN.out]; exact HOW1.out) HGR.out HAT.out HTK.out.2 (by omega))
              generalize (w1.setCell ⟨s + 1, 0, none⟩ (.slice (some ⟨g', 0, none⟩) (cn + 1) cap')).setCell ⟨s + 1 + 1, 0, none⟩ (.bool false) = W6 at *
              clear c1 c2 k0 k1 k2 k3 k4 k5 e1 e2 q1 q2
              have c0 := HI6.out.sm.sc.c1
              have c00 := HI6.out.sm.sc.c2
              have c1 : W6.cell? ⟨s + 1, 0, none⟩ = some (.slice (some ⟨g', 0, none⟩) (cn + 1) cap') := (blk_cell HI6.out.cu.cb 0).trans rfl
              have hlbc := label_calls HI6.out.cu.own HI6.out.byt
              have hA := HA.out
              cases hlb : S.label (cur ++ [tk]) with
              | true =>
                rw [hlb, if_pos rfl] at hA
                rw [hlb] at hlbc
                have HLB := Lib.hid hlbc
                have HA := Aside0.mk hA
                clear hA hlb hlbc
                have hen : ∀ q, CallsIn Fence.wide (m + 1) Tryz.prog 90 #[.int .i64 E, .int .i64 ((E : Int)), .int .i64 line, .pointer (some ⟨s + 1, 0, none⟩), .pointer (some ⟨s + 1 + 1, 0, none⟩), .pointer (some ⟨H, 0, none⟩)] (W6.drewN q) fun e W' =>
                    e = .returned (.bool true) ∧ ∃ F5, It l H s fp FB src hd D J E line (.slice none 0 0) [] false (pre ++ S.emit (cur ++ [tk]) E E line) F5 W' := fun q => (HI6.out.drewN C q).endc C (by omega) E E line
                have HEN := Lib.hid hen
                clear hen

                gi_upto_region 25 with (gi_at_call 54; refine (callsIn_wide.2 HLB.out).mono ?_; rintro e w' ⟨rfl, ⟨⟨q, rfl⟩⟩⟩)
                refine wide_region_still_tail 13 (by kernel_rfl) (by kernel_rfl) ?_
                simp only [List.take_succ_cons, List.take_zero, List.drop_succ_cons, List.drop_zero]
                still_step
                repeat still_step
                refine wpStill_nil ?_

                gi_wp2_with (gi_at_call 90; refine (HEN.out _).mono ?_; rintro e w5 ⟨rfl, F5, hi5⟩; have HI5 := Aside0.mk hi5; clear hi5)
                gi_roundg (N + 1 - E)
                case measure => omega
                case rel => exact ⟨E, line, _, [], false, _, F5, f0, by omega, by omega, by omega, by omega, by omega, ⟨HI5.out⟩, ⟨by rw [← pre_pre]; exact HA.out⟩⟩

              | false =>
                rw [hlb, if_neg Bool.false_ne_true] at hA
                rw [hlb] at hlbc
                have HLB := Lib.hid hlbc
                have HA := Aside0.mk hA
                clear hA hlb hlbc
                gi_wp2_with (gi_at_call 54; refine (callsIn_wide.2 HLB.out).mono ?_; rintro e w' ⟨rfl, ⟨⟨q, rfl⟩⟩⟩)
                gi_roundg (N + 1 - E)
                case measure => omega
                case rel => exact ⟨E, line, _, cur ++ [tk], false, pre, F', f0, by omega, by omega, by omega, by omega, by omega, ⟨HI6.out.drewN C _⟩, ⟨HA.out⟩⟩
      | err c dl =>
        rw [hS] at hst hA
        simp only [StepPost] at hst
        have HST := Lib.hid hst
        have HA := Aside0.mk hA
        clear hst hA hS
        gi_wp2_with (gi_at_call 91; refine (callsIn_wide.2 HST.out).mono ?_; rintro e w3 ⟨hb3, rfl, i', l', hs3⟩; unfold Fails)
        have HFL := Aside0.mk (HI.out.fail C hb3)
        obtain ⟨z1, z2, z3, z4, z5, z6⟩ := HFL.out
        refine leavesIn_cons (f := 89) (args := #[.pointer (some ⟨FB, 0, none⟩), .pointer (some ⟨s + 1, 0, none⟩), .pointer (some ⟨H, 0, none⟩)]) (by simp) (fun e => by cases e) (by simp [go_sem]) (fun g _ => trivial) ?_
        refine (deferred_panic (m + 1) (by omega) (C : Client l (m + 1 - 1) J) c ((line + dl : Nat) : Int) 0 0 w3 z1 z2 z3 z4 z5 z6 ⟨by have := HI.out.l1; have := HI.out.l2; omega, by have := HI.out.l2; omega, by have := HI.out.l1; have := HI.out.l2; omega⟩ (by have := HI.out.l1; have := HI.out.l2; omega) (by have := HI.out.len; omega)).mono ?_
        rintro e u' w'' ⟨rfl, rfl, ⟨F5, hj5⟩, hfp5⟩
        simp only [LeavesIn, settle, List.dropWhile_nil]
        refine ⟨_, results_none rfl _ _ _, ⟨_, rfl⟩, F5, ?_, ?_⟩
        · rw [← HA.out]; exact hj5
        · rw [← HA.out]; exact hfp5
end Go.Proofs.YtkkpjonfaflkmaaGreatDoor.T

/- scan.tokens returns what S.scan says. -/
namespace Go.Proofs.YtkkpjonfaflkmaaGreatDoor.T
set_option linter.unusedSimpArgs false
set_option linter.unusedVariables false
open Go.RowKit Go.Maps Go.Proofs.YtkkpjonfaflkmaaGreatDoorW.PrintWords Go.Proofs.YtkkpjonfaflkmaaGreatDoorW.PrintLast Go.Proofs.YtkkpjonfaflkmaaGreatDoorW.PrintMore
attribute [local go_sem] Oper.semAt_some

theorem clauses.calls (src : ByteArray) (p : Addr) (w : World) :
    Calls Tryz.prog 53 #[.string src, .pointer (some p)] w fun e w' => e = .returned (.func (.func 87) #[] #[.pointer (some ⟨w.heap.size, 0, none⟩), .pointer (some ⟨w.heap.size + 1, 0, none⟩)]) ∧
      w' = (w.alloc (.cells #[.string src] 9)).alloc (.cells #[.pointer (some p)] 88) := by
  have hmf : ∀ (fn : Fn) (first cap : Array Value) (w : World), (Instr.makeFunc fn first cap).run Tryz.prog w = .ok (.func fn first cap) w := fun _ _ _ _ => rfl
  go_enter Tryz.func53, Tryz.ntmps53
  go_wp2
  go_ret
  exact ⟨rfl, rfl⟩
theorem iter_enters : ∀ args w, (callFunc 87 args).run Tryz.prog w = .ok (.enter 87 args) w := enters_of Tryz.func87 (by kernel_rfl) rfl

theorem But.putObj {A : Nat → Prop} {w w' : World} (h : But A w w') (b : Nat) (o : Obj) (hb : A b) : But A w (w'.putObj b o) := by
  have hg := grownBy_putObj' w' b o
  exact ⟨hg.os.trans h.os, hg.tape.trans h.tape, hg.output.trans h.output, Nat.le_trans h.size hg.size, fun k hk hn => (hg.block k (Nat.lt_of_lt_of_le hk h.size) (fun e => hn (by cases e; exact hb))).trans (h.block k hk hn)⟩
theorem But.grown {A : Nat → Prop} {w w' w'' : World} {v : Option Nat} (h : But A w w') (hg : w'.grownBy w'' v) (hA : ∀ k, v = some k → A k) : But A w w'' :=
  ⟨hg.os.trans h.os, hg.tape.trans h.tape, hg.output.trans h.output, Nat.le_trans h.size hg.size, fun k hk hn => (hg.block k (Nat.lt_of_lt_of_le hk h.size) (fun e => hn (hA k e.symm))).trans (h.block k hk hn)⟩

/-- What tokens knows while it ranges: the result's box in H, the row of tokens in the box H + 1, the loop in H + 6. -/
structure TkI (w0 : World) (H : Nat) (rd : Loop) (v : Value) (pre : List (List S.Tk)) (W : World) : Prop where
  res : W.heap[H]? = some (.cells #[.int .i64 0, .int .i64 0] 76 (0, 0))
  out : W.heap[H + 1]? = some (.cells #[v] 24 (0, 0))
  dfr : W.heap[H + 5]? = some (.deferred (some []))
  lop : W.heap[H + 6]? = some (.loop rd)
  own : W.ownsRow (H + 7) 53 6 v pre.flatten.length (tksL pre.flatten)
  below : Below H w0 W
def TkF (H : Nat) (v : Value) (k : Nat) : Prop := k < H ∨ k = H ∨ k = H + 1 ∨ k = H + 5 ∨ k = H + 6 ∨ v.ownBlock = some k
def TkJ (w0 : World) (H : Nat) (rd : Loop) (pre : List (List S.Tk)) (F : Nat → Prop) (W : World) : Prop := ∃ v, F = TkF H v ∧ TkI w0 H rd v pre W
theorem TkI.lw {w0 : World} {H : Nat} {rd : Loop} {v : Value} {pre : List (List S.Tk)} {W : World} (h : TkI w0 H rd v pre W) : H + 6 < W.heap.size := (Array.getElem?_eq_some_iff.1 h.lop).1
theorem TkI.keep {w0 : World} {H : Nat} {rd : Loop} {v : Value} {pre : List (List S.Tk)} {W W' : World} (h : TkI w0 H rd v pre W) (hb : But (fun k => ¬ TkF H v k) W W') : TkI w0 H rd v pre W' := by
  have hlw := h.lw
  have hk : ∀ k, TkF H v k → k < W.heap.size → W'.heap[k]? = W.heap[k]? := fun k hf hl => hb.block k hl (fun e => e hf)
  refine ⟨(hk H (.inr (.inl rfl)) (by omega)).trans h.res, (hk _ (.inr (.inr (.inl rfl))) (by omega)).trans h.out, (hk _ (.inr (.inr (.inr (.inl rfl)))) (by omega)).trans h.dfr, (hk _ (.inr (.inr (.inr (.inr (.inl rfl))))) (by omega)).trans h.lop,
    own_but h.own hb (fun k e e2 => e (.inr (.inr (.inr (.inr (.inr e2)))))), h.below.trans (hb.belowB (by omega) (fun k hk e => e (.inl hk)))⟩
theorem TkI.cb {WB w1 : World} {OB : Nat} {vo u : Value} (hg : WB.grownBy w1 vo.ownBlock) (h : WB.heap[OB]? = some (.cells #[u] 24 (0, 0))) (hne : ∀ k, vo.ownBlock = some k → k ≠ OB) : w1.heap[OB]? = some (.cells #[u] 24 (0, 0)) :=
  (hg.block OB (Array.getElem?_eq_some_iff.1 h).1 (fun e => hne OB e.symm rfl)).trans h
theorem tksL_one : ∀ (l : List S.Tk), ∀ u ∈ tksL l, u.oneCell' = true
  | [], u, h => by simp [tksL] at h
  | t :: l, u, h => by
    simp only [tksL, List.map_cons, List.flatten_cons, List.mem_append] at h
    rcases h with h | h
    · exact tkL_one t u h
    · exact tksL_one l u h
/-- One clause more. -/
theorem TkI.next {w0 : World} {H : Nat} {rd rb : Loop} {v v' : Value} {pre : List (List S.Tk)} {cl : List S.Tk} {W w1 : World} (h : TkI w0 H rd v pre W) (ho : w1.ownsRow (H + 7) 53 6 v' (pre.flatten.length + cl.length) (tksL pre.flatten ++ tksL cl)) (hg : (W.putObj (H + 6) (.loop rb)).grownBy w1 v.ownBlock)
    (hv : v'.ownBlock = v.ownBlock ∨ v'.ownBlock = some (W.putObj (H + 6) (.loop rb)).heap.size) :
    (w1.setCell ⟨H + 1, 0, none⟩ v').heap[H + 6]? = some (.loop rb) ∧ (TkJ w0 H rd (pre ++ [cl]) (TkF H v') ((w1.setCell ⟨H + 1, 0, none⟩ v').putObj (H + 6) (.loop rd)) ∧ But (TkF H v) W ((w1.setCell ⟨H + 1, 0, none⟩ v').putObj (H + 6) (.loop rd)) ∧ ∀ k, TkF H v' k → TkF H v k ∨ W.heap.size ≤ k) := by
  have hlw := h.lw
  have hge : ∀ k, v.ownBlock = some k → H + 7 ≤ k := fun k e => (h.own.lt k e).1
  have hge' : ∀ k, v'.ownBlock = some k → H + 7 ≤ k := fun k e => (ho.lt k e).1
  have hpl : (W.putObj (H + 6) (.loop rb)).heap.size = W.heap.size := World.putObj_size
  have b1 : But (fun k => k = H + 6 ∨ k = H + 1 ∨ v.ownBlock = some k) W (W.putObj (H + 6) (.loop rb)) := (But.refl (fun k => k = H + 6 ∨ k = H + 1 ∨ v.ownBlock = some k) W).putObj _ _ (.inl rfl)
  have b2 := b1.grown hg (fun k e => .inr (.inr e))
  have b3 := b2.set ⟨H + 1, 0, none⟩ v' (.inr (.inl rfl))
  have b4 := b3.putObj (H + 6) (.loop rd) (.inl rfl)
  have hs1 : W.heap.size ≤ w1.heap.size := b2.size
  have hl1 : w1.heap[H + 6]? = some (.loop rb) := (hg.block (H + 6) (by rw [hpl]; omega) (fun e => by have := hge _ e.symm; omega)).trans (World.putObj_heap_same (by omega))
  have hl2 : (w1.setCell ⟨H + 1, 0, none⟩ v').heap[H + 6]? = some (.loop rb) := (Below.heap_setCell _ ⟨H + 1, 0, none⟩ _ (H + 6) (by show H + 6 ≠ H + 1; omega)).trans hl1
  have hne : ∀ k, k < H + 6 → k ≠ H + 1 → k < W.heap.size → ((w1.setCell ⟨H + 1, 0, none⟩ v').putObj (H + 6) (.loop rd)).heap[k]? = W.heap[k]? := fun k hk hk2 hl => b4.block k hl (fun e => by
    rcases e with e | e | e
    · omega
    · omega
    · have := hge k e; omega)
  refine ⟨hl2, ⟨v', rfl, (hne H (by omega) (by omega) (by omega)).trans h.res, ?_, (hne (H + 5) (by omega) (by omega) (by omega)).trans h.dfr, World.putObj_heap_same (Array.getElem?_eq_some_iff.1 hl2).1, ?_, h.below.trans (b4.belowB (by omega) (fun k hk e => by rcases e with e | e | e; omega; omega; have := hge k e; omega))⟩, b4.mono (fun k _ e => ?_), fun k hk => ?_⟩
  · refine (World.putObj_heap_other (by omega)).trans ?_
    exact blk_put (cs := #[v]) ((hg.block (H + 1) (by rw [hpl]; omega) (fun e => by have := hge _ e.symm; omega)).trans ((World.putObj_heap_other (by omega)).trans h.out)) 0 _ rfl
  · have e1 : (pre ++ [cl]).flatten = pre.flatten ++ cl := by simp
    rw [e1, List.length_append, tksL_append]
    refine own_but ho (((But.refl (fun k => k = H + 1 ∨ k = H + 6) w1).set ⟨H + 1, 0, none⟩ v' (.inl rfl)).putObj (H + 6) (.loop rd) (.inr rfl)) (fun k e e2 => ?_)
    have := hge' k e2
    omega
  · rcases e with e | e | e
    · exact .inr (.inr (.inr (.inr (.inl e))))
    · exact .inr (.inr (.inl e))
    · exact .inr (.inr (.inr (.inr (.inr e))))
  · rcases hk with e | e | e | e | e | e
    · exact .inl (.inl e)
    · exact .inl (.inr (.inl e))
    · exact .inl (.inr (.inr (.inl e)))
    · exact .inl (.inr (.inr (.inr (.inl e))))
    · exact .inl (.inr (.inr (.inr (.inr (.inl e)))))
    · rcases hv with hv | hv
      · exact .inl (.inr (.inr (.inr (.inr (.inr (by rw [← hv, e]))))))
      · rw [hv] at e
        cases e
        exact .inr (by rw [hpl]; exact Nat.le_refl _)

theorem own_lower {W : World} {base base' n : Nat} {v : Value} {xs : List Value} (h : W.ownsRow base 53 6 v n xs) (hb : base' ≤ base) : W.ownsRow base' 53 6 v n xs := by
  refine ⟨h.1, h.2.imp id ?_⟩
  rintro ⟨g, cap, cur, hv, hg, rest⟩
  exact ⟨g, cap, cur, hv, by omega, rest⟩
set_option maxRecDepth 100000 in
set_option maxHeartbeats 4000000 in
theorem scan_tokens_m.calls (src : ByteArray) (w : World) (hsz : src.size ≤ 100000) (hT : TabOK w) :
    Calls Tryz.prog 51 #[.string src] w fun e w' => ∃ v, e = .returned (.tuple #[v, .agg (errV (S.scan (bytesOf src)).err)]) ∧ w'.ownsRow w.heap.size 53 6 v (S.tokens (bytesOf src)).length (tksL (S.tokens (bytesOf src))) ∧ Below w.heap.size w w' := by
  have hwf : ∀ f, Fence.wide.fn f := fun _ => trivial
  have HT := Aside0.mk hT
  clear hT
  obtain ⟨H, hH⟩ : ∃ H, w.heap.size = H := ⟨_, rfl⟩
  have HH := Aside0.mk hH
  have HCL := Lib.hid (fun W => clauses.calls src ⟨H + 1 + 1, 0, none⟩ W)
  refine (callsIn_wide (n := 8)).1 ?_
  refine callsIn_of_wp_marks Tryz.func51 rfl trivial ?_ rfl
  simp only [Tryz.ntmps51, List.size_toArray, List.length_cons, List.length_nil, Nat.reduceAdd, Nat.reduceSub, Array.replicate_succ, Array.replicate_zero, List.push_toArray, List.append_toArray, List.nil_append, List.cons_append]
  gi_wp2_with (gi_at_call 53; refine (callsIn_wide.2 (HCL.out _)).mono ?_; rintro e w' ⟨rfl, rfl⟩)
  generalize hU : ((((w.alloc _).alloc _).alloc _).alloc _).alloc _ = U
  have hUs : U.heap.size = H + 5 := by rw [← hU, ← hH]; simp
  have hUb : Below H w U := by rw [← hU, ← hH]; exact below_alloc (below_alloc (below_alloc (below_alloc (below_alloc (Below.refl _ _) _) _) _) _) _
  have u0 : U.heap[H]? = some (.cells #[.int .i64 0, .int .i64 0] 76 (0, 0)) := by
    rw [← hU, ← hH]; exact (Below.heap_alloc _ _ _ (by simp <;> omega)).trans ((Below.heap_alloc _ _ _ (by simp <;> omega)).trans ((Below.heap_alloc _ _ _ (by simp <;> omega)).trans ((Below.heap_alloc _ _ _ (by simp)).trans (heap_alloc_new w _))))
  have u1 : U.heap[H + 1]? = some (.cells #[.slice none 0 0] 24 (0, 0)) := by
    rw [← hU, ← hH]; refine (Below.heap_alloc _ _ _ (by simp <;> omega)).trans ((Below.heap_alloc _ _ _ (by simp <;> omega)).trans ((Below.heap_alloc _ _ _ (by simp)).trans ?_))
    have := heap_alloc_new (w.alloc (.cells #[.int .i64 0, .int .i64 0] 76)) (.cells #[.slice none 0 0] 24)
    rwa [World.size_alloc] at this
  have u2 : U.heap[H + 2]? = some (.cells #[.int .i64 0, .int .i64 0] 76 (0, 0)) := by
    rw [← hU, ← hH]; refine (Below.heap_alloc _ _ _ (by simp <;> omega)).trans ((Below.heap_alloc _ _ _ (by simp)).trans ?_)
    have := heap_alloc_new ((w.alloc (.cells #[.int .i64 0, .int .i64 0] 76)).alloc (.cells #[.slice none 0 0] 24)) (.cells #[.int .i64 0, .int .i64 0] 76)
    rwa [World.size_alloc, World.size_alloc] at this
  have u3 : U.heap[H + 3]? = some (.cells #[.string src] 9 (0, 0)) := by
    rw [← hU, ← hH]; refine (Below.heap_alloc _ _ _ (by simp)).trans ?_
    have := heap_alloc_new (((w.alloc (.cells #[.int .i64 0, .int .i64 0] 76)).alloc (.cells #[.slice none 0 0] 24)).alloc (.cells #[.int .i64 0, .int .i64 0] 76)) (.cells #[.string src] 9)
    rwa [World.size_alloc, World.size_alloc, World.size_alloc] at this
  have u4 : U.heap[H + 4]? = some (.cells #[.pointer (some ⟨H + 1 + 1, 0, none⟩)] 88 (0, 0)) := by
    have := heap_alloc_new ((((w.alloc (.cells #[.int .i64 0, .int .i64 0] 76)).alloc (.cells #[.slice none 0 0] 24)).alloc (.cells #[.int .i64 0, .int .i64 0] 76)).alloc (.cells #[.string src] 9)) (.cells #[.pointer (some ⟨H + 1 + 1, 0, none⟩)] 88)
    rw [World.size_alloc, World.size_alloc, World.size_alloc, World.size_alloc, hH] at this
    rw [← hU]; exact this
  have hTU : TabOK U := HT.out.of_below (hUb.mono (by omega))
  clear hU
  refine rf_enter (F := Fence.wide) (n := 8) (gf := 87) rfl (by omega) rfl trivial iter_enters
    (fun Z => ∃ v, Z.heap[H]? = some (.cells #[.int .i64 0, .int .i64 0] 76 (0, 0)) ∧ Z.heap[H + 1]? = some (.cells #[v] 24 (0, 0)) ∧ Z.heap[H + 5]? = some (.deferred (some [])) ∧ Z.ownsRow (H + 7) 53 6 v (S.tokens (bytesOf src)).length (tksL (S.tokens (bytesOf src))) ∧ Below H w Z ∧ Z.heap[H + 2]? = some (.cells (errV (S.scan (bytesOf src)).err) 76 (0, 0)))
    (fun _ => False) ?hcall ?hready ?hdone
  case hdone => rintro Z r _ h; exact h.elim
  case hcall =>
    intro fn rd X hfn hrd hXs hXB x7 x8
    rw [hUs] at hXs hXB x7 x8 ⊢
    have hkx : ∀ k, k < H + 5 → X.heap[k]? = U.heap[k]? := fun k hk => hXB.block k (by omega)
    have hJ0 : TkJ w H rd [] (TkF H (.slice none 0 0)) X := ⟨_, rfl, (hkx _ (by omega)).trans u0, (hkx _ (by omega)).trans u1, x7, x8, World.ownsRow_nil _ _ _ _, hUb.trans (hXB.mono (by omega))⟩
    have C : Client (H + 6) 5 (TkJ w H rd) := by
      refine ⟨?_, ?_, ?_⟩
      · rintro pre F W W' ⟨v, rfl, hI⟩ hb
        exact ⟨v, rfl, hI.keep hb⟩
      · rintro pre F W ⟨v, rfl, hI⟩ k hk
        have hlw := hI.lw
        rcases hk with e | e | e | e | e | e
        · omega
        · omega
        · omega
        · omega
        · omega
        · exact (hI.own.lt k e).2
      · rintro pre F W base v cl ⟨vo, rfl, hI⟩ hown hne hdis hlen
        obtain ⟨g2, c2, rfl⟩ : ∃ g2 c2, v = .slice (some ⟨g2, 0, none⟩) cl.length c2 := by
          rcases hown.2 with ⟨_, e2⟩ | ⟨g, cap, cs, e, _⟩
          · exact absurd (List.length_eq_zero_iff.1 e2) hne
          · exact ⟨_, _, e⟩
        refine rf_round (l := H + 6) hrd trivial hI.lop rfl ?_
        have HRD := Aside0.mk hrd
        clear hrd
        gi_wp2
        refine ⟨hI.lop, ?_⟩
        have HRF : Aside0 (∀ r2 : Loop, r2 = { rd with state := LoopState.busy } → ({ r2 with state := .ready, pending := none } : Loop) = rd) := ⟨fun r2 e => by rw [e, HRD.out]; rfl⟩
        generalize hrb : ({ rd with state := LoopState.busy } : Loop) = rb
        have HRB := Aside0.mk (HRF.out rb hrb.symm)
        have HI := Aside0.mk hI
        have hgr := grownBy_putObj' W (H + 6) (.loop rb)
        have hbB : But (fun k => k = H + 6) W (W.putObj (H + 6) (.loop rb)) := (But.refl (fun k => k = H + 6) W).putObj _ _ rfl
        have hge : ∀ k, vo.ownBlock = some k → H + 7 ≤ k := fun k e => (hI.own.lt k e).1
        have hoB := own_but hI.own hbB (fun k e e2 => by have := hge k e2; omega)
        have hclB := own_but hown hbB (fun k e e2 => hdis (H + 6) (.inr (.inr (.inr (.inr (.inl rfl))))) (by rw [← e]; exact e2))
        have hoc : (W.putObj (H + 6) (.loop rb)).heap[H + 1]? = some (.cells #[vo] 24 (0, 0)) := (hbB.block (H + 1) (by have := hI.lw; omega) (by omega)).trans hI.out
        have hps : (W.putObj (H + 6) (.loop rb)).heap.size = W.heap.size := World.putObj_size
        obtain ⟨PN, hPN⟩ : ∃ PN, pre.flatten.length = PN := ⟨_, rfl⟩
        have hnx := fun (w1 : World) (v' : Value) => hI.next (rb := rb) (w1 := w1) (v' := v') (cl := cl)
        rw [hPN] at hnx hoB hlen
        have HNX := Aside0.mk hnx
        clear hnx hPN
        have hlw := hI.lw
        have HOB := Aside0.mk hoB
        have HCB := Aside0.mk hclB
        have HOC := Aside0.mk hoc
        clear hrb hI HRF HRD hgr hbB hoB hclB hoc
        generalize W.putObj (H + 6) (.loop rb) = WB at *
        obtain ⟨i0, hi0, hz0, hz1, hz2⟩ := info_parts (show (Tryz.prog.info? 53).map (fun i => (i.zero, i.size, i.bytes)) = some (some (.agg zTk), 6, 56) by kernel_rfl)
        have hcl0 : 0 < cl.length := List.length_pos_iff.2 hne
        have c0 : WB.cell? ⟨H + 1, 0, none⟩ = some vo := (blk_cell HOC.out 0).trans rfl
        gi_wp2_with (gi_at_builtin; refine wpListIn_append_own_at _ rfl (.tmp 10) (.tmp 11) 24 rfl (H + 7) 53 i0 (.agg zTk) 6 56 Tryz.underlying24 hi0 hz0 hz1 hz2 rfl (by decide) vo PN (tksL pre.flatten) rfl HOB.out ⟨g2, 0, none⟩ cl.length c2 (tksL cl) rfl (tksL_length _) (fun j u hu => HCB.out.cells rfl j u hu) (fun u hu => tksL_one cl u hu) (by unfold maxLen; omega) (by omega) (by omega) ?_; intro v' w1 hown' hgrow _ hat; obtain ⟨g', cap', rfl, _, _⟩ := hown'.form (by omega); have e1 := blk_cell (TkI.cb hgrow HOC.out (fun k e => by have := hge k e; omega)) 0; have q1 := blk_frozen (TkI.cb hgrow HOC.out (fun k e => by have := hge k e; omega)) 0; have HOW := Aside0.mk hown'; have HGR := Aside0.mk hgrow; have HAT := Aside0.mk hat; clear hown' hgrow hat)
        obtain ⟨n1, n2, n3, n4⟩ := HNX.out w1 (.slice (some ⟨g', 0, none⟩) (PN + cl.length) cap') HOW.out HGR.out HAT.out
        refine ⟨rb, n1, rfl, TkF H (.slice (some ⟨g', 0, none⟩) (PN + cl.length) cap'), ?_, ?_, fun k hk => ?_⟩
        · rw [HRB.out]; exact n2
        · rw [HRB.out]; exact n3
        · rcases n4 k hk with e | e
          · exact .inl e
          · exact .inr (.inl e)
    have hit := iter_in 5 (l := H + 6) (B0 := H + 3) (FB := H + 4) (fp := H + 2) (src := src) C X hsz (hTU.of_below (hXB.mono (by omega))) hJ0 (fun k hk => by
      rcases hk with e | e | e | e | e | e
      · omega
      · omega
      · omega
      · omega
      · omega
      · simp [Value.ownBlock] at e) ((hkx _ (by omega)).trans u3) ((hkx _ (by omega)).trans u4) ((hkx _ (by omega)).trans u2)
    refine hit.mono ?_
    rintro e Z ⟨hv, F', ⟨v, rfl, hI⟩, hp⟩
    exact ⟨hv, .inl ⟨hI.lop, v, hI.res, hI.out, hI.dfr, hI.own, hI.below, hp⟩⟩
  case hready =>
    rintro Z r hlt ⟨v, z0, z1, z5, zo, zb, z2⟩
    rw [hUs] at hlt ⊢
    have hb := grownBy_putObj' Z (H + 5 + 1) (.loop r)
    have hk : ∀ k, k < H + 6 → (Z.putObj (H + 5 + 1) (.loop r)).heap[k]? = Z.heap[k]? := fun k hk => World.putObj_heap_other (by omega)
    obtain ⟨ea, eb, he⟩ : ∃ ea eb, errV (S.scan (bytesOf src)).err = #[.int .i64 ea, .int .i64 eb] := by
      cases (S.scan (bytesOf src)).err with
      | none => exact ⟨_, _, rfl⟩
      | some p => exact ⟨_, _, rfl⟩
    rw [he] at z2
    have y0 := (hk H (by omega)).trans z0
    have y1 := (hk (H + 1) (by omega)).trans z1
    have y2 := (hk (H + 2) (by omega)).trans z2
    have y5 := (hk (H + 5) (by omega)).trans z5
    have yo := own_but zo ((But.refl (fun k => k = H + 5 + 1) Z).putObj (H + 5 + 1) (.loop r) rfl) (fun k e e2 => by have := (zo.lt k e2).1; omega)
    have yb : Below H w (Z.putObj (H + 5 + 1) (.loop r)) := zb.grown hb (by omega) (fun k e => by cases e; omega)
    clear hb hk z0 z1 z2 z5 zo zb u0 u1 u2 u3 u4 hUb hTU
    generalize Z.putObj (H + 5 + 1) (.loop r) = Y at *
    have Y0 := Aside0.mk y0
    have Y1 := Aside0.mk y1
    have Y5 := Aside0.mk y5
    have YO := Aside0.mk yo
    have YB := Aside0.mk yb
    have HE := Aside0.mk he
    have c1 : Y.cell? ⟨H + 1, 0, none⟩ = some v := (blk_cell y1 0).trans rfl
    have d0 : Y.cell? ⟨H + 1 + 1, 0, none⟩ = some (.int .i64 ea) := (blk_cell y2 0).trans rfl
    have d1 : Y.cell? ⟨H + 1 + 1, 1, none⟩ = some (.int .i64 eb) := (blk_cell y2 1).trans rfl
    have r0 : Y.cell? ⟨H, 0, none⟩ = some (.int .i64 0) := (blk_cell y0 0).trans rfl
    have r1 : Y.cell? ⟨H, 1, none⟩ = some (.int .i64 0) := (blk_cell y0 1).trans rfl
    have q0 := blk_frozen y0 0
    have q1 := blk_frozen y0 1
    have hu76 := Tryz.underlying76
    clear y0 y1 y2 y5 yo yb he hlt
    gi_upto_region 6 with (fail)
    refine wide_region_still_tail 3 (by kernel_rfl) (by kernel_rfl) ?_
    simp only [List.take_succ_cons, List.take_zero, List.drop_succ_cons, List.drop_zero]
    still_step
    repeat still_step
    refine wpStill_nil ?_
    gi_wp2
    have hb2 : But (fun k => k = H) Y ((Y.setCell ⟨H, 0, none⟩ (.int .i64 ea)).setCell ⟨H, 1, none⟩ (.int .i64 eb)).drew := (((But.refl (fun k => k = H) Y).set ⟨H, 0, none⟩ _ rfl).set ⟨H, 1, none⟩ _ rfl).drew
    have g0 : ((Y.setCell ⟨H, 0, none⟩ (.int .i64 ea)).setCell ⟨H, 1, none⟩ (.int .i64 eb)).drew.heap[H]? = some (.cells #[.int .i64 ea, .int .i64 eb] 76 (0, 0)) := blk_put (blk_put Y0.out 0 _ rfl) 1 _ rfl
    have hl5 : H + 5 < Y.heap.size := (Array.getElem?_eq_some_iff.1 Y5.out).1
    generalize ((Y.setCell ⟨H, 0, none⟩ (.int .i64 ea)).setCell ⟨H, 1, none⟩ (.int .i64 eb)).drew = Y2 at *
    have g5 : Y2.heap[H + 5]? = some (.deferred (some [])) := (hb2.block (H + 5) hl5 (by omega)).trans Y5.out
    have go := own_but YO.out hb2 (fun k e e2 => by have := (YO.out.lt k e2).1; omega)
    have gb : Below H w Y2 := YB.out.trans (hb2.belowB (by omega) (fun k hk => by omega))
    refine ⟨by simp, .inl ⟨_, _, rfl, run_takeDeferred g5, ?_⟩⟩
    have hp5 : But (fun k => k = H + 5) Y2 (Y2.putObj (H + 5) (.deferred none)) := (But.refl (fun k => k = H + 5) Y2).putObj _ _ rfl
    refine ⟨_, results_tc (fn := Tryz.f51) rfl _ _ H 76 #[.int .i64 ea, .int .i64 eb] (0, 0) _ v rfl rfl ((World.putObj_heap_other (by omega)).trans g0) Tryz.underlying76 rfl (by kernel_rfl), v, ?_, ?_, ?_⟩
    · rw [HE.out]
    · rw [hH]
      have := own_but go hp5 (fun k e e2 => by have := (go.lt k e2).1; omega)
      exact own_lower this (by omega)
    · rw [hH]
      exact gb.trans (hp5.belowB (by have := gb.size; have := hb2.size; omega) (fun k hk => by omega))
end Go.Proofs.YtkkpjonfaflkmaaGreatDoor.T

-- Written by a program of this session (mp.py over the kit's print.py), out of the translation.
namespace Go.Proofs.YtkkpjonfaflkmaaGreatDoor.T
set_option linter.unusedSimpArgs false
open Go.RowKit Go.Proofs.YtkkpjonfaflkmaaGreatDoorW.PrintWords Go.Proofs.YtkkpjonfaflkmaaGreatDoorW.PrintLast Go.Proofs.YtkkpjonfaflkmaaGreatDoorW.PrintMore
attribute [local go_sem] max2_int min2_int max_two min_two max_three min_three max_four min_four   -- for this text's walks alone
set_option linter.unusedVariables false
set_option linter.unusedSimpArgs false

/-! ### scan_limited: function 50 -/
def scan_limited.f (a0 : ByteArray) : Option (Int) := if (a0.size : Int) > 20000 then (some 3) else (some 0)
set_option maxHeartbeats 8000000 in
set_option maxRecDepth 100000 in
theorem scan_limited.calls (a0 : ByteArray) (r : Int) (w : World) (h : scan_limited.f a0 = some r) :
    Calls Tryz.prog 50 #[.string a0] w fun e w' => e = .returned (.int .i64 r) ∧ Drawn0 w w' := by
  have H : (if (a0.size : Int) > 20000 then (some 3) else (some 0)) = some r := h
  clear h
  by_cases c2 : (a0.size : Int) > 20000
  · rw [if_pos c2] at H
    have c2b0 : decide (20000 < (a0.size : Int)) = true := decide_eq_true c2
    have c2b1 : decide (20000 < a0.size) = true := decide_eq_true (by omega)
    clear c2
    obtain rfl := Option.some.inj H
    go_enter Tryz.func50, Tryz.ntmps50
    go_wp2
    go_ret
    exact ⟨by first | rfl | (simp; done) | (simp [*]; done), by repeat (first | exact Drawn0.refl _ | apply Drawn0.step)⟩
  · rw [if_neg c2] at H
    have c2b0 : decide (20000 < (a0.size : Int)) = false := decide_eq_false c2
    have c2b1 : decide (20000 < a0.size) = false := decide_eq_false (by omega)
    clear c2
    obtain rfl := Option.some.inj H
    go_enter Tryz.func50, Tryz.ntmps50
    go_wp2
    go_ret
    exact ⟨by first | rfl | (simp; done) | (simp [*]; done), by repeat (first | exact Drawn0.refl _ | apply Drawn0.step)⟩

end Go.Proofs.YtkkpjonfaflkmaaGreatDoor.T

/- scan.Tokens. -/
namespace Go.Proofs.YtkkpjonfaflkmaaGreatDoor.T
set_option linter.unusedSimpArgs false
set_option linter.unusedVariables false
open Go.RowKit Go.Maps Go.Proofs.YtkkpjonfaflkmaaGreatDoorW.PrintWords Go.Proofs.YtkkpjonfaflkmaaGreatDoorW.PrintLast Go.Proofs.YtkkpjonfaflkmaaGreatDoorW.PrintMore

def errC (o : Option (Nat × Nat)) : Int := match o with | none => 0 | some p => p.1
def errL (o : Option (Nat × Nat)) : Int := match o with | none => 0 | some p => p.2
theorem errV_eq (o : Option (Nat × Nat)) : errV o = #[.int .i64 (errC o), .int .i64 (errL o)] := by
  cases o with
  | none => rfl
  | some p => rfl
theorem results_tmp4 {fn : Func} {t u v x : Tmp} (h : fn.results = #[.tmp t, .tmp u, .tmp v, .tmp x]) (tmps : Array Value) (P : Program) (w : World) :
    (results fn tmps).run P w = .ok (.tuple #[tmps.getD t undef, tmps.getD u undef, tmps.getD v undef, tmps.getD x undef]) w := by
  simp [results, h, Sem.run_bind, Sem.run_pure, Result.andThen]
/-- What Tokens returns: the tokens, the error's code and line, the number of the error. -/
def scan_Tokens.f (a0 : ByteArray) : Option (List S53 × Int × Int × Int) :=
  if a0.size ≤ 20000 then
    (if errC (S.scan (bytesOf a0)).err = 0 then some ((S.tokens (bytesOf a0)).map toS, 0, 0, 0) else some ((S.tokens (bytesOf a0)).map toS, errC (S.scan (bytesOf a0)).err, errL (S.scan (bytesOf a0)).err, 7))
  else some ([], 0, 0, 3)
set_option maxRecDepth 100000 in
set_option maxHeartbeats 4000000 in
theorem scan_Tokens.calls (a0 : ByteArray) (r1 : List S53) (r2 r3 r4 : Int) (w : World) (hT : TabOK w) (h : scan_Tokens.f a0 = some (r1, r2, r3, r4)) :
    Calls Tryz.prog 17 #[.string a0] w fun e w' => ∃ v0 : Value, e = .returned (.tuple #[v0, .int .i64 r2, .int .i64 r3, .int .i64 r4]) ∧ Kd.R k53 53 w' w.heap.size (fun _ => True) v0 r1 ∧ Below w.heap.size w w' := by
  have HT := Aside0.mk hT
  clear hT
  by_cases hs : a0.size ≤ 20000
  · have hlim := scan_limited.calls a0 0 w (by unfold scan_limited.f; rw [if_neg (by omega)])
    have HLM := Lib.hid hlim
    have htk := fun q => scan_tokens_m.calls a0 (w.drewN q) (by omega) (HT.out.of_below (pw_below_drewN (Below.refl _ _) q))
    unfold scan_Tokens.f at h
    rw [if_pos hs] at h
    obtain ⟨c, hc⟩ : ∃ c, errC (S.scan (bytesOf a0)).err = c := ⟨_, rfl⟩
    obtain ⟨ln, hln⟩ : ∃ ln, errL (S.scan (bytesOf a0)).err = ln := ⟨_, rfl⟩
    obtain ⟨ts, hts⟩ : ∃ ts, S.tokens (bytesOf a0) = ts := ⟨_, rfl⟩
    simp only [errV_eq, hc, hln, hts] at htk h
    have HTK := Lib.hid htk
    clear hlim htk hc hln hts
    have hu76 := Tryz.underlying76
    go_enter Tryz.func17, Tryz.ntmps17
    go_upto_region 5 with (first | (go_at_call 50; refine HLM.out.mono ?_; rintro e w' ⟨rfl, ⟨⟨q, rfl⟩⟩⟩) | (go_at_call 51; refine (HTK.out _).mono ?_; rintro e w3 ⟨v, rfl, hown, hb⟩))
    have ha : Below w3.heap.size w3 (w3.alloc (.cells #[.int .i64 c, .int .i64 ln] 76)) := below_alloc (Below.refl _ _) _
    have hn := heap_alloc_new w3 (.cells #[.int .i64 c, .int .i64 ln] 76)
    have hR : Kd.R k53 53 (w3.alloc (.cells #[.int .i64 c, .int .i64 ln] 76)) w.heap.size (fun _ => True) v (ts.map toS) := tks_R (own_but hown ((But.refl (fun _ => False) w3).alloc _) (fun _ e => e.elim))
    have hB : Below w.heap.size w (w3.alloc (.cells #[.int .i64 c, .int .i64 ln] 76)) := (Below.trans (pw_below_drewN (Below.refl _ _) q) hb).trans (ha.mono (by have := hb.size; exact this))
    obtain ⟨T, hTz⟩ : ∃ T, w3.heap.size = T := ⟨_, rfl⟩
    rw [hTz] at hn
    try rw [hTz]
    have HR := Aside0.mk hR
    have HB := Aside0.mk hB
    clear ha hR hB hown hb hTz
    generalize w3.alloc (.cells #[.int .i64 c, .int .i64 ln] 76) = W at *
    have c0 : W.cell? ⟨T, 0, none⟩ = some (.int .i64 c) := (blk_cell hn 0).trans rfl
    have c1 : W.cell? ⟨T, 1, none⟩ = some (.int .i64 ln) := (blk_cell hn 1).trans rfl
    by_cases hc0 : c = 0
    · subst hc0
      rw [if_pos rfl] at h
      simp only [Option.some.injEq, Prod.mk.injEq] at h
      obtain ⟨rfl, rfl, rfl, rfl⟩ := h
      go_wp2
      refine bodyPost_ret (results_tmp4 rfl _ _ _) rfl ?_
      exact ⟨_, rfl, HR.out, HB.out⟩
    · have g0 : (c != 0) = true := bne_iff_ne.2 hc0
      rw [if_neg hc0] at h
      simp only [Option.some.injEq, Prod.mk.injEq] at h
      obtain ⟨rfl, rfl, rfl, rfl⟩ := h
      go_upto_region 6 with (fail)
      go_quiet (fail)
      go_wp2
      refine bodyPost_ret (results_tmp4 rfl _ _ _) rfl ?_
      exact ⟨_, rfl, Kd.R_drewN HR.out _, HB.out.trans (pw_below_drewN (Below.refl _ _) _)⟩
  · have hlim := scan_limited.calls a0 3 w (by unfold scan_limited.f; rw [if_pos (by omega)])
    have HLM := Lib.hid hlim
    unfold scan_Tokens.f at h
    rw [if_neg hs] at h
    simp only [Option.some.injEq, Prod.mk.injEq] at h
    obtain ⟨rfl, rfl, rfl, rfl⟩ := h
    clear hlim
    go_enter Tryz.func17, Tryz.ntmps17
    go_wp2_with (go_at_call 50; refine HLM.out.mono ?_; rintro e w' ⟨rfl, ⟨⟨q, rfl⟩⟩⟩)
    refine bodyPost_ret (results_tmp4 rfl _ _ _) rfl ?_
    exact ⟨_, rfl, Kd.R_nil _ _ _ _ _, pw_below_drewN (Below.refl _ _) _⟩
end Go.Proofs.YtkkpjonfaflkmaaGreatDoor.T

/- An error's code is not 0. -/
namespace Go.Proofs.YtkkpjonfaflkmaaGreatDoor.S
set_option linter.unusedSimpArgs false
set_option linter.unusedVariables false

theorem tokStep_err {k c dl : Nat} {r : TR} (h : tokStep k r = .err c dl) : r = .err c := by
  cases r with
  | err c' => cases h; rfl
  | ok t n => cases h
theorem litEnd_err {v : List Int} {n c : Nat} (h : litEnd v n = .err c) : c = 30 := by
  unfold litEnd at h
  by_cases hv : 1000 < v.length
  · rw [if_pos hv] at h; cases h; rfl
  · rw [if_neg hv] at h; cases h
theorem litTok_err {xs : List Int} {c : Nat} (h : litTok xs = .err c) : c ≠ 0 := by
  rcases xs with _ | ⟨q, r⟩
  · cases h; decide
  simp only [litTok] at h
  cases hl : lit q r 1 [] with
  | none => rw [hl] at h; cases h; decide
  | some p =>
    obtain ⟨v, i⟩ := p
    rw [hl] at h
    simp only at h
    by_cases hp : v.all prn = true
    · rw [if_pos hp] at h
      by_cases hs : sfx ((q :: r).drop (i + 1)) = 0
      · rw [if_pos hs] at h
        rw [litEnd_err h]; decide
      · rw [if_neg hs] at h
        cases hd : litDec v (sfx ((q :: r).drop (i + 1))) with
        | none => rw [hd] at h; cases h; decide
        | some u => rw [hd] at h; rw [litEnd_err h]; decide
    · rw [if_neg hp] at h; cases h; decide
theorem symTok_err {xs : List Int} {c : Nat} (h : symTok xs = .err c) : c ≠ 0 := by
  unfold symTok at h
  by_cases h4 : 40 < symLen xs
  · rw [if_pos h4] at h; cases h; decide
  · rw [if_neg h4] at h; cases h
theorem signTok_err {xs : List Int} {c : Nat} (h : signTok xs = .err c) : c ≠ 0 := by
  unfold signTok at h
  cases hf : signs.find? (fun x => x.isPrefixOf xs) with
  | none => rw [hf] at h; cases h; decide
  | some l => rw [hf] at h; cases h
theorem step_err {xs : List Int} {c dl : Nat} (h : step xs = .err c dl) : c ≠ 0 := by
  rcases xs with _ | ⟨x, r⟩
  · cases h
  simp only [step] at h
  by_cases h1 : x = 10
  · rw [if_pos h1] at h; cases h
  rw [if_neg h1] at h
  by_cases h2 : x = 32
  · rw [if_pos h2] at h; cases h
  rw [if_neg h2] at h
  by_cases h3 : starts2 (x :: r) = true
  · rw [if_pos h3] at h
    cases hR : cmt (x :: r) 0 0 1 0 with
    | eof => rw [hR] at h; cases h; decide
    | done i l b =>
      rw [hR] at h
      simp only [cmtStep] at h
      by_cases hb : b = 0
      · rw [if_pos hb] at h; cases h
      · rw [if_neg hb] at h; cases h; decide
  rw [if_neg h3] at h
  by_cases h4 : x = 39 ∨ x = 34
  · rw [if_pos h4] at h; exact litTok_err (tokStep_err h)
  rw [if_neg h4] at h
  by_cases h5 : sym x = true
  · rw [if_pos h5] at h; exact symTok_err (tokStep_err h)
  rw [if_neg h5] at h; exact signTok_err (tokStep_err h)
theorem go_err : ∀ (f : Nat) (xs : List Int) (i line : Nat) (cur : List Tk) (gap : Bool) (c ln : Nat), (go f xs i line cur gap).err = some (c, ln) → c ≠ 0
  | 0, _, _, _, _, _, _, _, h => by cases h
  | f + 1, xs, i, line, cur, gap, c, ln, h => by
    simp only [go] at h
    cases hS : step xs with
    | fin => rw [hS] at h; cases h
    | line =>
      rw [hS] at h
      simp only at h
      by_cases hc : comma cur = true
      · rw [if_pos hc] at h; exact go_err f _ _ _ _ _ c ln h
      · rw [if_neg hc] at h; exact go_err f _ _ _ _ _ c ln h
    | blank => rw [hS] at h; exact go_err f _ _ _ _ _ c ln h
    | cmt n dl => rw [hS] at h; exact go_err f _ _ _ _ _ c ln h
    | tok k t n =>
      rw [hS] at h
      simp only at h
      by_cases h1 : k = 3 ∧ t = [59]
      · rw [if_pos h1] at h; exact go_err f _ _ _ _ _ c ln h
      · rw [if_neg h1] at h
        split at h
        · exact go_err f _ _ _ _ _ c ln h
        · exact go_err f _ _ _ _ _ c ln h
    | err c' dl =>
      rw [hS] at h
      simp only [Option.some.injEq, Prod.mk.injEq] at h
      rw [← h.1]
      exact step_err hS
theorem scan_err {xs : List Int} {c ln : Nat} (h : (scan xs).err = some (c, ln)) : c ≠ 0 := go_err _ _ _ _ _ _ c ln h
end Go.Proofs.YtkkpjonfaflkmaaGreatDoor.S

/- How many tokens there are. -/
namespace Go.Proofs.YtkkpjonfaflkmaaGreatDoor.S
set_option linter.unusedSimpArgs false
set_option linter.unusedVariables false

theorem emit_length (cur : List Tk) (a b c : Nat) : (emit cur a b c).flatten.length ≤ cur.length + 1 := by
  unfold emit
  split
  · simp
  · simp
theorem cut_length (cur : List Tk) : (cut cur).length ≤ cur.length := by
  unfold cut
  split
  · simp
  · exact Nat.le_refl _
theorem pre_length (l : List (List Tk)) (o : Out) : (o.pre l).cl.flatten.length = l.flatten.length + o.cl.flatten.length := by
  unfold Out.pre
  simp only [List.flatten_append, List.length_append]
theorem go_length : ∀ (f : Nat) (xs : List Int) (i line : Nat) (cur : List Tk) (gap : Bool), (∀ x ∈ xs, 0 ≤ x ∧ x < 256) → (go f xs i line cur gap).cl.flatten.length ≤ cur.length + 2 * xs.length + 1
  | 0, xs, i, line, cur, gap, _ => by simp [go]
  | f + 1, xs, i, line, cur, gap, hb => by
    have hd : ∀ n, ∀ x ∈ xs.drop n, 0 ≤ x ∧ x < 256 := fun n x hx => hb x (List.mem_of_mem_drop hx)
    rw [go]
    cases hs : step xs with
    | fin =>
      have h1 := emit_length (cut cur) i i line
      have h2 := cut_length cur
      simp only; omega
    | line =>
      have hx : 1 ≤ xs.length := step_some (by rw [hs]; intro e; cases e)
      simp only
      split
      · have := go_length f (xs.drop 1) (i + 1) (line + 1) cur.dropLast true (hd 1)
        rw [List.length_drop, List.length_dropLast] at this
        omega
      · have := go_length f (xs.drop 1) (i + 1) (line + 1) [] false (hd 1)
        have h1 := emit_length cur i (i + 1) line
        rw [List.length_drop, List.length_nil] at this
        rw [pre_length]; omega
    | blank =>
      have := go_length f (xs.drop 1) (i + 1) line cur true (hd 1)
      rw [List.length_drop] at this
      simp only; omega
    | cmt n dl =>
      have := go_length f (xs.drop n) (i + n) (line + dl) cur gap (hd n)
      rw [List.length_drop] at this
      simp only; omega
    | tok k t n =>
      obtain ⟨h1, h2, -⟩ := step_tok hb hs
      simp only
      split
      · have := go_length f (xs.drop n) (i + n) line [] false (hd n)
        have h3 := emit_length cur i (i + n) line
        rw [List.length_drop, List.length_nil] at this
        rw [pre_length]; omega
      · split
        · have := go_length f (xs.drop n) (i + n) line [] false (hd n)
          have h3 := emit_length (cur ++ [⟨k, t, gap && !decide (cur = []), line, i, i + n⟩]) (i + n) (i + n) line
          rw [List.length_append, List.length_singleton] at h3
          rw [List.length_drop, List.length_nil] at this
          rw [pre_length]; omega
        · have := go_length f (xs.drop n) (i + n) line (cur ++ [⟨k, t, gap && !decide (cur = []), line, i, i + n⟩]) false (hd n)
          rw [List.length_drop, List.length_append, List.length_singleton] at this
          omega
    | err c dl =>
      simp only
      split
      · simp
      · simp only [List.flatten_cons, List.flatten_nil, List.append_nil]; omega
theorem tokens_length {xs : List Int} (hb : ∀ x ∈ xs, 0 ≤ x ∧ x < 256) : (tokens xs).length ≤ 2 * xs.length + 1 := by
  have := go_length (xs.length + 1) xs 0 1 [] false hb
  unfold tokens scan
  simpa using this
end Go.Proofs.YtkkpjonfaflkmaaGreatDoor.S

-- Written by a program of this session (mp.py over the kit's print.py), out of the translation.
namespace Go.Proofs.YtkkpjonfaflkmaaGreatDoor.T
set_option linter.unusedSimpArgs false
open Go.RowKit Go.Proofs.YtkkpjonfaflkmaaGreatDoorW.PrintWords Go.Proofs.YtkkpjonfaflkmaaGreatDoorW.PrintLast Go.Proofs.YtkkpjonfaflkmaaGreatDoorW.PrintMore
attribute [local go_sem] max2_int min2_int max_two min_two max_three min_three max_four min_four   -- for this text's walks alone
set_option linter.unusedVariables false
set_option linter.unusedSimpArgs false

/-! ### scan_spelled: function 113 -/
def scan_spelled.f (a0_0 : Int) (a0_1 : ByteArray) (a0_2 : Bool) (a0_3 : Int) (a0_4 : Int) (a0_5 : Int) : Option (ByteArray) := if a0_0 = 2 then ((scan_literal.f a0_1).bind fun t151 => (some t151)) else (some a0_1)
set_option maxHeartbeats 8000000 in
set_option maxRecDepth 100000 in
theorem scan_spelled.calls (a0_0 : Int) (a0_1 : ByteArray) (a0_2 : Bool) (a0_3 : Int) (a0_4 : Int) (a0_5 : Int) (r : ByteArray) (w : World) (hT : TabOK w) (h : scan_spelled.f a0_0 a0_1 a0_2 a0_3 a0_4 a0_5 = some r) :
    Calls Tryz.prog 113 #[.agg #[.int .i64 a0_0, .string a0_1, .bool a0_2, .int .i64 a0_3, .int .i64 a0_4, .int .i64 a0_5]] w fun e w' => e = .returned (.string r) ∧ Below w.heap.size w w' := by
  have hu53 := Tryz.underlying53
  have HB := Aside0.mk (Below.refl w.heap.size w)
  have H : (if a0_0 = 2 then ((scan_literal.f a0_1).bind fun t151 => (some t151)) else (some a0_1)) = some r := h
  clear h
  by_cases c2 : a0_0 = 2
  · rw [if_pos c2] at H
    have c2b0 : (a0_0 == 2) = true := beq_iff_eq.mpr c2
    have c2b1 : (a0_0 != 2) = false := bne_eq_false_iff_eq.mpr c2
    clear c2
    replace H := Option.bind_eq_some_iff.mp H
    obtain ⟨t151, A30, H⟩ := H
    replace H : (some t151) = some r := H
    have A3 := Aside0.mk A30
    clear A30
    obtain rfl := Option.some.inj H
    go_enter Tryz.func113, Tryz.ntmps113
    go_wp2_with (first | ((with_reducible refine gate_dst (N := 1) rfl ?_); refine box_event ?hg (N := 1) ?hd (cs := #[.int .i64 a0_0, .string a0_1, .bool a0_2, .int .i64 a0_3, .int .i64 a0_4, .int .i64 a0_5]) (t := 53) ?hr ?_; (case hd => rfl); (case hg => rfl); (case hr => first | (go_simp; done) | (go_simp; rfl)); intro gb150 hg w4 hbox hb; have n0_ := Aside0.mk (below_step (by repeat (first | (with_reducible first | exact HB.out | apply below_alloc | apply pw_below_drewN | apply below_drew1) | exact HB.out)) hb); have n1_ := Aside0.mk (hbox); have n2_ := Aside0.mk ((by rw [hg]; exact (below_size (by repeat (first | (with_reducible first | exact HB.out | apply below_alloc | apply pw_below_drewN | apply below_drew1) | exact HB.out))) : w.heap.size ≤ gb150)); have n3_ := Aside0.mk ((by rw [hg]; exact (below_size (by repeat (first | (with_reducible first | exact HB.out | apply below_alloc | apply pw_below_drewN | apply below_drew1) | exact HB.out))) : w.heap.size ≤ gb150)); clear HB; have HB := n0_; have BK150 := n1_; have GW150 := n2_; have GE150 := n3_; clear n0_ n1_ n2_ n3_; clear hb hbox hg; have hcz5_0 : w4.cell? ⟨gb150, 0, none⟩ = some (.int .i64 a0_0) := (blk_cell BK150.out 0).trans rfl; have hcz5_1 : w4.cell? ⟨gb150, 1, none⟩ = some (.string a0_1) := (blk_cell BK150.out 1).trans rfl; have hcz5_2 : w4.cell? ⟨gb150, 2, none⟩ = some (.bool a0_2) := (blk_cell BK150.out 2).trans rfl; have hcz5_3 : w4.cell? ⟨gb150, 3, none⟩ = some (.int .i64 a0_3) := (blk_cell BK150.out 3).trans rfl; have hcz5_4 : w4.cell? ⟨gb150, 4, none⟩ = some (.int .i64 a0_4) := (blk_cell BK150.out 4).trans rfl; have hcz5_5 : w4.cell? ⟨gb150, 5, none⟩ = some (.int .i64 a0_5) := (blk_cell BK150.out 5).trans rfl; have hfz5_0 := blk_frozen BK150.out 0; have hfz5_1 := blk_frozen BK150.out 1; have hfz5_2 := blk_frozen BK150.out 2; have hfz5_3 := blk_frozen BK150.out 3; have hfz5_4 := blk_frozen BK150.out 4; have hfz5_5 := blk_frozen BK150.out 5) | ((with_reducible refine gate_callee (f := 66) rfl ?_); refine goesL_ (some 8) rfl rfl Tryz.func66 (by kernel_rfl) rfl #[.string a0_1] rfl (by (try simp only [List.map_toArray, List.map_cons, List.map_nil]); first | done | rfl | (simp only [List.length_drop, List.length_take]; rfl)) ?_; (with_reducible refine (scan_literal.calls a0_1 t151 _ (TabOK.of_below hT (by repeat (first | (with_reducible first | exact HB.out | apply below_alloc | apply pw_below_drewN | apply below_drew1 | refine below_set ?_ GE150.out) | exact HB.out))) A3.out).mono ?_); rintro e w6 ⟨rfl, hb⟩; refine ⟨_, rfl, ?_⟩; have n0_ := Aside0.mk (blk_below (g := gb150) (o := .cells #[.int .i64 a0_0, .string a0_1, .bool a0_2, .int .i64 a0_3, .int .i64 a0_4, .int .i64 a0_5] 53 (0, 0)) (by (with_reducible repeat (first | refine blk_drewN ?_ _ | refine blk_drew ?_ | refine blk_alloc ?_ _)); exact BK150.out) hb); have n1_ := Aside0.mk (below_step (by repeat (first | (with_reducible first | exact HB.out | apply below_alloc | apply pw_below_drewN | apply below_drew1 | refine below_set ?_ GE150.out) | exact HB.out)) hb); clear BK150; clear HB; have BK150 := n0_; have HB := n1_; clear n0_ n1_; (try clear hb); (try clear hb2); (try clear hk); (try clear hi)))
    go_ret
    exact ⟨by first | rfl | (simp [errW_none, errW_some] <;> rfl) | (simp [*, errW_none, errW_some] <;> rfl), by repeat (first | (with_reducible first | exact HB.out | apply below_alloc | apply pw_below_drewN | apply below_drew1 | refine below_set ?_ GE150.out) | exact HB.out)⟩
  · rw [if_neg c2] at H
    have c2b0 : (a0_0 == 2) = false := beq_eq_false_iff_ne.mpr c2
    have c2b1 : (a0_0 != 2) = true := bne_iff_ne.mpr c2
    obtain rfl := Option.some.inj H
    go_enter Tryz.func113, Tryz.ntmps113
    go_wp2_with (first | ((with_reducible refine gate_dst (N := 1) rfl ?_); refine box_event ?hg (N := 1) ?hd (cs := #[.int .i64 a0_0, .string a0_1, .bool a0_2, .int .i64 a0_3, .int .i64 a0_4, .int .i64 a0_5]) (t := 53) ?hr ?_; (case hd => rfl); (case hg => rfl); (case hr => first | (go_simp; done) | (go_simp; rfl)); intro gb150 hg w7 hbox hb; have n0_ := Aside0.mk (below_step (by repeat (first | (with_reducible first | exact HB.out | apply below_alloc | apply pw_below_drewN | apply below_drew1) | exact HB.out)) hb); have n1_ := Aside0.mk (hbox); have n2_ := Aside0.mk ((by rw [hg]; exact (below_size (by repeat (first | (with_reducible first | exact HB.out | apply below_alloc | apply pw_below_drewN | apply below_drew1) | exact HB.out))) : w.heap.size ≤ gb150)); have n3_ := Aside0.mk ((by rw [hg]; exact (below_size (by repeat (first | (with_reducible first | exact HB.out | apply below_alloc | apply pw_below_drewN | apply below_drew1) | exact HB.out))) : w.heap.size ≤ gb150)); clear HB; have HB := n0_; have BK150 := n1_; have GW150 := n2_; have GE150 := n3_; clear n0_ n1_ n2_ n3_; clear hb hbox hg; have hcz8_0 : w7.cell? ⟨gb150, 0, none⟩ = some (.int .i64 a0_0) := (blk_cell BK150.out 0).trans rfl; have hcz8_1 : w7.cell? ⟨gb150, 1, none⟩ = some (.string a0_1) := (blk_cell BK150.out 1).trans rfl; have hcz8_2 : w7.cell? ⟨gb150, 2, none⟩ = some (.bool a0_2) := (blk_cell BK150.out 2).trans rfl; have hcz8_3 : w7.cell? ⟨gb150, 3, none⟩ = some (.int .i64 a0_3) := (blk_cell BK150.out 3).trans rfl; have hcz8_4 : w7.cell? ⟨gb150, 4, none⟩ = some (.int .i64 a0_4) := (blk_cell BK150.out 4).trans rfl; have hcz8_5 : w7.cell? ⟨gb150, 5, none⟩ = some (.int .i64 a0_5) := (blk_cell BK150.out 5).trans rfl; have hfz8_0 := blk_frozen BK150.out 0; have hfz8_1 := blk_frozen BK150.out 1; have hfz8_2 := blk_frozen BK150.out 2; have hfz8_3 := blk_frozen BK150.out 3; have hfz8_4 := blk_frozen BK150.out 4; have hfz8_5 := blk_frozen BK150.out 5))
    go_ret
    exact ⟨by first | rfl | (simp [errW_none, errW_some] <;> rfl) | (simp [*, errW_none, errW_some] <;> rfl), by repeat (first | (with_reducible first | exact HB.out | apply below_alloc | apply pw_below_drewN | apply below_drew1 | refine below_set ?_ GE150.out) | exact HB.out)⟩

end Go.Proofs.YtkkpjonfaflkmaaGreatDoor.T

/- scan.merges. -/
namespace Go.Proofs.YtkkpjonfaflkmaaGreatDoor.T
set_option linter.unusedSimpArgs false
set_option linter.unusedVariables false
open Go.RowKit Go.Maps Go.Proofs.YtkkpjonfaflkmaaGreatDoorW.PrintWords Go.Proofs.YtkkpjonfaflkmaaGreatDoorW.PrintLast Go.Proofs.YtkkpjonfaflkmaaGreatDoorW.PrintMore
attribute [local go_sem] Oper.semAt_some

theorem Bld.keep {B b : Nat} {xs : List Int} {w w' : World} (h : Bld B b xs w) (hb : Below w.heap.size w w') : Bld B b xs w' := by
  have hk : ∀ k (o : Obj), w.heap[k]? = some o → w'.heap[k]? = some o := fun k o e => (hb.block k (Array.getElem?_eq_some_iff.1 e).1).trans e
  have key : ∀ p, Lib.BuilderAtF 126 5 B b p (xs.map (Value.int .u8)) w → Lib.BuilderAtF 126 5 B b p (xs.map (Value.int .u8)) w' := by
    rintro p ⟨h1, v, h2, h3, h4⟩
    refine ⟨h1, v, hk _ _ h2, ⟨h3.1, ?_⟩, h4⟩
    rcases h3.2 with e | ⟨g, cap, cur, fz, e1, e2, e3, rest⟩
    · exact .inl e
    · exact .inr ⟨g, cap, cur, fz, e1, e2, hk _ _ e3, rest⟩
  exact h.elim (fun e => .inl (key _ e)) (fun e => .inr (key _ e))
/-- A token as it is written. -/
def spN (x : S53) : List Int := if x.f0 = 2 then S.quote (bytesOf x.f1) else bytesOf x.f1
theorem sp_f (x : S53) (h : x.f1.size ≤ 20000) : scan_spelled.f x.f0 x.f1 x.f2 x.f3 x.f4 x.f5 = some (strOfNums (spN x)) := by
  unfold scan_spelled.f spN
  by_cases e : x.f0 = 2
  · rw [if_pos e, if_pos e]
    unfold scan_literal.f
    rw [if_pos h]; rfl
  · rw [if_neg e, if_neg e]
    congr 1
    apply bytesOf_inj
    rw [bytesOf_str _ (bo_range _)]
theorem sp_bytes (x : S53) : ∀ y ∈ spN x, 0 ≤ y ∧ y < 256 := by
  unfold spN
  by_cases e : x.f0 = 2
  · rw [if_pos e]; exact S.quote_bytes (bo_range _)
  · rw [if_neg e]; exact bo_range _
theorem sp_len (x : S53) : (spN x).length ≤ 2 * x.f1.size + 2 := by
  unfold spN
  have hb : (bytesOf x.f1).length = x.f1.size := bytesOf_length _
  by_cases e : x.f0 = 2
  · rw [if_pos e, S.quote_length]
    have := List.count_le_length (a := S.qOf (bytesOf x.f1)) (l := bytesOf x.f1)
    omega
  · rw [if_neg e]; omega
/-- The text of tokens without anything between them. -/
def spL (l : List S53) : List Int := l.flatMap spN
theorem spL_take {l : List S53} {k : Nat} (h : k < l.length) : spL (l.take (k + 1)) = spL (l.take k) ++ spN (rd_T53 l (k : Int)) := by
  have : l.take (k + 1) = l.take k ++ [rd_T53 l (k : Int)] := by
    rw [List.take_add_one, List.getElem?_eq_getElem h]
    unfold rd_T53
    rw [Int.toNat_natCast, List.getD_eq_getElem?_getD, List.getElem?_eq_getElem h]
    rfl
  rw [this]
  simp [spL]
theorem spL_bytes (l : List S53) : ∀ y ∈ spL l, 0 ≤ y ∧ y < 256 := fun y hy => by
  obtain ⟨x, _, hx⟩ := List.mem_flatMap.1 hy
  exact sp_bytes x y hx
/-- A bound on what is written. -/
def szL (l : List S53) : Nat := (l.map fun x => 2 * x.f1.size + 2).sum
theorem szL_take (l : List S53) (k : Nat) : szL (l.take k) ≤ szL l := by
  unfold szL
  conv => { rhs; rw [← List.take_append_drop k l] }
  rw [List.map_append, List.sum_append]; omega
theorem spL_len : ∀ l : List S53, (spL l).length ≤ szL l
  | [] => Nat.le_refl _
  | x :: l => by
    have h1 := sp_len x
    have h2 := spL_len l
    simp only [spL, List.flatMap_cons, List.length_append, szL, List.map_cons, List.sum_cons] at h2 ⊢
    omega
theorem szL_mem {l : List S53} {x : S53} (h : x ∈ l) : 2 * x.f1.size + 2 ≤ szL l := by
  induction l with
  | nil => cases h
  | cons y l ih =>
    simp only [szL, List.map_cons, List.sum_cons] at ih ⊢
    rcases List.mem_cons.1 h with e | e
    · subst e; omega
    · have := ih e; omega
/-- The tokens that are no ends. -/
def noEnd (l : List S.Tk) : List S.Tk := l.filter fun t => !decide (t.kind = 4)
def commaB (l : List S53) : Bool := match l.getLast? with
  | none => false
  | some t => decide (t.f0 = 3) && (t.f1.toList == [44])
theorem comma_g (l : List S53) (hl : l.length ≤ 1000000) : scan_comma.f l = some (commaB l) := by
  unfold scan_comma.f commaB
  rcases List.eq_nil_or_concat l with rfl | ⟨a, t, rfl⟩
  · rfl
  · rw [List.concat_eq_append] at hl ⊢
    have hw : wrap64 (((a ++ [t]).length : Int) - 1) = (a.length : Int) := by
      simp only [List.length_append, List.length_cons, List.length_nil] at hl ⊢
      unfold wrap64; omega
    rw [hw, if_pos (by rw [List.length_append, List.length_singleton]; omega), if_pos (by omega), if_pos (by rw [List.length_append, List.length_singleton]; omega), List.getLast?_concat]
    have hr : rd_T53 (a ++ [t]) (a.length : Int) = t := by
      unfold rd_T53
      rw [Int.toNat_natCast, List.getD_eq_getElem?_getD, List.getElem?_append_right (Nat.le_refl _)]
      simp
    rw [hr]
    by_cases e : t.f0 = 3
    · rw [if_pos e]; simp [e]
    · rw [if_neg e]; simp [e]
theorem C_take {w : World} {A : Option Addr} {l : List S53} (k : Nat) (hk : k ≤ l.length) (h : Kd.C k53 w A l.length l) : Kd.C k53 w A k (l.take k) := by
  obtain ⟨h1, h2, h3⟩ := h
  refine ⟨by rw [List.length_take]; omega, by omega, fun hne => ?_⟩
  obtain ⟨ad, e, hj⟩ := h3 (by omega)
  exact ⟨ad, e, fun j p hp => hj j p (by rw [List.getElem?_take] at hp; split at hp; exact hp; cases hp)⟩
/-- Tokens that would be read otherwise. -/
def mergesB (l : List S53) : Bool :=
  (S.scan (spL l)).err.isSome || !(eqF likeB ((noEnd (S.tokens (spL l))).map toS) (if commaB l = true ∧ (noEnd (S.tokens (spL l))).length + 1 = l.length then l.take (l.length - 1) else l))
set_option maxRecDepth 100000 in
set_option maxHeartbeats 4000000 in
theorem scan_merges.calls (A0 : Option Addr) (c0 : Nat) (l0 : List S53) (w : World) (hT : TabOK w) (hr0 : Kd.C k53 w A0 l0.length l0) (hc0 : l0.length ≤ c0) (hsm : l0.length ≤ 1000) (hsz : szL l0 ≤ 20000) :
    Calls Tryz.prog 111 #[.slice A0 l0.length c0] w fun e w' => e = .returned (.bool (mergesB l0)) ∧ Below w.heap.size w w' := by
  have hu53 := Tryz.underlying53
  have HT := Aside0.mk hT
  have HR0 := Aside0.mk hr0
  have HCM := Lib.hid (fun W hW => scan_comma.calls A0 c0 l0 _ W hW hc0 (comma_g l0 (by omega)))
  clear hT hr0
  obtain ⟨n, hn⟩ : ∃ n, l0.length = n := ⟨_, rfl⟩
  have HL0 := Aside0.mk hn
  have hslt := Aside0.mk hsz
  rw [hn] at HR0 HCM hc0 hsm ⊢
  clear hn hsz
  go_enter Tryz.func111, Tryz.ntmps111
  go_upto_region 2 with (fail)
  obtain ⟨W0, hW0⟩ : ∃ W0, w.alloc (.cells #[.pointer none, .slice none 0 0] 126) = W0 := ⟨_, rfl⟩
  have hB0 : Aside0 (Bld w.heap.size w.heap.size [] W0) := ⟨by rw [← hW0]; exact Bld.new w⟩
  have hb0 : Aside0 (Below w.heap.size w W0) := ⟨by rw [← hW0]; exact below_alloc (Below.refl _ _) _⟩
  rw [hW0]
  clear hW0
  generalize hH : w.heap.size = H at *
  have HH := Aside0.mk hH
  clear hH
  go_wp2
  go_loopg [13] n (fun gg s13 wr => ∃ kk : Nat, kk ≤ n ∧ n - kk ≤ gg ∧ s13 = .int .i64 kk ∧ Aside0 (Below H w wr) ∧ Aside0 (Bld H H (spL (l0.take kk)) wr))
  case atStart => exact ⟨0, by omega, by omega, rfl, hb0, by rw [List.take_zero]; exact hB0⟩
  case round =>
    obtain ⟨kk, hkk, hg, rfl, HB, HBD⟩ := hrel
    by_cases hlt : kk < n
    · have hltz : (kk : Int) < (n : Int) := by omega
      have hz0 : (0 : Int) ≤ (kk : Int) := by omega
      have hw1 : IntKind.i64.wrap ((kk : Int) + 1) = ((kk + 1 : Nat) : Int) := by rw [w64 _ (by omega) (by omega)]; omega
      have HTK := Aside0.mk (spL_take (l := l0) (k := kk) (by rw [HL0.out]; exact hlt))
      have hl1 := Nat.le_trans (spL_len (l0.take kk)) (szL_take l0 kk)
      have hmem : rd_T53 l0 (kk : Int) ∈ l0 := by
        have := drop_rd (l := l0) (k := kk) (by rw [HL0.out]; exact hlt)
        exact List.mem_of_mem_drop (by rw [this]; exact List.mem_cons_self)
      have hxs := szL_mem hmem
      obtain ⟨ad, rfl, x0, x1, x2, x3, x4, x5⟩ := at_T53 (Kd.C_below HR0.out (by rw [HH.out]; exact HB.out)) (kk : Int) hz0 hltz
      simp only [Int.toNat_natCast] at x0 x1 x2 x3 x4 x5
      have hsl := hslt.out
      generalize rd_T53 l0 (kk : Int) = tx at *
      have HSP := Lib.hid (fun W hW => scan_spelled.calls tx.f0 tx.f1 tx.f2 tx.f3 tx.f4 tx.f5 _ W hW (sp_f tx (by omega)))
      have hspl := sp_len tx
      have HSB := Aside0.mk (bytesOf_str _ (sp_bytes tx))
      have hst : (strOfNums (spN tx)).size = (spN tx).length := by simp [strOfNums, ByteArray.size]
      clear hmem
      go_upto_region 5 with (fail)
      have hn1 := heap_alloc_new wr (.cells #[.int .i64 tx.f0, .string tx.f1, .bool tx.f2, .int .i64 tx.f3, .int .i64 tx.f4, .int .i64 tx.f5] 53)
      have hB1 : Below H w (wr.alloc (.cells #[.int .i64 tx.f0, .string tx.f1, .bool tx.f2, .int .i64 tx.f3, .int .i64 tx.f4, .int .i64 tx.f5] 53)) := HB.out.trans ((below_alloc (Below.refl wr.heap.size wr) (.cells #[.int .i64 tx.f0, .string tx.f1, .bool tx.f2, .int .i64 tx.f3, .int .i64 tx.f4, .int .i64 tx.f5] 53)).mono (by have := HB.out.size; have := HH.out; omega))
      have HBD1 := Aside0.mk (HBD.out.keep (below_alloc (Below.refl _ wr) (.cells #[.int .i64 tx.f0, .string tx.f1, .bool tx.f2, .int .i64 tx.f3, .int .i64 tx.f4, .int .i64 tx.f5] 53)))
      obtain ⟨h1, hh1⟩ : ∃ h1, wr.heap.size = h1 := ⟨_, rfl⟩
      rw [hh1] at hn1 ⊢
      clear x0 x1 x2 x3 x4 x5 hh1 HB HBD
      generalize wr.alloc (.cells #[.int .i64 tx.f0, .string tx.f1, .bool tx.f2, .int .i64 tx.f3, .int .i64 tx.f4, .int .i64 tx.f5] 53) = W1 at *
      have HB1 := Aside0.mk hB1
      have a0 : W1.cell? ⟨h1, 0, none⟩ = some (.int .i64 tx.f0) := (blk_cell hn1 0).trans rfl
      have a1 : W1.cell? ⟨h1, 1, none⟩ = some (.string tx.f1) := (blk_cell hn1 1).trans rfl
      have a2 : W1.cell? ⟨h1, 2, none⟩ = some (.bool tx.f2) := (blk_cell hn1 2).trans rfl
      have a3 : W1.cell? ⟨h1, 3, none⟩ = some (.int .i64 tx.f3) := (blk_cell hn1 3).trans rfl
      have a4 : W1.cell? ⟨h1, 4, none⟩ = some (.int .i64 tx.f4) := (blk_cell hn1 4).trans rfl
      have a5 : W1.cell? ⟨h1, 5, none⟩ = some (.int .i64 tx.f5) := (blk_cell hn1 5).trans rfl
      have HTW : Aside0 (TabOK W1) := ⟨HT.out.of_below (by rw [HH.out]; exact hB1)⟩
      have HWS : Aside0 (∀ w2, Below W1.heap.size W1 w2 → Calls Tryz.prog 112 #[.pointer (some ⟨H, 0, none⟩), .string (strOfNums (spN tx))] w2 fun e w' => ∃ nn : Nat, e = .returned (.tuple #[.int .i64 nn, .nilIface]) ∧ Bld H H (spL (l0.take (kk + 1))) w' ∧ Below H w w') := ⟨fun w2 hb => by
        have hs2 := hb.size
        have hs1 := hB1.size
        have hHe := HH.out
        refine (bld_WriteString H H _ (strOfNums (spN tx)) w2 (HBD1.out.keep hb) (by rw [hst]; omega) (by omega)).mono ?_
        rintro e w' ⟨rfl, hb1, hb2⟩
        rw [HSB.out] at hb1
        exact ⟨_, rfl, by rw [HTK.out]; exact hb1, hB1.trans ((hb.mono (by omega)).trans hb2)⟩⟩
      clear hn1 hB1 hst hsl hxs hspl hl1
      go_wp2_with (first | (go_at_call 113; refine (HSP.out _ HTW.out).mono ?_; rintro e w2 ⟨rfl, hb2⟩) | (go_at_call 112; refine (HWS.out _ hb2).mono ?_; rintro e w3 ⟨nn, rfl, hbd3, hb3⟩))
      go_roundg (n - (kk + 1))
      case measure => omega
      case rel => exact ⟨kk + 1, by omega, by omega, by go_num, ⟨hb3⟩, ⟨hbd3⟩⟩
    · have hltz : ¬ (kk : Int) < (n : Int) := by omega
      have hkn : n = kk := by omega
      subst hkn
      have HBD2 : Aside0 (Bld H H (spL l0) wr) := ⟨by have := HBD.out; rwa [List.take_of_length_le (by rw [HL0.out]; exact Nat.le_refl _)] at this⟩
      clear HBD
      obtain ⟨src, hsrc⟩ : ∃ src, strOfNums (spL l0) = src := ⟨_, rfl⟩
      have hsb : bytesOf src = spL l0 := by rw [← hsrc]; exact bytesOf_str _ (spL_bytes l0)
      have hssz : src.size ≤ 20000 := by
        have h1 : (bytesOf src).length = src.size := bytesOf_length src
        have h2 := spL_len l0
        have h3 := hslt.out
        rw [hsb] at h1; omega
      have hstr := bld_String H H (spL l0) wr HBD2.out (spL_bytes l0) (by have := HB.out.size; have := HH.out; omega)
      rw [hsrc] at hstr
      have htkc := fun W hW => scan_tokens_m.calls src W (by omega) hW
      obtain ⟨toks, htoks⟩ : ∃ toks, S.tokens (bytesOf src) = toks := ⟨_, rfl⟩
      obtain ⟨er, her⟩ : ∃ er, (S.scan (bytesOf src)).err = er := ⟨_, rfl⟩
      rw [htoks, her, errV_eq] at htkc
      obtain ⟨ec, hec⟩ : ∃ ec, errC er = ec := ⟨_, rfl⟩
      obtain ⟨el, hel⟩ : ∃ el, errL er = el := ⟨_, rfl⟩
      rw [hec, hel] at htkc
      have HST := Lib.hid hstr
      have HTK := Lib.hid htkc
      have hMB : mergesB l0 = (er.isSome || !(eqF likeB ((noEnd toks).map toS) (if commaB l0 = true ∧ (noEnd toks).length + 1 = l0.length then l0.take (l0.length - 1) else l0))) := by
        unfold mergesB
        rw [← hsb, htoks, her]
      have hEC : ec = 0 ↔ er = none := by
        rw [← hec]
        cases er with
        | none => exact ⟨fun _ => rfl, fun _ => rfl⟩
        | some p =>
          have := S.scan_err (c := p.1) (ln := p.2) her
          constructor
          · intro e
            exact absurd (Int.ofNat_eq_zero.1 e) this
          · intro e; cases e
      have HTLEN : Aside0 (toks.length ≤ 300000) := ⟨by rw [← htoks]; have h1 := S.tokens_length (bo_range src); have h2 : (bytesOf src).length = src.size := bytesOf_length src; omega⟩
      have HMB := Aside0.mk hMB
      have HEC := Aside0.mk hEC
      have HTW : Aside0 (∀ w2, Below H wr w2 → TabOK w2) := ⟨fun w2 hb => HT.out.of_below (by rw [HH.out]; exact HB.out.trans hb)⟩
      clear hMB hEC hsb hssz hec hel htoks her hsrc HBD2 htkc hstr
      go_upto_region 9 with (first | (go_at_call 107; refine HST.out.mono ?_; rintro e w2 ⟨rfl, _, hb2⟩) | (go_at_call 51; refine (HTK.out _ (HTW.out _ hb2)).mono ?_; rintro e w3 ⟨v, rfl, hown, hb3⟩))
      obtain ⟨A, N, cap, rfl, hN⟩ : ∃ A cn cap, v = .slice A cn cap ∧ toks.length = cn := by
        rcases hown.2 with ⟨rfl, e2⟩ | ⟨g, cap, cs, rfl, _⟩
        · exact ⟨_, _, _, rfl, e2⟩
        · exact ⟨_, _, _, rfl, rfl⟩
      have hn4 := heap_alloc_new w3 (.cells #[.int .i64 ec, .int .i64 el] 76)
      have hs4 := World.size_alloc w3 (.cells #[.int .i64 ec, .int .i64 el] 76)
      have ho4 := own_but hown ((But.refl (fun _ => False) w3).alloc (.cells #[.int .i64 ec, .int .i64 el] 76)) (fun _ e => e.elim)
      have hb4 : Below H w (w3.alloc (.cells #[.int .i64 ec, .int .i64 el] 76)) := by
        have e1 := HB.out.size
        have e2 := hb2.size
        have e3 := hb3.size
        have e4 := HH.out
        exact HB.out.trans (hb2.trans ((hb3.mono (by omega)).trans ((below_alloc (Below.refl w3.heap.size w3) _).mono (by omega))))
      obtain ⟨fb, hfb⟩ : ∃ fb, w3.heap.size = fb := ⟨_, rfl⟩
      rw [hfb] at hn4 hs4 ⊢
      clear hown hb2 hb3 hfb
      generalize w3.alloc (.cells #[.int .i64 ec, .int .i64 el] 76) = W4 at *
      obtain ⟨hxx, hNc, hC4⟩ := tks_C ho4
      clear hxx
      rw [List.length_map, hN] at hC4
      have HC4 := Aside0.mk hC4
      have HB4 := Aside0.mk hb4
      have HN4 := Aside0.mk hn4
      have HNN := Aside0.mk hN
      have hNs : N ≤ 300000 := by have := HTLEN.out; omega
      clear ho4 hC4 hb4 hn4 hN HST HTK HTW HB
      have HS4 := Aside0.mk hs4
      clear hs4
      go_wp2
      go_loopg [8, 28] N (fun gg s8 s28 wr => ∃ kk : Nat, kk ≤ N ∧ N - kk ≤ gg ∧ s28 = .int .i64 kk ∧ Aside0 (Below (fb + 1) W4 wr) ∧ Aside0 (wr.ownsRow (fb + 1) 53 6 s8 (noEnd (toks.take kk)).length (tksL (noEnd (toks.take kk)))))
      case atStart => exact ⟨0, by omega, by omega, rfl, ⟨Below.refl _ _⟩, ⟨World.ownsRow_nil _ _ _ _⟩⟩
      case round =>
        obtain ⟨kk, hkk, hg, rfl, HBr, HOw⟩ := hrel
        by_cases hlt : kk < N
        · have hltz : (kk : Int) < (N : Int) := by omega
          have hz0 : (0 : Int) ≤ (kk : Int) := by omega
          have hw1 : IntKind.i64.wrap ((kk : Int) + 1) = ((kk + 1 : Nat) : Int) := by rw [w64 _ (by omega) (by omega)]; omega
          obtain ⟨tk, htk⟩ : ∃ tk, toks[kk]? = some tk := ⟨_, List.getElem?_eq_getElem (by rw [HNN.out]; exact hlt)⟩
          have hrd : rd_T53 (toks.map toS) (kk : Int) = toS tk := by
            unfold rd_T53
            rw [Int.toNat_natCast, List.getD_eq_getElem?_getD, List.getElem?_map, htk]; rfl
          have hnk : noEnd (toks.take (kk + 1)) = noEnd (toks.take kk) ++ (if tk.kind = 4 then [] else [tk]) := by
            rw [List.take_add_one, htk]
            unfold noEnd
            rw [List.filter_append]
            by_cases e : tk.kind = 4
            · rw [if_pos e]; simp [e]
            · rw [if_neg e]; simp [e]
          have HNK := Aside0.mk hnk
          obtain ⟨ad, rfl, x0, x1, x2, x3, x4, x5⟩ := at_T53 (Kd.C_below HC4.out (by rw [HS4.out]; exact HBr.out)) (kk : Int) hz0 hltz
          simp only [Int.toNat_natCast] at x0 x1 x2 x3 x4 x5
          rw [hrd] at x0 x1 x2 x3 x4 x5
          simp only [toS] at x0 x1 x2 x3 x4 x5
          clear hrd htk hnk
          go_upto_region 12 with (fail)
          have hn1 := heap_alloc_new wr (.cells #[.int .i64 tk.kind, .string (strOfNums tk.text), .bool tk.gap, .int .i64 tk.line, .int .i64 tk.at_, .int .i64 tk.to] 53)
          have hB1 : Below (fb + 1) W4 (wr.alloc (.cells #[.int .i64 tk.kind, .string (strOfNums tk.text), .bool tk.gap, .int .i64 tk.line, .int .i64 tk.at_, .int .i64 tk.to] 53)) := HBr.out.trans ((below_alloc (Below.refl wr.heap.size wr) (.cells #[.int .i64 tk.kind, .string (strOfNums tk.text), .bool tk.gap, .int .i64 tk.line, .int .i64 tk.at_, .int .i64 tk.to] 53)).mono (by have := HBr.out.size; have := HS4.out; omega))
          have hO1 := own_but HOw.out ((But.refl (fun _ => False) wr).alloc (.cells #[.int .i64 tk.kind, .string (strOfNums tk.text), .bool tk.gap, .int .i64 tk.line, .int .i64 tk.at_, .int .i64 tk.to] 53)) (fun _ e => e.elim)
          obtain ⟨h1, hh1⟩ : ∃ h1, wr.heap.size = h1 := ⟨_, rfl⟩
          rw [hh1] at hn1 ⊢
          clear x0 x1 x2 x3 x4 x5 hh1 HBr HOw
          generalize wr.alloc (.cells #[.int .i64 tk.kind, .string (strOfNums tk.text), .bool tk.gap, .int .i64 tk.line, .int .i64 tk.at_, .int .i64 tk.to] 53) = W1 at *
          have HB1 := Aside0.mk hB1
          have HO1 := Aside0.mk hO1
          have a0 : W1.cell? ⟨h1, 0, none⟩ = some (.int .i64 tk.kind) := (blk_cell hn1 0).trans rfl
          have a1 : W1.cell? ⟨h1, 1, none⟩ = some (.string (strOfNums tk.text)) := (blk_cell hn1 1).trans rfl
          have a2 : W1.cell? ⟨h1, 2, none⟩ = some (.bool tk.gap) := (blk_cell hn1 2).trans rfl
          have a3 : W1.cell? ⟨h1, 3, none⟩ = some (.int .i64 tk.line) := (blk_cell hn1 3).trans rfl
          have a4 : W1.cell? ⟨h1, 4, none⟩ = some (.int .i64 tk.at_) := (blk_cell hn1 4).trans rfl
          have a5 : W1.cell? ⟨h1, 5, none⟩ = some (.int .i64 tk.to) := (blk_cell hn1 5).trans rfl
          clear hn1 hB1 hO1
          by_cases hk4 : tk.kind = 4
          · have g1 : ((tk.kind : Int) != 4) = false := bne_eq_false_iff_eq.2 (by omega)
            have HNK2 : Aside0 (noEnd (toks.take (kk + 1)) = noEnd (toks.take kk)) := ⟨by rw [HNK.out, if_pos hk4, List.append_nil]⟩
            go_wp2_with fail
            go_roundg (N - (kk + 1))
            case measure => omega
            case rel => exact ⟨kk + 1, by omega, by omega, by go_num, HB1, by rw [HNK2.out]; exact HO1⟩
          · have g1 : ((tk.kind : Int) != 4) = true := bne_iff_ne.2 (by omega)
            have HNK2 : Aside0 (noEnd (toks.take (kk + 1)) = noEnd (toks.take kk) ++ [tk]) := ⟨by rw [HNK.out, if_neg hk4]⟩
            have hol : (noEnd (toks.take kk)).length ≤ kk := Nat.le_trans (List.length_filter_le _ _) (by rw [List.length_take]; omega)
            obtain ⟨own, hown⟩ : ∃ own, noEnd (toks.take kk) = own := ⟨_, rfl⟩
            rw [hown] at HO1 HNK2 hol
            clear hown HNK
            obtain ⟨on, hon⟩ : ∃ on, own.length = on := ⟨_, rfl⟩
            rw [hon] at HO1 hol
            have HON := Aside0.mk hon
            clear hon
            obtain ⟨i0, hi0, hz0', hz1, hz2⟩ := info_parts (show (Tryz.prog.info? 53).map (fun i => (i.zero, i.size, i.bytes)) = some (some (.agg zTk), 6, 56) by kernel_rfl)
            have hXO := own_but HO1.out ((But.refl (fun _ => False) W1).alloc (.cells #[.int .i64 tk.kind, .string (strOfNums tk.text), .bool tk.gap, .int .i64 tk.line, .int .i64 tk.at_, .int .i64 tk.to] 53)) (fun _ e => e.elim)
            have hXN := heap_alloc_new W1 (.cells #[.int .i64 tk.kind, .string (strOfNums tk.text), .bool tk.gap, .int .i64 tk.line, .int .i64 tk.at_, .int .i64 tk.to] 53)
            have hXs := World.size_alloc W1 (.cells #[.int .i64 tk.kind, .string (strOfNums tk.text), .bool tk.gap, .int .i64 tk.line, .int .i64 tk.at_, .int .i64 tk.to] 53)
            have HXO := Aside0.mk hXO
            have HXN := Aside0.mk hXN
            have hfs : fb + 1 ≤ W1.heap.size := by have := HB1.out.size; have := HS4.out; omega
            clear hXO hXN
            go_wp2_with (at_builtin; refine wpList_append_own_at _ rfl (.tmp 35) (.tmp 37) 24 rfl (fb + 1) 53 i0 (.agg zTk) 6 56 Tryz.underlying24 hi0 hz0' hz1 hz2 rfl (by decide) _ on (tksL own) rfl HXO.out ⟨W1.heap.size, 0, none⟩ 1 1 (tkL tk) rfl rfl (fun j u hu => by rw [add_plain, blk_cell HXN.out j]; simpa [tkL] using hu) (tkL_one _) (by unfold maxLen; omega) (by omega) (by rw [hXs]; omega) ?_; intro v' w1 hown' hgrow _ hat; have HOW1 := Aside0.mk hown'; have HGR := Aside0.mk hgrow; have HAT := Aside0.mk hat; clear hown' hgrow hat)
            have hbw : Below (fb + 1) W4 w1 := HB1.out.trans ((((But.refl (fun k => fb + 1 ≤ k) W1).alloc (.cells #[.int .i64 tk.kind, .string (strOfNums tk.text), .bool tk.gap, .int .i64 tk.line, .int .i64 tk.at_, .int .i64 tk.to] 53)).grown HGR.out (fun k e => (HO1.out.lt k e).1)).belowB hfs (fun k hk e => by omega))
            have HBW := Aside0.mk hbw
            clear hbw HGR HAT HXO HXN hXs
            go_roundg (N - (kk + 1))
            case measure => omega
            case rel => exact ⟨kk + 1, by omega, by omega, by go_num, HBW, ⟨by rw [HNK2.out, List.length_append, List.length_singleton, HON.out]; have := HOW1.out; simpa [tksL] using this⟩⟩
        · have hltz : ¬ (kk : Int) < (N : Int) := by omega
          have hkn : N = kk := by omega
          subst hkn
          rw [← HNN.out, List.take_length] at HOw
          obtain ⟨own, hown⟩ : ∃ own, noEnd toks = own := ⟨_, rfl⟩
          rw [hown] at HOw HMB
          have hol : own.length ≤ N := by rw [← HNN.out]; rw [← hown]; exact List.length_filter_le _ _
          clear hown
          obtain ⟨A2, c2, rfl⟩ : ∃ A2 c2, u8 = .slice A2 own.length c2 := by
            rcases HOw.out.2 with ⟨e1, e2⟩ | ⟨g, cap, cs, e1, _⟩
            · exact ⟨none, 0, by rw [e1, e2]⟩
            · exact ⟨_, _, e1⟩
          obtain ⟨hxx, hc2, hC2⟩ := tks_C HOw.out
          clear hxx
          have HC2 := Aside0.mk hC2
          have hmw : Aside0 (Below H w wr) := ⟨HB4.out.trans (HBr.out.mono (by have := HB4.out.size; have := HS4.out; have := HH.out; omega))⟩
          have hf0 : wr.cell? ⟨fb, 0, none⟩ = some (.int .i64 ec) := (blk_cell ((HBr.out.block fb (by omega)).trans HN4.out) 0).trans rfl
          have HR1 : Aside0 (Kd.C k53 wr A0 l0.length l0) := ⟨Kd.C_below (by rw [HL0.out]; exact HR0.out) (by rw [HH.out]; exact hmw.out)⟩
          have hR1 := HR1.out
          rw [HL0.out] at hR1
          have HR1n := Aside0.mk hR1
          clear hR1
          clear HBr HB4 HOw HN4 HR0
          obtain ⟨on, hon⟩ : ∃ on, own.length = on := ⟨_, rfl⟩
          obtain ⟨cb, hcb⟩ : ∃ cb, commaB l0 = cb := ⟨_, rfl⟩
          rw [hcb] at HCM HMB
          have HON := Aside0.mk hon
          have hn1 : cb = true → 1 ≤ n := fun e => by
            rcases Nat.eq_zero_or_pos n with h | h
            · exfalso
              rw [List.length_eq_zero_iff.1 (HL0.out.trans h)] at hcb
              rw [← hcb] at e
              cases e
            · exact h
          rw [HL0.out, hon] at HMB
          rw [hon] at hol hc2 ⊢
          rw [List.length_map, hon] at HC2
          have hsmo : ((own.map toS)).length ≤ 1000000 := by rw [List.length_map, hon]; omega
          clear hon hcb
          have HEQ : ∀ (W : World) (n2 c2' : Nat) (m : List S53), Below wr.heap.size wr W → m.length = n2 → n2 ≤ c2' → Kd.C k53 wr A0 n2 m → Calls Tryz.prog 74 #[.slice A2 on c2, .slice A0 n2 c2', .func (.func 76) #[] #[]] W fun e w' => e = .returned (.bool (eqF likeB (own.map toS) m)) ∧ Below W.heap.size W w' := fun W n2 c2' m hb hm hc hC => by
            have h1 := eqf.calls A2 c2 (own.map toS) A0 c2' m 76 likeB W like_enters like_tells (by rw [List.length_map, HON.out]; exact Kd.C_below HC2.out hb) (by rw [List.length_map, HON.out]; exact hc2) (by rw [hm]; exact Kd.C_below hC hb) (by rw [hm]; exact hc) hsmo
            rw [List.length_map, HON.out, hm] at h1
            exact h1
          have HEQ := Lib.hid HEQ
          clear hsmo
          by_cases hcut : cb = true ∧ on + 1 = n
          · rw [if_pos hcut] at HMB
            obtain ⟨rfl, rfl⟩ := hcut
            rw [show on + 1 - 1 = on by omega] at HMB
            have hC3 := C_take on (by rw [HL0.out]; omega) (l := l0) (w := wr) (A := A0) (by rw [HL0.out]; exact HR1n.out)
            have hln : (l0.take on).length = on := by rw [List.length_take, HL0.out]; omega
            have HEQ2 := Lib.hid (fun W hb => HEQ.out W on on (l0.take on) hb hln (Nat.le_refl _) hC3)
            have hw2 : IntKind.i64.wrap (((on + 1 : Nat) : Int) - 1) = (on : Int) := by rw [w64 _ (by omega) (by omega)]; omega
            have hw3 : (((on + 1 : Nat) : Int) - 1) = (on : Int) := by omega
            have g2 : ((on : Int) == (on : Int)) = true := beq_self_eq_true _
            have g3 : (on == on) = true := beq_self_eq_true _
            have hon1 : on ≤ on + 1 := by omega
            have hon2 : on ≤ c0 := by omega
            clear hn1 hC3 hln HEQ
            by_cases he0 : ec = 0
            · have hm : mergesB l0 = !(eqF likeB (own.map toS) (l0.take on)) := by rw [HMB.out, (HEC.out.1 he0)]; rfl
              have HM := Aside0.mk hm
              have g1 : (ec != 0) = false := bne_eq_false_iff_eq.2 he0
              clear hm he0
              go_wp2_with (first | (go_at_call 92; refine (HCM.out _ HR1n.out).mono ?_; rintro e w' ⟨rfl, ⟨⟨q, rfl⟩⟩⟩) | (go_at_call 74; refine (HEQ2.out _ (pw_below_drewN (Below.refl _ _) _)).mono ?_; rintro e w5 ⟨rfl, hb5⟩))
              refine bodyPost_ret (results_tmp rfl _ _ _) rfl ?_
              exact ⟨by rw [HM.out]; rfl, by rw [HH.out]; exact (pw_below_drewN hmw.out q).trans (hb5.mono (by have := hmw.out.size; have := HH.out; show H ≤ wr.heap.size; omega))⟩
            · have hi : er.isSome = true := by
                cases er with
                | none => exact absurd (HEC.out.2 rfl) he0
                | some _ => rfl
              have HM : Aside0 (mergesB l0 = true) := ⟨by rw [HMB.out, hi]; rfl⟩
              have g1 : (ec != 0) = true := bne_iff_ne.2 he0
              clear hi he0
              go_wp2_with (go_at_call 92; refine (HCM.out _ HR1n.out).mono ?_; rintro e w' ⟨rfl, ⟨⟨q, rfl⟩⟩⟩)
              refine bodyPost_ret (results_tmp rfl _ _ _) rfl ?_
              exact ⟨by rw [HM.out]; rfl, by rw [HH.out]; exact pw_below_drewN hmw.out q⟩
          · rw [if_neg hcut] at HMB
            have HEQ2 := Lib.hid (fun W hb => HEQ.out W n c0 l0 hb HL0.out hc0 HR1n.out)
            clear HEQ
            cases cb with
            | false =>
              clear hcut hn1
              by_cases he0 : ec = 0
              · have hm : mergesB l0 = !(eqF likeB (own.map toS) l0) := by rw [HMB.out, (HEC.out.1 he0)]; rfl
                have HM := Aside0.mk hm
                have g1 : (ec != 0) = false := bne_eq_false_iff_eq.2 he0
                clear hm he0
                go_wp2_with (first | (go_at_call 92; refine (HCM.out _ HR1n.out).mono ?_; rintro e w' ⟨rfl, ⟨⟨q, rfl⟩⟩⟩) | (go_at_call 74; refine (HEQ2.out _ (pw_below_drewN (Below.refl _ _) _)).mono ?_; rintro e w5 ⟨rfl, hb5⟩))
                refine bodyPost_ret (results_tmp rfl _ _ _) rfl ?_
                exact ⟨by rw [HM.out]; rfl, by rw [HH.out]; exact (pw_below_drewN hmw.out q).trans (hb5.mono (by have := hmw.out.size; have := HH.out; show H ≤ wr.heap.size; omega))⟩
              · have hi : er.isSome = true := by
                  cases er with
                  | none => exact absurd (HEC.out.2 rfl) he0
                  | some _ => rfl
                have HM : Aside0 (mergesB l0 = true) := ⟨by rw [HMB.out, hi]; rfl⟩
                have g1 : (ec != 0) = true := bne_iff_ne.2 he0
                clear hi he0
                go_wp2_with (go_at_call 92; refine (HCM.out _ HR1n.out).mono ?_; rintro e w' ⟨rfl, ⟨⟨q, rfl⟩⟩⟩)
                refine bodyPost_ret (results_tmp rfl _ _ _) rfl ?_
                exact ⟨by rw [HM.out]; rfl, by rw [HH.out]; exact pw_below_drewN hmw.out q⟩
            | true =>
              have hn2 := hn1 rfl
              have hne : on + 1 ≠ n := fun e => hcut ⟨rfl, e⟩
              have hw2 : IntKind.i64.wrap ((n : Int) - 1) = ((n - 1 : Nat) : Int) := by rw [w64 _ (by omega) (by omega)]; omega
              have hw3 : ((n : Int) - 1) = ((n - 1 : Nat) : Int) := by omega
              have g2 : ((on : Int) == ((n - 1 : Nat) : Int)) = false := beq_eq_false_iff_ne.2 (by omega)
              have g3 : (on == n - 1) = false := beq_eq_false_iff_ne.2 (by omega)
              clear hcut hn1 hne hn2
              by_cases he0 : ec = 0
              · have hm : mergesB l0 = !(eqF likeB (own.map toS) l0) := by rw [HMB.out, (HEC.out.1 he0)]; rfl
                have HM := Aside0.mk hm
                have g1 : (ec != 0) = false := bne_eq_false_iff_eq.2 he0
                clear hm he0
                go_wp2_with (first | (go_at_call 92; refine (HCM.out _ HR1n.out).mono ?_; rintro e w' ⟨rfl, ⟨⟨q, rfl⟩⟩⟩) | (go_at_call 74; refine (HEQ2.out _ (pw_below_drewN (Below.refl _ _) _)).mono ?_; rintro e w5 ⟨rfl, hb5⟩))
                refine bodyPost_ret (results_tmp rfl _ _ _) rfl ?_
                exact ⟨by rw [HM.out]; rfl, by rw [HH.out]; exact (pw_below_drewN hmw.out q).trans (hb5.mono (by have := hmw.out.size; have := HH.out; show H ≤ wr.heap.size; omega))⟩
              · have hi : er.isSome = true := by
                  cases er with
                  | none => exact absurd (HEC.out.2 rfl) he0
                  | some _ => rfl
                have HM : Aside0 (mergesB l0 = true) := ⟨by rw [HMB.out, hi]; rfl⟩
                have g1 : (ec != 0) = true := bne_iff_ne.2 he0
                clear hi he0
                go_wp2_with (go_at_call 92; refine (HCM.out _ HR1n.out).mono ?_; rintro e w' ⟨rfl, ⟨⟨q, rfl⟩⟩⟩)
                refine bodyPost_ret (results_tmp rfl _ _ _) rfl ?_
                exact ⟨by rw [HM.out]; rfl, by rw [HH.out]; exact pw_below_drewN hmw.out q⟩
end Go.Proofs.YtkkpjonfaflkmaaGreatDoor.T

/- scan.written. -/
namespace Go.Proofs.YtkkpjonfaflkmaaGreatDoor.T
set_option linter.unusedSimpArgs false
set_option linter.unusedVariables false
open Go.RowKit Go.Maps Go.Proofs.YtkkpjonfaflkmaaGreatDoorW.PrintWords Go.Proofs.YtkkpjonfaflkmaaGreatDoorW.PrintLast Go.Proofs.YtkkpjonfaflkmaaGreatDoorW.PrintMore
attribute [local go_sem] Oper.semAt_some

def tkC (x : S53) : List Value := [.int .i64 x.f0, .string x.f1, .bool x.f2, .int .i64 x.f3, .int .i64 x.f4, .int .i64 x.f5]
def tksC (l : List S53) : List Value := (l.map tkC).flatten
theorem tksC_at : ∀ (l : List S53) (j : Nat) (t : S53), l[j]? = some t → ((tksC l).drop (j * 6)).take 6 = tkC t
  | [], j, t, h => by simp at h
  | x :: l, 0, t, h => by
    simp only [List.getElem?_cons_zero, Option.some.injEq] at h
    subst h
    simp [tksC, tkC]
  | x :: l, j + 1, t, h => by
    simp only [List.getElem?_cons_succ] at h
    have := tksC_at l j t h
    have e : (tksC (x :: l)).drop ((j + 1) * 6) = (tksC l).drop (j * 6) := by
      simp only [tksC, List.map_cons, List.flatten_cons]
      rw [List.drop_append, List.drop_eq_nil_of_le (by simp [tkC]; omega), List.nil_append]
      congr 1
      simp [tkC]; omega
    rw [e]; exact this
/-- A row of tokens in a block. -/
theorem row_C {W : World} {g : Nat} {cs : Array Value} {l : List S53} (hg : W.heap[g]? = some (.cells cs 53 (0, 0))) (ht : cs.toList = tksC l) (hl : l.length ≤ 300000) : Kd.C k53 W (some ⟨g, 0, none⟩) l.length l := by
  refine ⟨rfl, by omega, fun _ => ⟨_, rfl, fun j p hj => ?_⟩⟩
  refine ⟨tkC p, rfl, k53_mk W p, fun i u hu => ?_⟩
  have hi : i < 6 := (List.getElem?_eq_some_iff.1 hu).1
  have e1 : (tksC l)[j * 6 + i]? = some u := by
    rw [← tksC_at l j p hj, List.getElem?_take_of_lt hi, List.getElem?_drop] at hu
    exact hu
  rw [← ht] at e1
  show W.cell? ((⟨g, 0, none⟩ : Addr).add (j * 6 + i)) = some u
  rw [add_plain, blk_cell hg]
  simpa using e1
/-- A part of a row. -/
theorem C_cut {w : World} {ad : Addr} {l : List S53} (k m : Nat) (hk : k + m ≤ l.length) (h : Kd.C k53 w (some ad) l.length l) : Kd.C k53 w (some (ad.add (k * 6))) m ((l.drop k).take m) := by
  obtain ⟨h1, h2, h3⟩ := h
  refine ⟨by rw [List.length_take, List.length_drop]; omega, by omega, fun hne => ?_⟩
  obtain ⟨ad', e, hj⟩ := h3 (by omega)
  cases e
  refine ⟨_, rfl, fun j p hp => ?_⟩
  have hp2 : l[k + j]? = some p := by
    rw [List.getElem?_take] at hp
    split at hp
    · rw [List.getElem?_drop] at hp; exact hp
    · cases hp
  obtain ⟨c, c1, c2, c3⟩ := hj (k + j) p hp2
  refine ⟨c, c1, c2, fun i u hu => ?_⟩
  have := c3 i u hu
  have e6 : k53.sz = 6 := rfl
  rw [e6] at this ⊢
  rw [Go.Addr.add_add, show k * 6 + (j * 6 + i) = (k + j) * 6 + i by omega]
  exact this

def tkAt (l : List S53) (i : Nat) : S53 := rd_T53 l (i : Int)
/-- Whether a comment must part a token from the one ahead. -/
def sepB (l : List S53) (i first : Nat) : Bool :=
  mergesB [tkAt l (i - 1), tkAt l i] || (decide (first + 2 ≤ i) && !(tkAt l (i - 1)).f2 && decide ((tkAt l (i - 2)).f0 = 1) && mergesB [tkAt l (i - 2), tkAt l (i - 1), tkAt l i])
/-- What stands ahead of a token. -/
def gapN (l : List S53) (i first : Nat) : List Int :=
  if i = first then [] else if (tkAt l i).f2 = true then [32] else if sepB l i first = true then [47, 42, 42, 47] else []
def endN (l : List S53) (i first : Nat) : List Int := (if commaB ((l.drop first).take (i - first)) = true then [59] else []) ++ [10]
def wrStep (l : List S53) (i : Nat) (p : Nat × List Int) : Nat × List Int :=
  if (tkAt l i).f0 = 4 then (i + 1, p.2 ++ endN l i p.1) else (p.1, p.2 ++ gapN l i p.1 ++ spN (tkAt l i))
def wrN (l : List S53) : Nat → Nat × List Int
  | 0 => (0, [])
  | k + 1 => wrStep l k (wrN l k)
/-- The text of tokens. -/
def writtenN (l : List S53) : List Int := (wrN l l.length).2
theorem gapN_len (l : List S53) (i first : Nat) : (gapN l i first).length ≤ 4 := by
  unfold gapN
  split
  · simp
  · split
    · simp
    · split <;> simp
theorem gapN_bytes (l : List S53) (i first : Nat) : ∀ x ∈ gapN l i first, 0 ≤ x ∧ x < 256 := by
  unfold gapN
  split
  · simp
  · split
    · simp
    · split
      · intro x hx
        simp only [List.mem_cons, List.not_mem_nil, or_false] at hx
        omega
      · simp
theorem endN_bytes (l : List S53) (i first : Nat) : (endN l i first).length ≤ 4 ∧ ∀ x ∈ endN l i first, 0 ≤ x ∧ x < 256 := by
  unfold endN
  split <;> simp
theorem wrN_facts (l : List S53) : ∀ k, k ≤ l.length → (wrN l k).1 ≤ k ∧ (wrN l k).2.length ≤ szL (l.take k) + 4 * k ∧ ∀ x ∈ (wrN l k).2, 0 ≤ x ∧ x < 256
  | 0, _ => ⟨Nat.le_refl _, by simp [wrN], by simp [wrN]⟩
  | k + 1, hk => by
    obtain ⟨h1, h2, h3⟩ := wrN_facts l k (by omega)
    have hs : szL (l.take (k + 1)) = szL (l.take k) + (2 * (tkAt l k).f1.size + 2) := by
      have hd : l.take (k + 1) = l.take k ++ [tkAt l k] := by
        rw [List.take_add_one, List.getElem?_eq_getElem (by omega)]
        unfold tkAt rd_T53
        rw [Int.toNat_natCast, List.getD_eq_getElem?_getD, List.getElem?_eq_getElem (by omega)]
        rfl
      rw [hd]; simp [szL]
    have hsp := sp_len (tkAt l k)
    simp only [wrN, wrStep]
    split
    · obtain ⟨e1, e2⟩ := endN_bytes l k (wrN l k).1
      refine ⟨Nat.le_refl _, by rw [List.length_append]; omega, fun x hx => ?_⟩
      rcases List.mem_append.1 hx with e | e
      · exact h3 x e
      · exact e2 x e
    · have e1 := gapN_len l k (wrN l k).1
      refine ⟨by omega, by rw [List.length_append, List.length_append]; omega, fun x hx => ?_⟩
      rcases List.mem_append.1 hx with e | e
      · rcases List.mem_append.1 e with e | e
        · exact h3 x e
        · exact gapN_bytes l k _ x e
      · exact sp_bytes _ x e
theorem szL_two {l : List S53} {i : Nat} (hi : i + 1 < l.length) : szL [tkAt l i, tkAt l (i + 1)] ≤ szL l := by
  have h1 : l.drop i = tkAt l i :: l.drop (i + 1) := drop_rd (by omega)
  have h2 : l.drop (i + 1) = tkAt l (i + 1) :: l.drop (i + 1 + 1) := drop_rd hi
  conv => { rhs; rw [← List.take_append_drop i l, h1, h2] }
  simp only [szL, List.map_append, List.map_cons, List.map_nil, List.sum_append, List.sum_cons, List.sum_nil]
  omega
theorem szL_three {l : List S53} {i : Nat} (hi : i + 2 < l.length) : szL [tkAt l i, tkAt l (i + 1), tkAt l (i + 2)] ≤ szL l := by
  have h1 : l.drop i = tkAt l i :: l.drop (i + 1) := drop_rd (by omega)
  have h2 : l.drop (i + 1) = tkAt l (i + 1) :: l.drop (i + 1 + 1) := drop_rd (by omega)
  have h3 : l.drop (i + 2) = tkAt l (i + 2) :: l.drop (i + 2 + 1) := drop_rd hi
  conv => { rhs; rw [← List.take_append_drop i l, h1, h2, show i + 1 + 1 = i + 2 from rfl, h3] }
  simp only [szL, List.map_append, List.map_cons, List.map_nil, List.sum_append, List.sum_cons, List.sum_nil]
  omega
theorem Bld.lt {B b : Nat} {xs : List Int} {w : World} (h : Bld B b xs w) : b < w.heap.size := by
  rcases h with ⟨_, v, h2, _⟩ | ⟨_, v, h2, _⟩ <;> exact (Array.getElem?_eq_some_iff.1 h2).1
/-- What stands while a token is written: the builder, and the token's box. -/
structure Rd (H h1 : Nat) (w : World) (tx : S53) (o : List Int) (W : World) : Prop where
  bl : Below H w W
  bd : Bld H H o W
  bx : W.heap[h1]? = some (.cells #[.int .i64 tx.f0, .string tx.f1, .bool tx.f2, .int .i64 tx.f3, .int .i64 tx.f4, .int .i64 tx.f5] 53 (0, 0))
  hs : H ≤ W.heap.size
  ne : H < h1
theorem Rd.keep {H h1 : Nat} {w : World} {tx : S53} {o : List Int} {W W' : World} (h : Rd H h1 w tx o W) (hb : Below W.heap.size W W') : Rd H h1 w tx o W' :=
  ⟨h.bl.trans (hb.mono h.hs), h.bd.keep hb, (hb.block h1 (Array.getElem?_eq_some_iff.1 h.bx).1).trans h.bx, Nat.le_trans h.hs hb.size, h.ne⟩
theorem Rd.wb {H h1 : Nat} {w : World} {tx : S53} {o : List Int} {W : World} (h : Rd H h1 w tx o W) (c : Int) (hl : o.length ≤ 100000000) :
    Calls Tryz.prog 106 #[.pointer (some ⟨H, 0, none⟩), .int .u8 c] W fun e w' => e = .returned .nilIface ∧ Rd H h1 w tx (o ++ [c]) w' := by
  refine (Any.Builder_WriteByte_k bldLays167 bldExtra H H _ c W h.bd (by rw [List.length_map]; omega) h.hs).mono ?_
  rintro e w' ⟨rfl, k1, k2, k3⟩
  refine ⟨rfl, h.bl.trans k2, ?_, k3 _ _ h.bx (fun e => by have := h.ne; simp only [Option.some.injEq] at e; omega) (fun c fz e => ?_), Nat.le_trans h.hs k2.size, h.ne⟩
  · unfold Bld; rw [List.map_append]; exact .inr k1
  · injection e with e1 e2 e3; exact absurd e2 (by decide)
theorem Rd.ws {H h1 : Nat} {w : World} {tx : S53} {o : List Int} {W : World} (h : Rd H h1 w tx o W) (s : ByteArray) (hl : o.length + s.size ≤ 100000000) :
    Calls Tryz.prog 112 #[.pointer (some ⟨H, 0, none⟩), .string s] W fun e w' => (∃ nn : Nat, e = .returned (.tuple #[.int .i64 nn, .nilIface])) ∧ Rd H h1 w tx (o ++ bytesOf s) w' := by
  refine (Any.Builder_WriteString_k bldLays166 bldExtra H H _ s W h.bd (by rw [List.length_map]; omega) h.hs).mono ?_
  rintro e w' ⟨rfl, k1, k2, k3⟩
  refine ⟨⟨_, rfl⟩, h.bl.trans k2, ?_, k3 _ _ h.bx (fun e => by have := h.ne; simp only [Option.some.injEq] at e; omega) (fun c fz e => ?_), Nat.le_trans h.hs k2.size, h.ne⟩
  · unfold Bld
    rw [List.map_append]
    have e : (bytesOf s).map (Value.int .u8) = Lib.strCells s := by simp [bytesOf, Lib.strCells, Lib.byteCells, Function.comp_def]
    rw [e]
    exact .inr k1
  · injection e with e1 e2 e3; exact absurd e2 (by decide)
set_option maxRecDepth 100000 in
set_option maxHeartbeats 16000000 in
theorem scan_written.calls (A0 : Option Addr) (c0 : Nat) (l0 : List S53) (w : World) (hT : TabOK w) (hr0 : Kd.C k53 w A0 l0.length l0) (hc0 : l0.length ≤ c0) (hsm : l0.length ≤ 10000) (hsz : szL l0 ≤ 20000) :
    Calls Tryz.prog 72 #[.slice A0 l0.length c0] w fun e w' => e = .returned (.string (strOfNums (writtenN l0))) ∧ Below w.heap.size w w' := by
  have hu53 := Tryz.underlying53
  have HT := Aside0.mk hT
  have HR0 := Aside0.mk hr0
  clear hT hr0
  obtain ⟨n, hn⟩ : ∃ n, l0.length = n := ⟨_, rfl⟩
  have HL0 := Aside0.mk hn
  have hslt := Aside0.mk hsz
  have HWF := Aside0.mk (wrN_facts l0)
  rw [hn] at HR0 hc0 hsm HWF ⊢
  clear hn hsz
  go_enter Tryz.func72, Tryz.ntmps72
  go_upto_region 3 with (fail)
  obtain ⟨W0, hW0⟩ : ∃ W0, w.alloc (.cells #[.pointer none, .slice none 0 0] 126) = W0 := ⟨_, rfl⟩
  have hB0 : Aside0 (Bld w.heap.size w.heap.size [] W0) := ⟨by rw [← hW0]; exact Bld.new w⟩
  have hb0 : Aside0 (Below w.heap.size w W0) := ⟨by rw [← hW0]; exact below_alloc (Below.refl _ _) _⟩
  rw [hW0]
  clear hW0
  generalize hH : w.heap.size = H at *
  have HH := Aside0.mk hH
  clear hH
  go_wp2
  go_loopg [4, 9] n (fun gg s4 s9 wr => ∃ kk first : Nat, kk ≤ n ∧ n - kk ≤ gg ∧ s4 = .int .i64 first ∧ s9 = .int .i64 kk ∧ first ≤ kk ∧ Aside0 (Below H w wr) ∧ Aside0 (Bld H H (wrN l0 kk).2 wr) ∧ Aside0 ((wrN l0 kk).1 = first))
  case atStart => exact ⟨0, 0, by omega, by omega, rfl, rfl, by omega, hb0, hB0, ⟨rfl⟩⟩
  case round =>
    obtain ⟨kk, first, hkk, hg, rfl, rfl, hfk, HB, HBD, HFI⟩ := hrel
    obtain ⟨out, hout⟩ : ∃ out, (wrN l0 kk).2 = out := ⟨_, rfl⟩
    have HOUT := Aside0.mk hout
    rw [hout] at HBD
    have hwf := HWF.out kk hkk
    rw [hout] at hwf
    have hos : out.length ≤ 20000 + 4 * kk := by
      have h1 := szL_take l0 kk
      have h2 := hslt.out
      have h3 := hwf.2.1
      omega
    have HOB := Aside0.mk hwf.2.2
    clear hout hwf
    by_cases hlt : kk < n
    · have hltz : (kk : Int) < (n : Int) := by omega
      have hz0 : (0 : Int) ≤ (kk : Int) := by omega
      have hw1 : IntKind.i64.wrap ((kk : Int) + 1) = ((kk + 1 : Nat) : Int) := by rw [w64 _ (by omega) (by omega)]; omega
      have HWN : Aside0 (wrN l0 (kk + 1) = wrStep l0 kk (first, out)) := ⟨by
        show wrStep l0 kk (wrN l0 kk) = _
        rw [← HFI.out, ← HOUT.out]⟩
      have hCr := Kd.C_below HR0.out (by rw [HH.out]; exact HB.out)
      obtain ⟨ad, rfl, x0, x1, x2, x3, x4, x5⟩ := at_T53 hCr (kk : Int) hz0 hltz
      simp only [Int.toNat_natCast] at x0 x1 x2 x3 x4 x5
      have htx : tkAt l0 kk = rd_T53 l0 (kk : Int) := rfl
      generalize rd_T53 l0 (kk : Int) = tx at *
      have HTX := Aside0.mk htx
      have hmem : tx ∈ l0 := by
        have := drop_rd (l := l0) (k := kk) (by rw [HL0.out]; exact hlt)
        rw [← htx]
        exact List.mem_of_mem_drop (by rw [this]; exact List.mem_cons_self)
      have hxs := szL_mem hmem
      clear htx hmem
      go_upto_region 6 with (fail)
      have hn1 := heap_alloc_new wr (.cells #[.int .i64 tx.f0, .string tx.f1, .bool tx.f2, .int .i64 tx.f3, .int .i64 tx.f4, .int .i64 tx.f5] 53)
      have hB1 : Below H w (wr.alloc (.cells #[.int .i64 tx.f0, .string tx.f1, .bool tx.f2, .int .i64 tx.f3, .int .i64 tx.f4, .int .i64 tx.f5] 53)) := HB.out.trans ((below_alloc (Below.refl wr.heap.size wr) (.cells #[.int .i64 tx.f0, .string tx.f1, .bool tx.f2, .int .i64 tx.f3, .int .i64 tx.f4, .int .i64 tx.f5] 53)).mono (by have := HB.out.size; have := HH.out; omega))
      have HBD1 := Aside0.mk (HBD.out.keep (below_alloc (Below.refl _ wr) (.cells #[.int .i64 tx.f0, .string tx.f1, .bool tx.f2, .int .i64 tx.f3, .int .i64 tx.f4, .int .i64 tx.f5] 53)))
      have hC1 := Kd.C_alloc hCr (.cells #[.int .i64 tx.f0, .string tx.f1, .bool tx.f2, .int .i64 tx.f3, .int .i64 tx.f4, .int .i64 tx.f5] 53)
      have hlt1 := HBD.out.lt
      obtain ⟨h1, hh1⟩ : ∃ h1, wr.heap.size = h1 := ⟨_, rfl⟩
      rw [hh1] at hn1 hlt1 ⊢
      clear x0 x1 x2 x3 x4 x5 hh1 HB HBD hCr
      generalize wr.alloc (.cells #[.int .i64 tx.f0, .string tx.f1, .bool tx.f2, .int .i64 tx.f3, .int .i64 tx.f4, .int .i64 tx.f5] 53) = W1 at *
      have hrd : Rd H h1 w tx out W1 := ⟨hB1, HBD1.out, hn1, by have := hB1.size; have := HH.out; omega, hlt1⟩
      have HRD := Aside0.mk hrd
      have HC1 := Aside0.mk hC1
      have HTD : Aside0 (∀ W, Rd H h1 w tx out W → TabOK W) := ⟨fun W h => HT.out.of_below (by rw [HH.out]; exact h.bl)⟩
      have a0 : W1.cell? ⟨h1, 0, none⟩ = some (.int .i64 tx.f0) := (blk_cell hn1 0).trans rfl
      have a1 : W1.cell? ⟨h1, 1, none⟩ = some (.string tx.f1) := (blk_cell hn1 1).trans rfl
      have a2 : W1.cell? ⟨h1, 2, none⟩ = some (.bool tx.f2) := (blk_cell hn1 2).trans rfl
      have a3 : W1.cell? ⟨h1, 3, none⟩ = some (.int .i64 tx.f3) := (blk_cell hn1 3).trans rfl
      have a4 : W1.cell? ⟨h1, 4, none⟩ = some (.int .i64 tx.f4) := (blk_cell hn1 4).trans rfl
      have a5 : W1.cell? ⟨h1, 5, none⟩ = some (.int .i64 tx.f5) := (blk_cell hn1 5).trans rfl
      clear hn1 hB1 hrd HBD1 hlt1
      by_cases hk4 : tx.f0 = 4
      · have g1 : (tx.f0 == 4) = true := beq_iff_eq.2 hk4
        have hz1 : (0 : Int) ≤ (first : Int) := by omega
        have hz2 : (first : Int) ≤ (kk : Int) := by omega
        have hz3 : kk ≤ c0 := by omega
        have hHW : wrN l0 (kk + 1) = (kk + 1, out ++ endN l0 kk first) := by
          rw [HWN.out]
          unfold wrStep
          rw [HTX.out, if_pos hk4]
        obtain ⟨cl, hcl⟩ : ∃ cl, (l0.drop first).take (kk - first) = cl := ⟨_, rfl⟩
        have hclen : cl.length = kk - first := by rw [← hcl, List.length_take, List.length_drop, HL0.out]; omega
        have hCc := C_cut first (kk - first) (l := l0) (by rw [HL0.out]; omega) (by rw [HL0.out]; exact hC1)
        rw [hcl] at hCc
        have hcm := scan_comma.calls (some (ad.add (first * 6))) (c0 - first) cl _ W1 (by rw [hclen]; exact hCc) (by omega) (comma_g cl (by omega))
        rw [hclen] at hcm
        unfold endN at hHW
        rw [hcl] at hHW
        clear hCc hcl hclen hC1 a0 a1 a2 a3 a4 a5
        have a0 : W1.cell? ⟨h1, 0, none⟩ = some (.int .i64 tx.f0) := (blk_cell HRD.out.bx 0).trans rfl
        cases hcb : commaB cl with
        | true =>
          rw [hcb] at hcm hHW
          rw [if_pos rfl] at hHW
          have HHW := Aside0.mk hHW
          have HCM := Lib.hid hcm
          clear hcm hHW hcb
          go_wp2_with (first | (go_at_call 92; refine HCM.out.mono ?_; rintro e w2 ⟨rfl, ⟨⟨q, rfl⟩⟩⟩; have hr2 := HRD.out.keep (pw_below_drewN (Below.refl _ _) q)) | (go_at_call 106; with_reducible refine (hr2.wb 59 (by omega)).mono ?_; rintro e w3 ⟨rfl, hr3⟩) | (go_at_call 106; with_reducible refine (hr3.wb 10 (by simp; omega)).mono ?_; rintro e w4 ⟨rfl, hr4⟩))
          go_roundg (n - (kk + 1))
          case measure => omega
          case rel => exact ⟨kk + 1, kk + 1, by omega, by omega, by go_num, by go_num, Nat.le_refl _, ⟨hr4.bl⟩, ⟨by rw [HHW.out]; have := hr4.bd; simpa using this⟩, ⟨by rw [HHW.out]⟩⟩
        | false =>
          rw [hcb] at hcm hHW
          rw [if_neg Bool.false_ne_true, List.nil_append] at hHW
          have HHW := Aside0.mk hHW
          have HCM := Lib.hid hcm
          clear hcm hHW hcb
          go_wp2_with (first | (go_at_call 92; refine HCM.out.mono ?_; rintro e w2 ⟨rfl, ⟨⟨q, rfl⟩⟩⟩; have hr2 := HRD.out.keep (pw_below_drewN (Below.refl _ _) q)) | (go_at_call 106; with_reducible refine (hr2.wb 10 (by omega)).mono ?_; rintro e w4 ⟨rfl, hr4⟩))
          go_roundg (n - (kk + 1))
          case measure => omega
          case rel => exact ⟨kk + 1, kk + 1, by omega, by omega, by go_num, by go_num, Nat.le_refl _, ⟨hr4.bl⟩, ⟨by rw [HHW.out]; exact hr4.bd⟩, ⟨by rw [HHW.out]⟩⟩
      · have g1 : (tx.f0 == 4) = false := beq_eq_false_iff_ne.2 hk4
        have HHW : Aside0 (wrN l0 (kk + 1) = (first, out ++ gapN l0 kk first ++ spN tx)) := ⟨by
          rw [HWN.out]
          unfold wrStep
          rw [HTX.out, if_neg hk4]⟩
        have HTB : Aside0 (∀ W, Below H w W → TabOK W) := ⟨fun W h => HT.out.of_below (by rw [HH.out]; exact h)⟩
        have HSB := Aside0.mk (bytesOf_str _ (sp_bytes tx))
        have hst : (strOfNums (spN tx)).size = (spN tx).length := by simp [strOfNums, ByteArray.size]
        have hspl := sp_len tx
        have hsl := hslt.out
        go_upto_region 11 with (fail)
        by_cases hkf : kk = first
        · have HG : Aside0 (gapN l0 kk first = []) := ⟨by unfold gapN; rw [if_pos hkf]⟩
          have e1 : ((kk : Int) == (first : Int)) = true := beq_iff_eq.2 (by omega)
          have e2 : (kk == first) = true := beq_iff_eq.2 hkf
          have hrd := HRD.out
          clear hkf a0 a1 a2 a3 a4 a5 hC1
          go_upto_region 17 with (fail)
          have b0 : W1.cell? ⟨h1, 0, none⟩ = some (.int .i64 tx.f0) := (blk_cell hrd.bx 0).trans rfl
          have b1 : W1.cell? ⟨h1, 1, none⟩ = some (.string tx.f1) := (blk_cell hrd.bx 1).trans rfl
          have b2 : W1.cell? ⟨h1, 2, none⟩ = some (.bool tx.f2) := (blk_cell hrd.bx 2).trans rfl
          have b3 : W1.cell? ⟨h1, 3, none⟩ = some (.int .i64 tx.f3) := (blk_cell hrd.bx 3).trans rfl
          have b4 : W1.cell? ⟨h1, 4, none⟩ = some (.int .i64 tx.f4) := (blk_cell hrd.bx 4).trans rfl
          have b5 : W1.cell? ⟨h1, 5, none⟩ = some (.int .i64 tx.f5) := (blk_cell hrd.bx 5).trans rfl
          have HSPW := Lib.hid (scan_spelled.calls tx.f0 tx.f1 tx.f2 tx.f3 tx.f4 tx.f5 _ W1 (HTB.out _ hrd.bl) (sp_f tx (by omega)))
          go_wp2_with (first | (go_at_call 113; with_reducible refine HSPW.out.mono ?_; rintro e v5 ⟨rfl, hv5⟩; have hr5 := hrd.keep hv5) | (go_at_call 112; with_reducible refine (hr5.ws (strOfNums (spN tx)) (by first | omega | (simp only [List.length_append, List.length_cons, List.length_nil]; omega))).mono ?_; rintro e v6 ⟨⟨nn, rfl⟩, hr6⟩))
          go_roundg (n - (kk + 1))
          case measure => omega
          case rel => exact ⟨kk + 1, first, by omega, by omega, rfl, by go_num, by omega, ⟨hr6.bl⟩, ⟨by rw [HHW.out, HG.out]; have := hr6.bd; rw [HSB.out] at this; simpa using this⟩, ⟨by rw [HHW.out]⟩⟩
        · have e1 : ((kk : Int) == (first : Int)) = false := beq_eq_false_iff_ne.2 (by omega)
          have e2 : (kk == first) = false := beq_eq_false_iff_ne.2 hkf
          cases hgp : tx.f2 with
          | true =>
            have HG : Aside0 (gapN l0 kk first = [32]) := ⟨by unfold gapN; rw [if_neg hkf, HTX.out, if_pos hgp]⟩
            rw [hgp] at a2
            have hrd := HRD.out
            clear hkf a0 a1 a3 a4 a5 hC1 hgp
            go_upto_region 17 with (go_at_call 106; with_reducible refine (hrd.wb 32 (by omega)).mono ?_; rintro e w3 ⟨rfl, hr3⟩)
            clear a2
            have b0 : w3.cell? ⟨h1, 0, none⟩ = some (.int .i64 tx.f0) := (blk_cell hr3.bx 0).trans rfl
            have b1 : w3.cell? ⟨h1, 1, none⟩ = some (.string tx.f1) := (blk_cell hr3.bx 1).trans rfl
            have b2 : w3.cell? ⟨h1, 2, none⟩ = some (.bool tx.f2) := (blk_cell hr3.bx 2).trans rfl
            have b3 : w3.cell? ⟨h1, 3, none⟩ = some (.int .i64 tx.f3) := (blk_cell hr3.bx 3).trans rfl
            have b4 : w3.cell? ⟨h1, 4, none⟩ = some (.int .i64 tx.f4) := (blk_cell hr3.bx 4).trans rfl
            have b5 : w3.cell? ⟨h1, 5, none⟩ = some (.int .i64 tx.f5) := (blk_cell hr3.bx 5).trans rfl
            have HSPW := Lib.hid (scan_spelled.calls tx.f0 tx.f1 tx.f2 tx.f3 tx.f4 tx.f5 _ w3 (HTB.out _ hr3.bl) (sp_f tx (by omega)))
            go_wp2_with (first | (go_at_call 113; with_reducible refine HSPW.out.mono ?_; rintro e v5 ⟨rfl, hv5⟩; have hr5 := hr3.keep hv5) | (go_at_call 112; with_reducible refine (hr5.ws (strOfNums (spN tx)) (by first | omega | (simp only [List.length_append, List.length_cons, List.length_nil]; omega))).mono ?_; rintro e v6 ⟨⟨nn, rfl⟩, hr6⟩))
            go_roundg (n - (kk + 1))
            case measure => omega
            case rel => exact ⟨kk + 1, first, by omega, by omega, rfl, by go_num, by omega, ⟨hr6.bl⟩, ⟨by rw [HHW.out, HG.out]; have := hr6.bd; rw [HSB.out] at this; simpa using this⟩, ⟨by rw [HHW.out]⟩⟩
          | false =>
            rw [hgp] at a2
            obtain ⟨j, rfl⟩ : ∃ j, kk = j + 1 := ⟨kk - 1, by omega⟩
            obtain ⟨ad', e', y0, y1, y2, y3, y4, y5⟩ := at_T53 HC1.out (j : Int) (by omega) (by omega)
            cases e'
            simp only [Int.toNat_natCast] at y0 y1 y2 y3 y4 y5
            have hty : tkAt l0 j = rd_T53 l0 (j : Int) := rfl
            generalize rd_T53 l0 (j : Int) = ty at *
            have HTY := Aside0.mk hty
            clear hty
            have hj1 : j + 1 ≤ 10000 := by omega
            have hw2 : IntKind.i64.wrap (((j + 1 : Nat) : Int) - 1) = (j : Int) := by rw [w64 _ (by omega) (by omega)]; omega
            have hw3 : IntKind.i64.wrap (j : Int) = (j : Int) := w64 _ (by omega) (by omega)
            have hq0 : (0 : Int) ≤ (j : Int) := by omega
            have hq1 : (j : Int) < (n : Int) := by omega
            have hsz2 : szL [ty, tx] ≤ 20000 := by
              have := szL_two (l := l0) (i := j) (by rw [HL0.out]; exact hlt)
              rw [HTY.out, show tkAt l0 (j + 1) = tx from HTX.out] at this
              omega
            have HMG := Lib.hid (fun (W : World) (g : Nat) (h : W.heap[g]? = some (.cells #[.int .i64 ty.f0, .string ty.f1, .bool ty.f2, .int .i64 ty.f3, .int .i64 ty.f4, .int .i64 ty.f5, .int .i64 tx.f0, .string tx.f1, .bool false, .int .i64 tx.f3, .int .i64 tx.f4, .int .i64 tx.f5] 53 (0, 0))) (hW : TabOK W) => scan_merges.calls (some ⟨g, 0, none⟩) 2 [ty, tx] W hW (row_C h (by simp [tksC, tkC, hgp]) (by simp)) (Nat.le_refl _) (by simp) hsz2)
            have HB2 : Aside0 (TabOK (W1.alloc (.cells #[.int .i64 ty.f0, .string ty.f1, .bool ty.f2, .int .i64 ty.f3, .int .i64 ty.f4, .int .i64 ty.f5, .int .i64 tx.f0, .string tx.f1, .bool false, .int .i64 tx.f3, .int .i64 tx.f4, .int .i64 tx.f5] 53)).drew ∧ Below W1.heap.size W1 (W1.alloc (.cells #[.int .i64 ty.f0, .string ty.f1, .bool ty.f2, .int .i64 ty.f3, .int .i64 ty.f4, .int .i64 ty.f5, .int .i64 tx.f0, .string tx.f1, .bool false, .int .i64 tx.f3, .int .i64 tx.f4, .int .i64 tx.f5] 53)).drew) := ⟨by
              have h1 : Below W1.heap.size W1 (W1.alloc (.cells #[.int .i64 ty.f0, .string ty.f1, .bool ty.f2, .int .i64 ty.f3, .int .i64 ty.f4, .int .i64 ty.f5, .int .i64 tx.f0, .string tx.f1, .bool false, .int .i64 tx.f3, .int .i64 tx.f4, .int .i64 tx.f5] 53)).drew := below_drew (below_alloc (Below.refl _ _) _)
              exact ⟨(HTB.out _ HRD.out.bl).of_below h1, h1⟩⟩
            have HN2 : Aside0 ((W1.alloc (.cells #[.int .i64 ty.f0, .string ty.f1, .bool ty.f2, .int .i64 ty.f3, .int .i64 ty.f4, .int .i64 ty.f5, .int .i64 tx.f0, .string tx.f1, .bool false, .int .i64 tx.f3, .int .i64 tx.f4, .int .i64 tx.f5] 53)).drew.heap[W1.heap.size]? = some (.cells #[.int .i64 ty.f0, .string ty.f1, .bool ty.f2, .int .i64 ty.f3, .int .i64 ty.f4, .int .i64 ty.f5, .int .i64 tx.f0, .string tx.f1, .bool false, .int .i64 tx.f3, .int .i64 tx.f4, .int .i64 tx.f5] 53 (0, 0))) := ⟨heap_alloc_new W1 _⟩
            have HGP := Aside0.mk hgp
            obtain ⟨m2, hm2⟩ : ∃ m2, mergesB [ty, tx] = m2 := ⟨_, rfl⟩
            rw [hm2] at HMG
            have HM2 := Aside0.mk hm2
            have HKF := Aside0.mk hkf
            have hcs4 : (⟨#[47, 42, 42, 47]⟩ : ByteArray).size = 4 := rfl
            have HCK : Aside0 (∀ W, Below W1.heap.size W1 W → Kd.C k53 W (some ad) n l0) := ⟨fun W hb => Kd.C_below HC1.out hb⟩
            clear hm2 hgp hkf hC1
            go_upto_region 14 with (fail)
            refine wp_region_still_tail 6 (by kernel_rfl) (by kernel_rfl) ?_
            simp only [List.take_succ_cons, List.take_zero, List.drop_succ_cons, List.drop_zero]
            repeat still_step
            refine wpStill_nil ?_
            cases m2 with
            | true =>
              have HG : Aside0 (gapN l0 (j + 1) first = [47, 42, 42, 47]) := ⟨by
                unfold gapN
                rw [if_neg HKF.out, HTX.out, HGP.out, if_neg Bool.false_ne_true, if_pos]
                unfold sepB
                rw [Nat.add_sub_cancel, HTY.out, HTX.out, HM2.out]; rfl⟩
              clear a0 a1 a2 a3 a4 a5 y0 y1 y2 y3 y4 y5
              go_upto_region 17 with (first | (go_at_call 111; refine (HMG.out _ _ HN2.out HB2.out.1).mono ?_; rintro e w2 ⟨rfl, hb2⟩; have hr2 := HRD.out.keep (HB2.out.2.trans (hb2.mono HB2.out.2.size))) | (go_at_call 112; with_reducible refine (hr2.ws ⟨#[47, 42, 42, 47]⟩ (by rw [hcs4]; omega)).mono ?_; rintro e w3 ⟨⟨nn2, rfl⟩, hr3⟩))
              replace hr3 : Rd H h1 w tx (out ++ [47, 42, 42, 47]) w3 := hr3
              have b0 : w3.cell? ⟨h1, 0, none⟩ = some (.int .i64 tx.f0) := (blk_cell hr3.bx 0).trans rfl
              have b1 : w3.cell? ⟨h1, 1, none⟩ = some (.string tx.f1) := (blk_cell hr3.bx 1).trans rfl
              have b2 : w3.cell? ⟨h1, 2, none⟩ = some (.bool tx.f2) := (blk_cell hr3.bx 2).trans rfl
              have b3 : w3.cell? ⟨h1, 3, none⟩ = some (.int .i64 tx.f3) := (blk_cell hr3.bx 3).trans rfl
              have b4 : w3.cell? ⟨h1, 4, none⟩ = some (.int .i64 tx.f4) := (blk_cell hr3.bx 4).trans rfl
              have b5 : w3.cell? ⟨h1, 5, none⟩ = some (.int .i64 tx.f5) := (blk_cell hr3.bx 5).trans rfl
              have HSPW := Lib.hid (scan_spelled.calls tx.f0 tx.f1 tx.f2 tx.f3 tx.f4 tx.f5 _ w3 (HTB.out _ hr3.bl) (sp_f tx (by omega)))
              go_wp2_with (first | (go_at_call 113; with_reducible refine HSPW.out.mono ?_; rintro e v5 ⟨rfl, hv5⟩; have hr5 := hr3.keep hv5) | (go_at_call 112; with_reducible refine (hr5.ws (strOfNums (spN tx)) (by first | omega | (simp only [List.length_append, List.length_cons, List.length_nil]; omega))).mono ?_; rintro e v6 ⟨⟨nn, rfl⟩, hr6⟩))
              go_roundg (n - (j + 1 + 1))
              case measure => omega
              case rel => exact ⟨j + 1 + 1, first, by omega, by omega, rfl, by go_num, by omega, ⟨hr6.bl⟩, ⟨by rw [HHW.out, HG.out]; have := hr6.bd; rw [HSB.out] at this; simpa using this⟩, ⟨by rw [HHW.out]⟩⟩
            | false =>
              clear y0 y1 y2 y3 y4 y5
              go_upto_region 15 with (go_at_call 111; refine (HMG.out _ _ HN2.out HB2.out.1).mono ?_; rintro e w2 ⟨rfl, hb2⟩; have hr2 := HRD.out.keep (HB2.out.2.trans (hb2.mono HB2.out.2.size)); have hk2 := HCK.out _ (HB2.out.2.trans (hb2.mono HB2.out.2.size)))
              clear a0 a1 a2 a3 a4 a5
              by_cases hi : first + 2 ≤ j + 1
              · obtain ⟨i2, rfl⟩ : ∃ i2, j = i2 + 1 := ⟨j - 1, by omega⟩
                obtain ⟨ad1, e1', z0, z1, z2, z3, z4, z5⟩ := at_T53 hk2 ((i2 + 1 : Nat) : Int) (by omega) (by omega)
                cases e1'
                rw [show rd_T53 l0 ((i2 + 1 : Nat) : Int) = ty from HTY.out] at z0 z1 z2 z3 z4 z5
                simp only [Int.toNat_natCast] at z0 z1 z2 z3 z4 z5
                obtain ⟨ad1, e1', v0, v1, v2, v3, v4, v5⟩ := at_T53 hk2 (i2 : Int) (by omega) (by omega)
                cases e1'
                simp only [Int.toNat_natCast] at v0 v1 v2 v3 v4 v5
                have htz : tkAt l0 i2 = rd_T53 l0 (i2 : Int) := rfl
                generalize rd_T53 l0 (i2 : Int) = tz at *
                have HTZ := Aside0.mk htz
                have hw5 : IntKind.i64.wrap ((i2 : Int) + 1 + 1 - 2) = (i2 : Int) := by rw [w64 _ (by omega) (by omega)]; omega
                have hw6 : IntKind.i64.wrap ((i2 : Int) + 1) = (i2 : Int) + 1 := w64 _ (by omega) (by omega)
                have hw7 : IntKind.i64.wrap (i2 : Int) = (i2 : Int) := w64 _ (by omega) (by omega)
                have hge : decide ((first : Int) ≤ (i2 : Int)) = true := decide_eq_true (by omega)
                have hge2 : decide (first ≤ i2) = true := decide_eq_true (by omega)
                have hp0 : (0 : Int) ≤ (i2 : Int) := by omega
                have hp1 : (i2 : Int) < (n : Int) := by omega
                have hp2 : (0 : Int) ≤ (i2 : Int) + 1 := by omega
                have hp3 : (i2 : Int) + 1 < (n : Int) := by omega
                have hp4 : ((i2 : Int) + 1).toNat = i2 + 1 := by omega
                have HI := Aside0.mk hi
                have HK2 := Aside0.mk hk2
                clear htz hi hk2 hw3
                have c0' : w2.cell? ⟨h1, 0, none⟩ = some (.int .i64 tx.f0) := (blk_cell hr2.bx 0).trans rfl
                have c1 : w2.cell? ⟨h1, 1, none⟩ = some (.string tx.f1) := (blk_cell hr2.bx 1).trans rfl
                have c2 : w2.cell? ⟨h1, 2, none⟩ = some (.bool tx.f2) := (blk_cell hr2.bx 2).trans rfl
                have c3 : w2.cell? ⟨h1, 3, none⟩ = some (.int .i64 tx.f3) := (blk_cell hr2.bx 3).trans rfl
                have c4 : w2.cell? ⟨h1, 4, none⟩ = some (.int .i64 tx.f4) := (blk_cell hr2.bx 4).trans rfl
                have c5 : w2.cell? ⟨h1, 5, none⟩ = some (.int .i64 tx.f5) := (blk_cell hr2.bx 5).trans rfl
                have hsz3 : szL [tz, ty, tx] ≤ 20000 := by
                  have := szL_three (l := l0) (i := i2) (by rw [HL0.out]; omega)
                  rw [HTZ.out, HTY.out, show tkAt l0 (i2 + 2) = tx from HTX.out] at this
                  omega
                obtain ⟨g2, hg2⟩ : ∃ g2, ty.f2 = g2 := ⟨_, rfl⟩
                rw [hg2] at z2
                have HG2 := Aside0.mk hg2
                cases g2 with
                | true =>
                  have HG : Aside0 (gapN l0 (i2 + 1 + 1) first = []) := ⟨by
                    unfold gapN
                    rw [if_neg HKF.out, HTX.out, HGP.out, if_neg Bool.false_ne_true]
                    have e : sepB l0 (i2 + 1 + 1) first = false := by
                      unfold sepB
                      rw [show i2 + 1 + 1 - 1 = i2 + 1 by omega, HTY.out, HTX.out, HM2.out, HG2.out]
                      simp
                    rw [e]; rfl⟩
                  clear hg2 hsz3
                  go_quiet (fail)
                  go_upto_region 17 with (fail)
                  have b0 : (w2.drewN nq).cell? ⟨h1, 0, none⟩ = some (.int .i64 tx.f0) := (blk_cell (hr2.keep (pw_below_drewN (Below.refl _ _) nq)).bx 0).trans rfl
                  have b1 : (w2.drewN nq).cell? ⟨h1, 1, none⟩ = some (.string tx.f1) := (blk_cell (hr2.keep (pw_below_drewN (Below.refl _ _) nq)).bx 1).trans rfl
                  have b2 : (w2.drewN nq).cell? ⟨h1, 2, none⟩ = some (.bool tx.f2) := (blk_cell (hr2.keep (pw_below_drewN (Below.refl _ _) nq)).bx 2).trans rfl
                  have b3 : (w2.drewN nq).cell? ⟨h1, 3, none⟩ = some (.int .i64 tx.f3) := (blk_cell (hr2.keep (pw_below_drewN (Below.refl _ _) nq)).bx 3).trans rfl
                  have b4 : (w2.drewN nq).cell? ⟨h1, 4, none⟩ = some (.int .i64 tx.f4) := (blk_cell (hr2.keep (pw_below_drewN (Below.refl _ _) nq)).bx 4).trans rfl
                  have b5 : (w2.drewN nq).cell? ⟨h1, 5, none⟩ = some (.int .i64 tx.f5) := (blk_cell (hr2.keep (pw_below_drewN (Below.refl _ _) nq)).bx 5).trans rfl
                  have HSPW := Lib.hid (scan_spelled.calls tx.f0 tx.f1 tx.f2 tx.f3 tx.f4 tx.f5 _ (w2.drewN nq) (HTB.out _ (hr2.keep (pw_below_drewN (Below.refl _ _) nq)).bl) (sp_f tx (by omega)))
                  go_wp2_with (first | (go_at_call 113; with_reducible refine HSPW.out.mono ?_; rintro e v5 ⟨rfl, hv5⟩; have hr5 := (hr2.keep (pw_below_drewN (Below.refl _ _) nq)).keep hv5) | (go_at_call 112; with_reducible refine (hr5.ws (strOfNums (spN tx)) (by first | omega | (simp only [List.length_append, List.length_cons, List.length_nil]; omega))).mono ?_; rintro e v6 ⟨⟨nn, rfl⟩, hr6⟩))
                  go_roundg (n - (i2 + 1 + 1 + 1))
                  case measure => omega
                  case rel => exact ⟨i2 + 1 + 1 + 1, first, by omega, by omega, rfl, by go_num, by omega, ⟨hr6.bl⟩, ⟨by rw [HHW.out, HG.out]; have := hr6.bd; rw [HSB.out] at this; simpa using this⟩, ⟨by rw [HHW.out]⟩⟩
                | false =>
                  by_cases hz1' : tz.f0 = 1
                  · have q1 : (tz.f0 == 1) = true := beq_iff_eq.2 hz1'
                    have HMG3 := Lib.hid (fun (W : World) (g : Nat) (h : W.heap[g]? = some (.cells #[.int .i64 tz.f0, .string tz.f1, .bool tz.f2, .int .i64 tz.f3, .int .i64 tz.f4, .int .i64 tz.f5, .int .i64 ty.f0, .string ty.f1, .bool false, .int .i64 ty.f3, .int .i64 ty.f4, .int .i64 ty.f5, .int .i64 tx.f0, .string tx.f1, .bool tx.f2, .int .i64 tx.f3, .int .i64 tx.f4, .int .i64 tx.f5] 53 (0, 0))) (hW : TabOK W) => scan_merges.calls (some ⟨g, 0, none⟩) 3 [tz, ty, tx] W hW (row_C h (by simp [tksC, tkC, hg2]) (by simp)) (Nat.le_refl _) (by simp) hsz3)
                    have HB3 : Aside0 (TabOK (w2.alloc (.cells #[.int .i64 tz.f0, .string tz.f1, .bool tz.f2, .int .i64 tz.f3, .int .i64 tz.f4, .int .i64 tz.f5, .int .i64 ty.f0, .string ty.f1, .bool false, .int .i64 ty.f3, .int .i64 ty.f4, .int .i64 ty.f5, .int .i64 tx.f0, .string tx.f1, .bool tx.f2, .int .i64 tx.f3, .int .i64 tx.f4, .int .i64 tx.f5] 53)).drew ∧ Below w2.heap.size w2 (w2.alloc (.cells #[.int .i64 tz.f0, .string tz.f1, .bool tz.f2, .int .i64 tz.f3, .int .i64 tz.f4, .int .i64 tz.f5, .int .i64 ty.f0, .string ty.f1, .bool false, .int .i64 ty.f3, .int .i64 ty.f4, .int .i64 ty.f5, .int .i64 tx.f0, .string tx.f1, .bool tx.f2, .int .i64 tx.f3, .int .i64 tx.f4, .int .i64 tx.f5] 53)).drew) := ⟨by
                      have h1 : Below w2.heap.size w2 (w2.alloc (.cells #[.int .i64 tz.f0, .string tz.f1, .bool tz.f2, .int .i64 tz.f3, .int .i64 tz.f4, .int .i64 tz.f5, .int .i64 ty.f0, .string ty.f1, .bool false, .int .i64 ty.f3, .int .i64 ty.f4, .int .i64 ty.f5, .int .i64 tx.f0, .string tx.f1, .bool tx.f2, .int .i64 tx.f3, .int .i64 tx.f4, .int .i64 tx.f5] 53)).drew := below_drew (below_alloc (Below.refl _ _) _)
                      exact ⟨(HTB.out _ hr2.bl).of_below h1, h1⟩⟩
                    have HN3 : Aside0 ((w2.alloc (.cells #[.int .i64 tz.f0, .string tz.f1, .bool tz.f2, .int .i64 tz.f3, .int .i64 tz.f4, .int .i64 tz.f5, .int .i64 ty.f0, .string ty.f1, .bool false, .int .i64 ty.f3, .int .i64 ty.f4, .int .i64 ty.f5, .int .i64 tx.f0, .string tx.f1, .bool tx.f2, .int .i64 tx.f3, .int .i64 tx.f4, .int .i64 tx.f5] 53)).drew.heap[w2.heap.size]? = some (.cells #[.int .i64 tz.f0, .string tz.f1, .bool tz.f2, .int .i64 tz.f3, .int .i64 tz.f4, .int .i64 tz.f5, .int .i64 ty.f0, .string ty.f1, .bool false, .int .i64 ty.f3, .int .i64 ty.f4, .int .i64 ty.f5, .int .i64 tx.f0, .string tx.f1, .bool tx.f2, .int .i64 tx.f3, .int .i64 tx.f4, .int .i64 tx.f5] 53 (0, 0))) := ⟨heap_alloc_new w2 _⟩
                    obtain ⟨m3, hm3⟩ : ∃ m3, mergesB [tz, ty, tx] = m3 := ⟨_, rfl⟩
                    rw [hm3] at HMG3
                    have HM3 := Aside0.mk hm3
                    have HZ1 := Aside0.mk hz1'
                    clear hm3 hg2 hz1' hsz3
                    refine wp_region_still_tail 34 (by kernel_rfl) (by kernel_rfl) ?_
                    simp only [List.take_succ_cons, List.take_zero, List.drop_succ_cons, List.drop_zero]
                    repeat still_step
                    refine wpStill_nil ?_
                    cases m3 with
                    | true =>
                      have HG : Aside0 (gapN l0 (i2 + 1 + 1) first = [47, 42, 42, 47]) := ⟨by
                        unfold gapN
                        rw [if_neg HKF.out, HTX.out, HGP.out, if_neg Bool.false_ne_true]
                        have e : sepB l0 (i2 + 1 + 1) first = true := by
                          unfold sepB
                          rw [show i2 + 1 + 1 - 1 = i2 + 1 by omega, show i2 + 1 + 1 - 2 = i2 by omega, HTY.out, HTX.out, HTZ.out, HM2.out, HG2.out, HM3.out, HZ1.out, decide_eq_true HI.out]
                          rfl
                        rw [e]; rfl⟩
                      clear z0 z1 z2 z3 z4 z5 v0 v1 v2 v3 v4 v5 c0' c1 c2 c3 c4 c5
                      go_upto_region 17 with (first | (go_at_call 111; refine (HMG3.out _ _ HN3.out HB3.out.1).mono ?_; rintro e w4 ⟨rfl, hb4⟩; have hr4 := hr2.keep (HB3.out.2.trans (hb4.mono HB3.out.2.size))) | (go_at_call 112; with_reducible refine (hr4.ws ⟨#[47, 42, 42, 47]⟩ (by rw [hcs4]; omega)).mono ?_; rintro e w3 ⟨⟨nn2, rfl⟩, hr3⟩))
                      replace hr3 : Rd H h1 w tx (out ++ [47, 42, 42, 47]) w3 := hr3
                      have b0 : w3.cell? ⟨h1, 0, none⟩ = some (.int .i64 tx.f0) := (blk_cell hr3.bx 0).trans rfl
                      have b1 : w3.cell? ⟨h1, 1, none⟩ = some (.string tx.f1) := (blk_cell hr3.bx 1).trans rfl
                      have b2 : w3.cell? ⟨h1, 2, none⟩ = some (.bool tx.f2) := (blk_cell hr3.bx 2).trans rfl
                      have b3 : w3.cell? ⟨h1, 3, none⟩ = some (.int .i64 tx.f3) := (blk_cell hr3.bx 3).trans rfl
                      have b4 : w3.cell? ⟨h1, 4, none⟩ = some (.int .i64 tx.f4) := (blk_cell hr3.bx 4).trans rfl
                      have b5 : w3.cell? ⟨h1, 5, none⟩ = some (.int .i64 tx.f5) := (blk_cell hr3.bx 5).trans rfl
                      have HSPW := Lib.hid (scan_spelled.calls tx.f0 tx.f1 tx.f2 tx.f3 tx.f4 tx.f5 _ w3 (HTB.out _ hr3.bl) (sp_f tx (by omega)))
                      go_wp2_with (first | (go_at_call 113; with_reducible refine HSPW.out.mono ?_; rintro e v5 ⟨rfl, hv5⟩; have hr5 := hr3.keep hv5) | (go_at_call 112; with_reducible refine (hr5.ws (strOfNums (spN tx)) (by first | omega | (simp only [List.length_append, List.length_cons, List.length_nil]; omega))).mono ?_; rintro e v6 ⟨⟨nn, rfl⟩, hr6⟩))
                      go_roundg (n - (i2 + 1 + 1 + 1))
                      case measure => omega
                      case rel => exact ⟨i2 + 1 + 1 + 1, first, by omega, by omega, rfl, by go_num, by omega, ⟨hr6.bl⟩, ⟨by rw [HHW.out, HG.out]; have := hr6.bd; rw [HSB.out] at this; simpa using this⟩, ⟨by rw [HHW.out]⟩⟩
                    | false =>
                      have HG : Aside0 (gapN l0 (i2 + 1 + 1) first = []) := ⟨by
                        unfold gapN
                        rw [if_neg HKF.out, HTX.out, HGP.out, if_neg Bool.false_ne_true]
                        have e : sepB l0 (i2 + 1 + 1) first = false := by
                          unfold sepB
                          rw [show i2 + 1 + 1 - 1 = i2 + 1 by omega, show i2 + 1 + 1 - 2 = i2 by omega, HTY.out, HTX.out, HTZ.out, HM2.out, HG2.out, HM3.out]
                          simp
                        rw [e]; rfl⟩
                      clear z0 z1 z2 z3 z4 z5 v0 v1 v2 v3 v4 v5 c0' c1 c2 c3 c4 c5
                      go_upto_region 17 with (go_at_call 111; refine (HMG3.out _ _ HN3.out HB3.out.1).mono ?_; rintro e w4 ⟨rfl, hb4⟩; have hr4 := hr2.keep (HB3.out.2.trans (hb4.mono HB3.out.2.size)))
                      have b0 : w4.cell? ⟨h1, 0, none⟩ = some (.int .i64 tx.f0) := (blk_cell hr4.bx 0).trans rfl
                      have b1 : w4.cell? ⟨h1, 1, none⟩ = some (.string tx.f1) := (blk_cell hr4.bx 1).trans rfl
                      have b2 : w4.cell? ⟨h1, 2, none⟩ = some (.bool tx.f2) := (blk_cell hr4.bx 2).trans rfl
                      have b3 : w4.cell? ⟨h1, 3, none⟩ = some (.int .i64 tx.f3) := (blk_cell hr4.bx 3).trans rfl
                      have b4 : w4.cell? ⟨h1, 4, none⟩ = some (.int .i64 tx.f4) := (blk_cell hr4.bx 4).trans rfl
                      have b5 : w4.cell? ⟨h1, 5, none⟩ = some (.int .i64 tx.f5) := (blk_cell hr4.bx 5).trans rfl
                      have HSPW := Lib.hid (scan_spelled.calls tx.f0 tx.f1 tx.f2 tx.f3 tx.f4 tx.f5 _ w4 (HTB.out _ hr4.bl) (sp_f tx (by omega)))
                      go_wp2_with (first | (go_at_call 113; with_reducible refine HSPW.out.mono ?_; rintro e v5 ⟨rfl, hv5⟩; have hr5 := hr4.keep hv5) | (go_at_call 112; with_reducible refine (hr5.ws (strOfNums (spN tx)) (by first | omega | (simp only [List.length_append, List.length_cons, List.length_nil]; omega))).mono ?_; rintro e v6 ⟨⟨nn, rfl⟩, hr6⟩))
                      go_roundg (n - (i2 + 1 + 1 + 1))
                      case measure => omega
                      case rel => exact ⟨i2 + 1 + 1 + 1, first, by omega, by omega, rfl, by go_num, by omega, ⟨hr6.bl⟩, ⟨by rw [HHW.out, HG.out]; have := hr6.bd; rw [HSB.out] at this; simpa using this⟩, ⟨by rw [HHW.out]⟩⟩
                  · have q1 : (tz.f0 == 1) = false := beq_eq_false_iff_ne.2 hz1'
                    have HZ1 := Aside0.mk hz1'
                    have HG : Aside0 (gapN l0 (i2 + 1 + 1) first = []) := ⟨by
                      unfold gapN
                      rw [if_neg HKF.out, HTX.out, HGP.out, if_neg Bool.false_ne_true]
                      have e : sepB l0 (i2 + 1 + 1) first = false := by
                        unfold sepB
                        rw [show i2 + 1 + 1 - 1 = i2 + 1 by omega, show i2 + 1 + 1 - 2 = i2 by omega, HTY.out, HTX.out, HTZ.out, HM2.out, HG2.out, decide_eq_false HZ1.out]
                        simp
                      rw [e]; rfl⟩
                    clear hg2 hsz3 hz1'
                    go_quiet (fail)
                    go_upto_region 17 with (fail)
                    have b0 : (w2.drewN nq).cell? ⟨h1, 0, none⟩ = some (.int .i64 tx.f0) := (blk_cell (hr2.keep (pw_below_drewN (Below.refl _ _) nq)).bx 0).trans rfl
                    have b1 : (w2.drewN nq).cell? ⟨h1, 1, none⟩ = some (.string tx.f1) := (blk_cell (hr2.keep (pw_below_drewN (Below.refl _ _) nq)).bx 1).trans rfl
                    have b2 : (w2.drewN nq).cell? ⟨h1, 2, none⟩ = some (.bool tx.f2) := (blk_cell (hr2.keep (pw_below_drewN (Below.refl _ _) nq)).bx 2).trans rfl
                    have b3 : (w2.drewN nq).cell? ⟨h1, 3, none⟩ = some (.int .i64 tx.f3) := (blk_cell (hr2.keep (pw_below_drewN (Below.refl _ _) nq)).bx 3).trans rfl
                    have b4 : (w2.drewN nq).cell? ⟨h1, 4, none⟩ = some (.int .i64 tx.f4) := (blk_cell (hr2.keep (pw_below_drewN (Below.refl _ _) nq)).bx 4).trans rfl
                    have b5 : (w2.drewN nq).cell? ⟨h1, 5, none⟩ = some (.int .i64 tx.f5) := (blk_cell (hr2.keep (pw_below_drewN (Below.refl _ _) nq)).bx 5).trans rfl
                    have HSPW := Lib.hid (scan_spelled.calls tx.f0 tx.f1 tx.f2 tx.f3 tx.f4 tx.f5 _ (w2.drewN nq) (HTB.out _ (hr2.keep (pw_below_drewN (Below.refl _ _) nq)).bl) (sp_f tx (by omega)))
                    go_wp2_with (first | (go_at_call 113; with_reducible refine HSPW.out.mono ?_; rintro e v5 ⟨rfl, hv5⟩; have hr5 := (hr2.keep (pw_below_drewN (Below.refl _ _) nq)).keep hv5) | (go_at_call 112; with_reducible refine (hr5.ws (strOfNums (spN tx)) (by first | omega | (simp only [List.length_append, List.length_cons, List.length_nil]; omega))).mono ?_; rintro e v6 ⟨⟨nn, rfl⟩, hr6⟩))
                    go_roundg (n - (i2 + 1 + 1 + 1))
                    case measure => omega
                    case rel => exact ⟨i2 + 1 + 1 + 1, first, by omega, by omega, rfl, by go_num, by omega, ⟨hr6.bl⟩, ⟨by rw [HHW.out, HG.out]; have := hr6.bd; rw [HSB.out] at this; simpa using this⟩, ⟨by rw [HHW.out]⟩⟩
              · obtain ⟨qz, hqz⟩ : ∃ qz : Int, (j : Int) + 1 - 2 = qz := ⟨_, rfl⟩
                have hw5 : IntKind.i64.wrap ((j : Int) + 1 - 2) = qz := by rw [w64 _ (by omega) (by omega)]; omega
                have hge : decide ((first : Int) ≤ qz) = false := decide_eq_false (by omega)
                clear hqz
                have HI := Aside0.mk hi
                have HG : Aside0 (gapN l0 (j + 1) first = []) := ⟨by
                  unfold gapN
                  rw [if_neg HKF.out, HTX.out, HGP.out, if_neg Bool.false_ne_true]
                  have e : sepB l0 (j + 1) first = false := by
                    unfold sepB
                    rw [show j + 1 - 1 = j by omega, HTY.out, HTX.out, HM2.out, decide_eq_false HI.out]
                    rfl
                  rw [e]; rfl⟩
                clear hi hk2
                go_quiet (fail)
                go_upto_region 17 with (fail)
                have b0 : (w2.drewN nq).cell? ⟨h1, 0, none⟩ = some (.int .i64 tx.f0) := (blk_cell (hr2.keep (pw_below_drewN (Below.refl _ _) nq)).bx 0).trans rfl
                have b1 : (w2.drewN nq).cell? ⟨h1, 1, none⟩ = some (.string tx.f1) := (blk_cell (hr2.keep (pw_below_drewN (Below.refl _ _) nq)).bx 1).trans rfl
                have b2 : (w2.drewN nq).cell? ⟨h1, 2, none⟩ = some (.bool tx.f2) := (blk_cell (hr2.keep (pw_below_drewN (Below.refl _ _) nq)).bx 2).trans rfl
                have b3 : (w2.drewN nq).cell? ⟨h1, 3, none⟩ = some (.int .i64 tx.f3) := (blk_cell (hr2.keep (pw_below_drewN (Below.refl _ _) nq)).bx 3).trans rfl
                have b4 : (w2.drewN nq).cell? ⟨h1, 4, none⟩ = some (.int .i64 tx.f4) := (blk_cell (hr2.keep (pw_below_drewN (Below.refl _ _) nq)).bx 4).trans rfl
                have b5 : (w2.drewN nq).cell? ⟨h1, 5, none⟩ = some (.int .i64 tx.f5) := (blk_cell (hr2.keep (pw_below_drewN (Below.refl _ _) nq)).bx 5).trans rfl
                have HSPW := Lib.hid (scan_spelled.calls tx.f0 tx.f1 tx.f2 tx.f3 tx.f4 tx.f5 _ (w2.drewN nq) (HTB.out _ (hr2.keep (pw_below_drewN (Below.refl _ _) nq)).bl) (sp_f tx (by omega)))
                go_wp2_with (first | (go_at_call 113; with_reducible refine HSPW.out.mono ?_; rintro e v5 ⟨rfl, hv5⟩; have hr5 := (hr2.keep (pw_below_drewN (Below.refl _ _) nq)).keep hv5) | (go_at_call 112; with_reducible refine (hr5.ws (strOfNums (spN tx)) (by first | omega | (simp only [List.length_append, List.length_cons, List.length_nil]; omega))).mono ?_; rintro e v6 ⟨⟨nn, rfl⟩, hr6⟩))
                go_roundg (n - (j + 1 + 1))
                case measure => omega
                case rel => exact ⟨j + 1 + 1, first, by omega, by omega, rfl, by go_num, by omega, ⟨hr6.bl⟩, ⟨by rw [HHW.out, HG.out]; have := hr6.bd; rw [HSB.out] at this; simpa using this⟩, ⟨by rw [HHW.out]⟩⟩
    · have hltz : ¬ (kk : Int) < (n : Int) := by omega
      have hkn : n = kk := by omega
      have hwr : writtenN l0 = out := by
        unfold writtenN
        rw [HL0.out, hkn]; exact HOUT.out
      have HWR := Aside0.mk hwr
      have hst := bld_String H H out wr HBD.out HOB.out (by have := HB.out.size; have := HH.out; omega)
      have HST := Lib.hid hst
      clear hst hwr hkn
      go_wp2_with (go_at_call 107; refine HST.out.mono ?_; rintro e w2 ⟨rfl, _, hb2⟩)
      refine bodyPost_ret (results_tmp rfl _ _ _) rfl ?_
      exact ⟨by rw [HWR.out]; rfl, by rw [HH.out]; exact HB.out.trans hb2⟩
/-- What Write returns. -/
def scan_Write.f (l0 : List S53) : Option (ByteArray × Int) :=
  if l0.length ≤ 10000 ∧ szL l0 ≤ 20000 then
    (if (S.scan (writtenN l0)).err.isSome = true ∨ eqF sameB ((S.tokens (writtenN l0)).map toS) l0 = false then some (⟨#[]⟩, 2)
    else if 20000 < (writtenN l0).length then some (⟨#[]⟩, 3) else some (strOfNums (writtenN l0), 0))
  else none
end Go.Proofs.YtkkpjonfaflkmaaGreatDoor.T

/- scan.Write. -/
namespace Go.Proofs.YtkkpjonfaflkmaaGreatDoor.T
set_option linter.unusedSimpArgs false
set_option linter.unusedVariables false
open Go.RowKit Go.Maps Go.Proofs.YtkkpjonfaflkmaaGreatDoorW.PrintWords Go.Proofs.YtkkpjonfaflkmaaGreatDoorW.PrintLast Go.Proofs.YtkkpjonfaflkmaaGreatDoorW.PrintMore
attribute [local go_sem] Oper.semAt_some

set_option maxRecDepth 100000 in
set_option maxHeartbeats 4000000 in
theorem scan_Write.calls (A0 : Option Addr) (c0 : Nat) (l0 : List S53) (r1 : ByteArray) (r2 : Int) (w : World) (hT : TabOK w) (hr0 : Kd.C k53 w A0 l0.length l0) (hc0 : l0.length ≤ c0) (h : scan_Write.f l0 = some (r1, r2)) :
    Calls Tryz.prog 35 #[.slice A0 l0.length c0] w fun e w' => e = .returned (.tuple #[.string r1, .int .i64 r2]) ∧ Below w.heap.size w w' := by
  unfold scan_Write.f at h
  by_cases hg : l0.length ≤ 10000 ∧ szL l0 ≤ 20000
  · rw [if_pos hg] at h
    obtain ⟨hg1, hg2⟩ := hg
    have hwc := scan_written.calls A0 c0 l0 w hT hr0 hc0 hg1 hg2
    have hwf := wrN_facts l0 l0.length (Nat.le_refl _)
    rw [List.take_length] at hwf
    obtain ⟨out, hout⟩ : ∃ out, writtenN l0 = out := ⟨_, rfl⟩
    rw [show (wrN l0 l0.length).2 = out from hout] at hwf
    rw [hout] at hwc h
    obtain ⟨src, hsrc⟩ : ∃ src, strOfNums out = src := ⟨_, rfl⟩
    have hsb : bytesOf src = out := by rw [← hsrc]; exact bytesOf_str _ hwf.2.2
    have hss : src.size = out.length := by rw [← hsb, bytesOf_length]
    have hsz : src.size ≤ 100000 := by have := hwf.2.1; omega
    rw [hsrc] at hwc h
    have htk := fun W hW => scan_tokens_m.calls src W hsz hW
    rw [hsb] at htk
    obtain ⟨toks, htoks⟩ : ∃ toks, S.tokens out = toks := ⟨_, rfl⟩
    obtain ⟨er, her⟩ : ∃ er, (S.scan out).err = er := ⟨_, rfl⟩
    rw [htoks, her, errV_eq] at htk
    rw [htoks, her, ← hss] at h
    obtain ⟨ec, hec⟩ : ∃ ec, errC er = ec := ⟨_, rfl⟩
    obtain ⟨el, hel⟩ : ∃ el, errL er = el := ⟨_, rfl⟩
    rw [hec, hel] at htk
    have HEC : Aside0 (ec = 0 ↔ er = none) := ⟨by
      rw [← hec]
      cases er with
      | none => exact ⟨fun _ => rfl, fun _ => rfl⟩
      | some p =>
        have := S.scan_err (c := p.1) (ln := p.2) her
        constructor
        · intro e
          exact absurd (Int.ofNat_eq_zero.1 e) this
        · intro e; cases e⟩
    have HTLEN : Aside0 (toks.length ≤ 300000) := ⟨by
      rw [← htoks]
      have h1 := S.tokens_length (xs := out) hwf.2.2
      omega⟩
    have HT := Aside0.mk hT
    have HWC := Lib.hid hwc
    have HTK := Lib.hid htk
    have H := Aside0.mk h
    have HR0 := Aside0.mk hr0
    obtain ⟨n, hn⟩ : ∃ n, l0.length = n := ⟨_, rfl⟩
    have HL0 := Aside0.mk hn
    rw [hn] at HWC HR0 hc0 hg1 ⊢
    obtain ⟨ss, hss2⟩ : ∃ ss, src.size = ss := ⟨_, rfl⟩
    clear hwc htk h hec hel htoks her hsb hwf hss hsrc hout hg2 hT hr0 hn hsz
    go_enter Tryz.func35, Tryz.ntmps35
    go_upto_region 3 with (first | (go_at_call 72; refine HWC.out.mono ?_; rintro e w2 ⟨rfl, hb2⟩) | (go_at_call 51; refine (HTK.out _ (HT.out.of_below hb2)).mono ?_; rintro e w3 ⟨v, rfl, hown, hb3⟩))
    obtain ⟨A, N, cap, rfl, hN⟩ : ∃ A cn cap, v = .slice A cn cap ∧ toks.length = cn := by
      rcases hown.2 with ⟨rfl, e2⟩ | ⟨g, cap, cs, rfl, _⟩
      · exact ⟨_, _, _, rfl, e2⟩
      · exact ⟨_, _, _, rfl, rfl⟩
    have hn4 := heap_alloc_new w3 (.cells #[.int .i64 ec, .int .i64 el] 76)
    have ho4 := own_but hown ((But.refl (fun _ => False) w3).alloc (.cells #[.int .i64 ec, .int .i64 el] 76)) (fun _ e => e.elim)
    have hb4 : Below w.heap.size w (w3.alloc (.cells #[.int .i64 ec, .int .i64 el] 76)) := below_alloc (hb2.trans (hb3.mono hb2.size)) _
    obtain ⟨fb, hfb⟩ : ∃ fb, w3.heap.size = fb := ⟨_, rfl⟩
    rw [hfb] at hn4 ⊢
    clear hown hb2 hb3 hfb
    generalize w3.alloc (.cells #[.int .i64 ec, .int .i64 el] 76) = W4 at *
    obtain ⟨hxx, hNc, hC4⟩ := tks_C ho4
    clear hxx
    have hsc := fun r hr => scan_Same.calls A cap (toks.map toS) A0 c0 l0 r W4 hC4 (by rw [List.length_map, hN]; exact hNc) (by rw [HL0.out]; exact Kd.C_below HR0.out hb4) (by rw [HL0.out]; exact hc0) hr
    rw [List.length_map, hN, HL0.out] at hsc
    have hsf : scan_Same.f (toks.map toS) l0 = some (eqF sameB (toks.map toS) l0) := by
      unfold scan_Same.f
      rw [if_pos (by rw [List.length_map]; have := HTLEN.out; omega)]
    have HSC := Lib.hid (hsc _ hsf)
    have HB4 := Aside0.mk hb4
    have hf0 : W4.cell? ⟨fb, 0, none⟩ = some (.int .i64 ec) := (blk_cell hn4 0).trans rfl
    clear hsc hsf hb4 hn4 ho4 hC4 hN hNc
    obtain ⟨sm, hsm⟩ : ∃ sm, eqF sameB (toks.map toS) l0 = sm := ⟨_, rfl⟩
    rw [hsm] at HSC H
    clear hsm
    by_cases he0 : ec = 0
    · have hen : er = none := HEC.out.1 he0
      rw [hen] at H
      have g1 : (ec != 0) = false := bne_eq_false_iff_eq.2 he0
      cases sm with
      | false =>
        have h := H.out
        rw [if_pos (.inr rfl)] at h
        simp only [Option.some.injEq, Prod.mk.injEq] at h
        obtain ⟨rfl, rfl⟩ := h
        clear he0 hen
        go_wp2_with (go_at_call 37; refine HSC.out.mono ?_; rintro e w5 ⟨rfl, hb5⟩)
        refine bodyPost_ret (results_tmp2 rfl _ _ _) rfl ?_
        exact ⟨rfl, HB4.out.trans (hb5.mono HB4.out.size)⟩
      | true =>
        have h := H.out
        rw [if_neg (by rintro (e | e) <;> cases e)] at h
        rw [hss2] at h
        by_cases hbig : 20000 < ss
        · rw [if_pos hbig] at h
          simp only [Option.some.injEq, Prod.mk.injEq] at h
          obtain ⟨rfl, rfl⟩ := h
          have g2 : decide ((20000 : Int) < (ss : Int)) = true := decide_eq_true (by omega)
          have g3 : decide (20000 < ss) = true := decide_eq_true hbig
          clear he0 hen hbig
          go_wp2_with (go_at_call 37; refine HSC.out.mono ?_; rintro e w5 ⟨rfl, hb5⟩)
          refine bodyPost_ret (results_tmp2 rfl _ _ _) rfl ?_
          exact ⟨rfl, HB4.out.trans (hb5.mono HB4.out.size)⟩
        · rw [if_neg hbig] at h
          simp only [Option.some.injEq, Prod.mk.injEq] at h
          obtain ⟨rfl, rfl⟩ := h
          have g2 : decide ((20000 : Int) < (ss : Int)) = false := decide_eq_false (by omega)
          have g3 : decide (20000 < ss) = false := decide_eq_false hbig
          clear he0 hen hbig
          go_wp2_with (go_at_call 37; refine HSC.out.mono ?_; rintro e w5 ⟨rfl, hb5⟩)
          refine bodyPost_ret (results_tmp2 rfl _ _ _) rfl ?_
          exact ⟨rfl, HB4.out.trans (hb5.mono HB4.out.size)⟩
    · have hi : er.isSome = true := by
        cases er with
        | none => exact absurd (HEC.out.2 rfl) he0
        | some _ => rfl
      have h := H.out
      rw [if_pos (.inl hi)] at h
      simp only [Option.some.injEq, Prod.mk.injEq] at h
      obtain ⟨rfl, rfl⟩ := h
      have g1 : (ec != 0) = true := bne_iff_ne.2 he0
      clear he0 hi
      go_wp2_with fail
      refine bodyPost_ret (results_tmp2 rfl _ _ _) rfl ?_
      exact ⟨rfl, HB4.out⟩
  · rw [if_neg hg] at h; cases h
end Go.Proofs.YtkkpjonfaflkmaaGreatDoor.T
