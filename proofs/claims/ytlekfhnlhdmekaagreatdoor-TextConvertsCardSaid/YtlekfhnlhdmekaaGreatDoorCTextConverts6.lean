/- Part 6 of the proof of TextConverts: the functions that it calls return what their plain descriptions say. -/
import Derived.Test.YtlekfhnlhdmekaaGreatDoorCTextConverts2
import Derived.Test.YtlekfhnlhdmekaaGreatDoorCTextConverts5
import Derived.Test.YtlekfhnlhdmekaaGreatDoorCTextConverts3
import Derived.Lib.SpaceUEq
import Derived.Test.YtlekfhnlhdmekaaGreatDoorCTextConverts4

-- Written by a program of this session (mp.py over the kit's print.py), out of the translation.
namespace Go.Proofs.YtlekfhnlhdmekaaGreatDoor.T
set_option linter.unusedSimpArgs false
open Go.RowKit Go.Proofs.YtlekfhnlhdmekaaGreatDoorW.PrintWords Go.Proofs.YtlekfhnlhdmekaaGreatDoorW.PrintLast Go.Proofs.YtlekfhnlhdmekaaGreatDoorW.PrintMore
attribute [local go_sem] max2_int min2_int max_two min_two max_three min_three max_four min_four   -- for this text's walks alone
set_option linter.unusedVariables false
set_option linter.unusedSimpArgs false

/-! ### qanatref02_digit: function 160 -/
mutual
def qanatref02_digit.j0 : Nat → Int → Int → Bool → Option (Int)
  | 0, _, _, _ => none
  | k + 1, x0, x1, x11 => if x11 = true then (qanatref02_digit.j1 k ((x0 - 32) % 256) x1) else (qanatref02_digit.j1 k x0 x1)
def qanatref02_digit.j1 : Nat → Int → Int → Option (Int)
  | 0, _, _ => none
  | k + 1, x0, x1 => qanatref02_digit.l0 k x0 x1 0
def qanatref02_digit.l0 : Nat → Int → Int → Int → Option (Int)
  | 0, _, _, _ => none
  | k + 1, x0, x1, x5 => if x5 < x1 then (if 0 ≤ x5 then (if x5 < 16 then (if (bt (⟨#[48, 49, 50, 51, 52, 53, 54, 55, 56, 57, 65, 66, 67, 68, 69, 70]⟩ : ByteArray) x5) = x0 then (some x5) else (qanatref02_digit.l0 k x0 x1 (wrap64 (x5 + 1)))) else (none)) else (none)) else (some (-1))
end
def qanatref02_digit.f (k : Nat) (a0 : Int) (a1 : Int) : Option (Int) := if a0 ≥ 97 then (qanatref02_digit.j0 k a0 a1 (decide (a0 ≤ 102))) else (qanatref02_digit.j0 k a0 a1 false)
theorem qanatref02_digit.mono_l : ∀ k, (∀ y0 y1 y2, LeO (qanatref02_digit.j0 k y0 y1 y2) (qanatref02_digit.j0 (k + 1) y0 y1 y2)) ∧ (∀ y0 y1, LeO (qanatref02_digit.j1 k y0 y1) (qanatref02_digit.j1 (k + 1) y0 y1)) ∧ (∀ y0 y1 y2, LeO (qanatref02_digit.l0 k y0 y1 y2) (qanatref02_digit.l0 (k + 1) y0 y1 y2))
  | 0 => ⟨fun _ _ _ r h => by simp [qanatref02_digit.j0] at h, fun _ _ r h => by simp [qanatref02_digit.j1] at h, fun _ _ _ r h => by simp [qanatref02_digit.l0] at h⟩
  | k + 1 => by
    obtain ⟨ih0, ih1, ih2⟩ := qanatref02_digit.mono_l k
    refine ⟨?_, ?_, ?_⟩
    · intro y0 y1 y2
      unfold qanatref02_digit.j0
      repeat' first
      | (with_reducible exact ih0 _ _ _)
      | (with_reducible exact ih1 _ _)
      | (with_reducible exact ih2 _ _ _)
      | (with_reducible exact LeO.refl _)
      | (with_reducible exact LeO.none _)
      | (with_reducible refine LeO.ite ?_ ?_)
      | (with_reducible refine LeO.bind ?_ (fun _ => ?_))
      | exact ih0 _ _ _
      | exact ih1 _ _
      | exact ih2 _ _ _
      | exact LeO.none _
      | refine LeO.ite ?_ ?_
      | refine LeO.bind ?_ (fun _ => ?_)
    · intro y0 y1
      unfold qanatref02_digit.j1
      repeat' first
      | (with_reducible exact ih0 _ _ _)
      | (with_reducible exact ih1 _ _)
      | (with_reducible exact ih2 _ _ _)
      | (with_reducible exact LeO.refl _)
      | (with_reducible exact LeO.none _)
      | (with_reducible refine LeO.ite ?_ ?_)
      | (with_reducible refine LeO.bind ?_ (fun _ => ?_))
      | exact ih0 _ _ _
      | exact ih1 _ _
      | exact ih2 _ _ _
      | exact LeO.none _
      | refine LeO.ite ?_ ?_
      | refine LeO.bind ?_ (fun _ => ?_)
    · intro y0 y1 y2
      unfold qanatref02_digit.l0
      repeat' first
      | (with_reducible exact ih0 _ _ _)
      | (with_reducible exact ih1 _ _)
      | (with_reducible exact ih2 _ _ _)
      | (with_reducible exact LeO.refl _)
      | (with_reducible exact LeO.none _)
      | (with_reducible refine LeO.ite ?_ ?_)
      | (with_reducible refine LeO.bind ?_ (fun _ => ?_))
      | exact ih0 _ _ _
      | exact ih1 _ _
      | exact ih2 _ _ _
      | exact LeO.none _
      | refine LeO.ite ?_ ?_
      | refine LeO.bind ?_ (fun _ => ?_)
theorem qanatref02_digit.mono : ∀ a0 a1 k, LeO (qanatref02_digit.f k a0 a1) (qanatref02_digit.f (k + 1) a0 a1) := by
  intro a0 a1 k
  obtain ⟨ih0, ih1, ih2⟩ := qanatref02_digit.mono_l k
  unfold qanatref02_digit.f
  repeat' first
      | (with_reducible exact ih0 _ _ _)
      | (with_reducible exact ih1 _ _)
      | (with_reducible exact ih2 _ _ _)
      | (with_reducible exact LeO.refl _)
      | (with_reducible exact LeO.none _)
      | (with_reducible refine LeO.ite ?_ ?_)
      | (with_reducible refine LeO.bind ?_ (fun _ => ?_))
      | exact ih0 _ _ _
      | exact ih1 _ _
      | exact ih2 _ _ _
      | exact LeO.none _
      | refine LeO.ite ?_ ?_
      | refine LeO.bind ?_ (fun _ => ?_)
set_option maxHeartbeats 8000000 in
set_option maxRecDepth 100000 in
theorem qanatref02_digit.calls (k : Nat) (a0 : Int) (a1 : Int) (r : Int) (w : World) (h : qanatref02_digit.f k a0 a1 = some r) :
    Calls Tryz.prog 160 #[.int .u8 a0, .int .i64 a1] w fun e w' => e = .returned (.int .i64 r) ∧ Drawn0 w w' := by
  have H : (if a0 ≥ 97 then (qanatref02_digit.j0 k a0 a1 (decide (a0 ≤ 102))) else (qanatref02_digit.j0 k a0 a1 false)) = some r := h
  clear h
  have HC3 := Aside0.mk H
  clear H
  go_enter Tryz.func160, Tryz.ntmps160
  go_upto_region 1 with (fail)
  go_cut [11] (fun v11 wc => ∃ (kq : Nat) (x11_2 : Bool), v11 = .bool x11_2 ∧ Aside0 (qanatref02_digit.j0 kq a0 a1 x11_2 = some r) ∧ Aside0 (kq ≤ k) ∧ Drawn0 w wc)
  case first =>
    have H := HC3.out
    clear HC3
    by_cases c4 : a0 ≥ 97
    · rw [if_pos c4] at H
      have c4b0 : decide (97 ≤ a0) = true := decide_eq_true c4
      clear c4
      (first | rw [c4b0] | (simp only [i64_w, i32_w]; rw [c4b0]) | skip)
      have H' := Aside0.mk H
      clear H
      go_wp2
      go_meet
      case rel => exact ⟨_, (decide (a0 ≤ 102)), (by first | rfl | (simp; done) | (simp [*]; done)), H', ⟨by first | omega | exact Nat.le_refl _⟩, by repeat (first | exact Drawn0.refl _ | apply Drawn0.step)⟩
    · rw [if_neg c4] at H
      have c4b0 : decide (97 ≤ a0) = false := decide_eq_false c4
      clear c4
      (first | rw [c4b0] | (simp only [i64_w, i32_w]; rw [c4b0]) | skip)
      have H' := Aside0.mk H
      clear H
      go_wp2
      go_meet
      case rel => exact ⟨_, (false), (by first | rfl | (simp; done) | (simp [*]; done)), H', ⟨by first | omega | exact Nat.le_refl _⟩, by repeat (first | exact Drawn0.refl _ | apply Drawn0.step)⟩
  case rest =>
    clear HC3
    try clear c1
    try clear p2
    try clear c4
    try clear c4b0
    obtain ⟨kq, x11_2, rfl, HA, HJ2, ⟨mc2, rfl⟩⟩ := hcut
    cases kq with
    | zero => exact absurd HA.out (by simp [qanatref02_digit.j0])
    | succ kj2 =>
      have H := HA.out
      clear HA
      simp only [qanatref02_digit.j0] at H
      have HC5 := Aside0.mk H
      clear H
      go_upto_if 11 with (fail)
      go_cut [0] (fun v0 wc => ∃ (kq : Nat) (x0_4 : Int), v0 = .int .u8 x0_4 ∧ Aside0 (qanatref02_digit.j1 kq x0_4 a1 = some r) ∧ Aside0 (kq ≤ kj2) ∧ Drawn0 w wc)
      case first =>
        have H := HC5.out
        clear HC5
        by_cases c6 : x11_2 = true
        · subst c6
          have H1 : (qanatref02_digit.j1 kj2 ((a0 - 32) % 256) a1) = some r := by rw [if_pos rfl] at H; exact H
          clear H
          have H := H1
          clear H1
          have H' := Aside0.mk H
          clear H
          go_wp2
          go_meet
          case rel => exact ⟨_, ((a0 - 32) % 256), (by first | rfl | (simp; done) | (simp [*]; done)), H', ⟨by have := HJ2.out; first | omega | exact Nat.le_refl _⟩, by repeat (first | exact Drawn0.refl _ | apply Drawn0.step)⟩
        · replace c6 := Bool.eq_false_iff.mpr c6
          subst c6
          have H1 : (qanatref02_digit.j1 kj2 a0 a1) = some r := by rw [if_neg (show ¬ (false = true) by decide)] at H; exact H
          clear H
          have H := H1
          clear H1
          have H' := Aside0.mk H
          clear H
          go_wp2
          go_meet
          case rel => exact ⟨_, (a0), (by first | rfl | (simp; done) | (simp [*]; done)), H', ⟨by have := HJ2.out; first | omega | exact Nat.le_refl _⟩, by repeat (first | exact Drawn0.refl _ | apply Drawn0.step)⟩
      case rest =>
        clear HC5
        try clear c1
        try clear c2
        try clear p2
        try clear c4
        try clear c4b0
        try clear c6
        try clear p2
        obtain ⟨kq, x0_4, rfl, HA, HJ4, ⟨mc4, rfl⟩⟩ := hcut
        cases kq with
        | zero => exact absurd HA.out (by simp [qanatref02_digit.j1])
        | succ kj4 =>
          have H := HA.out
          clear HA
          simp only [qanatref02_digit.j1] at H
          have H' := Aside0.mk H
          clear H
          go_wp2
          go_loopg [5] kj4 (fun kq v5 w' => ∃ (x5_3 : Int), v5 = .int .i64 x5_3 ∧ Aside0 (qanatref02_digit.l0 kq x0_4 a1 x5_3 = some r) ∧ Aside0 (kq ≤ kj4) ∧ Drawn0 w w')
          case atStart => exact ⟨(0), (by first | rfl | (simp; done) | (simp [*]; done)), H', ⟨Nat.le_refl _⟩, by repeat (first | exact Drawn0.refl _ | apply Drawn0.step)⟩
          case round =>
            clear H'
            try clear c1
            try clear c2
            try clear p2
            try clear c4
            try clear c4b0
            try clear c6
            try clear p2
            obtain ⟨x5_3, rfl, HA, HK3, ⟨m3, rfl⟩⟩ := hrel
            cases gk with
            | zero => exact absurd HA.out (by simp [qanatref02_digit.l0])
            | succ k3 =>
              have H := HA.out
              clear HA
              simp only [qanatref02_digit.l0] at H
              by_cases c7 : x5_3 < a1
              · rw [if_pos c7] at H
                have c7b0 : decide (x5_3 < a1) = true := decide_eq_true c7
                clear c7
                by_cases c8 : 0 ≤ x5_3
                · rw [if_pos c8] at H
                  have c8b0 : decide (0 ≤ x5_3) = true := decide_eq_true c8
                  clear c8
                  by_cases c9 : x5_3 < 16
                  · rw [if_pos c9] at H
                    have c9b0 : decide (x5_3 < 16) = true := decide_eq_true c9
                    clear c9
                    by_cases c11 : (bt (⟨#[48, 49, 50, 51, 52, 53, 54, 55, 56, 57, 65, 66, 67, 68, 69, 70]⟩ : ByteArray) x5_3) = x0_4
                    · rw [if_pos c11] at H
                      have c11b0 : ((bt (⟨#[48, 49, 50, 51, 52, 53, 54, 55, 56, 57, 65, 66, 67, 68, 69, 70]⟩ : ByteArray) x5_3) == x0_4) = true := beq_iff_eq.mpr c11
                      have c11b1 : ((bt (⟨#[48, 49, 50, 51, 52, 53, 54, 55, 56, 57, 65, 66, 67, 68, 69, 70]⟩ : ByteArray) x5_3) != x0_4) = false := bne_eq_false_iff_eq.mpr c11
                      clear c11
                      obtain rfl := Option.some.inj H
                      have p10 : 0 ≤ (x5_3 : Int) := of_decide_eq_true (by first | (with_reducible assumption) | assumption)
                      have q10 : x5_3 < (16 : Int) := of_decide_eq_true (by first | (with_reducible assumption) | assumption)
                      have hx10 := bt_at (⟨#[48, 49, 50, 51, 52, 53, 54, 55, 56, 57, 65, 66, 67, 68, 69, 70]⟩ : ByteArray) x5_3
                      replace p10 := eq_true p10
                      replace q10 := eq_true q10
                      go_wp2
                      go_ret
                      exact ⟨by first | rfl | (simp; done) | (simp [*]; done), by repeat (first | exact Drawn0.refl _ | apply Drawn0.step)⟩
                    · rw [if_neg c11] at H
                      have c11b0 : ((bt (⟨#[48, 49, 50, 51, 52, 53, 54, 55, 56, 57, 65, 66, 67, 68, 69, 70]⟩ : ByteArray) x5_3) == x0_4) = false := beq_eq_false_iff_ne.mpr c11
                      have c11b1 : ((bt (⟨#[48, 49, 50, 51, 52, 53, 54, 55, 56, 57, 65, 66, 67, 68, 69, 70]⟩ : ByteArray) x5_3) != x0_4) = true := bne_iff_ne.mpr c11
                      have H' := Aside0.mk H
                      clear H
                      have p10 : 0 ≤ (x5_3 : Int) := of_decide_eq_true (by first | (with_reducible assumption) | assumption)
                      have q10 : x5_3 < (16 : Int) := of_decide_eq_true (by first | (with_reducible assumption) | assumption)
                      have hx10 := bt_at (⟨#[48, 49, 50, 51, 52, 53, 54, 55, 56, 57, 65, 66, 67, 68, 69, 70]⟩ : ByteArray) x5_3
                      replace p10 := eq_true p10
                      replace q10 := eq_true q10
                      go_wp2
                      go_roundg k3
                      case measure => have := HJ2.out; have := HJ4.out; have := HK3.out; omega
                      case rel => exact ⟨(wrap64 (x5_3 + 1)), (by first | rfl | (simp; done) | (simp [*]; done)), H', ⟨by have := HJ2.out; have := HJ4.out; have := HK3.out; omega⟩, by repeat (first | exact Drawn0.refl _ | apply Drawn0.step)⟩
                  · rw [if_neg c9] at H
                    exact absurd H (by simp)
                · rw [if_neg c8] at H
                  exact absurd H (by simp)
              · rw [if_neg c7] at H
                have c7b0 : decide (x5_3 < a1) = false := decide_eq_false c7
                clear c7
                obtain rfl := Option.some.inj H
                go_wp2
                go_ret
                exact ⟨by first | rfl | (simp; done) | (simp [*]; done), by repeat (first | exact Drawn0.refl _ | apply Drawn0.step)⟩

end Go.Proofs.YtlekfhnlhdmekaaGreatDoor.T

-- Written by a program of this session (mp.py over the kit's print.py), out of the translation.
namespace Go.Proofs.YtlekfhnlhdmekaaGreatDoor.T
set_option linter.unusedSimpArgs false
open Go.RowKit Go.Proofs.YtlekfhnlhdmekaaGreatDoorW.PrintWords Go.Proofs.YtlekfhnlhdmekaaGreatDoorW.PrintLast Go.Proofs.YtlekfhnlhdmekaaGreatDoorW.PrintMore
attribute [local go_sem] max2_int min2_int max_two min_two max_three min_three max_four min_four   -- for this text's walks alone
set_option linter.unusedVariables false
set_option linter.unusedSimpArgs false

/-! ### qanatref02_digits: function 133 -/
mutual
def qanatref02_digits.j0 : Nat → ByteArray → Int → Int → List Int → List (S113) → Bool → Option (List Int × Bool)
  | 0, _, _, _, _, _, _ => none
  | k + 1, x0, x1, x2, x8, x9, x31 => if x31 = true then (some (([] : List Int), false)) else (qanatref02_digits.l0 k x0 x1 x2 x8 x9 0)
def qanatref02_digits.l0 : Nat → ByteArray → Int → Int → List Int → List (S113) → Int → Option (List Int × Bool)
  | 0, _, _, _, _, _, _ => none
  | k + 1, x0, x1, x2, x8, x9, x10 => if x10 < (x9.length : Int) then (if 0 ≤ x10 then (if 0 ≤ ((rd_T113 x9 x10).f0) then (if ((rd_T113 x9 x10).f0) ≤ ((rd_T113 x9 x10).f1) then (if ((rd_T113 x9 x10).f1) ≤ (x0.size : Int) then (if x10 > 0 then (if x2 = 0 then (none) else (qanatref02_digits.j2 k x0 x1 x2 x8 x9 x10 (x0.extract (((rd_T113 x9 x10).f0) : Int).toNat (((rd_T113 x9 x10).f1) : Int).toNat) ((((x0.extract (((rd_T113 x9 x10).f0) : Int).toNat (((rd_T113 x9 x10).f1) : Int).toNat).size : Int) % x2) != 0))) else (qanatref02_digits.j2 k x0 x1 x2 x8 x9 x10 (x0.extract (((rd_T113 x9 x10).f0) : Int).toNat (((rd_T113 x9 x10).f1) : Int).toNat) false)) else (none)) else (none)) else (none)) else (none)) else (some (x8, true))
def qanatref02_digits.j2 : Nat → ByteArray → Int → Int → List Int → List (S113) → Int → ByteArray → Bool → Option (List Int × Bool)
  | 0, _, _, _, _, _, _, _, _ => none
  | k + 1, x0, x1, x2, x8, x9, x10, x11, x58 => if x58 = true then (some (([] : List Int), false)) else (qanatref02_digits.l1 k x0 x1 x2 x8 x9 x10 x11 0)
def qanatref02_digits.l1 : Nat → ByteArray → Int → Int → List Int → List (S113) → Int → ByteArray → Int → Option (List Int × Bool)
  | 0, _, _, _, _, _, _, _, _ => none
  | k + 1, x0, x1, x2, x8, x9, x10, x11, x12 => if x12 < (x11.size : Int) then (if 0 ≤ x12 then ((qanatref02_digit.f k (bt x11 x12) x1).bind fun t896 => (if t896 < 0 then (some (([] : List Int), false)) else (if x8.length < 17592186044416 then (qanatref02_digits.l1 k x0 x1 x2 (x8 ++ [t896]) x9 x10 x11 (wrap64 (x12 + 1))) else (none)))) else (none)) else (qanatref02_digits.l0 k x0 x1 x2 x8 x9 (wrap64 (x10 + 1)))
end
def qanatref02_digits.f (k : Nat) (a0 : ByteArray) (a1 : Int) (a2 : Int) : Option (List Int × Bool) := (qanatref02_Spans.f k a0).bind fun t891 => (if (a0.size : Int) > 0 then (if 0 < (a0.size : Int) then (if (bt a0 0) = 32 then (qanatref02_digits.j0 k a0 a1 a2 ([] : List Int) t891 true) else (if 0 ≤ (wrap64 ((a0.size : Int) - 1)) then (if (wrap64 ((a0.size : Int) - 1)) < (a0.size : Int) then (qanatref02_digits.j0 k a0 a1 a2 ([] : List Int) t891 ((bt a0 (wrap64 ((a0.size : Int) - 1))) == 32)) else (none)) else (none))) else (none)) else (qanatref02_digits.j0 k a0 a1 a2 ([] : List Int) t891 false))
theorem qanatref02_digits.mono_l : ∀ k, (∀ y0 y1 y2 y3 y4 y5, LeO (qanatref02_digits.j0 k y0 y1 y2 y3 y4 y5) (qanatref02_digits.j0 (k + 1) y0 y1 y2 y3 y4 y5)) ∧ (∀ y0 y1 y2 y3 y4 y5, LeO (qanatref02_digits.l0 k y0 y1 y2 y3 y4 y5) (qanatref02_digits.l0 (k + 1) y0 y1 y2 y3 y4 y5)) ∧ (∀ y0 y1 y2 y3 y4 y5 y6 y7, LeO (qanatref02_digits.j2 k y0 y1 y2 y3 y4 y5 y6 y7) (qanatref02_digits.j2 (k + 1) y0 y1 y2 y3 y4 y5 y6 y7)) ∧ (∀ y0 y1 y2 y3 y4 y5 y6 y7, LeO (qanatref02_digits.l1 k y0 y1 y2 y3 y4 y5 y6 y7) (qanatref02_digits.l1 (k + 1) y0 y1 y2 y3 y4 y5 y6 y7))
  | 0 => ⟨fun _ _ _ _ _ _ r h => by simp [qanatref02_digits.j0] at h, fun _ _ _ _ _ _ r h => by simp [qanatref02_digits.l0] at h, fun _ _ _ _ _ _ _ _ r h => by simp [qanatref02_digits.j2] at h, fun _ _ _ _ _ _ _ _ r h => by simp [qanatref02_digits.l1] at h⟩
  | k + 1 => by
    obtain ⟨ih0, ih1, ih2, ih3⟩ := qanatref02_digits.mono_l k
    refine ⟨?_, ?_, ?_, ?_⟩
    · intro y0 y1 y2 y3 y4 y5
      unfold qanatref02_digits.j0
      repeat' first
      | (with_reducible exact ih0 _ _ _ _ _ _)
      | (with_reducible exact ih1 _ _ _ _ _ _)
      | (with_reducible exact ih2 _ _ _ _ _ _ _ _)
      | (with_reducible exact ih3 _ _ _ _ _ _ _ _)
      | (with_reducible exact qanatref02_Spans.mono _ _)
      | (with_reducible exact qanatref02_digit.mono _ _ _)
      | (with_reducible exact LeO.refl _)
      | (with_reducible exact LeO.none _)
      | (with_reducible refine LeO.ite ?_ ?_)
      | (with_reducible refine LeO.bind ?_ (fun _ => ?_))
      | exact ih0 _ _ _ _ _ _
      | exact ih1 _ _ _ _ _ _
      | exact ih2 _ _ _ _ _ _ _ _
      | exact ih3 _ _ _ _ _ _ _ _
      | exact qanatref02_Spans.mono _ _
      | exact qanatref02_digit.mono _ _ _
      | exact LeO.none _
      | refine LeO.ite ?_ ?_
      | refine LeO.bind ?_ (fun _ => ?_)
    · intro y0 y1 y2 y3 y4 y5
      unfold qanatref02_digits.l0
      repeat' first
      | (with_reducible exact ih0 _ _ _ _ _ _)
      | (with_reducible exact ih1 _ _ _ _ _ _)
      | (with_reducible exact ih2 _ _ _ _ _ _ _ _)
      | (with_reducible exact ih3 _ _ _ _ _ _ _ _)
      | (with_reducible exact qanatref02_Spans.mono _ _)
      | (with_reducible exact qanatref02_digit.mono _ _ _)
      | (with_reducible exact LeO.refl _)
      | (with_reducible exact LeO.none _)
      | (with_reducible refine LeO.ite ?_ ?_)
      | (with_reducible refine LeO.bind ?_ (fun _ => ?_))
      | exact ih0 _ _ _ _ _ _
      | exact ih1 _ _ _ _ _ _
      | exact ih2 _ _ _ _ _ _ _ _
      | exact ih3 _ _ _ _ _ _ _ _
      | exact qanatref02_Spans.mono _ _
      | exact qanatref02_digit.mono _ _ _
      | exact LeO.none _
      | refine LeO.ite ?_ ?_
      | refine LeO.bind ?_ (fun _ => ?_)
    · intro y0 y1 y2 y3 y4 y5 y6 y7
      unfold qanatref02_digits.j2
      repeat' first
      | (with_reducible exact ih0 _ _ _ _ _ _)
      | (with_reducible exact ih1 _ _ _ _ _ _)
      | (with_reducible exact ih2 _ _ _ _ _ _ _ _)
      | (with_reducible exact ih3 _ _ _ _ _ _ _ _)
      | (with_reducible exact qanatref02_Spans.mono _ _)
      | (with_reducible exact qanatref02_digit.mono _ _ _)
      | (with_reducible exact LeO.refl _)
      | (with_reducible exact LeO.none _)
      | (with_reducible refine LeO.ite ?_ ?_)
      | (with_reducible refine LeO.bind ?_ (fun _ => ?_))
      | exact ih0 _ _ _ _ _ _
      | exact ih1 _ _ _ _ _ _
      | exact ih2 _ _ _ _ _ _ _ _
      | exact ih3 _ _ _ _ _ _ _ _
      | exact qanatref02_Spans.mono _ _
      | exact qanatref02_digit.mono _ _ _
      | exact LeO.none _
      | refine LeO.ite ?_ ?_
      | refine LeO.bind ?_ (fun _ => ?_)
    · intro y0 y1 y2 y3 y4 y5 y6 y7
      unfold qanatref02_digits.l1
      repeat' first
      | (with_reducible exact ih0 _ _ _ _ _ _)
      | (with_reducible exact ih1 _ _ _ _ _ _)
      | (with_reducible exact ih2 _ _ _ _ _ _ _ _)
      | (with_reducible exact ih3 _ _ _ _ _ _ _ _)
      | (with_reducible exact qanatref02_Spans.mono _ _)
      | (with_reducible exact qanatref02_digit.mono _ _ _)
      | (with_reducible exact LeO.refl _)
      | (with_reducible exact LeO.none _)
      | (with_reducible refine LeO.ite ?_ ?_)
      | (with_reducible refine LeO.bind ?_ (fun _ => ?_))
      | exact ih0 _ _ _ _ _ _
      | exact ih1 _ _ _ _ _ _
      | exact ih2 _ _ _ _ _ _ _ _
      | exact ih3 _ _ _ _ _ _ _ _
      | exact qanatref02_Spans.mono _ _
      | exact qanatref02_digit.mono _ _ _
      | exact LeO.none _
      | refine LeO.ite ?_ ?_
      | refine LeO.bind ?_ (fun _ => ?_)
theorem qanatref02_digits.mono : ∀ a0 a1 a2 k, LeO (qanatref02_digits.f k a0 a1 a2) (qanatref02_digits.f (k + 1) a0 a1 a2) := by
  intro a0 a1 a2 k
  obtain ⟨ih0, ih1, ih2, ih3⟩ := qanatref02_digits.mono_l k
  unfold qanatref02_digits.f
  repeat' first
      | (with_reducible exact ih0 _ _ _ _ _ _)
      | (with_reducible exact ih1 _ _ _ _ _ _)
      | (with_reducible exact ih2 _ _ _ _ _ _ _ _)
      | (with_reducible exact ih3 _ _ _ _ _ _ _ _)
      | (with_reducible exact qanatref02_Spans.mono _ _)
      | (with_reducible exact qanatref02_digit.mono _ _ _)
      | (with_reducible exact LeO.refl _)
      | (with_reducible exact LeO.none _)
      | (with_reducible refine LeO.ite ?_ ?_)
      | (with_reducible refine LeO.bind ?_ (fun _ => ?_))
      | exact ih0 _ _ _ _ _ _
      | exact ih1 _ _ _ _ _ _
      | exact ih2 _ _ _ _ _ _ _ _
      | exact ih3 _ _ _ _ _ _ _ _
      | exact qanatref02_Spans.mono _ _
      | exact qanatref02_digit.mono _ _ _
      | exact LeO.none _
      | refine LeO.ite ?_ ?_
      | refine LeO.bind ?_ (fun _ => ?_)
set_option maxHeartbeats 8000000 in
set_option maxRecDepth 100000 in
theorem qanatref02_digits.calls (k : Nat) (a0 : ByteArray) (a1 : Int) (a2 : Int) (r1 : List Int) (r2 : Bool) (w : World) (h : qanatref02_digits.f k a0 a1 a2 = some (r1, r2)) :
    Calls Tryz.prog 133 #[.string a0, .int .i64 a1, .int .i64 a2] w fun e w' => ∃ v0_ : Value, e = .returned (.tuple #[v0_, .bool r2]) ∧ Kd.R (Kd.int .i64) 3 w' w.heap.size (fun _ => True) v0_ r1 ∧ Below w.heap.size w w' := by
  have HB := Aside0.mk (Below.refl w.heap.size w)
  have H : ((qanatref02_Spans.f k a0).bind fun t891 => (if (a0.size : Int) > 0 then (if 0 < (a0.size : Int) then (if (bt a0 0) = 32 then (qanatref02_digits.j0 k a0 a1 a2 ([] : List Int) t891 true) else (if 0 ≤ (wrap64 ((a0.size : Int) - 1)) then (if (wrap64 ((a0.size : Int) - 1)) < (a0.size : Int) then (qanatref02_digits.j0 k a0 a1 a2 ([] : List Int) t891 ((bt a0 (wrap64 ((a0.size : Int) - 1))) == 32)) else (none)) else (none))) else (none)) else (qanatref02_digits.j0 k a0 a1 a2 ([] : List Int) t891 false))) = some (r1, r2) := h
  clear h
  replace H := Option.bind_eq_some_iff.mp H
  obtain ⟨t891, A40, H⟩ := H
  replace H : (if (a0.size : Int) > 0 then (if 0 < (a0.size : Int) then (if (bt a0 0) = 32 then (qanatref02_digits.j0 k a0 a1 a2 ([] : List Int) t891 true) else (if 0 ≤ (wrap64 ((a0.size : Int) - 1)) then (if (wrap64 ((a0.size : Int) - 1)) < (a0.size : Int) then (qanatref02_digits.j0 k a0 a1 a2 ([] : List Int) t891 ((bt a0 (wrap64 ((a0.size : Int) - 1))) == 32)) else (none)) else (none))) else (none)) else (qanatref02_digits.j0 k a0 a1 a2 ([] : List Int) t891 false)) = some (r1, r2) := H
  have A4 := Aside0.mk A40
  clear A40
  have HC5 := Aside0.mk H
  clear H
  go_enter Tryz.func133, Tryz.ntmps133
  go_upto_region 3 with (first | (go_at_call 110; (with_reducible refine (qanatref02_Spans.calls k a0 t891 _ A4.out).mono ?_); rintro e w6 ⟨v892, rfl, ho0, hb⟩; have n0_ := Aside0.mk (Kd.R_lower ho0 (below_size (by repeat (first | (with_reducible first | exact HB.out | apply below_alloc | apply pw_below_drewN | apply below_drew1) | exact HB.out)))); have n1_ := Aside0.mk (below_step (by repeat (first | (with_reducible first | exact HB.out | apply below_alloc | apply pw_below_drewN | apply below_drew1) | exact HB.out)) hb); clear HB; have HO893 := n0_; have HB := n1_; clear n0_ n1_; (try clear hb); (try clear hb2); (try clear hk); (try clear hi); (try clear ho0)))
  repeat (go_quiet (first | (go_at_call 110; (with_reducible refine (qanatref02_Spans.calls k a0 t891 _ A4.out).mono ?_); rintro e w6 ⟨v892, rfl, ho0, hb⟩; have n0_ := Aside0.mk (Kd.R_lower ho0 (below_size (by repeat (first | (with_reducible first | exact HB.out | apply below_alloc | apply pw_below_drewN | apply below_drew1) | exact HB.out)))); have n1_ := Aside0.mk (below_step (by repeat (first | (with_reducible first | exact HB.out | apply below_alloc | apply pw_below_drewN | apply below_drew1) | exact HB.out)) hb); clear HB; have HO893 := n0_; have HB := n1_; clear n0_ n1_; (try clear hb); (try clear hb2); (try clear hk); (try clear hi); (try clear ho0))); go_upto_region 3 with (first | (go_at_call 110; (with_reducible refine (qanatref02_Spans.calls k a0 t891 _ A4.out).mono ?_); rintro e w6 ⟨v892, rfl, ho0, hb⟩; have n0_ := Aside0.mk (Kd.R_lower ho0 (below_size (by repeat (first | (with_reducible first | exact HB.out | apply below_alloc | apply pw_below_drewN | apply below_drew1) | exact HB.out)))); have n1_ := Aside0.mk (below_step (by repeat (first | (with_reducible first | exact HB.out | apply below_alloc | apply pw_below_drewN | apply below_drew1) | exact HB.out)) hb); clear HB; have HO893 := n0_; have HB := n1_; clear n0_ n1_; (try clear hb); (try clear hb2); (try clear hk); (try clear hi); (try clear ho0))))
  (try simp only [Act.put, List.setIfInBounds_toArray, List.set_cons_zero, List.set_cons_succ])
  go_cut [31] (fun v31 wc => ∃ (kq : Nat) (x31_4 : Bool), v31 = .bool x31_4 ∧ Aside0 (qanatref02_digits.j0 kq a0 a1 a2 ([] : List Int) t891 x31_4 = some (r1, r2)) ∧ Aside0 (kq ≤ k) ∧ Aside0 (Kd.R (Kd.int .i64) 3 wc w.heap.size (fun _ => True) (.slice none 0 0) ([] : List Int)) ∧ Aside0 (Kd.R k113 113 wc w.heap.size (fun _ => True) v892 t891) ∧ Aside0 (Below w.heap.size w wc))
  case first =>
    have H := HC5.out
    clear HC5
    by_cases c7 : (a0.size : Int) > 0
    · rw [if_pos c7] at H
      have c7b0 : decide (0 < (a0.size : Int)) = true := decide_eq_true c7
      have c7b1 : decide (0 < a0.size) = true := decide_eq_true (by omega)
      clear c7
      (first | rw [c7b0] | (simp only [i64_w, i32_w]; rw [c7b0]) | skip)
      by_cases c8 : 0 < (a0.size : Int)
      · rw [if_pos c8] at H
        have c8b0 : decide (0 < (a0.size : Int)) = true := decide_eq_true c8
        have c8b1 : decide (0 < a0.size) = true := decide_eq_true (by omega)
        clear c8
        by_cases c10 : (bt a0 0) = 32
        · rw [if_pos c10] at H
          have c10b0 : ((bt a0 0) == 32) = true := beq_iff_eq.mpr c10
          have c10b1 : ((bt a0 0) != 32) = false := bne_eq_false_iff_eq.mpr c10
          clear c10
          have H' := Aside0.mk H
          clear H
          have p9 : 0 ≤ (0 : Int) := (by omega)
          have q9 : 0 < a0.size := (by have : (0 : Int) < (a0.size : Int) := of_decide_eq_true (by first | (with_reducible assumption) | assumption); omega)
          have hx9 : ∀ h : 0 < a0.size, ((a0[0]'h).toNat : Int) = bt a0 0 := bt_at a0 0
          clear p9
          have qi9 : (0 < (a0.size : Int)) = True := eq_true (of_decide_eq_true (by first | (with_reducible assumption) | assumption))
          replace q9 := eq_true q9
          go_wp2
          repeat (go_quiet (fail); try go_wp2)
          go_meet
          case rel => exact ⟨_, (true), (by first | rfl | (simp; done) | (simp [*]; done)), H', ⟨by first | omega | exact Nat.le_refl _⟩, ⟨by first | exact Kd.R_nil _ _ _ _ _ | exact Kd.N_nil _ _ _ _ _ | exact Kd.V_nil _ _ _ _ _ | exact Kd.Q_nil _ _ _ _ _ | exact Kd.S_nil _ _ _ _ _⟩, ⟨by (with_reducible repeat (first | apply Kd.R_alloc | apply Kd.R_drewN | apply Kd.R_drew)); exact HO893.out⟩, ⟨by repeat (first | (with_reducible first | exact HB.out | apply below_alloc | apply pw_below_drewN | apply below_drew1) | exact HB.out)⟩⟩
        · rw [if_neg c10] at H
          have c10b0 : ((bt a0 0) == 32) = false := beq_eq_false_iff_ne.mpr c10
          have c10b1 : ((bt a0 0) != 32) = true := bne_iff_ne.mpr c10
          obtain ⟨ji11, hji11⟩ : ∃ j_ : Int, (wrap64 ((a0.size : Int) - 1)) = j_ := ⟨_, rfl⟩
          replace H : (if 0 ≤ (ji11) then (if (ji11) < (a0.size : Int) then (qanatref02_digits.j0 k a0 a1 a2 ([] : List Int) t891 ((bt a0 (ji11)) == 32)) else (none)) else (none)) = some (r1, r2) := by first | (rw [hji11] at H; exact H) | (simp only [hji11] at H ⊢; exact H)
          have hji11w : (IntKind.i64.wrap ((a0.size : Int) - 1)) = ji11 := (i64_w _).trans hji11
          by_cases c12 : 0 ≤ (ji11)
          · rw [if_pos c12] at H
            have c12b0 : decide (0 ≤ (ji11)) = true := decide_eq_true c12
            clear c12
            by_cases c13 : (ji11) < (a0.size : Int)
            · rw [if_pos c13] at H
              have c13b0 : decide ((ji11) < (a0.size : Int)) = true := decide_eq_true c13
              clear c13
              have H' := Aside0.mk H
              clear H
              have p9 : 0 ≤ (0 : Int) := (by omega)
              have q9 : 0 < a0.size := (by have : (0 : Int) < (a0.size : Int) := of_decide_eq_true (by first | (with_reducible assumption) | assumption); omega)
              have hx9 : ∀ h : 0 < a0.size, ((a0[0]'h).toNat : Int) = bt a0 0 := bt_at a0 0
              clear p9
              have qi9 : (0 < (a0.size : Int)) = True := eq_true (of_decide_eq_true (by first | (with_reducible assumption) | assumption))
              replace q9 := eq_true q9
              have p14 : 0 ≤ ((ji11) : Int) := of_decide_eq_true (by first | (with_reducible assumption) | assumption)
              have q14 : (ji11) < (a0.size : Int) := of_decide_eq_true (by first | (with_reducible assumption) | assumption)
              have hx14 := bt_at a0 (ji11)
              replace p14 := eq_true p14
              replace q14 := eq_true q14
              go_wp2
              repeat (go_quiet (fail); try go_wp2)
              go_meet
              case rel => exact ⟨_, (((bt a0 (ji11)) == 32)), (by first | rfl | (simp; done) | (simp only [← hji11] <;> (first | rfl | simp)) | (simp [*]; done)), H', ⟨by first | omega | exact Nat.le_refl _⟩, ⟨by first | exact Kd.R_nil _ _ _ _ _ | exact Kd.N_nil _ _ _ _ _ | exact Kd.V_nil _ _ _ _ _ | exact Kd.Q_nil _ _ _ _ _ | exact Kd.S_nil _ _ _ _ _⟩, ⟨by (with_reducible repeat (first | apply Kd.R_alloc | apply Kd.R_drewN | apply Kd.R_drew)); exact HO893.out⟩, ⟨by repeat (first | (with_reducible first | exact HB.out | apply below_alloc | apply pw_below_drewN | apply below_drew1) | exact HB.out)⟩⟩
            · rw [if_neg c13] at H
              exact absurd H (by simp)
          · rw [if_neg c12] at H
            exact absurd H (by simp)
      · rw [if_neg c8] at H
        exact absurd H (by simp)
    · rw [if_neg c7] at H
      have c7b0 : decide (0 < (a0.size : Int)) = false := decide_eq_false c7
      have c7b1 : decide (0 < a0.size) = false := decide_eq_false (by omega)
      clear c7
      (first | rw [c7b0] | (simp only [i64_w, i32_w]; rw [c7b0]) | skip)
      have H' := Aside0.mk H
      clear H
      go_wp2
      repeat (go_quiet (fail); try go_wp2)
      go_meet
      case rel => exact ⟨_, (false), (by first | rfl | (simp; done) | (simp [*]; done)), H', ⟨by first | omega | exact Nat.le_refl _⟩, ⟨by first | exact Kd.R_nil _ _ _ _ _ | exact Kd.N_nil _ _ _ _ _ | exact Kd.V_nil _ _ _ _ _ | exact Kd.Q_nil _ _ _ _ _ | exact Kd.S_nil _ _ _ _ _⟩, ⟨by (with_reducible repeat (first | apply Kd.R_alloc | apply Kd.R_drewN | apply Kd.R_drew)); exact HO893.out⟩, ⟨by repeat (first | (with_reducible first | exact HB.out | apply below_alloc | apply pw_below_drewN | apply below_drew1) | exact HB.out)⟩⟩
  case rest =>
    clear HC5
    try clear c1
    try clear p1
    try clear q1
    try clear hx1
    try clear p2
    try clear p6
    try clear c7
    try clear c7b0
    try clear c7b1
    try clear c8
    try clear c8b0
    try clear c8b1
    try clear p9
    try clear q9
    try clear hx9
    try clear qi9
    try clear c10
    try clear c10b0
    try clear c10b1
    try clear c12
    try clear c12b0
    try clear c13
    try clear c13b0
    try clear p14
    try clear q14
    try clear hx14
    try clear p14
    try clear p9
    try clear q14
    try clear q9
    obtain ⟨kq, x31_4, rfl, HA, HJ4, HO_8, HO_9, HB⟩ := hcut
    cases kq with
    | zero => exact absurd HA.out (by simp [qanatref02_digits.j0])
    | succ kj4 =>
      have H := HA.out
      clear HA
      simp only [qanatref02_digits.j0] at H
      by_cases c15 : x31_4 = true
      · subst c15
        have H1 : (some (([] : List Int), false)) = some (r1, r2) := by rw [if_pos rfl] at H; exact H
        clear H
        have H := H1
        clear H1
        simp only [Option.some.injEq, Prod.mk.injEq] at H
        obtain ⟨rfl, rfl⟩ := H
        go_wp2
        repeat (go_quiet (fail); try go_wp2)
        go_ret2
        exact ⟨_, by first | rfl | (simp [errW_none, errW_some] <;> rfl) | (simp [*, errW_none, errW_some] <;> rfl), by first | exact Kd.R_nil _ _ _ _ _ | exact Kd.N_nil _ _ _ _ _ | exact Kd.V_nil _ _ _ _ _ | exact Kd.Q_nil _ _ _ _ _ | exact Kd.S_nil _ _ _ _ _, by repeat (first | (with_reducible first | exact HB.out | apply below_alloc | apply pw_below_drewN | apply below_drew1) | exact HB.out)⟩
      · replace c15 := Bool.eq_false_iff.mpr c15
        subst c15
        have H1 : (qanatref02_digits.l0 kj4 a0 a1 a2 ([] : List Int) t891 0) = some (r1, r2) := by rw [if_neg (show ¬ (false = true) by decide)] at H; exact H
        clear H
        have H := H1
        clear H1
        have H' := Aside0.mk H
        clear H
        go_wp2
        repeat (go_quiet (fail); try go_wp2)
        go_loopg [8, 10] kj4 (fun kq v8 v10 w' => ∃ (x8_2 : List Int) (x10_2 : Int), v10 = .int .i64 x10_2 ∧ Aside0 (qanatref02_digits.l0 kq a0 a1 a2 x8_2 t891 x10_2 = some (r1, r2)) ∧ Aside0 (kq ≤ kj4) ∧ Aside0 (Kd.R (Kd.int .i64) 3 w' w.heap.size (fun _ => True) v8 x8_2) ∧ Aside0 (Kd.R k113 113 w' w.heap.size (fun _ => True) v892 t891) ∧ Aside0 (Below w.heap.size w w'))
        case atStart => exact ⟨(([] : List Int)), (0), (by first | rfl | (simp; done) | (simp [*]; done)), H', ⟨Nat.le_refl _⟩, ⟨by (with_reducible repeat (first | apply Kd.R_alloc | apply Kd.R_drewN | apply Kd.R_drew)); exact HO_8.out⟩, ⟨by (with_reducible repeat (first | apply Kd.R_alloc | apply Kd.R_drewN | apply Kd.R_drew)); exact HO_9.out⟩, ⟨by repeat (first | (with_reducible first | exact HB.out | apply below_alloc | apply pw_below_drewN | apply below_drew1) | exact HB.out)⟩⟩
        case round =>
          clear H'
          try clear c1
          try clear p1
          try clear q1
          try clear hx1
          try clear p2
          try clear p6
          try clear c7
          try clear c7b0
          try clear c7b1
          try clear c8
          try clear c8b0
          try clear c8b1
          try clear p9
          try clear q9
          try clear hx9
          try clear qi9
          try clear c10
          try clear c10b0
          try clear c10b1
          try clear c12
          try clear c12b0
          try clear c13
          try clear c13b0
          try clear p14
          try clear q14
          try clear hx14
          try clear c15
          try clear p1
          try clear p14
          try clear p2
          try clear p6
          try clear p9
          try clear q1
          try clear q14
          try clear q9
          obtain ⟨x8_2, x10_2, rfl, HA, HK2, HO_8, HO_9, HB⟩ := hrel
          cases gk with
          | zero => exact absurd HA.out (by simp [qanatref02_digits.l0])
          | succ k2 =>
            have H := HA.out
            clear HA
            simp only [qanatref02_digits.l0] at H
            by_cases c16 : x10_2 < (t891.length : Int)
            · rw [if_pos c16] at H
              have c16b0 : decide (x10_2 < (t891.length : Int)) = true := decide_eq_true c16
              clear c16
              by_cases c17 : 0 ≤ x10_2
              · rw [if_pos c17] at H
                have c17b0 : decide (0 ≤ x10_2) = true := decide_eq_true c17
                clear c17
                by_cases c18 : 0 ≤ ((rd_T113 t891 x10_2).f0)
                · rw [if_pos c18] at H
                  have c18b0 := eq_true c18
                  have c18b1 : decide (0 ≤ ((rd_T113 t891 x10_2).f0)) = true := decide_eq_true c18
                  clear c18
                  by_cases c19 : ((rd_T113 t891 x10_2).f0) ≤ ((rd_T113 t891 x10_2).f1)
                  · rw [if_pos c19] at H
                    have c19b0 := eq_true c19
                    have c19b1 : decide (((rd_T113 t891 x10_2).f0) ≤ ((rd_T113 t891 x10_2).f1)) = true := decide_eq_true c19
                    clear c19
                    by_cases c20 : ((rd_T113 t891 x10_2).f1) ≤ (a0.size : Int)
                    · rw [if_pos c20] at H
                      have c20b0 := eq_true c20
                      have c20b1 : decide (((rd_T113 t891 x10_2).f1) ≤ (a0.size : Int)) = true := decide_eq_true c20
                      clear c20
                      have HC21 := Aside0.mk H
                      clear H
                      obtain ⟨Ao22, co22, eo22⟩ := Kd.R_slice HO_9.out
                      subst eo22
                      have p894 : 0 ≤ (x10_2 : Int) := of_decide_eq_true (by first | (with_reducible assumption) | assumption)
                      have q894 : x10_2 < (t891.length : Int) := of_decide_eq_true (by first | (with_reducible assumption) | assumption)
                      obtain ⟨ad894, e894, hx894_0, hx894_1⟩ := at_T113 (Kd.R_reads' HO_9.out).2.2 x10_2 p894 q894
                      cases e894
                      replace p894 := eq_true p894
                      replace q894 := eq_true q894
                      have p895 : 0 ≤ (x10_2 : Int) := of_decide_eq_true (by first | (with_reducible assumption) | assumption)
                      have q895 : x10_2 < (t891.length : Int) := of_decide_eq_true (by first | (with_reducible assumption) | assumption)
                      obtain ⟨ad895, e895, hx895_0, hx895_1⟩ := at_T113 (Kd.R_reads' HO_9.out).2.2 x10_2 p895 q895
                      obtain rfl : ad894 = ad895 := (by injection e895)
                      replace p895 := eq_true p895
                      replace q895 := eq_true q895
                      go_upto_region 9 with (fail)
                      repeat (go_quiet (fail); go_upto_region 9 with (fail))
                      go_cut [58] (fun v58 wc => ∃ (kq : Nat) (x58_20 : Bool), v58 = .bool x58_20 ∧ Aside0 (qanatref02_digits.j2 kq a0 a1 a2 x8_2 t891 x10_2 (a0.extract (((rd_T113 t891 x10_2).f0) : Int).toNat (((rd_T113 t891 x10_2).f1) : Int).toNat) x58_20 = some (r1, r2)) ∧ Aside0 (kq ≤ k2) ∧ Aside0 (Kd.R (Kd.int .i64) 3 wc w.heap.size (fun _ => True) u8 x8_2) ∧ Aside0 (Kd.R k113 113 wc w.heap.size (fun _ => True) (.slice (some ad894) t891.length co22) t891) ∧ Aside0 (Below w.heap.size w wc))
                      case first =>
                        have H := HC21.out
                        clear HC21
                        by_cases c23 : x10_2 > 0
                        · rw [if_pos c23] at H
                          have c23b0 : decide (0 < x10_2) = true := decide_eq_true c23
                          clear c23
                          (first | rw [c23b0] | (simp only [i64_w, i32_w]; rw [c23b0]) | skip)
                          by_cases c24 : a2 = 0
                          · rw [if_pos c24] at H
                            exact absurd H (by simp)
                          · rw [if_neg c24] at H
                            have c24b0 : (a2 == 0) = false := beq_eq_false_iff_ne.mpr c24
                            have c24b1 : (a2 != 0) = true := bne_iff_ne.mpr c24
                            have H' := Aside0.mk H
                            clear H
                            go_wp2
                            repeat (go_quiet (fail); try go_wp2)
                            go_meet
                            case rel => exact ⟨_, (((((a0.extract (((rd_T113 t891 x10_2).f0) : Int).toNat (((rd_T113 t891 x10_2).f1) : Int).toNat).size : Int) % a2) != 0)), (by first | rfl | (simp; done) | (simp [*]; done)), H', ⟨by have := HJ4.out; have := HK2.out; first | omega | exact Nat.le_refl _⟩, ⟨by (with_reducible repeat (first | apply Kd.R_alloc | apply Kd.R_drewN | apply Kd.R_drew)); exact HO_8.out⟩, ⟨by (with_reducible repeat (first | apply Kd.R_alloc | apply Kd.R_drewN | apply Kd.R_drew)); exact HO_9.out⟩, ⟨by repeat (first | (with_reducible first | exact HB.out | apply below_alloc | apply pw_below_drewN | apply below_drew1) | exact HB.out)⟩⟩
                        · rw [if_neg c23] at H
                          have c23b0 : decide (0 < x10_2) = false := decide_eq_false c23
                          clear c23
                          (first | rw [c23b0] | (simp only [i64_w, i32_w]; rw [c23b0]) | skip)
                          have H' := Aside0.mk H
                          clear H
                          go_wp2
                          repeat (go_quiet (fail); try go_wp2)
                          go_meet
                          case rel => exact ⟨_, (false), (by first | rfl | (simp; done) | (simp [*]; done)), H', ⟨by have := HJ4.out; have := HK2.out; first | omega | exact Nat.le_refl _⟩, ⟨by (with_reducible repeat (first | apply Kd.R_alloc | apply Kd.R_drewN | apply Kd.R_drew)); exact HO_8.out⟩, ⟨by (with_reducible repeat (first | apply Kd.R_alloc | apply Kd.R_drewN | apply Kd.R_drew)); exact HO_9.out⟩, ⟨by repeat (first | (with_reducible first | exact HB.out | apply below_alloc | apply pw_below_drewN | apply below_drew1) | exact HB.out)⟩⟩
                      case rest =>
                        clear HC21
                        try clear c1
                        try clear p1
                        try clear q1
                        try clear hx1
                        try clear c2
                        try clear p2
                        try clear p6
                        try clear c7
                        try clear c7b0
                        try clear c7b1
                        try clear c8
                        try clear c8b0
                        try clear c8b1
                        try clear p8
                        try clear q8
                        try clear hx8
                        try clear p9
                        try clear q9
                        try clear hx9
                        try clear qi9
                        try clear c10
                        try clear c10b0
                        try clear c10b1
                        try clear c12
                        try clear c12b0
                        try clear c13
                        try clear c13b0
                        try clear p14
                        try clear q14
                        try clear hx14
                        try clear c15
                        try clear c16
                        try clear c16b0
                        try clear c17
                        try clear c17b0
                        try clear c18
                        try clear c18b0
                        try clear c18b1
                        try clear c19
                        try clear c19b0
                        try clear c19b1
                        try clear c20
                        try clear c20b0
                        try clear c20b1
                        try clear c23
                        try clear c23b0
                        try clear c24
                        try clear c24b0
                        try clear c24b1
                        try clear hx894_0
                        try clear hx894_1
                        try clear hx895_0
                        try clear hx895_1
                        try clear p1
                        try clear p14
                        try clear p2
                        try clear p6
                        try clear p894
                        try clear p895
                        try clear p9
                        try clear q1
                        try clear q14
                        try clear q894
                        try clear q895
                        try clear q9
                        obtain ⟨kq, x58_20, rfl, HA, HJ20, HO_8, HO_9, HB⟩ := hcut
                        cases kq with
                        | zero => exact absurd HA.out (by simp [qanatref02_digits.j2])
                        | succ kj20 =>
                          have H := HA.out
                          clear HA
                          simp only [qanatref02_digits.j2] at H
                          by_cases c25 : x58_20 = true
                          · subst c25
                            have H1 : (some (([] : List Int), false)) = some (r1, r2) := by rw [if_pos rfl] at H; exact H
                            clear H
                            have H := H1
                            clear H1
                            simp only [Option.some.injEq, Prod.mk.injEq] at H
                            obtain ⟨rfl, rfl⟩ := H
                            go_wp2
                            repeat (go_quiet (fail); try go_wp2)
                            go_ret2
                            exact ⟨_, by first | rfl | (simp [errW_none, errW_some] <;> rfl) | (simp [*, errW_none, errW_some] <;> rfl), by first | exact Kd.R_nil _ _ _ _ _ | exact Kd.N_nil _ _ _ _ _ | exact Kd.V_nil _ _ _ _ _ | exact Kd.Q_nil _ _ _ _ _ | exact Kd.S_nil _ _ _ _ _, by repeat (first | (with_reducible first | exact HB.out | apply below_alloc | apply pw_below_drewN | apply below_drew1) | exact HB.out)⟩
                          · replace c25 := Bool.eq_false_iff.mpr c25
                            subst c25
                            have H1 : (qanatref02_digits.l1 kj20 a0 a1 a2 x8_2 t891 x10_2 (a0.extract (((rd_T113 t891 x10_2).f0) : Int).toNat (((rd_T113 t891 x10_2).f1) : Int).toNat) 0) = some (r1, r2) := by rw [if_neg (show ¬ (false = true) by decide)] at H; exact H
                            clear H
                            have H := H1
                            clear H1
                            have H' := Aside0.mk H
                            clear H
                            go_wp2
                            repeat (go_quiet (fail); try go_wp2)
                            go_loopg [8, 12] kj20 (fun kq v8 v12 w' => ∃ (x8_4 : List Int) (x12_4 : Int), v12 = .int .i64 x12_4 ∧ Aside0 (qanatref02_digits.l1 kq a0 a1 a2 x8_4 t891 x10_2 (a0.extract (((rd_T113 t891 x10_2).f0) : Int).toNat (((rd_T113 t891 x10_2).f1) : Int).toNat) x12_4 = some (r1, r2)) ∧ Aside0 (kq ≤ kj20) ∧ Aside0 (Kd.R (Kd.int .i64) 3 w' w.heap.size (fun _ => True) v8 x8_4) ∧ Aside0 (Kd.R k113 113 w' w.heap.size (fun _ => True) (.slice (some ad894) t891.length co22) t891) ∧ Aside0 (Below w.heap.size w w'))
                            case atStart => exact ⟨(x8_2), (0), (by first | rfl | (simp; done) | (simp [*]; done)), H', ⟨Nat.le_refl _⟩, ⟨by (with_reducible repeat (first | apply Kd.R_alloc | apply Kd.R_drewN | apply Kd.R_drew)); exact HO_8.out⟩, ⟨by (with_reducible repeat (first | apply Kd.R_alloc | apply Kd.R_drewN | apply Kd.R_drew)); exact HO_9.out⟩, ⟨by repeat (first | (with_reducible first | exact HB.out | apply below_alloc | apply pw_below_drewN | apply below_drew1) | exact HB.out)⟩⟩
                            case round =>
                              clear H'
                              try clear c1
                              try clear p1
                              try clear q1
                              try clear hx1
                              try clear c2
                              try clear p2
                              try clear p6
                              try clear c7
                              try clear c7b0
                              try clear c7b1
                              try clear c8
                              try clear c8b0
                              try clear c8b1
                              try clear p8
                              try clear q8
                              try clear hx8
                              try clear p9
                              try clear q9
                              try clear hx9
                              try clear qi9
                              try clear c10
                              try clear c10b0
                              try clear c10b1
                              try clear c12
                              try clear c12b0
                              try clear c13
                              try clear c13b0
                              try clear p14
                              try clear q14
                              try clear hx14
                              try clear c15
                              try clear c16
                              try clear c16b0
                              try clear c17
                              try clear c17b0
                              try clear c18
                              try clear c18b0
                              try clear c18b1
                              try clear c19
                              try clear c19b0
                              try clear c19b1
                              try clear c20
                              try clear c20b0
                              try clear c20b1
                              try clear c23
                              try clear c23b0
                              try clear c24
                              try clear c24b0
                              try clear c24b1
                              try clear c25
                              try clear hx894_0
                              try clear hx894_1
                              try clear hx895_0
                              try clear hx895_1
                              try clear p1
                              try clear p14
                              try clear p2
                              try clear p6
                              try clear p8
                              try clear p894
                              try clear p895
                              try clear p9
                              try clear q1
                              try clear q14
                              try clear q8
                              try clear q894
                              try clear q895
                              try clear q9
                              obtain ⟨x8_4, x12_4, rfl, HA, HK4, HO_8, HO_9, HB⟩ := hrel
                              generalize (a0.extract (((rd_T113 t891 x10_2).f0) : Int).toNat (((rd_T113 t891 x10_2).f1) : Int).toNat) = sx11 at *
                              cases gk with
                              | zero => exact absurd HA.out (by simp [qanatref02_digits.l1])
                              | succ k4 =>
                                have H := HA.out
                                clear HA
                                simp only [qanatref02_digits.l1] at H
                                by_cases c26 : x12_4 < (sx11.size : Int)
                                · rw [if_pos c26] at H
                                  have c26b0 : decide (x12_4 < (sx11.size : Int)) = true := decide_eq_true c26
                                  clear c26
                                  by_cases c27 : 0 ≤ x12_4
                                  · rw [if_pos c27] at H
                                    have c27b0 : decide (0 ≤ x12_4) = true := decide_eq_true c27
                                    clear c27
                                    replace H := Option.bind_eq_some_iff.mp H
                                    obtain ⟨t896, A290, H⟩ := H
                                    replace H : (if t896 < 0 then (some (([] : List Int), false)) else (if x8_4.length < 17592186044416 then (qanatref02_digits.l1 k4 a0 a1 a2 (x8_4 ++ [t896]) t891 x10_2 sx11 (wrap64 (x12_4 + 1))) else (none))) = some (r1, r2) := H
                                    have A29 := Aside0.mk A290
                                    clear A290
                                    by_cases c30 : t896 < 0
                                    · rw [if_pos c30] at H
                                      have c30b0 : decide (t896 < 0) = true := decide_eq_true c30
                                      clear c30
                                      simp only [Option.some.injEq, Prod.mk.injEq] at H
                                      obtain ⟨rfl, rfl⟩ := H
                                      have p28 : 0 ≤ (x12_4 : Int) := of_decide_eq_true (by first | (with_reducible assumption) | assumption)
                                      have q28 : x12_4 < (sx11.size : Int) := of_decide_eq_true (by first | (with_reducible assumption) | assumption)
                                      have hx28 := bt_at sx11 x12_4
                                      replace p28 := eq_true p28
                                      replace q28 := eq_true q28
                                      go_wp2_with (first | (go_at_call 160; (with_reducible refine (qanatref02_digit.calls k4 (bt sx11 x12_4) a1 t896 _ A29.out).mono ?_); rintro e w' ⟨rfl, ⟨nd, rfl⟩⟩; (try first | exact ⟨rfl, _, World.drewN_drewN _ _ _⟩ | exact ⟨rfl, _, Eq.trans (World.drewN_drewN _ _ _) (congrArg (World.drewN _) (Nat.add_assoc _ _ _))⟩)))
                                      repeat (go_quiet (first | (go_at_call 160; (with_reducible refine (qanatref02_digit.calls k4 (bt sx11 x12_4) a1 t896 _ A29.out).mono ?_); rintro e w' ⟨rfl, ⟨nd, rfl⟩⟩; (try first | exact ⟨rfl, _, World.drewN_drewN _ _ _⟩ | exact ⟨rfl, _, Eq.trans (World.drewN_drewN _ _ _) (congrArg (World.drewN _) (Nat.add_assoc _ _ _))⟩))); try go_wp2_with (first | (go_at_call 160; (with_reducible refine (qanatref02_digit.calls k4 (bt sx11 x12_4) a1 t896 _ A29.out).mono ?_); rintro e w' ⟨rfl, ⟨nd, rfl⟩⟩; (try first | exact ⟨rfl, _, World.drewN_drewN _ _ _⟩ | exact ⟨rfl, _, Eq.trans (World.drewN_drewN _ _ _) (congrArg (World.drewN _) (Nat.add_assoc _ _ _))⟩))))
                                      go_ret2
                                      exact ⟨_, by first | rfl | (simp [errW_none, errW_some] <;> rfl) | (simp [*, errW_none, errW_some] <;> rfl), by first | exact Kd.R_nil _ _ _ _ _ | exact Kd.N_nil _ _ _ _ _ | exact Kd.V_nil _ _ _ _ _ | exact Kd.Q_nil _ _ _ _ _ | exact Kd.S_nil _ _ _ _ _, by repeat (first | (with_reducible first | exact HB.out | apply below_alloc | apply pw_below_drewN | apply below_drew1) | exact HB.out)⟩
                                    · rw [if_neg c30] at H
                                      have c30b0 : decide (t896 < 0) = false := decide_eq_false c30
                                      clear c30
                                      by_cases c31 : x8_4.length < 17592186044416
                                      · rw [if_pos c31] at H
                                        have LMc31 := Aside0.mk c31
                                        clear c31
                                        obtain ⟨y897, hy897⟩ : ∃ y_ : List Int, y_ = (x8_4 ++ [t896]) := ⟨_, rfl⟩
                                        replace H : (qanatref02_digits.l1 k4 a0 a1 a2 y897 t891 x10_2 sx11 (wrap64 (x12_4 + 1))) = some (r1, r2) := by first | (rw [hy897]; with_reducible exact H) | (have H2_ := (Option.bind_some _ _).symm.trans H; rw [hy897]; with_reducible exact H2_) | (have H2_ := (Option.bind_some _ _).symm.trans H; with_reducible exact H2_) | with_reducible exact H | (rw [hy897]; exact H) | exact H
                                        have Ny897 := Aside0.mk hy897
                                        clear hy897
                                        have H' := Aside0.mk H
                                        clear H
                                        have p28 : 0 ≤ (x12_4 : Int) := of_decide_eq_true (by first | (with_reducible assumption) | assumption)
                                        have q28 : x12_4 < (sx11.size : Int) := of_decide_eq_true (by first | (with_reducible assumption) | assumption)
                                        have hx28 := bt_at sx11 x12_4
                                        replace p28 := eq_true p28
                                        replace q28 := eq_true q28
                                        go_wp2_with (first | (go_at_call 160; (with_reducible refine (qanatref02_digit.calls k4 (bt sx11 x12_4) a1 t896 _ A29.out).mono ?_); rintro e w' ⟨rfl, ⟨nd, rfl⟩⟩; (try first | exact ⟨rfl, _, World.drewN_drewN _ _ _⟩ | exact ⟨rfl, _, Eq.trans (World.drewN_drewN _ _ _) (congrArg (World.drewN _) (Nat.add_assoc _ _ _))⟩)) | ((with_reducible refine gate_builtin (b := .append) (xs := #[.tmp 72, .tmp 74]) rfl ?_); (try (refine gate_guard (by rfl) ?_; dsimp only)); at_builtin; refine Kd.R_append (Kd.int .i64) (w0 := w) w.heap.size rfl (.tmp 72) (.tmp 74) 120 3 (.int .i64 0) 8 rfl Tryz.underlying120 info3 rfl (by decide) (by omega) u8 x8_4 t896 [.int .i64 t896] (fun _ => True) (fun _ => False) rfl rfl ?aP (fun _ hk => hk.elim) ?aF ?aO ?aB ?aS ?aL ?_; (case aP => exact rfl); (case aB => exact (by repeat (first | (with_reducible first | exact HB.out | apply below_alloc | apply pw_below_drewN | apply below_drew1) | exact HB.out))); (case aF => exact (fun _ _ => trivial)); (case aO => exact (by (with_reducible repeat (first | apply Kd.R_alloc | apply Kd.R_drewN | apply Kd.R_drew)); exact HO_8.out)); (case aS => exact (below_size (by repeat (first | (with_reducible first | exact HB.out | apply below_alloc | apply pw_below_drewN | apply below_drew1) | exact HB.out)))); (case aL => have := LMc31.out; omega); intro v898 w32 ho hb hg hat; rw [← Ny897.out] at ho; have n0_ := Aside0.mk (Kd.R_over' (by (with_reducible repeat (first | apply Kd.R_alloc | apply Kd.R_drewN | apply Kd.R_drew)); exact HO_9.out) (Kd.R_typed (by (with_reducible repeat (first | apply Kd.R_alloc | apply Kd.R_drewN | apply Kd.R_drew)); exact HO_8.out)) (by decide) hg); have n1_ := Aside0.mk (hb); have n2_ := Aside0.mk (ho); clear HO_9; clear HB; clear HO_8; have HO_9 := n0_; have HB := n1_; have HO899 := n2_; clear n0_ n1_ n2_; clear ho hb hg hat))
                                        repeat (go_quiet (first | (go_at_call 160; (with_reducible refine (qanatref02_digit.calls k4 (bt sx11 x12_4) a1 t896 _ A29.out).mono ?_); rintro e w' ⟨rfl, ⟨nd, rfl⟩⟩; (try first | exact ⟨rfl, _, World.drewN_drewN _ _ _⟩ | exact ⟨rfl, _, Eq.trans (World.drewN_drewN _ _ _) (congrArg (World.drewN _) (Nat.add_assoc _ _ _))⟩)) | ((with_reducible refine gate_builtin (b := .append) (xs := #[.tmp 72, .tmp 74]) rfl ?_); (try (refine gate_guard (by rfl) ?_; dsimp only)); at_builtin; refine Kd.R_append (Kd.int .i64) (w0 := w) w.heap.size rfl (.tmp 72) (.tmp 74) 120 3 (.int .i64 0) 8 rfl Tryz.underlying120 info3 rfl (by decide) (by omega) u8 x8_4 t896 [.int .i64 t896] (fun _ => True) (fun _ => False) rfl rfl ?aP (fun _ hk => hk.elim) ?aF ?aO ?aB ?aS ?aL ?_; (case aP => exact rfl); (case aB => exact (by repeat (first | (with_reducible first | exact HB.out | apply below_alloc | apply pw_below_drewN | apply below_drew1) | exact HB.out))); (case aF => exact (fun _ _ => trivial)); (case aO => exact (by (with_reducible repeat (first | apply Kd.R_alloc | apply Kd.R_drewN | apply Kd.R_drew)); exact HO_8.out)); (case aS => exact (below_size (by repeat (first | (with_reducible first | exact HB.out | apply below_alloc | apply pw_below_drewN | apply below_drew1) | exact HB.out)))); (case aL => have := LMc31.out; omega); intro v898 w32 ho hb hg hat; rw [← Ny897.out] at ho; have n0_ := Aside0.mk (Kd.R_over' (by (with_reducible repeat (first | apply Kd.R_alloc | apply Kd.R_drewN | apply Kd.R_drew)); exact HO_9.out) (Kd.R_typed (by (with_reducible repeat (first | apply Kd.R_alloc | apply Kd.R_drewN | apply Kd.R_drew)); exact HO_8.out)) (by decide) hg); have n1_ := Aside0.mk (hb); have n2_ := Aside0.mk (ho); clear HO_9; clear HB; clear HO_8; have HO_9 := n0_; have HB := n1_; have HO899 := n2_; clear n0_ n1_ n2_; clear ho hb hg hat)); try go_wp2_with (first | (go_at_call 160; (with_reducible refine (qanatref02_digit.calls k4 (bt sx11 x12_4) a1 t896 _ A29.out).mono ?_); rintro e w' ⟨rfl, ⟨nd, rfl⟩⟩; (try first | exact ⟨rfl, _, World.drewN_drewN _ _ _⟩ | exact ⟨rfl, _, Eq.trans (World.drewN_drewN _ _ _) (congrArg (World.drewN _) (Nat.add_assoc _ _ _))⟩)) | ((with_reducible refine gate_builtin (b := .append) (xs := #[.tmp 72, .tmp 74]) rfl ?_); (try (refine gate_guard (by rfl) ?_; dsimp only)); at_builtin; refine Kd.R_append (Kd.int .i64) (w0 := w) w.heap.size rfl (.tmp 72) (.tmp 74) 120 3 (.int .i64 0) 8 rfl Tryz.underlying120 info3 rfl (by decide) (by omega) u8 x8_4 t896 [.int .i64 t896] (fun _ => True) (fun _ => False) rfl rfl ?aP (fun _ hk => hk.elim) ?aF ?aO ?aB ?aS ?aL ?_; (case aP => exact rfl); (case aB => exact (by repeat (first | (with_reducible first | exact HB.out | apply below_alloc | apply pw_below_drewN | apply below_drew1) | exact HB.out))); (case aF => exact (fun _ _ => trivial)); (case aO => exact (by (with_reducible repeat (first | apply Kd.R_alloc | apply Kd.R_drewN | apply Kd.R_drew)); exact HO_8.out)); (case aS => exact (below_size (by repeat (first | (with_reducible first | exact HB.out | apply below_alloc | apply pw_below_drewN | apply below_drew1) | exact HB.out)))); (case aL => have := LMc31.out; omega); intro v898 w32 ho hb hg hat; rw [← Ny897.out] at ho; have n0_ := Aside0.mk (Kd.R_over' (by (with_reducible repeat (first | apply Kd.R_alloc | apply Kd.R_drewN | apply Kd.R_drew)); exact HO_9.out) (Kd.R_typed (by (with_reducible repeat (first | apply Kd.R_alloc | apply Kd.R_drewN | apply Kd.R_drew)); exact HO_8.out)) (by decide) hg); have n1_ := Aside0.mk (hb); have n2_ := Aside0.mk (ho); clear HO_9; clear HB; clear HO_8; have HO_9 := n0_; have HB := n1_; have HO899 := n2_; clear n0_ n1_ n2_; clear ho hb hg hat)))
                                        go_roundg k4
                                        case measure => have := HJ4.out; have := HK2.out; have := HJ20.out; have := HK4.out; omega
                                        case rel => exact ⟨(y897), (wrap64 (x12_4 + 1)), (by first | rfl | (simp; done) | (simp [*]; done)), H', ⟨by have := HJ4.out; have := HK2.out; have := HJ20.out; have := HK4.out; omega⟩, ⟨by (with_reducible repeat (first | apply Kd.R_alloc | apply Kd.R_drewN | apply Kd.R_drew)); exact HO899.out⟩, ⟨by (with_reducible repeat (first | apply Kd.R_alloc | apply Kd.R_drewN | apply Kd.R_drew)); exact HO_9.out⟩, ⟨by repeat (first | (with_reducible first | exact HB.out | apply below_alloc | apply pw_below_drewN | apply below_drew1) | exact HB.out)⟩⟩
                                      · rw [if_neg c31] at H
                                        exact absurd H (by simp)
                                  · rw [if_neg c27] at H
                                    exact absurd H (by simp)
                                · rw [if_neg c26] at H
                                  have c26b0 : decide (x12_4 < (sx11.size : Int)) = false := decide_eq_false c26
                                  clear c26
                                  have H' := Aside0.mk H
                                  clear H
                                  go_wp2
                                  repeat (go_quiet (fail); try go_wp2)
                                  go_roundg k4
                                  case measure => have := HJ4.out; have := HK2.out; have := HJ20.out; have := HK4.out; omega
                                  case rel => exact ⟨(x8_4), (wrap64 (x10_2 + 1)), (by first | rfl | (simp; done) | (simp [*]; done)), H', ⟨by have := HJ4.out; have := HK2.out; have := HJ20.out; have := HK4.out; omega⟩, ⟨by (with_reducible repeat (first | apply Kd.R_alloc | apply Kd.R_drewN | apply Kd.R_drew)); exact HO_8.out⟩, ⟨by (with_reducible repeat (first | apply Kd.R_alloc | apply Kd.R_drewN | apply Kd.R_drew)); exact HO_9.out⟩, ⟨by repeat (first | (with_reducible first | exact HB.out | apply below_alloc | apply pw_below_drewN | apply below_drew1) | exact HB.out)⟩⟩
                    · rw [if_neg c20] at H
                      exact absurd H (by simp)
                  · rw [if_neg c19] at H
                    exact absurd H (by simp)
                · rw [if_neg c18] at H
                  exact absurd H (by simp)
              · rw [if_neg c17] at H
                exact absurd H (by simp)
            · rw [if_neg c16] at H
              have c16b0 : decide (x10_2 < (t891.length : Int)) = false := decide_eq_false c16
              clear c16
              simp only [Option.some.injEq, Prod.mk.injEq] at H
              obtain ⟨rfl, rfl⟩ := H
              obtain ⟨Ao33, co33, eo33⟩ := Kd.R_slice HO_9.out
              subst eo33
              go_wp2
              repeat (go_quiet (fail); try go_wp2)
              go_ret2
              exact ⟨_, by first | rfl | (simp [errW_none, errW_some] <;> rfl) | (simp [*, errW_none, errW_some] <;> rfl), by (with_reducible repeat (first | apply Kd.R_alloc | apply Kd.R_drewN | apply Kd.R_drew)); exact HO_8.out, by repeat (first | (with_reducible first | exact HB.out | apply below_alloc | apply pw_below_drewN | apply below_drew1) | exact HB.out)⟩

end Go.Proofs.YtlekfhnlhdmekaaGreatDoor.T

/- Digits: what the program's digits and the reference's digits make of words. -/
namespace Go.Proofs.YtlekfhnlhdmekaaGreatDoor.T
set_option linter.unusedSimpArgs false
set_option linter.unusedVariables false
open Go.RowKit Go.Proofs.YtlekfhnlhdmekaaGreatDoorW.PrintWords Go.Proofs.YtlekfhnlhdmekaaGreatDoorW.PrintLast Go.Proofs.YtlekfhnlhdmekaaGreatDoorW.PrintMore
namespace Dg
/-- The value of a digit; -1 of what is none. -/
def dv (base b : Int) : Int := (text_digit.f 2 b base).getD 0
theorem tab16 : (List.range 256).all (fun b => decide (text_digit.f 2 (b : Int) 16 = some (dv 16 b)) && decide (qanatref02_digit.f 20 (b : Int) 16 = some (dv 16 b)) && decide (dv 16 b < 16)) = true := by kernel_rfl
theorem tab2 : (List.range 256).all (fun b => decide (text_digit.f 2 (b : Int) 2 = some (dv 2 b)) && decide (qanatref02_digit.f 20 (b : Int) 2 = some (dv 2 b)) && decide (dv 2 b < 2)) = true := by kernel_rfl
theorem tabs (base : Int) (hb : base = 16 ∨ base = 2) (b : UInt8) : text_digit.f 2 (b.toNat : Int) base = some (dv base b.toNat) ∧ qanatref02_digit.f 20 (b.toNat : Int) base = some (dv base b.toNat) ∧ dv base b.toNat < base := by
  have hm : b.toNat ∈ List.range 256 := List.mem_range.2 b.toNat_lt
  rcases hb with rfl | rfl
  · have := List.all_eq_true.1 tab16 _ hm
    simp only [Bool.and_eq_true, decide_eq_true_eq] at this
    exact ⟨this.1.1, this.1.2, this.2⟩
  · have := List.all_eq_true.1 tab2 _ hm
    simp only [Bool.and_eq_true, decide_eq_true_eq] at this
    exact ⟨this.1.1, this.1.2, this.2⟩
theorem t_dig (base : Int) (hb : base = 16 ∨ base = 2) (b : UInt8) (k : Nat) (hk : 2 ≤ k) : text_digit.f k (b.toNat : Int) base = some (dv base b.toNat) := by
  obtain ⟨d, rfl⟩ : ∃ d, k = 2 + d := ⟨k - 2, by omega⟩
  clear hk
  induction d with
  | zero => exact (tabs base hb b).1
  | succ d ih => exact text_digit.mono _ _ _ _ ih
theorem r_dig (base : Int) (hb : base = 16 ∨ base = 2) (b : UInt8) (k : Nat) (hk : 20 ≤ k) : qanatref02_digit.f k (b.toNat : Int) base = some (dv base b.toNat) := by
  obtain ⟨d, rfl⟩ : ∃ d, k = 20 + d := ⟨k - 20, by omega⟩
  clear hk
  induction d with
  | zero => exact (tabs base hb b).2.1
  | succ d ih => exact qanatref02_digit.mono _ _ _ _ ih
def okw (base : Int) (w : List UInt8) : Bool := w.all fun b => decide (0 ≤ dv base b.toNat)
def dg (base : Int) (w : List UInt8) : List Int := w.map fun b => dv base b.toNat
theorem dg_len (base : Int) (w : List UInt8) : (dg base w).length = w.length := List.length_map _
def tl (base : Int) (g : Nat) : List (List UInt8) → List Int → Option (List Int)
  | [], acc => some acc
  | w :: r, acc => if w.length % g = 0 ∧ okw base w = true then tl base g r (acc ++ dg base w) else none
def ou : Option (List Int) → List Int × Bool
  | some l => (l, true)
  | none => ([], false)
def fu : List (List UInt8) → Nat
  | [] => 1
  | w :: r => w.length + 30 + fu r
theorem t_l1 (base : Int) (hb : base = 16 ∨ base = 2) (g : Int) (w : ByteArray) (L : List ByteArray) (n i : Int) (hw : w.size ≤ 100000) : ∀ (d j k : Nat) (acc : List Int), w.size - j = d → j ≤ w.size → d + 3 ≤ k → acc.length + d ≤ 1000000 →
    text_digits.l1 k base g acc w L n i (w.size : Int) (j : Int) = if okw base ((by8 w).drop j) = true then text_digits.l0 (k - d - 1) base g (acc ++ dg base ((by8 w).drop j)) L n (wrap64 (i + 1)) else some ([], false)
  | d, j, 0, acc, _, _, h, _ => by omega
  | d, j, k + 1, acc, hd, hj, hk, ha => by
    rw [text_digits.l1]
    by_cases hlt : j < w.size
    · obtain ⟨b, e1, e2⟩ := by8_drop w j hlt
      rw [if_pos (by omega), if_pos (by omega), if_pos (by omega), e2, t_dig base hb b k (by omega), e1]
      simp only [Option.bind_some]
      by_cases hv : dv base b.toNat < 0
      · rw [if_pos hv, if_neg (by simp only [okw, List.all_cons, Bool.and_eq_true, decide_eq_true_eq]; omega)]
      · rw [if_neg hv, if_pos (by omega), wrap64_id _ (by omega) (by omega), show ((j : Int) + 1) = ((j + 1 : Nat) : Int) by omega,
          t_l1 base hb g w L n i hw (d - 1) (j + 1) k (acc ++ [dv base b.toNat]) (by omega) (by omega) (by omega) (by rw [List.length_append]; simp; omega)]
        have e3 : okw base (b :: (by8 w).drop (j + 1)) = okw base ((by8 w).drop (j + 1)) := by
          simp only [okw, List.all_cons, decide_eq_true (show 0 ≤ dv base b.toNat by omega), Bool.true_and]
        rw [e3, show k - (d - 1) - 1 = k + 1 - d - 1 by omega]
        simp only [dg, List.map_cons, List.append_assoc, List.singleton_append]
    · rw [if_neg (by omega), List.drop_of_length_le (by rw [by8_length]; omega)]
      rw [if_pos (by rfl), show k + 1 - d - 1 = k by omega]
      simp [dg]
theorem rdOf_nat (L : List ByteArray) (i : Nat) (hi : i < L.length) : rdOf ByteArray.empty L (i : Int) = L[i] := by
  unfold rdOf; rw [Int.toNat_natCast, List.getD_eq_getElem?_getD, List.getElem?_eq_getElem hi]; rfl
theorem t_l0 (base : Int) (hb : base = 16 ∨ base = 2) (g : Nat) (hg : g = 2 ∨ g = 4) (L : List ByteArray) (hL : L.length ≤ 100000) : ∀ (d i k : Nat) (acc : List Int), L.length - i = d → i ≤ L.length → 1 ≤ i → fu ((L.drop i).map by8) ≤ k → acc.length + Lib.lens ((L.drop i).map by8) ≤ 90000 →
    text_digits.l0 k base (g : Int) acc L (L.length : Int) (i : Int) = some (ou (tl base g ((L.drop i).map by8) acc))
  | 0, i, k, acc, hd, hi, h1, hk, ha => by
    rw [List.drop_of_length_le (by omega)] at hk ⊢
    obtain ⟨k, rfl⟩ : ∃ k', k = k' + 1 := ⟨k - 1, by simp [fu] at hk; omega⟩
    rw [text_digits.l0, if_neg (by omega)]
    rfl
  | d + 1, i, k, acc, hd, hi, h1, hk, ha => by
    have hlt : i < L.length := by omega
    rw [List.drop_eq_getElem_cons hlt] at hk ha ⊢
    rw [List.map_cons] at hk ha ⊢
    have hsz : (by8 L[i]).length = L[i].size := by8_length _
    simp only [fu] at hk
    simp only [Lib.lens, List.map_cons, List.sum_cons] at ha
    obtain ⟨k, rfl⟩ : ∃ k', k = k' + 2 := ⟨k - 2, by omega⟩
    rw [text_digits.l0, if_pos (by omega), if_pos (by omega), if_pos (by omega), if_neg (by omega), if_neg (by rcases hg with rfl | rfl <;> decide), rdOf_nat L i hlt, tl]
    by_cases hm : (by8 L[i]).length % g = 0
    · rw [if_pos (by rw [hsz] at hm; rcases hg with rfl | rfl <;> omega), text_digits.j1]
      have hl1 := t_l1 base hb (g : Int) L[i] L (L.length : Int) (i : Int) (by omega) L[i].size 0 k acc (by omega) (by omega) (by omega) (by omega)
      rw [show ((0 : Nat) : Int) = 0 from rfl, List.drop_zero] at hl1
      rw [hl1]
      by_cases ho : okw base (by8 L[i]) = true
      · rw [if_pos ho, if_pos ⟨hm, ho⟩, wrap64_id _ (by omega) (by omega), show ((i : Int) + 1) = ((i + 1 : Nat) : Int) by omega]
        exact t_l0 base hb g hg L hL d (i + 1) _ _ (by omega) (by omega) (by omega) (by omega) (by rw [List.length_append, dg_len]; simp only [Lib.lens]; omega)
      · rw [if_neg ho, if_neg (fun h => ho h.2)]; rfl
    · rw [if_neg (by rw [hsz] at hm; rcases hg with rfl | rfl <;> omega), if_neg (fun h => hm h.1)]; rfl
def padn (g len : Nat) : Nat := (g - len % g) % g
/-- What digits makes of the words, with what it fills up ahead. -/
def td (base : Int) (g : Nat) : List (List UInt8) → Option (List Int)
  | [] => some []
  | w :: r => if okw base w = true then tl base g r (List.replicate (padn g w.length) 0 ++ dg base w) else none
theorem t_all (base : Int) (hb : base = 16 ∨ base = 2) (g : Nat) (hg : g = 2 ∨ g = 4) (L : List ByteArray) (hL : L.length ≤ 100000) (hs : Lib.lens (L.map by8) ≤ 80000) (k : Nat) (hk : fu (L.map by8) ≤ k) :
    text_digits.l0 k base (g : Int) [] L (L.length : Int) 0 = some (ou (td base g (L.map by8))) := by
  cases L with
  | nil =>
    obtain ⟨k, rfl⟩ : ∃ k', k = k' + 1 := ⟨k - 1, by simp [fu] at hk; omega⟩
    rw [text_digits.l0, if_neg (by simp)]
    rfl
  | cons w r =>
    have hsz : (by8 w).length = w.size := by8_length _
    simp only [List.map_cons, fu] at hk
    simp only [List.map_cons, Lib.lens, List.sum_cons] at hs
    obtain ⟨k, rfl⟩ : ∃ k', k = k' + 2 := ⟨k - 2, by omega⟩
    have e0 : rdOf ByteArray.empty (w :: r) 0 = w := rfl
    have e1 : (Int.tmod (wrap64 ((g : Int) - (((w.size : Nat) : Int) % (g : Int)))) (g : Int)) = ((padn g w.size : Nat) : Int) := by
      unfold padn
      rcases hg with rfl | rfl
      · have : ((w.size : Int) % ((2 : Nat) : Int)) = ((w.size % 2 : Nat) : Int) := by omega
        rw [this, wrap64_id _ (by omega) (by omega), Int.tmod_eq_emod_of_nonneg (by omega)]
        omega
      · have : ((w.size : Int) % ((4 : Nat) : Int)) = ((w.size % 4 : Nat) : Int) := by omega
        rw [this, wrap64_id _ (by omega) (by omega), Int.tmod_eq_emod_of_nonneg (by omega)]
        omega
    have hp : padn g w.size ≤ 4 := by unfold padn; rcases hg with rfl | rfl <;> omega
    rw [text_digits.l0, if_pos (by simp), if_pos (by omega), if_pos (by simp), if_pos rfl, if_neg (by rcases hg with rfl | rfl <;> decide), e0, e1, if_pos (by omega), if_pos (by omega), Int.toNat_natCast, text_digits.j1]
    have hl1 := t_l1 base hb (g : Int) w (w :: r) ((w :: r).length : Int) 0 (by omega) w.size 0 k (List.replicate (padn g w.size) 0) (by omega) (by omega) (by omega) (by rw [List.length_replicate]; omega)
    rw [show ((0 : Nat) : Int) = 0 from rfl, List.drop_zero] at hl1
    rw [hl1, List.map_cons, td, hsz]
    by_cases ho : okw base (by8 w) = true
    · rw [if_pos ho, if_pos ho, show wrap64 (0 + 1) = ((1 : Nat) : Int) by unfold wrap64; omega]
      exact t_l0 base hb g hg (w :: r) hL r.length 1 _ _ (by simp) (by simp) (by omega) (by simp; omega) (by simp [dg_len, List.length_append]; simp only [Lib.lens] at *; omega)
    · rw [if_neg ho, if_neg ho]; rfl
end Dg
end Go.Proofs.YtlekfhnlhdmekaaGreatDoor.T

/- Digits, the whole: what digits of the program and of the reference return. -/
namespace Go.Proofs.YtlekfhnlhdmekaaGreatDoor.T
set_option linter.unusedSimpArgs false
set_option linter.unusedVariables false
open Go.RowKit Go.Proofs.YtlekfhnlhdmekaaGreatDoorW.PrintWords Go.Proofs.YtlekfhnlhdmekaaGreatDoorW.PrintLast Go.Proofs.YtlekfhnlhdmekaaGreatDoorW.PrintMore
namespace Dg
theorem r_l1 (base : Int) (hb : base = 16 ∨ base = 2) (g : Int) (s w : ByteArray) (sp : List S113) (i : Int) (hw : w.size ≤ 100000) : ∀ (d j k : Nat) (acc : List Int), w.size - j = d → j ≤ w.size → d + 21 ≤ k → acc.length + d ≤ 1000000 →
    qanatref02_digits.l1 k s base g acc sp i w (j : Int) = if okw base ((by8 w).drop j) = true then qanatref02_digits.l0 (k - d - 1) s base g (acc ++ dg base ((by8 w).drop j)) sp (wrap64 (i + 1)) else some ([], false)
  | d, j, 0, acc, _, _, h, _ => by omega
  | d, j, k + 1, acc, hd, hj, hk, ha => by
    rw [qanatref02_digits.l1]
    by_cases hlt : j < w.size
    · obtain ⟨b, e1, e2⟩ := by8_drop w j hlt
      rw [if_pos (by omega), if_pos (by omega), e2, r_dig base hb b k (by omega), e1]
      simp only [Option.bind_some]
      by_cases hv : dv base b.toNat < 0
      · rw [if_pos hv, if_neg (by simp only [okw, List.all_cons, Bool.and_eq_true, decide_eq_true_eq]; omega)]
      · rw [if_neg hv, if_pos (by omega), wrap64_id _ (by omega) (by omega), show ((j : Int) + 1) = ((j + 1 : Nat) : Int) by omega,
          r_l1 base hb g s w sp i hw (d - 1) (j + 1) k (acc ++ [dv base b.toNat]) (by omega) (by omega) (by omega) (by rw [List.length_append]; simp; omega)]
        have e3 : okw base (b :: (by8 w).drop (j + 1)) = okw base ((by8 w).drop (j + 1)) := by
          simp only [okw, List.all_cons, decide_eq_true (show 0 ≤ dv base b.toNat by omega), Bool.true_and]
        rw [e3, show k - (d - 1) - 1 = k + 1 - d - 1 by omega]
        simp only [dg, List.map_cons, List.append_assoc, List.singleton_append]
    · rw [if_neg (by omega), List.drop_of_length_le (by rw [by8_length]; omega)]
      rw [if_pos (by rfl), show k + 1 - d - 1 = k by omega]
      simp [dg]
theorem wt_by (s : ByteArray) (x : S105) : by8 (s.extract (cv x).f0.toNat (cv x).f1.toNat) = wt s x := B.extract s _ _
theorem wt_sz (s : ByteArray) (x : S105) : (s.extract (cv x).f0.toNat (cv x).f1.toNat).size = (wt s x).length := by rw [← by8_length, wt_by]
theorem rd113 (s : ByteArray) (i : Nat) (hi : i < (wds s 0).length) : rd_T113 ((wds s 0).map cv) (i : Int) = cv (wds s 0)[i] := by
  unfold rd_T113
  rw [Int.toNat_natCast, List.getD_eq_getElem?_getD, List.getElem?_map, List.getElem?_eq_getElem hi]; rfl
theorem r_l0 (base : Int) (hb : base = 16 ∨ base = 2) (g : Nat) (hg : g = 2 ∨ g = 4) (s : ByteArray) (hs : s.size ≤ 1200) : ∀ (d i k : Nat) (acc : List Int), (wds s 0).length - i = d → i ≤ (wds s 0).length → 1 ≤ i → fu (((wds s 0).drop i).map (wt s)) ≤ k → acc.length + Lib.lens (((wds s 0).drop i).map (wt s)) ≤ 90000 →
    qanatref02_digits.l0 k s base (g : Int) acc ((wds s 0).map cv) (i : Int) = some (ou (tl base g (((wds s 0).drop i).map (wt s)) acc))
  | 0, i, k, acc, hd, hi, h1, hk, ha => by
    rw [List.drop_of_length_le (by omega)] at hk ⊢
    obtain ⟨k, rfl⟩ : ∃ k', k = k' + 1 := ⟨k - 1, by simp [fu] at hk; omega⟩
    rw [qanatref02_digits.l0, List.length_map, if_neg (by omega)]
    rfl
  | d + 1, i, k, acc, hd, hi, h1, hk, ha => by
    have hlt : i < (wds s 0).length := by omega
    have hl := len_le s
    have q := wds_mem s 0 (by omega) _ (List.getElem_mem hlt)
    rw [List.drop_eq_getElem_cons hlt] at hk ha ⊢
    rw [List.map_cons] at hk ha ⊢
    obtain ⟨x, hx⟩ : ∃ x, (wds s 0)[i] = x := ⟨_, rfl⟩
    have hz := wt_sz s x
    have hz2 : (wt s x).length ≤ 1200 := by rw [← hz, ByteArray.size_extract]; omega
    rw [hx] at hk ha q ⊢
    simp only [fu] at hk
    simp only [Lib.lens, List.map_cons, List.sum_cons] at ha
    obtain ⟨k, rfl⟩ : ∃ k', k = k' + 2 := ⟨k - 2, by omega⟩
    rw [qanatref02_digits.l0, List.length_map, rd113 s i hlt, hx]
    rw [if_pos (by omega), if_pos (by omega), if_pos (show 0 ≤ (cv x).f0 from by simp only [cv]; omega), if_pos (show (cv x).f0 ≤ (cv x).f1 from by simp only [cv]; omega), if_pos (show (cv x).f1 ≤ (s.size : Int) from q.2.2), if_pos (by omega), if_neg (by rcases hg with rfl | rfl <;> decide), tl]
    generalize hw : s.extract (cv x).f0.toNat (cv x).f1.toNat = w at hz ⊢
    have hby : by8 w = wt s x := by rw [← hw]; exact wt_by s x
    by_cases hm : (wt s x).length % g = 0
    · rw [show (((w.size : Int) % (g : Int)) != 0) = false from by rw [bne_eq_false_iff_eq]; rw [← hz] at hm; rcases hg with rfl | rfl <;> omega, qanatref02_digits.j2, if_neg (by decide)]
      have hl1 := r_l1 base hb (g : Int) s w ((wds s 0).map cv) (i : Int) (by omega) w.size 0 k acc (by omega) (by omega) (by omega) (by omega)
      rw [show ((0 : Nat) : Int) = 0 from rfl, List.drop_zero, hby] at hl1
      rw [hl1]
      by_cases ho : okw base (wt s x) = true
      · rw [if_pos ho, if_pos ⟨hm, ho⟩, wrap64_id _ (by omega) (by omega), show ((i : Int) + 1) = ((i + 1 : Nat) : Int) by omega]
        exact r_l0 base hb g hg s hs d (i + 1) _ _ (by omega) (by omega) (by omega) (by omega) (by rw [List.length_append, dg_len]; simp only [Lib.lens]; omega)
      · rw [if_neg ho, if_neg (fun h => ho h.2)]; rfl
    · rw [show (((w.size : Int) % (g : Int)) != 0) = true from by rw [bne_iff_ne]; rw [← hz] at hm; rcases hg with rfl | rfl <;> omega, qanatref02_digits.j2, if_pos rfl, if_neg (fun h => hm h.1)]; rfl
/-- What the reference's digits makes of the words. -/
def rdd (base : Int) (g : Nat) : List (List UInt8) → Option (List Int)
  | [] => some []
  | w :: r => if okw base w = true then tl base g r (dg base w) else none
theorem r_all (base : Int) (hb : base = 16 ∨ base = 2) (g : Nat) (hg : g = 2 ∨ g = 4) (s : ByteArray) (hs : s.size ≤ 1200) (hn : Lib.lens ((wds s 0).map (wt s)) ≤ 80000) (k : Nat) (hk : fu ((wds s 0).map (wt s)) ≤ k) :
    qanatref02_digits.l0 k s base (g : Int) [] ((wds s 0).map cv) 0 = some (ou (rdd base g ((wds s 0).map (wt s)))) := by
  by_cases hlt : 0 < (wds s 0).length
  · have hl := len_le s
    have q := wds_mem s 0 (by omega) _ (List.getElem_mem hlt)
    have hd0 : wds s 0 = (wds s 0)[0] :: (wds s 0).drop 1 := by
      have := List.drop_eq_getElem_cons hlt
      rwa [List.drop_zero] at this
    obtain ⟨x, hx⟩ : ∃ x, (wds s 0)[0] = x := ⟨_, rfl⟩
    rw [hx] at hd0 q
    have hmap : (wds s 0).map (wt s) = wt s x :: ((wds s 0).drop 1).map (wt s) := by conv => lhs; rw [hd0, List.map_cons]
    have hz := wt_sz s x
    have hz2 : (wt s x).length ≤ 1200 := by rw [← hz, ByteArray.size_extract]; omega
    rw [hmap] at hk hn ⊢
    simp only [fu] at hk
    simp only [Lib.lens, List.map_cons, List.sum_cons] at hn
    obtain ⟨k, rfl⟩ : ∃ k', k = k' + 2 := ⟨k - 2, by omega⟩
    have hrd := rd113 s 0 hlt
    rw [hx, show ((0 : Nat) : Int) = 0 from rfl] at hrd
    rw [qanatref02_digits.l0, List.length_map, hrd]
    rw [if_pos (by omega), if_pos (by omega), if_pos (show 0 ≤ (cv x).f0 from by simp only [cv]; omega), if_pos (show (cv x).f0 ≤ (cv x).f1 from by simp only [cv]; omega), if_pos (show (cv x).f1 ≤ (s.size : Int) from q.2.2), if_neg (by omega), rdd]
    generalize hw : s.extract (cv x).f0.toNat (cv x).f1.toNat = w at hz ⊢
    have hby : by8 w = wt s x := by rw [← hw]; exact wt_by s x
    rw [qanatref02_digits.j2, if_neg (by decide)]
    have hl1 := r_l1 base hb (g : Int) s w ((wds s 0).map cv) 0 (by omega) w.size 0 k [] (by omega) (by omega) (by omega) (by simp; omega)
    rw [show ((0 : Nat) : Int) = 0 from rfl, List.drop_zero, hby, List.nil_append] at hl1
    rw [hl1]
    by_cases ho : okw base (wt s x) = true
    · rw [if_pos ho, if_pos ho, show wrap64 (0 + 1) = ((1 : Nat) : Int) by unfold wrap64; omega]
      exact r_l0 base hb g hg s hs ((wds s 0).length - 1) 1 _ _ (by omega) (by omega) (by omega) (by omega) (by rw [dg_len]; simp only [Lib.lens]; omega)
    · rw [if_neg ho, if_neg ho]; rfl
  · have e : wds s 0 = [] := List.eq_nil_of_length_eq_zero (by omega)
    rw [e] at hk ⊢
    obtain ⟨k, rfl⟩ : ∃ k', k = k' + 1 := ⟨k - 1, by simp [fu] at hk; omega⟩
    rw [qanatref02_digits.l0, if_neg (by simp)]
    rfl
/-! Trimming. -/
theorem dw_le (l : List UInt8) (c : UInt8) : (Lib.trimLeftB l c).length ≤ l.length := (List.dropWhile_suffix _).length_le
theorem tr_le (l : List UInt8) (c : UInt8) : (Lib.trimRightB l c).length ≤ l.length := by
  unfold Lib.trimRightB
  rw [List.length_reverse]
  have := (List.dropWhile_suffix (l := l.reverse) (· == c)).length_le
  rwa [List.length_reverse] at this
/-- A string that begins or ends with a blank. -/
def be (l : List UInt8) : Prop := (∃ t, l = 32 :: t) ∨ ∃ t, l = t ++ [32]
theorem trim_be (l : List UInt8) : Lib.trimB l 32 = l ↔ ¬ be l := by
  constructor
  · intro h hb
    have h1 := dw_le (Lib.trimRightB l 32) 32
    have h2 := tr_le l 32
    have h3 := congrArg List.length h
    unfold Lib.trimB at h3
    rcases hb with ⟨t, rfl⟩ | ⟨t, rfl⟩
    · cases hr : Lib.trimRightB (32 :: t) 32 with
      | nil => rw [hr] at h3; simp [Lib.trimLeftB] at h3
      | cons b u =>
        rw [hr] at h1 h2 h3
        have hpre : (b :: u) <+: (32 :: t) := by
          rw [← hr]
          unfold Lib.trimRightB
          have := (List.dropWhile_suffix (l := (32 :: t).reverse) (· == (32 : UInt8)))
          have h4 := List.reverse_prefix.2 this
          rwa [List.reverse_reverse] at h4
        obtain ⟨v, hv⟩ := hpre
        have hb32 : b = 32 := (List.cons.inj hv).1
        subst hb32
        have : (Lib.trimLeftB (32 :: u) 32).length ≤ u.length := by
          unfold Lib.trimLeftB
          rw [List.dropWhile_cons_of_pos (by rfl)]
          exact (List.dropWhile_suffix _).length_le
        simp at h1 h2 h3
        omega
    · have : (Lib.trimRightB (t ++ [32]) 32).length ≤ t.length := by
        unfold Lib.trimRightB
        rw [List.length_reverse, List.reverse_append, List.reverse_singleton, List.singleton_append, List.dropWhile_cons_of_pos (by rfl)]
        have := (List.dropWhile_suffix (l := t.reverse) (· == (32 : UInt8))).length_le
        rwa [List.length_reverse] at this
      simp at h3
      omega
  · intro h
    have h1 : Lib.trimRightB l 32 = l := by
      unfold Lib.trimRightB
      cases hr : l.reverse with
      | nil => rw [List.reverse_eq_nil_iff] at hr; rw [hr]; rfl
      | cons b u =>
        have hl : l = u.reverse ++ [b] := by rw [← List.reverse_reverse l, hr, List.reverse_cons]
        have hb : b ≠ 32 := fun e => h (.inr ⟨u.reverse, by rw [hl, e]⟩)
        rw [List.dropWhile_cons_of_neg (by simpa using hb), ← hr, List.reverse_reverse]
    unfold Lib.trimB
    rw [h1]
    unfold Lib.trimLeftB
    cases hl : l with
    | nil => rfl
    | cons b u =>
      have hb : b ≠ 32 := fun e => h (.inl ⟨u, by rw [hl, e]⟩)
      rw [List.dropWhile_cons_of_neg (by simpa using hb)]
end Dg
end Go.Proofs.YtlekfhnlhdmekaaGreatDoor.T

/- Digits, the whole: trimmed, with the words of the string; what is filled up. -/
namespace Go.Proofs.YtlekfhnlhdmekaaGreatDoor.T
set_option linter.unusedSimpArgs false
set_option linter.unusedVariables false
open Go.RowKit Go.Proofs.YtlekfhnlhdmekaaGreatDoorW.PrintWords Go.Proofs.YtlekfhnlhdmekaaGreatDoorW.PrintLast Go.Proofs.YtlekfhnlhdmekaaGreatDoorW.PrintMore
namespace Dg
theorem fldU : ∀ (f : Nat) (cur l : List UInt8), Lib.lens (Lib.fieldsGoU f cur l) ≤ cur.length + l.length ∧ (Lib.fieldsGoU f cur l).length ≤ l.length + 1
  | 0, cur, l => by
    simp only [Lib.fieldsGoU]
    split <;> simp [Lib.lens]
  | f + 1, cur, [] => by
    simp only [Lib.fieldsGoU]
    split <;> simp [Lib.lens]
  | f + 1, cur, b :: t => by
    simp only [Lib.fieldsGoU]
    split
    · have ih := fldU f (cur ++ [b]) t
      simp at ih ⊢; omega
    · rename_i h
      have ih := fldU f [] ((b :: t).drop (Lib.headSpace (b :: t)))
      have hd : ((b :: t).drop (Lib.headSpace (b :: t))).length + 1 ≤ (b :: t).length := by
        rw [List.length_drop]; simp; omega
      split
      · simp [Lib.lens] at ih hd ⊢; omega
      · simp [Lib.lens] at ih hd ⊢; omega
theorem fldD (l : List UInt8) : Lib.lens (Lib.fieldsD l) ≤ l.length ∧ (Lib.fieldsD l).length ≤ l.length + 1 := by
  rw [← Lib.fieldsU_eq]
  have := fldU (l.length + 1) [] l
  simpa [Lib.fieldsU] using this
theorem fu_eq (L : List (List UInt8)) : fu L = Lib.lens L + 30 * L.length + 1 := by
  induction L with
  | nil => rfl
  | cons w r ih => simp [fu, ih, Lib.lens]; omega
def ba (l : List UInt8) : ByteArray := ⟨l.toArray⟩
theorem map_by (L : List (List UInt8)) : (L.map fun x => (⟨x.toArray⟩ : ByteArray)).map by8 = L := by
  rw [List.map_map]
  conv => rhs; rw [← List.map_id L]
  exact List.map_congr_left (fun x _ => rfl)
theorem t_be (base : Int) (g : Int) (s : ByteArray) (hs : s.size ≤ 1200) (k : Nat) (h : be (by8 s)) : text_digits.f k s base g = some ([], false) := by
  unfold text_digits.f
  have e : strings_Trim.f s (⟨#[32]⟩ : ByteArray) = some ⟨(Lib.trimB s.data.toList 32).toArray⟩ := by
    unfold strings_Trim.f
    exact if_pos ⟨by decide, by omega⟩
  rw [e]
  simp only [Option.bind_some]
  rw [if_neg]
  intro h2
  rw [B.toL, B.toL] at h2
  exact (trim_be (by8 s)).1 h2.symm h
theorem t_ok (base : Int) (hb : base = 16 ∨ base = 2) (g : Nat) (hg : g = 2 ∨ g = 4) (s : ByteArray) (hs : s.size ≤ 1200) (k : Nat) (hk : 40000 ≤ k) (h : ¬ be (by8 s)) : text_digits.f k s base (g : Int) = some (ou (td base g (Lib.fieldsD (by8 s)))) := by
  unfold text_digits.f
  have e : strings_Trim.f s (⟨#[32]⟩ : ByteArray) = some ⟨(Lib.trimB s.data.toList 32).toArray⟩ := by
    unfold strings_Trim.f
    exact if_pos ⟨by decide, by omega⟩
  have hl := fldD (by8 s)
  rw [by8_length] at hl
  rw [e]
  simp only [Option.bind_some]
  rw [if_pos (by rw [B.toL, B.toL]; exact ((trim_be (by8 s)).2 h).symm)]
  unfold text_in.f
  rw [if_pos (by omega)]
  simp only [Option.bind_some]
  have := t_all base hb g hg ((Lib.fieldsD (by8 s)).map fun x => (⟨x.toArray⟩ : ByteArray)) (by rw [List.length_map]; omega) (by rw [map_by]; omega) k (by rw [map_by, fu_eq]; omega)
  rw [map_by] at this
  exact this
theorem r_lens (s : ByteArray) (hs : s.size ≤ 1200) : Lib.lens ((wds s 0).map (wt s)) ≤ 1201 ∧ ((wds s 0).map (wt s)).length ≤ 1201 := by
  have h1 := wd_drop s 0 (Nat.zero_le _)
  rw [List.drop_zero] at h1
  have h2 := fw_len (by8 s) []
  rw [h1, by8_length] at h2
  simp at h2 ⊢
  omega
theorem ends_be (s : ByteArray) (h0 : 0 < s.size) : be (by8 s) ↔ bt s 0 = 32 ∨ bt s ((s.size - 1 : Nat) : Int) = 32 := by
  obtain ⟨b, e1, e2⟩ := by8_drop s 0 h0
  obtain ⟨c, e3, e4⟩ := by8_drop s (s.size - 1) (by omega)
  rw [List.drop_zero] at e1
  rw [show ((0 : Nat) : Int) = 0 from rfl] at e2
  have e5 : (by8 s).drop (s.size - 1 + 1) = [] := List.drop_of_length_le (by rw [by8_length]; omega)
  rw [e5] at e3
  have e6 : by8 s = (by8 s).take (s.size - 1) ++ [c] := by
    conv => lhs; rw [← List.take_append_drop (s.size - 1) (by8 s), e3]
  rw [e2, e4, ← b32, ← b32]
  constructor
  · rintro (⟨t, ht⟩ | ⟨t, ht⟩)
    · rw [e1] at ht; exact .inl (List.cons.inj ht).1
    · rw [ht] at e6
      have := List.append_inj' e6 rfl
      exact .inr (List.cons.inj this.2).1.symm
  · rintro (h | h)
    · exact .inl ⟨_, by rw [e1, h]⟩
    · exact .inr ⟨_, by rw [e6, h]⟩
theorem r_be (base : Int) (g : Int) (s : ByteArray) (hs : s.size ≤ 1200) (k : Nat) (hk : 40000 ≤ k) (h : be (by8 s)) : qanatref02_digits.f k s base g = some ([], false) := by
  have h0 : 0 < s.size := by
    rcases h with ⟨t, ht⟩ | ⟨t, ht⟩
    · have := congrArg List.length ht; rw [by8_length] at this; simp at this; omega
    · have := congrArg List.length ht; rw [by8_length] at this; simp at this; omega
  unfold qanatref02_digits.f
  have hsp : qanatref02_Spans.f k s = some ((wds s 0).map cv) := by
    obtain ⟨d, rfl⟩ : ∃ d, k = 3602 + d := ⟨k - 3602, by omega⟩
    clear hk
    induction d with
    | zero => exact spans_eq s hs 3602 (by omega) (by omega)
    | succ d ih => exact qanatref02_Spans.mono s (3602 + d) _ ih
  rw [hsp]
  simp only [Option.bind_some]
  have hj : ∀ q : Bool, q = true → qanatref02_digits.j0 k s base g [] ((wds s 0).map cv) q = some ([], false) := by
    intro q hq
    obtain ⟨k, rfl⟩ : ∃ k', k = k' + 1 := ⟨k - 1, by omega⟩
    rw [qanatref02_digits.j0, if_pos hq]
  rw [if_pos (by omega), if_pos (by omega)]
  rcases (ends_be s h0).1 h with h1 | h1
  · rw [if_pos h1, hj _ rfl]
  · by_cases h2 : bt s 0 = 32
    · rw [if_pos h2, hj _ rfl]
    · rw [if_neg h2, wrap64_id _ (by omega) (by omega), if_pos (by omega), if_pos (by omega), show (s.size : Int) - 1 = ((s.size - 1 : Nat) : Int) by omega, hj _ (by rw [h1]; rfl)]
theorem r_ok (base : Int) (hb : base = 16 ∨ base = 2) (g : Nat) (hg : g = 2 ∨ g = 4) (s : ByteArray) (hs : s.size ≤ 1200) (k : Nat) (hk : 40001 ≤ k) (h : ¬ be (by8 s)) : qanatref02_digits.f k s base (g : Int) = some (ou (rdd base g ((wds s 0).map (wt s)))) := by
  unfold qanatref02_digits.f
  have hsp : qanatref02_Spans.f k s = some ((wds s 0).map cv) := by
    obtain ⟨d, rfl⟩ : ∃ d, k = 3602 + d := ⟨k - 3602, by omega⟩
    clear hk
    induction d with
    | zero => exact spans_eq s hs 3602 (by omega) (by omega)
    | succ d ih => exact qanatref02_Spans.mono s (3602 + d) _ ih
  rw [hsp]
  simp only [Option.bind_some]
  have hl := r_lens s hs
  have hj : ∀ q : Bool, q = false → qanatref02_digits.j0 k s base (g : Int) [] ((wds s 0).map cv) q = some (ou (rdd base g ((wds s 0).map (wt s)))) := by
    intro q hq
    obtain ⟨k, rfl⟩ : ∃ k', k = k' + 1 := ⟨k - 1, by omega⟩
    rw [qanatref02_digits.j0, if_neg (by rw [hq]; decide)]
    exact r_all base hb g hg s hs (by omega) k (by rw [fu_eq]; omega)
  by_cases h0 : 0 < s.size
  · rw [if_pos (by omega), if_pos (by omega)]
    have h1 : bt s 0 ≠ 32 := fun e => h ((ends_be s h0).2 (.inl e))
    have h2 : bt s ((s.size - 1 : Nat) : Int) ≠ 32 := fun e => h ((ends_be s h0).2 (.inr e))
    rw [if_neg h1, wrap64_id _ (by omega) (by omega), if_pos (by omega), if_pos (by omega), show (s.size : Int) - 1 = ((s.size - 1 : Nat) : Int) by omega, hj _ (beq_eq_false_iff_ne.mpr h2)]
  · rw [if_neg (by omega), hj _ rfl]
/-! What is filled up. -/
theorem tl_acc (base : Int) (g : Nat) : ∀ (r : List (List UInt8)) (a b : List Int), tl base g r (a ++ b) = (tl base g r b).map (a ++ ·)
  | [], a, b => rfl
  | w :: r, a, b => by
    rw [tl, tl]
    split
    · rw [List.append_assoc]; exact tl_acc base g r a _
    · rfl
theorem tl_some (base : Int) (hb : base = 16 ∨ base = 2) (g : Nat) : ∀ (r : List (List UInt8)) (acc l : List Int), tl base g r acc = some l → ∃ t, l = acc ++ t ∧ t.length = Lib.lens r ∧ t.length % g = 0 ∧ ∀ n ∈ t, 0 ≤ n ∧ n < base
  | [], acc, l, h => ⟨[], by simpa [tl] using h.symm, rfl, Nat.zero_mod _, fun n hn => by cases hn⟩
  | w :: r, acc, l, h => by
    rw [tl] at h
    split at h
    · rename_i hc
      obtain ⟨t, rfl, h2, h3, h4⟩ := tl_some base hb g r _ l h
      refine ⟨dg base w ++ t, by rw [List.append_assoc], by rw [List.length_append, dg_len, h2]; simp [Lib.lens], by rw [List.length_append, dg_len, Nat.add_mod, hc.1, h3]; simp, fun n hn => ?_⟩
      rcases List.mem_append.1 hn with hn | hn
      · obtain ⟨b, hb2, rfl⟩ := List.mem_map.1 hn
        have := List.all_eq_true.1 hc.2 b hb2
        exact ⟨of_decide_eq_true this, (tabs base hb b).2.2⟩
      · exact h4 n hn
    · cases h
def P (g : Nat) (l : List Int) : List Int := List.replicate (padn g l.length) 0 ++ l
theorem td_rdd (base : Int) (hb : base = 16 ∨ base = 2) (g : Nat) (hg : g = 2 ∨ g = 4) (L : List (List UInt8)) : td base g L = (rdd base g L).map (P g) := by
  cases L with
  | nil =>
    rcases hg with rfl | rfl <;> rfl
  | cons w r =>
    rw [td, rdd]
    split
    · rw [tl_acc]
      cases e : tl base g r (dg base w) with
      | none => rfl
      | some l =>
        obtain ⟨t, rfl, h2, h3, h4⟩ := tl_some base hb g r _ l e
        show some _ = some _
        have : padn g (dg base w ++ t).length = padn g w.length := by
          unfold padn
          rw [List.length_append, dg_len, Nat.add_mod, h3]
          simp
        rw [P, this]
    · rfl
theorem rdd_some (base : Int) (hb : base = 16 ∨ base = 2) (g : Nat) (L : List (List UInt8)) (l : List Int) (h : rdd base g L = some l) : l.length = Lib.lens L ∧ ∀ n ∈ l, 0 ≤ n ∧ n < base := by
  cases L with
  | nil => obtain rfl := Option.some.inj h; exact ⟨rfl, fun n hn => by cases hn⟩
  | cons w r =>
    rw [rdd] at h
    split at h
    · rename_i hc
      obtain ⟨t, rfl, h2, h3, h4⟩ := tl_some base hb g r _ l h
      refine ⟨by rw [List.length_append, dg_len, h2]; simp [Lib.lens], fun n hn => ?_⟩
      rcases List.mem_append.1 hn with hn | hn
      · obtain ⟨b, hb2, rfl⟩ := List.mem_map.1 hn
        have := List.all_eq_true.1 hc b hb2
        exact ⟨of_decide_eq_true this, (tabs base hb b).2.2⟩
      · exact h4 n hn
    · cases h
theorem padn_lt (g n : Nat) (hg : g = 2 ∨ g = 4) : padn g n < g ∧ (padn g n + n) % g = 0 := by
  unfold padn; rcases hg with rfl | rfl <;> omega
theorem P_len (g : Nat) (l : List Int) : (P g l).length = padn g l.length + l.length := by rw [P, List.length_append, List.length_replicate]
theorem P_mem (g : Nat) (base : Int) (hb : base = 16 ∨ base = 2) (l : List Int) (h : ∀ n ∈ l, 0 ≤ n ∧ n < base) : ∀ n ∈ P g l, 0 ≤ n ∧ n < base := by
  intro n hn
  rcases List.mem_append.1 hn with hn | hn
  · rw [List.eq_of_mem_replicate hn]; omega
  · exact h n hn
end Dg
end Go.Proofs.YtlekfhnlhdmekaaGreatDoor.T

/- C2X, X2C, B2X and X2B of the program: what their loops make. -/
namespace Go.Proofs.YtlekfhnlhdmekaaGreatDoor.T
set_option linter.unusedSimpArgs false
set_option linter.unusedVariables false
open Go.RowKit Go.Proofs.YtlekfhnlhdmekaaGreatDoorW.PrintWords Go.Proofs.YtlekfhnlhdmekaaGreatDoorW.PrintLast Go.Proofs.YtlekfhnlhdmekaaGreatDoorW.PrintMore
namespace Dg
def H : ByteArray := ⟨#[48, 49, 50, 51, 52, 53, 54, 55, 56, 57, 65, 66, 67, 68, 69, 70]⟩
theorem tabX : (List.range 256).all (fun b => decide (Go.bits .and .u8 (b : Int) 15 = (b : Int) % 16) && decide ((Int.tdiv (b : Int) 16) % 256 = (b : Int) / 16) && decide (Int.tmod (b : Int) 16 = (b : Int) % 16)) = true := by kernel_rfl
theorem tabB : (List.range 16).all (fun n => nn4 (n : Int) && [8, 4, 2, 1].all (fun (x : Nat) => decide (0 ≤ Int.tmod (wrap64 (Int.tdiv (n : Int) (x : Int))) 2) && decide (Int.tmod (wrap64 (Int.tdiv (n : Int) (x : Int))) 2 < 16) && decide (bt H (Int.tmod (wrap64 (Int.tdiv (n : Int) (x : Int))) 2) = bit01 (n : Int) (x : Int)))) = true := by kernel_rfl
theorem bt_rng (s : ByteArray) (i : Int) : 0 ≤ bt s i ∧ bt s i < 256 := by
  have e : bt s i = (bytesOf s).getD i.toNat 0 := by rw [← rd_bytesOf]; rfl
  rw [e, List.getD_eq_getElem?_getD]
  by_cases h : i.toNat < (bytesOf s).length
  · rw [List.getElem?_eq_getElem h]
    have hm := List.getElem_mem h
    unfold bytesOf at hm ⊢
    obtain ⟨b, _, hb⟩ := List.mem_map.1 hm
    simp only [Option.getD_some]
    rw [← hb]
    have := b.toNat_lt
    omega
  · rw [List.getElem?_eq_none (by omega)]; simp
def hx (b : Int) : List Int := [bt H (b / 16), bt H (b % 16)]
theorem tX (b : UInt8) : Go.bits .and .u8 (b.toNat : Int) 15 = (b.toNat : Int) % 16 ∧ (Int.tdiv (b.toNat : Int) 16) % 256 = (b.toNat : Int) / 16 ∧ Int.tmod (b.toNat : Int) 16 = (b.toNat : Int) % 16 := by
  have := List.all_eq_true.1 tabX _ (List.mem_range.2 b.toNat_lt)
  simp only [Bool.and_eq_true, decide_eq_true_eq] at this
  exact ⟨this.1.1, this.1.2, this.2⟩
def hxs (l : List UInt8) : List Int := l.flatMap fun b => hx (b.toNat : Int)
theorem hxs_rng (l : List UInt8) : ∀ x ∈ hxs l, 0 ≤ x ∧ x < 256 := by
  intro x hx2
  obtain ⟨b, _, hb⟩ := List.mem_flatMap.1 hx2
  simp only [hx, List.mem_cons, List.not_mem_nil, or_false] at hb
  rcases hb with rfl | rfl <;> exact bt_rng _ _
theorem bindp {α β : Type} (o : Option (α × β)) : (o.bind fun bt => some (bt.1, bt.2)) = o := by cases o <;> rfl
theorem t_c2x (s : ByteArray) (hs : s.size ≤ 1200) : ∀ (d i k : Nat) (acc : List Int), s.size - i = d → i ≤ s.size → d < k → acc.length + 2 * d ≤ 100000 → text_C2X.l0 k s acc (s.size : Int) (i : Int) = text_made.f (strOfNums (acc ++ hxs ((by8 s).drop i)))
  | d, i, 0, acc, _, _, h, _ => by omega
  | d, i, k + 1, acc, hd, hi, hk, ha => by
    rw [text_C2X.l0]
    by_cases hlt : i < s.size
    · obtain ⟨b, e1, e2⟩ := by8_drop s i hlt
      have hb := b.toNat_lt
      have hx1 := tX b
      rw [if_pos (by omega), if_pos (by omega), if_pos (by omega), e2, e1, hx1.1, if_pos (by omega), if_pos (by omega), if_pos (by omega), if_pos (by omega)]
      simp only [Option.bind_some]
      rw [if_pos (by simp; omega), wrap64_id _ (by omega) (by omega), show ((i : Int) + 1) = ((i + 1 : Nat) : Int) by omega, t_c2x s hs (d - 1) (i + 1) k _ (by omega) (by omega) (by omega) (by rw [List.length_append]; simp; omega), List.append_assoc]
      rfl
    · rw [if_neg (by omega), List.drop_of_length_le (by rw [by8_length]; omega), bindp]
      simp [hxs]
theorem made_some (x : ByteArray) : ∃ v e, text_made.f x = some (v, e) := by
  rw [made_eq]; split
  · exact ⟨_, _, rfl⟩
  · split <;> exact ⟨_, _, rfl⟩
theorem rd_nat' (m : List Int) (i : Nat) (hi : i < m.length) : rd m (i : Int) = m[i] := by
  unfold rd; rw [Int.toNat_natCast, List.getD_eq_getElem?_getD, List.getElem?_eq_getElem hi]; rfl
theorem drop2 (m : List Int) (i : Nat) (hi : i + 1 < m.length) : m.drop i = m[i] :: m[i + 1] :: m.drop (i + 2) := by
  rw [List.drop_eq_getElem_cons (show i < m.length by omega), List.drop_eq_getElem_cons hi]
def prs : List Int → List Int
  | a :: b :: r => (wrap64 (wrap64 (16 * a) + b)) % 256 :: prs r
  | _ => []
theorem prs_rng : ∀ (l : List Int), ∀ x ∈ prs l, 0 ≤ x ∧ x < 256
  | [], x, h => by cases h
  | [a], x, h => by cases h
  | a :: b :: r, x, h => by
    rcases List.mem_cons.1 h with rfl | h
    · omega
    · exact prs_rng r x h
theorem t_x2c (m : List Int) (hm : m.length ≤ 5000) : ∀ (d i k : Nat) (acc : List Int), m.length = i + 2 * d → d < k → acc.length + d ≤ 100000 → text_X2C.l0 k m acc (i : Int) = text_made.f (strOfNums (acc ++ prs (m.drop i)))
  | d, i, 0, acc, _, h, _ => by omega
  | 0, i, k + 1, acc, hd, hk, ha => by
    rw [text_X2C.l0, if_neg (by omega), List.drop_of_length_le (by omega), bindp]
    simp [prs]
  | d + 1, i, k + 1, acc, hd, hk, ha => by
    have h1 : i + 1 < m.length := by omega
    rw [text_X2C.l0, wrap64_id ((i : Int) + 1) (by omega) (by omega), wrap64_id ((i : Int) + 2) (by omega) (by omega), if_pos (by omega), if_pos (by omega), if_pos (by omega), if_pos (by omega), if_pos (by omega),
      rd_nat' m i (by omega), show ((i : Int) + 1) = ((i + 1 : Nat) : Int) by omega, rd_nat' m (i + 1) h1, show ((i : Int) + 2) = ((i + 2 : Nat) : Int) by omega, t_x2c m hm d (i + 2) k _ (by omega) (by omega) (by rw [List.length_append]; simp; omega), drop2 m i h1, prs, List.append_assoc]
    rfl
theorem lens_fw (s : ByteArray) : Lib.lens (fw [] (by8 s)) ≤ s.size + 1 := by
  have := fw_len (by8 s) []
  rw [by8_length] at this
  simp at this
  omega
def qv (a b c d : Int) : Int := wrap64 (wrap64 (wrap64 (wrap64 (8 * a) + wrap64 (4 * b)) + wrap64 (2 * c)) + d)
def qds : List Int → List Int
  | a :: b :: c :: d :: r => bt H (qv a b c d) :: qds r
  | _ => []
theorem qds_rng : ∀ (n : Nat) (l : List Int), l.length ≤ n → ∀ x ∈ qds l, 0 ≤ x ∧ x < 256
  | n, [], _, x, h => by cases h
  | n, [a], _, x, h => by cases h
  | n, [a, b], _, x, h => by cases h
  | n, [a, b, c], _, x, h => by cases h
  | 0, a :: b :: c :: d :: r, hl, x, h => by simp at hl
  | n + 1, a :: b :: c :: d :: r, hl, x, h => by
    rcases List.mem_cons.1 h with rfl | h
    · exact bt_rng _ _
    · exact qds_rng n r (by simp at hl; omega) x h
theorem qv_rng (a b c d : Int) (ha : 0 ≤ a ∧ a < 2) (hb : 0 ≤ b ∧ b < 2) (hc : 0 ≤ c ∧ c < 2) (hd : 0 ≤ d ∧ d < 2) : 0 ≤ qv a b c d ∧ qv a b c d < 16 := by
  unfold qv wrap64; omega
theorem drop4 (m : List Int) (i : Nat) (hi : i + 3 < m.length) : m.drop i = m[i] :: m[i + 1] :: m[i + 2] :: m[i + 3] :: m.drop (i + 4) := by
  rw [drop2 m i (by omega), drop2 m (i + 2) (by omega)]
theorem t_b2x (m : List Int) (hm : m.length ≤ 5000) (hr : ∀ n ∈ m, 0 ≤ n ∧ n < 2) : ∀ (d i k : Nat) (acc : List Int), m.length = i + 4 * d → d < k → acc.length + d ≤ 100000 → text_B2X.l0 k m acc (i : Int) = text_made.f (strOfNums (acc ++ qds (m.drop i)))
  | d, i, 0, acc, _, h, _ => by omega
  | 0, i, k + 1, acc, hd, hk, ha => by
    rw [text_B2X.l0, if_neg (by omega), List.drop_of_length_le (by omega), bindp]
    simp [qds]
  | d + 1, i, k + 1, acc, hd, hk, ha => by
    have h3 : i + 3 < m.length := by omega
    have q := qv_rng m[i] m[i + 1] m[i + 2] m[i + 3] (hr _ (List.getElem_mem _)) (hr _ (List.getElem_mem _)) (hr _ (List.getElem_mem _)) (hr _ (List.getElem_mem _))
    rw [text_B2X.l0, wrap64_id ((i : Int) + 1) (by omega) (by omega), wrap64_id ((i : Int) + 2) (by omega) (by omega), wrap64_id ((i : Int) + 3) (by omega) (by omega), wrap64_id ((i : Int) + 4) (by omega) (by omega), show ((i : Int) + 1) = ((i + 1 : Nat) : Int) by omega, show ((i : Int) + 2) = ((i + 2 : Nat) : Int) by omega, show ((i : Int) + 3) = ((i + 3 : Nat) : Int) by omega, show ((i : Int) + 4) = ((i + 4 : Nat) : Int) by omega,
      rd_nat' m i (by omega), rd_nat' m (i + 1) (by omega), rd_nat' m (i + 2) (by omega), rd_nat' m (i + 3) (by omega)]
    rw [if_pos (by omega), if_pos (by omega), if_pos (by omega), if_pos (by omega), if_pos (by omega), if_pos (by omega), if_pos (by omega), if_pos (by omega), if_pos (show 0 ≤ wrap64 (wrap64 (wrap64 (wrap64 (8 * m[i]) + wrap64 (4 * m[i + 1])) + wrap64 (2 * m[i + 2])) + m[i + 3]) from q.1), if_pos (show wrap64 (wrap64 (wrap64 (wrap64 (8 * m[i]) + wrap64 (4 * m[i + 1])) + wrap64 (2 * m[i + 2])) + m[i + 3]) < 16 from q.2), if_pos (by omega),
      t_b2x m hm hr d (i + 4) k _ (by omega) (by omega) (by rw [List.length_append]; simp; omega), drop4 m i h3, qds, List.append_assoc]
    rfl
theorem tB (n : Int) (h : 0 ≤ n ∧ n < 16) : nn4 n = true ∧ ∀ x : Nat, x = 8 ∨ x = 4 ∨ x = 2 ∨ x = 1 → 0 ≤ Int.tmod (wrap64 (Int.tdiv n (x : Int))) 2 ∧ Int.tmod (wrap64 (Int.tdiv n (x : Int))) 2 < 16 ∧ bt H (Int.tmod (wrap64 (Int.tdiv n (x : Int))) 2) = bit01 n (x : Int) := by
  obtain ⟨m, rfl⟩ := Int.eq_ofNat_of_zero_le h.1
  have := List.all_eq_true.1 tabB m (List.mem_range.2 (by omega))
  simp only [List.all_cons, List.all_nil, Bool.and_eq_true, decide_eq_true_eq, Bool.and_true] at this
  refine ⟨this.1, fun x hx => ?_⟩
  rcases hx with rfl | rfl | rfl | rfl
  · exact ⟨this.2.1.1.1, this.2.1.1.2, this.2.1.2⟩
  · exact ⟨this.2.2.1.1.1, this.2.2.1.1.2, this.2.2.1.2⟩
  · exact ⟨this.2.2.2.1.1.1, this.2.2.2.1.1.2, this.2.2.2.1.2⟩
  · exact ⟨this.2.2.2.2.1.1, this.2.2.2.2.1.2, this.2.2.2.2.2⟩
theorem b4_rng (l : List Int) : ∀ x ∈ l.flatMap b4, 0 ≤ x ∧ x < 256 := by
  intro x hx
  obtain ⟨n, _, hn⟩ := List.mem_flatMap.1 hx
  have hb : ∀ y, 0 ≤ bit01 n y ∧ bit01 n y < 256 := fun y => by unfold bit01; split <;> omega
  simp only [b4, List.mem_cons, List.not_mem_nil, or_false] at hn
  rcases hn with rfl | rfl | rfl | rfl <;> exact hb _
theorem ix_blank (t : List UInt8) : Lib.index (32 :: t) [32] = 0 := by simp [Lib.index]
theorem ix_other (b : UInt8) (t : List UInt8) (h : b ≠ 32) : Lib.index (b :: t) [32] = if Lib.index t [32] == -1 then -1 else Lib.index t [32] + 1 := by
  rw [Lib.index, if_neg]
  simp
  exact fun e => h e.symm
theorem rk_other (b : UInt8) (t : List UInt8) (h : b ≠ 32) : ∀ k, Lib.replaceK [32] [] k (b :: t) = b :: Lib.replaceK [32] [] k t
  | 0 => rfl
  | k + 1 => by
    have hg := Lib.index_ge t [32]
    rw [Lib.replaceK, Lib.replaceK, ix_other b t h]
    by_cases e : Lib.index t [32] = -1
    · rw [e]; rfl
    · obtain ⟨i, hi⟩ : ∃ i : Nat, Lib.index t [32] = i := ⟨(Lib.index t [32]).toNat, by omega⟩
      have c1 : ((i : Int) == -1) = false := beq_eq_false_iff_ne.mpr (by omega)
      have c2 : ((i : Int) + 1 == -1) = false := beq_eq_false_iff_ne.mpr (by omega)
      rw [hi]
      simp only [c1, Bool.false_eq_true, if_false, c2]
      rw [show ((i : Int) + 1).toNat = i + 1 by omega, Int.toNat_natCast, show i + 1 + [(32 : UInt8)].length = (i + [(32 : UInt8)].length) + 1 by simp]
      rfl
theorem rk_all : ∀ l : List UInt8, (Lib.replaceK [32] [] (l.count 32) l).length = (l.filter fun b => !(b == 32)).length
  | [] => rfl
  | b :: t => by
    by_cases h : b = 32
    · subst h
      rw [List.count_cons_self, Lib.replaceK_hit [32] [] (t.count 32) (32 :: t) 0 (ix_blank t)]
      simp
      have := rk_all t
      simpa using this
    · rw [List.count_cons_of_ne (fun e => h e), rk_other b t h, List.filter_cons_of_pos (by simp [h]), List.length_cons, List.length_cons, rk_all t]
theorem fw_lens : ∀ (u cur : List UInt8), Lib.lens (fw cur u) = cur.length + (u.filter fun b => !(b == 32)).length
  | [], cur => by
    simp only [fw]
    split
    · rename_i h; simp [Lib.lens, h]
    · simp [Lib.lens]
  | b :: u, cur => by
    simp only [fw]
    split
    · rename_i hb
      have ih := fw_lens u []
      have e : ((b :: u).filter fun b => !(b == 32)) = u.filter fun b => !(b == 32) := by
        rw [List.filter_cons_of_neg]; simpa using hb
      rw [e]
      split
      · rename_i h; simp [h] at ih ⊢; omega
      · simp [Lib.lens] at ih ⊢; omega
    · rename_i hb
      have ih := fw_lens u (cur ++ [b])
      have e : ((b :: u).filter fun b => !(b == 32)) = b :: u.filter fun b => !(b == 32) := by
        rw [List.filter_cons_of_pos]; simpa using hb
      rw [e]
      simp at ih ⊢; omega
theorem repl (s : ByteArray) (hs : s.size ≤ 1200) : ∃ r, strings_ReplaceAll.f s ⟨#[32]⟩ ⟨#[]⟩ = some r ∧ r.size = Lib.lens (fw [] (by8 s)) := by
  refine ⟨⟨(Lib.replaceAll s.data.toList [32] []).toArray⟩, ?_, ?_⟩
  · unfold strings_ReplaceAll.f
    exact if_pos ⟨by omega, by decide, by rw [show (⟨#[]⟩ : ByteArray).size = 0 from rfl]; omega⟩
  · rw [B.sz]
    show (Lib.replaceAll s.data.toList [32] []).length = _
    rw [fw_lens, Lib.replaceAll, Lib.replace, if_neg (by decide), Lib.replaceNum, if_pos (.inl (by decide)), Lib.count_one]
    rw [List.length_nil, Nat.zero_add]
    exact rk_all (by8 s)
end Dg
end Go.Proofs.YtlekfhnlhdmekaaGreatDoor.T

/- The law TextConverts: there and back: hexadecimal and binary digits, exclusive or, and a permutation of bytes. -/
namespace Go.Proofs.YtlekfhnlhdmekaaGreatDoor.T
set_option linter.unusedSimpArgs false
set_option linter.unusedVariables false
set_option linter.unusedSectionVars false
open Go.RowKit Go.Proofs.YtlekfhnlhdmekaaGreatDoorW.PrintWords Go.Proofs.YtlekfhnlhdmekaaGreatDoorW.PrintLast Go.Proofs.YtlekfhnlhdmekaaGreatDoorW.PrintMore
namespace Cv
open Dg
/-- What digits makes of one word. -/
theorem one_word (base : Int) (hb : base = 16 ∨ base = 2) (g : Nat) (hg : g = 2 ∨ g = 4) (c : ByteArray) (hv : vld c = true) (hn : ∀ b ∈ by8 c, b ≠ 32) (ho : okw base (by8 c) = true) (hl : (by8 c).length % g = 0) (k : Nat) (hk : 40000 ≤ k) : text_digits.f k c base (g : Int) = some (dg base (by8 c), true) := by
  have hz := B.size hv
  have hbe : ¬ be (by8 c) := by
    rintro (⟨t, ht⟩ | ⟨t, ht⟩)
    · exact hn 32 (by rw [ht]; exact List.mem_cons_self) rfl
    · exact hn 32 (by rw [ht]; simp) rfl
  have hw : Lib.fieldsD (by8 c) = fw [] (by8 c) := by
    refine fieldsD_fw _ (fun b hb2 => ?_)
    have := (B.good _).1 (B.all hv (b.toNat : Int) (by unfold bytesOf; exact List.mem_map.2 ⟨b, hb2, rfl⟩))
    omega
  rw [t_ok base hb g hg c (by omega) k hk hbe, hw, fw_word _ [] hn, List.nil_append]
  by_cases e : by8 c = []
  · rw [if_pos e, e]; rfl
  · rw [if_neg e, td, if_pos ho, tl]
    have : padn g (by8 c).length = 0 := by unfold padn; rw [hl]; rcases hg with rfl | rfl <;> rfl
    rw [this]
    rfl
theorem tabH : (List.range 256).all (fun b => decide (dv 16 (bt H ((b : Int) / 16)) = (b : Int) / 16) && decide (dv 16 (bt H ((b : Int) % 16)) = (b : Int) % 16) && decide (33 ≤ bt H ((b : Int) / 16)) && decide (bt H ((b : Int) / 16) ≤ 126) && decide (33 ≤ bt H ((b : Int) % 16)) && decide (bt H ((b : Int) % 16) ≤ 126)) = true := by kernel_rfl
theorem hH (b : UInt8) : (dv 16 (bt H ((b.toNat : Int) / 16)) = (b.toNat : Int) / 16 ∧ dv 16 (bt H ((b.toNat : Int) % 16)) = (b.toNat : Int) % 16) ∧ (33 ≤ bt H ((b.toNat : Int) / 16) ∧ bt H ((b.toNat : Int) / 16) ≤ 126) ∧ (33 ≤ bt H ((b.toNat : Int) % 16) ∧ bt H ((b.toNat : Int) % 16) ≤ 126) := by
  have := List.all_eq_true.1 tabH _ (List.mem_range.2 b.toNat_lt)
  simp only [Bool.and_eq_true, decide_eq_true_eq] at this
  omega
theorem tabQ : (List.range 16).all (fun n => decide (qv (dv 2 (bit01 (n : Int) 8)) (dv 2 (bit01 (n : Int) 4)) (dv 2 (bit01 (n : Int) 2)) (dv 2 (bit01 (n : Int) 1)) = (n : Int)) && [8, 4, 2, 1].all (fun (x : Nat) => decide (0 ≤ dv 2 (bit01 (n : Int) (x : Int))) && decide (33 ≤ bit01 (n : Int) (x : Int)) && decide (bit01 (n : Int) (x : Int) ≤ 126))) = true := by kernel_rfl
/-- A list of numbers as a string. -/
theorem by_str (L : List Int) (h : ∀ x ∈ L, 0 ≤ x ∧ x < 256) : (by8 (strOfNums L)).map (fun b => (b.toNat : Int)) = L := bytesOf_str L h
theorem str_mem (L : List Int) (P : Int → Prop) (h : ∀ x ∈ L, (0 ≤ x ∧ x < 256) ∧ P x) : ∀ b ∈ by8 (strOfNums L), P (b.toNat : Int) := by
  intro b hb
  have e := by_str L (fun x hx => (h x hx).1)
  have : (b.toNat : Int) ∈ L := by rw [← e]; exact List.mem_map.2 ⟨b, hb, rfl⟩
  exact (h _ this).2
theorem by_len (L : List Int) : (by8 (strOfNums L)).length = L.length := by rw [by8_length, strOfNums_size]
theorem dg_str (base : Int) (L : List Int) (h : ∀ x ∈ L, 0 ≤ x ∧ x < 256) : dg base (by8 (strOfNums L)) = L.map (dv base) := by
  unfold dg
  conv => rhs; rw [← by_str L h, List.map_map]
  rfl
theorem ok_str (base : Int) (L : List Int) (h : ∀ x ∈ L, (0 ≤ x ∧ x < 256) ∧ 0 ≤ dv base x) : okw base (by8 (strOfNums L)) = true := by
  unfold okw
  rw [List.all_eq_true]
  intro b hb
  exact decide_eq_true (str_mem L (fun x => 0 ≤ dv base x) h b hb)
theorem vld_str (L : List Int) (hl : L.length ≤ 1000) (h : ∀ x ∈ L, 32 ≤ x ∧ x ≤ 126) : vld (strOfNums L) = true := by
  refine B.mk (by rw [strOfNums_size]; exact hl) (fun x hx => ?_)
  rw [bytesOf_str L (fun y hy => by have := h y hy; omega)] at hx
  rw [B.good]
  have := h x hx
  omega
/-- The halves of the bytes. -/
def nib (l : List UInt8) : List Int := l.flatMap fun b => [(b.toNat : Int) / 16, (b.toNat : Int) % 16]
theorem hxs_len (l : List UInt8) : (hxs l).length = 2 * l.length := by
  induction l with
  | nil => rfl
  | cons b t ih => rw [hxs, List.flatMap_cons, List.length_append]; rw [hxs] at ih; rw [ih]; simp [hx]; omega
theorem hxs_dv (l : List UInt8) : (hxs l).map (dv 16) = nib l := by
  induction l with
  | nil => rfl
  | cons b t ih =>
    have := (hH b).1
    rw [hxs, List.flatMap_cons, List.map_append]
    rw [hxs] at ih
    rw [ih, hx]
    simp only [List.map_cons, List.map_nil, this.1, this.2]
    rfl
theorem hxs_good (l : List UInt8) : ∀ x ∈ hxs l, 33 ≤ x ∧ x ≤ 126 := by
  intro x hx2
  obtain ⟨b, _, hb⟩ := List.mem_flatMap.1 hx2
  have := (hH b).2
  simp only [hx, List.mem_cons, List.not_mem_nil, or_false] at hb
  rcases hb with rfl | rfl
  · exact this.1
  · exact this.2
theorem nib_rng (l : List UInt8) : ∀ n ∈ nib l, 0 ≤ n ∧ n < 16 := by
  intro n hn
  obtain ⟨b, _, hb⟩ := List.mem_flatMap.1 hn
  have := b.toNat_lt
  simp only [List.mem_cons, List.not_mem_nil, or_false] at hb
  rcases hb with rfl | rfl <;> omega
theorem nib_len (l : List UInt8) : (nib l).length = 2 * l.length := by rw [← hxs_dv, List.length_map, hxs_len]
theorem prs_nib (l : List UInt8) : prs (nib l) = l.map fun b => (b.toNat : Int) := by
  induction l with
  | nil => rfl
  | cons b t ih =>
    have := b.toNat_lt
    rw [nib, List.flatMap_cons]
    show (wrap64 (wrap64 (16 * ((b.toNat : Int) / 16)) + (b.toNat : Int) % 16)) % 256 :: prs (nib t) = _
    rw [ih, List.map_cons]
    congr 1
    unfold wrap64
    omega
theorem hxs_H (l : List UInt8) : hxs l = (nib l).map (bt H) := by
  induction l with
  | nil => rfl
  | cons b t ih =>
    rw [hxs, List.flatMap_cons, nib, List.flatMap_cons, List.map_append]
    rw [hxs, nib] at ih
    rw [ih]
    rfl
theorem qQ (n : Int) (h : 0 ≤ n ∧ n < 16) : qv (dv 2 (bit01 n 8)) (dv 2 (bit01 n 4)) (dv 2 (bit01 n 2)) (dv 2 (bit01 n 1)) = n ∧ ∀ x ∈ b4 n, 0 ≤ dv 2 x ∧ 33 ≤ x ∧ x ≤ 126 := by
  obtain ⟨m, rfl⟩ := Int.eq_ofNat_of_zero_le h.1
  have := List.all_eq_true.1 tabQ m (List.mem_range.2 (by omega))
  simp only [List.all_cons, List.all_nil, Bool.and_eq_true, decide_eq_true_eq, Bool.and_true] at this
  refine ⟨this.1, fun x hx => ?_⟩
  simp only [b4, List.mem_cons, List.not_mem_nil, or_false] at hx
  rcases hx with rfl | rfl | rfl | rfl
  · exact ⟨this.2.1.1.1, this.2.1.1.2, this.2.1.2⟩
  · exact ⟨this.2.2.1.1.1, this.2.2.1.1.2, this.2.2.1.2⟩
  · exact ⟨this.2.2.2.1.1.1, this.2.2.2.1.1.2, this.2.2.2.1.2⟩
  · exact ⟨this.2.2.2.2.1.1, this.2.2.2.2.1.2, this.2.2.2.2.2⟩
theorem qds_b4 (l : List Int) (h : ∀ n ∈ l, 0 ≤ n ∧ n < 16) : qds ((l.flatMap b4).map (dv 2)) = l.map (bt H) := by
  induction l with
  | nil => rfl
  | cons n t ih =>
    have hq := (qQ n (h n List.mem_cons_self)).1
    rw [List.flatMap_cons, List.map_append]
    show bt H (qv (dv 2 (bit01 n 8)) (dv 2 (bit01 n 4)) (dv 2 (bit01 n 2)) (dv 2 (bit01 n 1))) :: qds ((t.flatMap b4).map (dv 2)) = _
    rw [hq, ih (fun m hm => h m (List.mem_cons_of_mem _ hm))]
    rfl
theorem b4_good (l : List Int) (h : ∀ n ∈ l, 0 ≤ n ∧ n < 16) : ∀ x ∈ l.flatMap b4, 0 ≤ dv 2 x ∧ 33 ≤ x ∧ x ≤ 126 := by
  intro x hx
  obtain ⟨n, hn, h2⟩ := List.mem_flatMap.1 hx
  exact (qQ n (h n hn)).2 x h2
theorem b4_len (l : List Int) : (l.flatMap b4).length = 4 * l.length := by
  induction l with
  | nil => rfl
  | cons n t ih => rw [List.flatMap_cons, List.length_append, ih]; simp [b4]; omega
section
variable (s : ByteArray) (hv : vld s = true) (k : Nat) (hk : 50000 ≤ k)
/-- The hexadecimal digits of a string. -/
def hex (s : ByteArray) : ByteArray := strOfNums (hxs (by8 s))
include hv hk
theorem c2x_eq : text_C2X.f k s = some (if 2 * s.size ≤ 1000 then (hex s, 0) else (⟨#[]⟩, 3)) := by
  have hz := B.size hv
  unfold text_C2X.f
  simp only [B.valid1, Option.bind_some]
  have h1 := t_c2x s (by omega) s.size 0 k [] (by omega) (by omega) (by omega) (by simp; omega)
  rw [List.drop_zero, List.nil_append, show ((0 : Nat) : Int) = 0 from rfl] at h1
  rw [if_pos hv, if_pos rfl, h1, made_eq, strOfNums_size, hxs_len, by8_length]
  by_cases h : 2 * s.size ≤ 1000
  · rw [if_neg (by omega), if_pos h, if_pos (vld_str _ (by rw [hxs_len, by8_length]; exact h) (fun x hx => by have := hxs_good _ x hx; omega))]
    rfl
  · rw [if_pos (by omega), if_neg h]
variable (h2 : 2 * s.size ≤ 1000)
include h2
theorem hex_vld : vld (hex s) = true := vld_str _ (by rw [hxs_len, by8_length]; exact h2) (fun x hx => by have := hxs_good _ x hx; omega)
theorem hex_dig : text_digits.f k (hex s) 16 2 = some (nib (by8 s), true) := by
  have hr : ∀ x ∈ hxs (by8 s), 0 ≤ x ∧ x < 256 := hxs_rng _
  have := one_word 16 (.inl rfl) 2 (.inl rfl) (hex s) (hex_vld s hv k hk h2) (fun b hb e => by
    have := str_mem (hxs (by8 s)) (fun x => 33 ≤ x) (fun x hx => ⟨hr x hx, (hxs_good _ x hx).1⟩) b hb
    rw [e] at this
    exact absurd this (by decide)) (ok_str 16 _ (fun x hx => ⟨hr x hx, by
      have hm : dv 16 x ∈ (hxs (by8 s)).map (dv 16) := List.mem_map.2 ⟨x, hx, rfl⟩
      rw [hxs_dv] at hm
      exact (nib_rng _ _ hm).1⟩)) (by unfold hex; rw [by_len, hxs_len]; omega) k (by omega)
  unfold hex at this
  rw [dg_str 16 _ hr, hxs_dv] at this
  exact this
theorem x2c_back : text_X2C.f k (hex s) = some (s, 0) := by
  have hz := B.size hv
  obtain ⟨k, rfl⟩ : ∃ k', k = k' + 3 := ⟨k - 3, by omega⟩
  have hn : (nib (by8 s)).length = 2 * s.size := by rw [nib_len, by8_length]
  unfold text_X2C.f text_Valid.f
  rw [hex_dig s hv (k + 3) hk h2]
  simp only [Option.bind_some]
  have e1 := t_x2c (nib (by8 s)) (by omega) s.size 0 (k + 2) [] (by omega) (by omega) (by simp; omega)
  rw [show ((0 : Nat) : Int) = 0 from rfl, List.nil_append, List.drop_zero, prs_nib] at e1
  rw [if_pos trivial, hex_vld s hv (k + 3) hk h2, Bool.not_true, text_X2C.j0, if_neg (by decide), e1]
  have : strOfNums ((by8 s).map fun b => (b.toNat : Int)) = s := strOfNums_bytes s
  rw [this, B.made s hv]
/-- The binary digits of a string. -/
def bin (s : ByteArray) : ByteArray := strOfNums ((nib (by8 s)).flatMap b4)
theorem x2b_eq : text_X2B.f k (hex s) = some (if 8 * s.size ≤ 1000 then (bin s, 0) else (⟨#[]⟩, 3)) := by
  have hz := B.size hv
  have hn : (nib (by8 s)).length = 2 * s.size := by rw [nib_len, by8_length]
  have hvx := hex_vld s hv k hk h2
  have hnn : (nib (by8 s)).all nn4 = true := List.all_eq_true.2 fun n hn => (tB n (nib_rng _ n hn)).1
  have hsz : (hex s).size = 2 * s.size := by unfold hex; rw [strOfNums_size, hxs_len, by8_length]
  obtain ⟨r, hr1, hr2⟩ := repl (hex s) (by omega)
  have hrs : r.size = 2 * s.size := by
    rw [hr2, fw_lens]
    have hf : (by8 (hex s)).filter (fun b => !(b == 32)) = by8 (hex s) := by
      rw [List.filter_eq_self]
      intro b hb
      have := str_mem (hxs (by8 s)) (fun x => 33 ≤ x) (fun x hx => ⟨hxs_rng _ x hx, (hxs_good _ x hx).1⟩) b hb
      have : b ≠ 32 := fun e => by rw [e] at this; exact absurd this (by decide)
      simpa using this
    rw [hf, by8_length, hsz]; simp
  unfold text_X2B.f
  rw [hex_dig s hv k hk h2]
  simp only [Option.bind_some]
  rw [if_pos trivial, if_pos hvx, hr1]
  simp only [Option.bind_some]
  rw [if_pos ⟨by omega, hnn⟩, if_neg (by omega), made_eq, strOfNums_size, b4_len, hn]
  by_cases h : 8 * s.size ≤ 1000
  · rw [if_neg (by omega), if_pos h, if_pos (vld_str _ (by rw [b4_len, hn]; omega) (fun x hx => by have := b4_good _ (nib_rng (by8 s)) x hx; omega))]
    rfl
  · rw [if_pos (by omega), if_neg h]
theorem b2x_back (h8 : 8 * s.size ≤ 1000) : text_B2X.f k (bin s) = some (hex s, 0) := by
  have hz := B.size hv
  obtain ⟨k, rfl⟩ : ∃ k', k = k' + 3 := ⟨k - 3, by omega⟩
  have hn : (nib (by8 s)).length = 2 * s.size := by rw [nib_len, by8_length]
  have hgd := b4_good _ (nib_rng (by8 s))
  have hr : ∀ x ∈ (nib (by8 s)).flatMap b4, 0 ≤ x ∧ x < 256 := b4_rng _
  have hvb : vld (bin s) = true := vld_str _ (by rw [b4_len, hn]; omega) (fun x hx => by have := hgd x hx; omega)
  have hd := one_word 2 (.inr rfl) 4 (.inr rfl) (bin s) hvb (fun b hb e => by
    have := str_mem ((nib (by8 s)).flatMap b4) (fun x => 33 ≤ x) (fun x hx => ⟨hr x hx, (hgd x hx).2.1⟩) b hb
    rw [e] at this
    exact absurd this (by decide)) (ok_str 2 _ (fun x hx => ⟨hr x hx, (hgd x hx).1⟩)) (by unfold bin; rw [by_len, b4_len]; omega) (k + 3) (by omega)
  have hdg : dg 2 (by8 (bin s)) = ((nib (by8 s)).flatMap b4).map (dv 2) := dg_str 2 _ hr
  have hl4 : (dg 2 (by8 (bin s))).length = 0 + 4 * (2 * s.size) := by rw [hdg, List.length_map, b4_len, hn]; omega
  have hrng : ∀ n ∈ dg 2 (by8 (bin s)), 0 ≤ n ∧ n < 2 := by
    intro n hn2
    obtain ⟨b, hb, rfl⟩ := List.mem_map.1 hn2
    exact ⟨str_mem ((nib (by8 s)).flatMap b4) (fun x => 0 ≤ dv 2 x) (fun x hx => ⟨hr x hx, (hgd x hx).1⟩) b hb, (tabs 2 (.inr rfl) b).2.2⟩
  unfold text_B2X.f text_Valid.f
  rw [show (4 : Int) = ((4 : Nat) : Int) from rfl, hd]
  simp only [Option.bind_some]
  have e1 := t_b2x (dg 2 (by8 (bin s))) (by omega) hrng (2 * s.size) 0 (k + 2) [] hl4 (by omega) (by simp; omega)
  rw [show ((0 : Nat) : Int) = 0 from rfl, List.nil_append, List.drop_zero] at e1
  rw [if_pos trivial, hvb, Bool.not_true, text_B2X.j0, if_neg (by decide), e1, hdg, qds_b4 _ (nib_rng _), ← hxs_H]
  exact B.made (hex s) (hex_vld s hv (k + 3) hk h2)
end
/-! Exclusive or, twice. -/
theorem tabXor : (List.range 95).all (fun a => (List.range 95).all (fun b => decide (Go.bits .xor .u8 (Go.bits .xor .u8 ((a : Int) + 32) ((b : Int) + 32)) ((b : Int) + 32) = (a : Int) + 32) && decide (0 ≤ Go.bits .xor .u8 ((a : Int) + 32) ((b : Int) + 32)) && decide (Go.bits .xor .u8 ((a : Int) + 32) ((b : Int) + 32) < 256))) = true := by kernel_rfl
theorem xx (x y : Int) (hx : 32 ≤ x ∧ x ≤ 126) (hy : 32 ≤ y ∧ y ≤ 126) : Go.bits .xor .u8 (Go.bits .xor .u8 x y) y = x ∧ 0 ≤ Go.bits .xor .u8 x y ∧ Go.bits .xor .u8 x y < 256 := by
  obtain ⟨a, ha⟩ : ∃ a : Nat, x = (a : Int) + 32 := ⟨(x - 32).toNat, by omega⟩
  obtain ⟨b, hb⟩ : ∃ b : Nat, y = (b : Int) + 32 := ⟨(y - 32).toNat, by omega⟩
  have := List.all_eq_true.1 (List.all_eq_true.1 tabXor a (List.mem_range.2 (by omega))) b (List.mem_range.2 (by omega))
  simp only [Bool.and_eq_true, decide_eq_true_eq] at this
  rw [ha, hb]
  exact ⟨this.1.1, this.1.2, this.2⟩
theorem bt_good (s : ByteArray) (h : vld s = true) (i : Nat) (hi : i < s.size) : 32 ≤ bt s (i : Int) ∧ bt s (i : Int) ≤ 126 := by
  rw [bt_getD s i hi, List.getD_eq_getElem?_getD, List.getElem?_eq_getElem (show i < (bytesOf s).length by rw [bytesOf_length]; exact hi)]
  exact (B.good _).1 (B.all h _ (List.getElem_mem _))
theorem xor_list (a b : ByteArray) (ha : vld a = true) (hb : vld b = true) : ∀ x ∈ (bytesOf a).mapIdx (bitF .xor b (-1)), 0 ≤ x ∧ x < 256 := by
  intro x hx
  obtain ⟨i, hi, rfl⟩ := List.mem_mapIdx.1 hx
  have hg := (B.good _).1 (B.all ha _ (List.getElem_mem hi))
  unfold bitF
  split
  · rename_i h
    exact (xx _ _ hg (bt_good b hb i h)).2
  · rw [if_pos rfl]; omega
theorem xor_xor (a b : ByteArray) (ha : vld a = true) (hb : vld b = true) : bitS .xor (bitS .xor a b (-1)) b (-1) = a := by
  unfold bitS
  rw [bytesOf_str _ (xor_list a b ha hb)]
  have e : ((bytesOf a).mapIdx (bitF .xor b (-1))).mapIdx (bitF .xor b (-1)) = bytesOf a := by
    apply List.ext_getElem
    · rw [List.length_mapIdx, List.length_mapIdx]
    · intro i h1 h2
      rw [List.getElem_mapIdx, List.getElem_mapIdx]
      have hg := (B.good _).1 (B.all ha _ (List.getElem_mem h2))
      unfold bitF
      by_cases h : i < b.size
      · rw [if_pos h, if_pos h]
        exact (xx _ _ hg (bt_good b hb i h)).1
      · rw [if_neg h, if_neg h, if_pos rfl, if_pos rfl]
  rw [e, strOfNums_bytes]
theorem bitS_size (a b : ByteArray) (o : BinOp) (p : Int) : (bitS o a b p).size = a.size := by
  unfold bitS
  rw [strOfNums_size, List.length_mapIdx, bytesOf_length]
theorem xor_eq (a b : ByteArray) (ha : vld a = true) (hb : vld b = true) (h : b.size ≤ a.size) : text_BitXor.f a b (-1) = text_made.f (bitS .xor a b (-1)) := by
  have := B.size ha
  have := B.size hb
  unfold text_BitXor.f text_bits.f
  rw [if_pos ⟨by omega, by omega⟩, if_pos ⟨⟨ha, hb⟩, .inl rfl⟩, if_neg (by omega)]
theorem xor_some (a b : ByteArray) (ha : vld a = true) (hb : vld b = true) : ∃ v e, text_BitXor.f a b (-1) = some (v, e) := by
  have := B.size ha
  have := B.size hb
  unfold text_BitXor.f text_bits.f
  rw [if_pos ⟨by omega, by omega⟩, if_pos ⟨⟨ha, hb⟩, .inl rfl⟩]
  exact made_some _
/-! A permutation of bytes. -/
theorem sh_spec : ∀ (r had : List Int), shGo r had = true → r.Nodup ∧ ∀ y ∈ r, had.count y = 1
  | [], had, h => ⟨List.nodup_nil, fun y hy => by cases hy⟩
  | y :: r, had, h => by
    rw [shGo] at h
    split at h
    · rename_i hc
      obtain ⟨h1, h2⟩ := sh_spec r _ h
      have hy : y ∉ r := fun hm => by
        have := h2 y hm
        rw [List.count_append, hc, List.count_singleton_self] at this
        omega
      refine ⟨List.nodup_cons.2 ⟨hy, h1⟩, fun z hz => ?_⟩
      rcases List.mem_cons.1 hz with rfl | hz
      · exact hc
      · have h3 := h2 z hz
        have hne : z ≠ y := fun e => hy (e ▸ hz)
        rw [List.count_append, List.count_singleton, if_neg (by simpa using fun e => hne e.symm)] at h3
        exact h3
    · cases h
theorem perm_of : ∀ (r l : List Int), r.Nodup → (∀ y ∈ r, l.count y = 1) → ∃ rest, l.Perm (r ++ rest)
  | [], l, _, _ => ⟨l, List.Perm.refl _⟩
  | y :: r, l, hn, h => by
    have hy : y ∈ l := List.count_pos_iff.1 (by have := h y List.mem_cons_self; omega)
    obtain ⟨h1, h2⟩ := List.nodup_cons.1 hn
    obtain ⟨rest, hr⟩ := perm_of r (l.erase y) h2 (fun z hz => by
      have hne : z ≠ y := fun e => h1 (e ▸ hz)
      rw [List.count_erase_of_ne hne]
      exact h z (List.mem_cons_of_mem _ hz))
    exact ⟨rest, (List.perm_cons_erase hy).trans (List.Perm.cons y hr)⟩
theorem perm_eq (r l : List Int) (hn : r.Nodup) (h : ∀ y ∈ r, l.count y = 1) (hl : l.length = r.length) : l.Perm r := by
  obtain ⟨rest, hr⟩ := perm_of r l hn h
  have := hr.length_eq
  rw [List.length_append] at this
  have e : rest = [] := List.eq_nil_of_length_eq_zero (by omega)
  rwa [e, List.append_nil] at hr
theorem idx_at (l : List Int) (hn : l.Nodup) (i : Nat) (hi : i < l.length) : idxI (fun y => y == l[i]) l = (i : Int) := by
  refine idxI_hit _ l 0 i hi (by simp [List.getD_eq_getElem?_getD, List.getElem?_eq_getElem hi]) (fun j hj => ?_)
  have hj2 : j < l.length := by omega
  rw [List.getD_eq_getElem?_getD, List.getElem?_eq_getElem hj2]
  simp only [Option.getD_some]
  rw [beq_eq_false_iff_ne]
  intro e
  exact List.pairwise_iff_getElem.1 hn j i hj2 hi hj e
theorem idx_no (l : List Int) (x : Int) (h : x ∉ l) : idxI (fun y => y == x) l = -1 := by
  refine idxI_miss _ l 0 (fun j hj => ?_)
  rw [List.getD_eq_getElem?_getD, List.getElem?_eq_getElem hj]
  simp only [Option.getD_some]
  rw [beq_eq_false_iff_ne]
  exact fun e => h (e ▸ List.getElem_mem hj)
theorem trB_at (out inn : ByteArray) (p : Int) (hn : (bytesOf inn).Nodup) (hs : out.size = inn.size) (i : Nat) (hi : i < (bytesOf inn).length) (ho : i < (bytesOf out).length) : trB out inn p (bytesOf inn)[i] = (bytesOf out)[i] := by
  have hz : i < out.size := by rw [bytesOf_length] at ho; exact ho
  unfold trB
  rw [idx_at _ hn i hi, if_pos (by omega), if_pos (by omega), bt_getD out i hz, List.getD_eq_getElem?_getD, List.getElem?_eq_getElem ho]
  rfl
theorem trB_no (out inn : ByteArray) (p x : Int) (h : x ∉ bytesOf inn) : trB out inn p x = x := by
  unfold trB
  rw [idx_no _ x h, if_neg (by omega)]
section
variable (a b : ByteArray) (hsh : shGo (bytesOf b) (bytesOf a) = true) (hz : a.size = b.size)
include hsh hz
theorem sh_perm : (bytesOf a).Perm (bytesOf b) ∧ (bytesOf a).Nodup ∧ (bytesOf b).Nodup := by
  obtain ⟨h1, h2⟩ := sh_spec _ _ hsh
  have hp := perm_eq _ _ h1 h2 (by rw [bytesOf_length, bytesOf_length, hz])
  exact ⟨hp, hp.nodup_iff.2 h1, h1⟩
theorem tr_back (x : Int) : trB a b 42 (trB b a 42 x) = x := by
  obtain ⟨hp, ha, hb⟩ := sh_perm a b hsh hz
  by_cases hx : x ∈ bytesOf a
  · obtain ⟨i, hi, rfl⟩ := List.mem_iff_getElem.1 hx
    have hi2 : i < (bytesOf b).length := by rw [bytesOf_length] at hi ⊢; omega
    rw [trB_at b a 42 ha hz.symm i hi hi2, trB_at a b 42 hb hz i hi2 hi]
  · rw [trB_no b a 42 x hx, trB_no a b 42 x (fun h => hx (hp.mem_iff.2 h))]
theorem tr_good (x : Int) (hb : vld b = true) (hx : 32 ≤ x ∧ x ≤ 126) : 32 ≤ trB b a 42 x ∧ trB b a 42 x ≤ 126 := by
  obtain ⟨hp, ha, hb2⟩ := sh_perm a b hsh hz
  by_cases hm : x ∈ bytesOf a
  · obtain ⟨i, hi, rfl⟩ := List.mem_iff_getElem.1 hm
    have hi2 : i < (bytesOf b).length := by rw [bytesOf_length] at hi ⊢; omega
    rw [trB_at b a 42 ha hz.symm i hi hi2]
    exact (B.good _).1 (B.all hb _ (List.getElem_mem hi2))
  · rw [trB_no b a 42 x hm]; exact hx
end
theorem j4 (s a b : ByteArray) (hs : vld s = true) (ha : vld a = true) (hb : vld b = true) (k : Nat) : qanatlaw02_TextConverts.j4 (k + 1) s a b true = some true := by
  have z0 := B.size hs
  have z1 := B.size ha
  have z2 := B.size hb
  rw [qanatlaw02_TextConverts.j4]
  unfold qanatlaw02_shuffled.f
  rw [if_pos ⟨by omega, by omega⟩]
  simp only [Option.bind_some]
  by_cases hc : (shGo (bytesOf b) (bytesOf a) && decide (a.size = b.size)) = true
  · rw [if_pos hc]
    simp only [Bool.and_eq_true, decide_eq_true_eq] at hc
    have hgood : ∀ x ∈ (bytesOf s).map (trB b a 42), 32 ≤ x ∧ x ≤ 126 := by
      intro x hx
      obtain ⟨y, hy, rfl⟩ := List.mem_map.1 hx
      exact tr_good a b hc.1 hc.2 y hb ((B.good _).1 (B.all hs y hy))
    have hvy : vld (mapd (trB b a 42) s) = true := vld_str _ (by rw [List.length_map, bytesOf_length]; exact z0) hgood
    have e1 : text_Translate.f s b a 42 = some (mapd (trB b a 42) s, 0) := by
      unfold text_Translate.f
      rw [if_pos ⟨by omega, by omega, by omega, by decide, by decide⟩, if_pos ⟨⟨hs, hb, ha⟩, by decide⟩]
    have hzy := B.size hvy
    have e2 : text_Translate.f (mapd (trB b a 42) s) a b 42 = some (s, 0) := by
      unfold text_Translate.f
      rw [if_pos ⟨by omega, by omega, by omega, by decide, by decide⟩, if_pos ⟨⟨hvy, ha, hb⟩, by decide⟩]
      have : mapd (trB a b 42) (mapd (trB b a 42) s) = s := by
        unfold mapd
        rw [bytesOf_str _ (fun x hx => by have := hgood x hx; omega), List.map_map]
        have : (bytesOf s).map (trB a b 42 ∘ trB b a 42) = bytesOf s := by
          conv => rhs; rw [← List.map_id (bytesOf s)]
          exact List.map_congr_left (fun x _ => tr_back a b hc.1 hc.2 x)
        rw [this, strOfNums_bytes]
      rw [this]
    rw [e1]
    simp only [Option.bind_some]
    rw [e2]
    simp
  · rw [if_neg hc]
theorem j2 (s t a b : ByteArray) (hs : vld s = true) (ht : vld t = true) (ha : vld a = true) (hb : vld b = true) (k : Nat) : qanatlaw02_TextConverts.j2 (k + 3) s t a b true = some true := by
  rw [qanatlaw02_TextConverts.j2]
  obtain ⟨v, e, h1⟩ := xor_some s t hs ht
  rw [h1]
  simp only [Option.bind_some]
  have hf : ∀ x, qanatlaw02_TextConverts.j3 (k + 2) s t a b true x false = some true := by
    intro x
    rw [qanatlaw02_TextConverts.j3, if_neg (by decide)]
    exact j4 s a b hs ha hb k
  by_cases he : e = 0
  · rw [if_pos he]
    by_cases hz : t.size ≤ s.size
    · rw [decide_eq_true (show (t.size : Int) ≤ s.size by omega), qanatlaw02_TextConverts.j3, if_pos rfl]
      rw [xor_eq s t hs ht hz, made_eq] at h1
      have hsz := bitS_size s t .xor (-1)
      have hzs := B.size hs
      rw [if_neg (by omega)] at h1
      by_cases hv : vld (bitS .xor s t (-1)) = true
      · rw [if_pos hv] at h1
        obtain rfl : bitS .xor s t (-1) = v := (Prod.mk.inj (Option.some.inj h1)).1
        rw [xor_eq _ t hv ht (by omega), xor_xor s t hs ht, B.made s hs]
        simp only [Option.bind_some, if_true]
        exact j4 s a b hs ha hb k
      · rw [if_neg hv] at h1
        have := (Prod.mk.inj (Option.some.inj h1)).2
        omega
    · rw [decide_eq_false (show ¬ (t.size : Int) ≤ s.size by omega)]
      exact hf v
  · rw [if_neg he]
    exact hf v
theorem j0 (s t a b : ByteArray) (hs : vld s = true) (ht : vld t = true) (ha : vld a = true) (hb : vld b = true) (k : Nat) (hk : 60000 ≤ k) : qanatlaw02_TextConverts.j0 (k + 5) s t a b true false = some true := by
  have hz := B.size hs
  rw [qanatlaw02_TextConverts.j0, if_neg (by decide), c2x_eq s hs (k + 4) (by omega), wrap64_id (2 * (s.size : Int)) (by omega) (by omega)]
  simp only [Option.bind_some]
  by_cases h2 : 2 * s.size ≤ 1000
  · rw [if_pos h2, decide_eq_true (show 2 * (s.size : Int) ≤ 1000 by omega), if_neg (by simp)]
    simp only [if_true]
    rw [x2c_back s hs (k + 4) (by omega) h2]
    simp only [Option.bind_some, if_true]
    have hsz : ((hex s).size : Int) = 2 * (s.size : Int) := by unfold hex; rw [strOfNums_size, hxs_len, by8_length]; omega
    rw [hsz, bne_self_eq_false, qanatlaw02_TextConverts.j1, if_neg (by decide), x2b_eq s hs (k + 3) (by omega) h2]
    simp only [Option.bind_some]
    by_cases h8 : 8 * s.size ≤ 1000
    · rw [if_pos h8]
      simp only [if_true]
      rw [b2x_back s hs (k + 3) (by omega) h2 h8]
      simp only [Option.bind_some, if_true]
      exact j2 s t a b hs ht ha hb k
    · rw [if_neg h8]
      exact j2 s t a b hs ht ha hb k
  · rw [if_neg h2, decide_eq_false (show ¬ 2 * (s.size : Int) ≤ 1000 by omega), if_neg (by simp)]
    exact j2 s t a b hs ht ha hb (k + 1)
end Cv
theorem converts_pure : qanatlaw02_TextConverts.Pure := by
  intro s t a b _ _ _ _
  refine ⟨60 + 69945, ?_⟩
  have hj : ∀ k, qanatlaw02_TextConverts.j0 (k + 1) s t a b true true = some true := fun k => by rw [qanatlaw02_TextConverts.j0, if_pos rfl]
  unfold qanatlaw02_TextConverts.f text_Valid.f
  rw [head_ok 69945]
  simp only [Option.bind_some]
  by_cases h0 : vld s = true
  · rw [if_pos h0]
    by_cases h1 : vld t = true
    · rw [if_pos h1]
      by_cases h2 : vld a = true
      · rw [if_pos h2]
        by_cases h3 : vld b = true
        · rw [h3]
          exact Cv.j0 s t a b h0 h1 h2 h3 70000 (by omega)
        · rw [Bool.eq_false_iff.2 h3]
          exact hj 70004
      · rw [if_neg h2]
        exact hj 70004
    · rw [if_neg h1]
      exact hj 70004
  · rw [if_neg h0]
    exact hj 70004
end Go.Proofs.YtlekfhnlhdmekaaGreatDoor.T
