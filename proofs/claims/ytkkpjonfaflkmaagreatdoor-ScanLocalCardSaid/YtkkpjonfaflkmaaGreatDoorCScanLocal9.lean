/- Part 9 of the proof of ScanLocal: the functions that it calls return what their plain descriptions say. -/
import Derived.Test.YtkkpjonfaflkmaaGreatDoorCScanLocal4
import Derived.Test.YtkkpjonfaflkmaaGreatDoorCScanLocal5
import Derived.Test.YtkkpjonfaflkmaaGreatDoorCScanLocal8
import Derived.Test.YtkkpjonfaflkmaaGreatDoorCScanLocal6
import Derived.Carry
import Derived.Maps.OwnSet
import Derived.Maps.Views
import Derived.Deep.AppendLies
import Derived.Deep.RegionLaw

namespace Go.Proofs.YtkkpjonfaflkmaaGreatDoor.T
set_option linter.unusedSimpArgs false
open Go.RowKit Go.Proofs.YtkkpjonfaflkmaaGreatDoorW.PrintWords Go.Proofs.YtkkpjonfaflkmaaGreatDoorW.PrintLast Go.Proofs.YtkkpjonfaflkmaaGreatDoorW.PrintMore
attribute [local go_sem] max2_int min2_int max_two min_two max_three min_three max_four min_four   -- for this text's walks alone
set_option linter.unusedVariables false
set_option linter.unusedSimpArgs false
def scan_kind.j0 : Nat → ByteArray → Int → Bool → Option (Int)
  | 0, _, _, _ => none
  | k + 1, x0, x3, x6 => if x6 = true then (some 1) else (if x3 = 0 then (some 2) else (if x3 = 1 then (if 0 ≤ (wrap64 ((x0.size : Int) - 1)) then (if (wrap64 ((x0.size : Int) - 1)) < (x0.size : Int) then (if (bt x0 (wrap64 ((x0.size : Int) - 1))) = 46 then (some 3) else (some 4)) else (none)) else (none)) else (some 4)))
def scan_kind.f (k : Nat) (a0 : ByteArray) : Option (Int) := (strings_Count.f a0 (⟨#[46]⟩ : ByteArray)).bind fun t134 => (if 0 < (a0.size : Int) then ((scan_digit.f (bt a0 0)).bind fun t135 => (if t135 = true then (scan_kind.j0 k a0 t134 true) else (scan_kind.j0 k a0 t134 ((bt a0 0) == 46)))) else (none))
theorem scan_kind.mono_l : ∀ k, (∀ y0 y1 y2, LeO (scan_kind.j0 k y0 y1 y2) (scan_kind.j0 (k + 1) y0 y1 y2))
  | 0 => fun _ _ _ r h => by simp [scan_kind.j0] at h
  | k + 1 => by
    have ih0 := scan_kind.mono_l k
    · intro y0 y1 y2
      unfold scan_kind.j0
      repeat' first
      | (with_reducible exact ih0 _ _ _)
      | (with_reducible exact LeO.refl _)
      | (with_reducible exact LeO.none _)
      | (with_reducible refine LeO.ite ?_ ?_)
      | (with_reducible refine LeO.bind ?_ (fun _ => ?_))
      | exact ih0 _ _ _
      | exact LeO.none _
      | refine LeO.ite ?_ ?_
      | refine LeO.bind ?_ (fun _ => ?_)
theorem scan_kind.mono : ∀ a0 k, LeO (scan_kind.f k a0) (scan_kind.f (k + 1) a0) := by
  intro a0 k
  have ih0 := scan_kind.mono_l k
  unfold scan_kind.f
  repeat' first
      | (with_reducible exact ih0 _ _ _)
      | (with_reducible exact LeO.refl _)
      | (with_reducible exact LeO.none _)
      | (with_reducible refine LeO.ite ?_ ?_)
      | (with_reducible refine LeO.bind ?_ (fun _ => ?_))
      | exact ih0 _ _ _
      | exact LeO.none _
      | refine LeO.ite ?_ ?_
      | refine LeO.bind ?_ (fun _ => ?_)
set_option maxHeartbeats 8000000 in
set_option maxRecDepth 100000 in
theorem scan_kind.calls (k : Nat) (a0 : ByteArray) (r : Int) (w : World) (h : scan_kind.f k a0 = some r) :
    Calls Tryz.prog 57 #[.string a0] w fun e w' => e = .returned (.int .i64 r) ∧ Drawn0 w w' := by
  have H : ((strings_Count.f a0 (⟨#[46]⟩ : ByteArray)).bind fun t134 => (if 0 < (a0.size : Int) then ((scan_digit.f (bt a0 0)).bind fun t135 => (if t135 = true then (scan_kind.j0 k a0 t134 true) else (scan_kind.j0 k a0 t134 ((bt a0 0) == 46)))) else (none))) = some r := h
  clear h
  replace H := Option.bind_eq_some_iff.mp H
  obtain ⟨t134, A20, H⟩ := H
  replace H : (if 0 < (a0.size : Int) then ((scan_digit.f (bt a0 0)).bind fun t135 => (if t135 = true then (scan_kind.j0 k a0 t134 true) else (scan_kind.j0 k a0 t134 ((bt a0 0) == 46)))) else (none)) = some r := H
  have A2 := Aside0.mk A20
  clear A20
  have HC3 := Aside0.mk H
  clear H
  go_enter Tryz.func57, Tryz.ntmps57
  go_upto_region 2 with (first | ((with_reducible refine gate_callee (f := 77) rfl ?_); refine goesL_ (some 5) rfl rfl Tryz.func77 (by kernel_rfl) rfl #[.string a0, .string (⟨#[46]⟩ : ByteArray)] rfl (by (try simp only [List.map_toArray, List.map_cons, List.map_nil]); first | done | rfl | (simp only [List.length_drop, List.length_take]; rfl)) ?_; (with_reducible refine (strings_Count.calls a0 (⟨#[46]⟩ : ByteArray) t134 _ A2.out).mono ?_); rintro e w' ⟨rfl, ⟨nd, rfl⟩⟩; refine ⟨_, rfl, ?_⟩))
  (try simp only [Act.put, List.setIfInBounds_toArray, List.set_cons_zero, List.set_cons_succ])
  go_cut [6] (fun v6 wc => ∃ (kq : Nat) (x6_2 : Bool), v6 = .bool x6_2 ∧ Aside0 (scan_kind.j0 kq a0 t134 x6_2 = some r) ∧ Aside0 (kq ≤ k) ∧ Drawn0 w wc)
  case first =>
    have H := HC3.out
    clear HC3
    by_cases c4 : 0 < (a0.size : Int)
    · rw [if_pos c4] at H
      have c4b0 : decide (0 < (a0.size : Int)) = true := decide_eq_true c4
      have c4b1 : decide (0 < a0.size) = true := decide_eq_true (by omega)
      clear c4
      (first | rw [c4b0] | (simp only [i64_w, i32_w]; rw [c4b0]) | skip)
      replace H := Option.bind_eq_some_iff.mp H
      obtain ⟨t135, A60, H⟩ := H
      replace H : (if t135 = true then (scan_kind.j0 k a0 t134 true) else (scan_kind.j0 k a0 t134 ((bt a0 0) == 46))) = some r := H
      have A6 := Aside0.mk A60
      clear A60
      by_cases c7 : t135 = true
      · subst c7
        have H1 : (scan_kind.j0 k a0 t134 true) = some r := by rw [if_pos rfl] at H; exact H
        clear H
        have H := H1
        clear H1
        have H' := Aside0.mk H
        clear H
        have p5 : 0 ≤ (0 : Int) := (by omega)
        have q5 : 0 < a0.size := (by have : (0 : Int) < (a0.size : Int) := of_decide_eq_true (by first | (with_reducible assumption) | assumption); omega)
        have hx5 : ∀ h : 0 < a0.size, ((a0[0]'h).toNat : Int) = bt a0 0 := bt_at a0 0
        clear p5
        have qi5 : (0 < (a0.size : Int)) = True := eq_true (of_decide_eq_true (by first | (with_reducible assumption) | assumption))
        replace q5 := eq_true q5
        go_wp2_with (first | ((with_reducible refine gate_callee (f := 96) rfl ?_); refine goesL_ (some 9) rfl rfl Tryz.func96 (by kernel_rfl) rfl #[.int .u8 (bt a0 0)] rfl (by (try simp only [List.map_toArray, List.map_cons, List.map_nil]); first | done | rfl | (simp only [List.length_drop, List.length_take]; rfl)) ?_; (with_reducible refine (scan_digit.calls (bt a0 0) true _ A6.out).mono ?_); rintro e w' ⟨rfl, ⟨nd, rfl⟩⟩; refine ⟨_, rfl, ?_⟩))
        go_meet
        case rel => exact ⟨_, (true), (by first | rfl | (simp; done) | (simp [*]; done)), H', ⟨by first | omega | exact Nat.le_refl _⟩, by repeat (first | exact Drawn0.refl _ | apply Drawn0.step)⟩
      · replace c7 := Bool.eq_false_iff.mpr c7
        subst c7
        have H1 : (scan_kind.j0 k a0 t134 ((bt a0 0) == 46)) = some r := by rw [if_neg (show ¬ (false = true) by decide)] at H; exact H
        clear H
        have H := H1
        clear H1
        have H' := Aside0.mk H
        clear H
        have p5 : 0 ≤ (0 : Int) := (by omega)
        have q5 : 0 < a0.size := (by have : (0 : Int) < (a0.size : Int) := of_decide_eq_true (by first | (with_reducible assumption) | assumption); omega)
        have hx5 : ∀ h : 0 < a0.size, ((a0[0]'h).toNat : Int) = bt a0 0 := bt_at a0 0
        clear p5
        have qi5 : (0 < (a0.size : Int)) = True := eq_true (of_decide_eq_true (by first | (with_reducible assumption) | assumption))
        replace q5 := eq_true q5
        go_wp2_with (first | ((with_reducible refine gate_callee (f := 96) rfl ?_); refine goesL_ (some 9) rfl rfl Tryz.func96 (by kernel_rfl) rfl #[.int .u8 (bt a0 0)] rfl (by (try simp only [List.map_toArray, List.map_cons, List.map_nil]); first | done | rfl | (simp only [List.length_drop, List.length_take]; rfl)) ?_; (with_reducible refine (scan_digit.calls (bt a0 0) false _ A6.out).mono ?_); rintro e w' ⟨rfl, ⟨nd, rfl⟩⟩; refine ⟨_, rfl, ?_⟩; have p8 : 0 ≤ (0 : Int) := (by omega); have q8 : 0 < a0.size := (by have : (0 : Int) < (a0.size : Int) := of_decide_eq_true (by first | (with_reducible assumption) | assumption); omega); have hx8 : ∀ h : 0 < a0.size, ((a0[0]'h).toNat : Int) = bt a0 0 := bt_at a0 0; clear p8; have qi8 : (0 < (a0.size : Int)) = True := eq_true (of_decide_eq_true (by first | (with_reducible assumption) | assumption)); replace q8 := eq_true q8))
        go_meet
        case rel => exact ⟨_, (((bt a0 0) == 46)), (by first | rfl | (simp; done) | (simp [*]; done)), H', ⟨by first | omega | exact Nat.le_refl _⟩, by repeat (first | exact Drawn0.refl _ | apply Drawn0.step)⟩
    · rw [if_neg c4] at H
      exact absurd H (by simp)
  case rest =>
    clear HC3
    try clear p2
    try clear c4
    try clear c4b0
    try clear c4b1
    try clear c5
    try clear p5
    try clear q5
    try clear hx5
    try clear qi5
    try clear c7
    try clear p8
    try clear q8
    try clear hx8
    try clear qi8
    try clear p5
    try clear p8
    try clear q5
    try clear q8
    obtain ⟨kq, x6_2, rfl, HA, HJ2, ⟨mc2, rfl⟩⟩ := hcut
    cases kq with
    | zero => exact absurd HA.out (by simp [scan_kind.j0])
    | succ kj2 =>
      have H := HA.out
      clear HA
      simp only [scan_kind.j0] at H
      by_cases c9 : x6_2 = true
      · subst c9
        have H1 : (some 1) = some r := by rw [if_pos rfl] at H; exact H
        clear H
        have H := H1
        clear H1
        obtain rfl := Option.some.inj H
        go_wp2
        go_ret
        exact ⟨by first | rfl | (simp; done) | (simp [*]; done), by repeat (first | exact Drawn0.refl _ | apply Drawn0.step)⟩
      · replace c9 := Bool.eq_false_iff.mpr c9
        subst c9
        have H1 : (if t134 = 0 then (some 2) else (if t134 = 1 then (if 0 ≤ (wrap64 ((a0.size : Int) - 1)) then (if (wrap64 ((a0.size : Int) - 1)) < (a0.size : Int) then (if (bt a0 (wrap64 ((a0.size : Int) - 1))) = 46 then (some 3) else (some 4)) else (none)) else (none)) else (some 4))) = some r := by rw [if_neg (show ¬ (false = true) by decide)] at H; exact H
        clear H
        have H := H1
        clear H1
        by_cases c10 : t134 = 0
        · rw [if_pos c10] at H
          have c10b0 : (t134 == 0) = true := beq_iff_eq.mpr c10
          have c10b1 : (t134 != 0) = false := bne_eq_false_iff_eq.mpr c10
          clear c10
          obtain rfl := Option.some.inj H
          go_wp2
          go_ret
          exact ⟨by first | rfl | (simp; done) | (simp [*]; done), by repeat (first | exact Drawn0.refl _ | apply Drawn0.step)⟩
        · rw [if_neg c10] at H
          have c10b0 : (t134 == 0) = false := beq_eq_false_iff_ne.mpr c10
          have c10b1 : (t134 != 0) = true := bne_iff_ne.mpr c10
          by_cases c11 : t134 = 1
          · rw [if_pos c11] at H
            have c11b0 : (t134 == 1) = true := beq_iff_eq.mpr c11
            have c11b1 : (t134 != 1) = false := bne_eq_false_iff_eq.mpr c11
            clear c11
            obtain ⟨ji12, hji12⟩ : ∃ j_ : Int, (wrap64 ((a0.size : Int) - 1)) = j_ := ⟨_, rfl⟩
            replace H : (if 0 ≤ (ji12) then (if (ji12) < (a0.size : Int) then (if (bt a0 (ji12)) = 46 then (some 3) else (some 4)) else (none)) else (none)) = some r := by first | (rw [hji12] at H; exact H) | (simp only [hji12] at H ⊢; exact H)
            have hji12w : (IntKind.i64.wrap ((a0.size : Int) - 1)) = ji12 := (i64_w _).trans hji12
            by_cases c13 : 0 ≤ (ji12)
            · rw [if_pos c13] at H
              have c13b0 : decide (0 ≤ (ji12)) = true := decide_eq_true c13
              clear c13
              by_cases c14 : (ji12) < (a0.size : Int)
              · rw [if_pos c14] at H
                have c14b0 : decide ((ji12) < (a0.size : Int)) = true := decide_eq_true c14
                clear c14
                by_cases c16 : (bt a0 (ji12)) = 46
                · rw [if_pos c16] at H
                  have c16b0 : ((bt a0 (ji12)) == 46) = true := beq_iff_eq.mpr c16
                  have c16b1 : ((bt a0 (ji12)) != 46) = false := bne_eq_false_iff_eq.mpr c16
                  clear c16
                  obtain rfl := Option.some.inj H
                  have p15 : 0 ≤ ((ji12) : Int) := of_decide_eq_true (by first | (with_reducible assumption) | assumption)
                  have q15 : (ji12) < (a0.size : Int) := of_decide_eq_true (by first | (with_reducible assumption) | assumption)
                  have hx15 := bt_at a0 (ji12)
                  replace p15 := eq_true p15
                  replace q15 := eq_true q15
                  go_wp2
                  go_ret
                  exact ⟨by first | rfl | (simp; done) | (simp only [← hji12] <;> (first | rfl | simp)) | (simp [*]; done), by repeat (first | exact Drawn0.refl _ | apply Drawn0.step)⟩
                · rw [if_neg c16] at H
                  have c16b0 : ((bt a0 (ji12)) == 46) = false := beq_eq_false_iff_ne.mpr c16
                  have c16b1 : ((bt a0 (ji12)) != 46) = true := bne_iff_ne.mpr c16
                  obtain rfl := Option.some.inj H
                  have p15 : 0 ≤ ((ji12) : Int) := of_decide_eq_true (by first | (with_reducible assumption) | assumption)
                  have q15 : (ji12) < (a0.size : Int) := of_decide_eq_true (by first | (with_reducible assumption) | assumption)
                  have hx15 := bt_at a0 (ji12)
                  replace p15 := eq_true p15
                  replace q15 := eq_true q15
                  go_wp2
                  go_ret
                  exact ⟨by first | rfl | (simp; done) | (simp only [← hji12] <;> (first | rfl | simp)) | (simp [*]; done), by repeat (first | exact Drawn0.refl _ | apply Drawn0.step)⟩
              · rw [if_neg c14] at H
                exact absurd H (by simp)
            · rw [if_neg c13] at H
              exact absurd H (by simp)
          · rw [if_neg c11] at H
            have c11b0 : (t134 == 1) = false := beq_eq_false_iff_ne.mpr c11
            have c11b1 : (t134 != 1) = true := bne_iff_ne.mpr c11
            obtain rfl := Option.some.inj H
            go_wp2
            go_ret
            exact ⟨by first | rfl | (simp; done) | (simp [*]; done), by repeat (first | exact Drawn0.refl _ | apply Drawn0.step)⟩
end Go.Proofs.YtkkpjonfaflkmaaGreatDoor.T

namespace Go.Proofs.YtkkpjonfaflkmaaGreatDoor.T
set_option linter.unusedSimpArgs false
set_option linter.unusedVariables false
open Go.RowKit Go.Proofs.YtkkpjonfaflkmaaGreatDoorW.PrintWords Go.Proofs.YtkkpjonfaflkmaaGreatDoorW.PrintLast Go.Proofs.YtkkpjonfaflkmaaGreatDoorW.PrintMore
def symRes (a0 : ByteArray) : S.TR → Option (ByteArray × Int × Int)
  | .err _ => none
  | .ok t n => if n < a0.size then some (⟨#[]⟩, 0, 4) else (scan_kind.f 2 (strOfNums t)).map fun k => (strOfNums t, k, 0)
def scan_Symbol.f (a0 : ByteArray) : Option (ByteArray × Int × Int) :=
  if a0.size = 0 ∨ 40 < a0.size ∨ S.sym (bt a0 0) = false then some (⟨#[]⟩, 0, 4) else symRes a0 (S.symTok (bytesOf a0))
set_option maxRecDepth 100000 in
set_option maxHeartbeats 4000000 in
theorem scan_Symbol.calls (a0 : ByteArray) (r1 : ByteArray) (r2 r3 : Int) (w : World) (h : scan_Symbol.f a0 = some (r1, r2, r3)) :
    Calls Tryz.prog 25 #[.string a0] w fun e w' => e = .returned (.tuple #[.string r1, .int .i64 r2, .int .i64 r3]) ∧ Below w.heap.size w w' := by
  unfold scan_Symbol.f at h
  have HSE := Aside0.mk (str_empty a0)
  obtain ⟨n, hn⟩ : ∃ n, a0.size = n := ⟨_, rfl⟩
  have hlb : (bytesOf a0).length = n := by rw [bytesOf_length]; exact hn
  by_cases h0 : n = 0
  · rw [if_pos (.inl (hn.trans h0))] at h
    simp only [Option.some.injEq, Prod.mk.injEq] at h
    obtain ⟨rfl, rfl, rfl⟩ := h
    have he : (a0.toList == ([] : List UInt8)) = true := by rw [HSE.out]; exact decide_eq_true (List.length_eq_zero_iff.1 (hlb.trans h0))
    clear HSE hlb hn
    go_enter Tryz.func25, Tryz.ntmps25
    go_wp2_with fail
    refine bodyPost_ret (results_tmp3 rfl _ _ _) rfl ?_
    exact ⟨rfl, Below.refl _ _⟩
  · have he : (a0.toList == ([] : List UInt8)) = false := by rw [HSE.out]; exact decide_eq_false (fun e => h0 (by rw [← hlb, e]; rfl))
    by_cases h1 : 40 < n
    · rw [if_pos (.inr (.inl (by omega)))] at h
      simp only [Option.some.injEq, Prod.mk.injEq] at h
      obtain ⟨rfl, rfl, rfl⟩ := h
      have g1 : decide ((40 : Int) < (n : Int)) = true := decide_eq_true (by omega)
      have g2 : decide (40 < n) = true := decide_eq_true h1
      clear HSE hlb h0 h1
      go_enter Tryz.func25, Tryz.ntmps25
      go_wp2_with fail
      refine bodyPost_ret (results_tmp3 rfl _ _ _) rfl ?_
      exact ⟨rfl, Below.refl _ _⟩
    · have g1 : decide ((40 : Int) < (n : Int)) = false := decide_eq_false (by omega)
      have g2 : decide (40 < n) = false := decide_eq_false h1
      have hl : 0 < a0.size := by omega
      have hx : ((a0[0]'hl).toNat : Int) = bt a0 0 := by simp [bt, hl]
      have hr := bt_range a0 0
      have HSY := Lib.hid (fun W => scan_symbolic.calls (bt a0 0) (S.sym (bt a0 0)) W (sym_f _ hr.1 (by omega)))
      cases hs : S.sym (bt a0 0) with
      | false =>
        rw [if_pos (.inr (.inr hs))] at h
        rw [hs] at HSY
        simp only [Option.some.injEq, Prod.mk.injEq] at h
        obtain ⟨rfl, rfl, rfl⟩ := h
        generalize bt a0 0 = y at hx HSY
        clear HSE hlb h1 hs hr
        go_enter Tryz.func25, Tryz.ntmps25
        go_wp2_with (go_at_call 55; refine (HSY.out _).mono ?_; rintro e w' ⟨rfl, ⟨⟨q, rfl⟩⟩⟩)
        refine bodyPost_ret (results_tmp3 rfl _ _ _) rfl ?_
        exact ⟨rfl, pw_below_drewN (Below.refl _ _) _⟩
      | true =>
        rw [if_neg (by rw [hs]; rintro (e | e | e); omega; omega; cases e)] at h
        rw [hs] at HSY
        have HSM := Lib.hid (fun W m hW => scan_symbol.calls w.heap.size a0 m 0 1 W (by omega) (by omega) (by omega) hW)
        rw [List.drop_zero] at HSM
        generalize bt a0 0 = y at hx HSY
        cases hst : S.symTok (bytesOf a0) with
        | err c => rw [hst] at h; cases h
        | ok t m =>
          rw [hst] at h HSM
          have H := Aside0.mk h
          clear HSE hlb h1 hs hr hst h
          go_enter Tryz.func25, Tryz.ntmps25
          have HSY2 : Aside0 (∀ q, Sc w.heap.size a0 ((0 : Nat) : Int) ((1 : Nat) : Int) (.map none) ((w.drewN q).alloc (.cells #[.string a0, .int .i64 0, .int .i64 1, .map none] 93))) := ⟨fun q => heap_alloc_new (w.drewN q) _⟩
          have HBB : Aside0 (∀ q, Below w.heap.size w ((w.drewN q).alloc (.cells #[.string a0, .int .i64 0, .int .i64 1, .map none] 93))) := ⟨fun q => below_alloc (pw_below_drewN (Below.refl _ _) q) _⟩
          by_cases hm : m < n
          · have g3 : decide ((m : Int) < (n : Int)) = true := decide_eq_true (by omega)
            have g4 : decide (m < n) = true := decide_eq_true hm
            have H := H.out
            simp only [symRes] at H
            rw [if_pos (by omega)] at H
            simp only [Option.some.injEq, Prod.mk.injEq] at H
            obtain ⟨rfl, rfl, rfl⟩ := H
            go_upto_region 5 with (first | (go_at_call 55; refine (HSY.out _).mono ?_; rintro e w' ⟨rfl, ⟨⟨q, rfl⟩⟩⟩) | (go_at_call 56; refine (HSM.out _ _ (HSY2.out q)).mono ?_; rintro e w3 ⟨hb3, hp3⟩; obtain ⟨rfl, hs3⟩ := (show _ ∧ _ from hp3)))
            rw [Nat.zero_add] at hs3
            have hs1 := hs3.c1
            clear hp3
            have HBC : Below w.heap.size w w3 := (HBB.out q).trans (hb3.belowB (by have := (HBB.out q).size; exact this) (fun k hk e => by have := show k = w.heap.size from e; omega))
            replace HBC := Aside0.mk HBC
            clear hb3 HSY2 HBB hs3 HSM HSY h0 he g1 g2 hl hx
            go_wp2
            refine bodyPost_ret (results_tmp3 rfl _ _ _) rfl ?_
            exact ⟨rfl, HBC.out⟩
          · have g3 : decide ((m : Int) < (n : Int)) = false := decide_eq_false (by omega)
            have g4 : decide (m < n) = false := decide_eq_false hm
            have H := H.out
            simp only [symRes] at H
            rw [if_neg (by omega)] at H
            obtain ⟨kd, hk, H⟩ := Option.map_eq_some_iff.1 H
            simp only [Prod.mk.injEq] at H
            obtain ⟨rfl, rfl, rfl⟩ := H
            have HK := Lib.hid (fun W => scan_kind.calls 2 (strOfNums t) kd W hk)
            clear hk
            go_upto_region 5 with (first | (go_at_call 55; refine (HSY.out _).mono ?_; rintro e w' ⟨rfl, ⟨⟨q, rfl⟩⟩⟩) | (go_at_call 56; refine (HSM.out _ _ (HSY2.out q)).mono ?_; rintro e w3 ⟨hb3, hp3⟩; obtain ⟨rfl, hs3⟩ := (show _ ∧ _ from hp3)))
            rw [Nat.zero_add] at hs3
            have hs1 := hs3.c1
            clear hp3
            have HBC : Below w.heap.size w w3 := (HBB.out q).trans (hb3.belowB (by have := (HBB.out q).size; exact this) (fun k hk e => by have := show k = w.heap.size from e; omega))
            replace HBC := Aside0.mk HBC
            clear hb3 HSY2 HBB hs3 HSM HSY h0 he g1 g2 hl hx
            generalize hst2 : strOfNums t = st at *
            have HST2 := Aside0.mk hst2
            clear hst2
            go_wp2_with (go_at_call 57; refine (HK.out _).mono ?_; rintro e w' ⟨rfl, ⟨⟨q2, rfl⟩⟩⟩)
            refine bodyPost_ret (results_tmp3 rfl _ _ _) rfl ?_
            rw [HST2.out]
            exact ⟨rfl, HBC.out.trans (pw_below_drewN (Below.refl _ _) _)⟩
def scan_Literal.f (a0 : ByteArray) : Option (ByteArray × Int) :=
  if 1000 < a0.size ∨ (bytesOf a0).all S.prn = false then some (⟨#[]⟩, 1) else some (strOfNums (S.quote (bytesOf a0)), 0)
set_option maxRecDepth 100000 in
set_option maxHeartbeats 4000000 in
theorem scan_Literal.calls (a0 : ByteArray) (r1 : ByteArray) (r2 : Int) (w : World) (hT : TabOK w) (h : scan_Literal.f a0 = some (r1, r2)) :
    Calls Tryz.prog 30 #[.string a0] w fun e w' => e = .returned (.tuple #[.string r1, .int .i64 r2]) ∧ Below w.heap.size w w' := by
  unfold scan_Literal.f at h
  obtain ⟨n, hn⟩ : ∃ n, a0.size = n := ⟨_, rfl⟩
  by_cases h1 : 1000 < n
  · rw [if_pos (.inl (by omega))] at h
    simp only [Option.some.injEq, Prod.mk.injEq] at h
    obtain ⟨rfl, rfl⟩ := h
    have g1 : decide ((1000 : Int) < (n : Int)) = true := decide_eq_true (by omega)
    have g2 : decide (1000 < n) = true := decide_eq_true h1
    clear hT
    go_enter Tryz.func30, Tryz.ntmps30
    go_wp2_with fail
    refine bodyPost_ret (results_tmp2 rfl _ _ _) rfl ?_
    exact ⟨rfl, Below.refl _ _⟩
  · have g1 : decide ((1000 : Int) < (n : Int)) = false := decide_eq_false (by omega)
    have g2 : decide (1000 < n) = false := decide_eq_false h1
    have HNP := fun W => np_calls a0 W (by omega) 64 LitNP_enters LitNP.pays
    have kb := fun W => print_bytes (P := Tryz.prog) 9 100 5 Tryz.underlying9 Tryz.underlying100 Tryz.underlying5 a0 W
    rw [hn] at HNP kb
    cases hp : (bytesOf a0).all S.prn with
    | false =>
      rw [if_pos (.inr hp)] at h
      simp only [Option.some.injEq, Prod.mk.injEq] at h
      obtain ⟨rfl, rfl⟩ := h
      rw [hp] at HNP
      have HC := Lib.hid HNP
      clear HNP hp hT
      go_enter Tryz.func30, Tryz.ntmps30
      go_wp2_with (go_at_call 63; refine (HC.out _).mono ?_; rintro e w' ⟨rfl, hb⟩)
      refine bodyPost_ret (results_tmp2 rfl _ _ _) rfl ?_
      exact ⟨rfl, hb⟩
    | true =>
      rw [if_neg (by rw [hp]; rintro (e | e); omega; cases e)] at h
      simp only [Option.some.injEq, Prod.mk.injEq] at h
      obtain ⟨rfl, rfl⟩ := h
      rw [hp] at HNP
      have HC := Lib.hid HNP
      have HLT := Lib.hid (fun W hW => scan_literal.calls a0 (strOfNums (S.quote (bytesOf a0))) W hW (by unfold scan_literal.f; rw [if_pos (by omega)]))
      have HT := Aside0.mk hT
      clear HNP hp hT
      generalize strOfNums (S.quote (bytesOf a0)) = res at *
      go_enter Tryz.func30, Tryz.ntmps30
      go_wp2_with (first | (go_at_call 63; refine (HC.out _).mono ?_; rintro e w3 ⟨rfl, hb3⟩) | (go_at_call 66; refine (HLT.out _ (HT.out.of_below hb3)).mono ?_; rintro e w4 ⟨rfl, hb4⟩))
      refine bodyPost_ret (results_tmp2 rfl _ _ _) rfl ?_
      exact ⟨rfl, hb3.trans (hb4.mono hb3.size)⟩
end Go.Proofs.YtkkpjonfaflkmaaGreatDoor.T

namespace Go.Proofs.YtkkpjonfaflkmaaGreatDoor.T
set_option linter.unusedSimpArgs false
open Go.RowKit Go.Proofs.YtkkpjonfaflkmaaGreatDoorW.PrintWords Go.Proofs.YtkkpjonfaflkmaaGreatDoorW.PrintLast Go.Proofs.YtkkpjonfaflkmaaGreatDoorW.PrintMore
attribute [local go_sem] max2_int min2_int max_two min_two max_three min_three max_four min_four   -- for this text's walks alone
set_option linter.unusedVariables false
set_option linter.unusedSimpArgs false
def scan_like.f (a0_0 : Int) (a0_1 : ByteArray) (a0_2 : Bool) (a0_3 : Int) (a0_4 : Int) (a0_5 : Int) (a1_0 : Int) (a1_1 : ByteArray) (a1_2 : Bool) (a1_3 : Int) (a1_4 : Int) (a1_5 : Int) : Option (Bool) := if a0_0 = a1_0 then (some (a0_1.toList == a1_1.toList)) else (some false)
set_option maxHeartbeats 8000000 in
set_option maxRecDepth 100000 in
theorem scan_like.calls (a0_0 : Int) (a0_1 : ByteArray) (a0_2 : Bool) (a0_3 : Int) (a0_4 : Int) (a0_5 : Int) (a1_0 : Int) (a1_1 : ByteArray) (a1_2 : Bool) (a1_3 : Int) (a1_4 : Int) (a1_5 : Int) (r : Bool) (w : World) (h : scan_like.f a0_0 a0_1 a0_2 a0_3 a0_4 a0_5 a1_0 a1_1 a1_2 a1_3 a1_4 a1_5 = some r) :
    Calls Tryz.prog 76 #[.agg #[.int .i64 a0_0, .string a0_1, .bool a0_2, .int .i64 a0_3, .int .i64 a0_4, .int .i64 a0_5], .agg #[.int .i64 a1_0, .string a1_1, .bool a1_2, .int .i64 a1_3, .int .i64 a1_4, .int .i64 a1_5]] w fun e w' => e = .returned (.bool r) ∧ Below w.heap.size w w' := by
  have hu53 := Tryz.underlying53
  have HB := Aside0.mk (Below.refl w.heap.size w)
  have H : (if a0_0 = a1_0 then (some (a0_1.toList == a1_1.toList)) else (some false)) = some r := h
  clear h
  by_cases c3 : a0_0 = a1_0
  · rw [if_pos c3] at H
    have c3b0 : (a0_0 == a1_0) = true := beq_iff_eq.mpr c3
    have c3b1 : (a0_0 != a1_0) = false := bne_eq_false_iff_eq.mpr c3
    clear c3
    obtain rfl := Option.some.inj H
    go_enter Tryz.func76, Tryz.ntmps76
    go_wp2_with (first | ((with_reducible refine gate_dst (N := 2) rfl ?_); refine box_event ?hg (N := 2) ?hd (cs := #[.int .i64 a0_0, .string a0_1, .bool a0_2, .int .i64 a0_3, .int .i64 a0_4, .int .i64 a0_5]) (t := 53) ?hr ?_; (case hd => rfl); (case hg => rfl); (case hr => first | (go_simp; done) | (go_simp; rfl)); intro gb148 hg w4 hbox hb; have n0_ := Aside0.mk (below_step (by repeat (first | (with_reducible first | exact HB.out | apply below_alloc | apply pw_below_drewN | apply below_drew1) | exact HB.out)) hb); have n1_ := Aside0.mk (hbox); have n2_ := Aside0.mk ((by rw [hg]; exact (below_size (by repeat (first | (with_reducible first | exact HB.out | apply below_alloc | apply pw_below_drewN | apply below_drew1) | exact HB.out))) : w.heap.size ≤ gb148)); have n3_ := Aside0.mk ((by rw [hg]; exact (below_size (by repeat (first | (with_reducible first | exact HB.out | apply below_alloc | apply pw_below_drewN | apply below_drew1) | exact HB.out))) : w.heap.size ≤ gb148)); clear HB; have HB := n0_; have BK148 := n1_; have GW148 := n2_; have GE148 := n3_; clear n0_ n1_ n2_ n3_; clear hb hbox hg) | ((with_reducible refine gate_dst (N := 3) rfl ?_); refine box_event ?hg (N := 3) ?hd (cs := #[.int .i64 a1_0, .string a1_1, .bool a1_2, .int .i64 a1_3, .int .i64 a1_4, .int .i64 a1_5]) (t := 53) ?hr ?_; (case hd => rfl); (case hg => rfl); (case hr => first | (go_simp; done) | (go_simp; rfl)); intro gb149 hg w5 hbox hb; have n0_ := Aside0.mk (blk_below (g := gb148) (o := .cells #[.int .i64 a0_0, .string a0_1, .bool a0_2, .int .i64 a0_3, .int .i64 a0_4, .int .i64 a0_5] 53 (0, 0)) (by (with_reducible repeat (first | refine blk_drewN ?_ _ | refine blk_drew ?_ | refine blk_alloc ?_ _)); exact BK148.out) hb); have n1_ := Aside0.mk (below_step (by repeat (first | (with_reducible first | exact HB.out | apply below_alloc | apply pw_below_drewN | apply below_drew1 | refine below_set ?_ GE148.out) | exact HB.out)) hb); have n2_ := Aside0.mk (hbox); have n3_ := Aside0.mk ((by rw [hg]; exact (below_size (by repeat (first | (with_reducible first | exact HB.out | apply below_alloc | apply pw_below_drewN | apply below_drew1 | refine below_set ?_ GE148.out) | exact HB.out))) : w.heap.size ≤ gb149)); have n4_ := Aside0.mk ((by rw [hg]; exact (below_size (by repeat (first | (with_reducible first | exact HB.out | apply below_alloc | apply pw_below_drewN | apply below_drew1 | refine below_set ?_ GE148.out) | exact HB.out))) : w.heap.size ≤ gb149)); have n5_ := Aside0.mk ((by rw [hg]; exact Nat.ne_of_lt (blk_lt (g := gb148) (o := .cells #[.int .i64 a0_0, .string a0_1, .bool a0_2, .int .i64 a0_3, .int .i64 a0_4, .int .i64 a0_5] 53 (0, 0)) (by (with_reducible repeat (first | refine blk_drewN ?_ _ | refine blk_drew ?_ | refine blk_alloc ?_ _)); exact BK148.out)) : gb148 ≠ gb149)); have n6_ := Aside0.mk ((by rw [hg]; exact Nat.ne_of_gt (blk_lt (g := gb148) (o := .cells #[.int .i64 a0_0, .string a0_1, .bool a0_2, .int .i64 a0_3, .int .i64 a0_4, .int .i64 a0_5] 53 (0, 0)) (by (with_reducible repeat (first | refine blk_drewN ?_ _ | refine blk_drew ?_ | refine blk_alloc ?_ _)); exact BK148.out)) : gb149 ≠ gb148)); clear BK148; clear HB; have BK148 := n0_; have HB := n1_; have BK149 := n2_; have GW149 := n3_; have GE149 := n4_; have NB148_149 := n5_; have NB149_148 := n6_; clear n0_ n1_ n2_ n3_ n4_ n5_ n6_; clear hb hbox hg; have hnb6 := NB148_149.out; have hnc6 := NB149_148.out; have hcz7_0 : w5.cell? ⟨gb148, 0, none⟩ = some (.int .i64 a0_0) := (blk_cell BK148.out 0).trans rfl; have hcz7_1 : w5.cell? ⟨gb148, 1, none⟩ = some (.string a0_1) := (blk_cell BK148.out 1).trans rfl; have hcz7_2 : w5.cell? ⟨gb148, 2, none⟩ = some (.bool a0_2) := (blk_cell BK148.out 2).trans rfl; have hcz7_3 : w5.cell? ⟨gb148, 3, none⟩ = some (.int .i64 a0_3) := (blk_cell BK148.out 3).trans rfl; have hcz7_4 : w5.cell? ⟨gb148, 4, none⟩ = some (.int .i64 a0_4) := (blk_cell BK148.out 4).trans rfl; have hcz7_5 : w5.cell? ⟨gb148, 5, none⟩ = some (.int .i64 a0_5) := (blk_cell BK148.out 5).trans rfl; have hfz7_0 := blk_frozen BK148.out 0; have hfz7_1 := blk_frozen BK148.out 1; have hfz7_2 := blk_frozen BK148.out 2; have hfz7_3 := blk_frozen BK148.out 3; have hfz7_4 := blk_frozen BK148.out 4; have hfz7_5 := blk_frozen BK148.out 5; have hcz8_0 : w5.cell? ⟨gb149, 0, none⟩ = some (.int .i64 a1_0) := (blk_cell BK149.out 0).trans rfl; have hcz8_1 : w5.cell? ⟨gb149, 1, none⟩ = some (.string a1_1) := (blk_cell BK149.out 1).trans rfl; have hcz8_2 : w5.cell? ⟨gb149, 2, none⟩ = some (.bool a1_2) := (blk_cell BK149.out 2).trans rfl; have hcz8_3 : w5.cell? ⟨gb149, 3, none⟩ = some (.int .i64 a1_3) := (blk_cell BK149.out 3).trans rfl; have hcz8_4 : w5.cell? ⟨gb149, 4, none⟩ = some (.int .i64 a1_4) := (blk_cell BK149.out 4).trans rfl; have hcz8_5 : w5.cell? ⟨gb149, 5, none⟩ = some (.int .i64 a1_5) := (blk_cell BK149.out 5).trans rfl; have hfz8_0 := blk_frozen BK149.out 0; have hfz8_1 := blk_frozen BK149.out 1; have hfz8_2 := blk_frozen BK149.out 2; have hfz8_3 := blk_frozen BK149.out 3; have hfz8_4 := blk_frozen BK149.out 4; have hfz8_5 := blk_frozen BK149.out 5))
    go_ret
    exact ⟨by first | rfl | (simp [errW_none, errW_some] <;> rfl) | (simp [*, errW_none, errW_some] <;> rfl), by repeat (first | (with_reducible first | exact HB.out | apply below_alloc | apply pw_below_drewN | apply below_drew1 | refine below_set ?_ GE148.out | refine below_set ?_ GE149.out) | exact HB.out)⟩
  · rw [if_neg c3] at H
    have c3b0 : (a0_0 == a1_0) = false := beq_eq_false_iff_ne.mpr c3
    have c3b1 : (a0_0 != a1_0) = true := bne_iff_ne.mpr c3
    obtain rfl := Option.some.inj H
    go_enter Tryz.func76, Tryz.ntmps76
    go_wp2_with (first | ((with_reducible refine gate_dst (N := 2) rfl ?_); refine box_event ?hg (N := 2) ?hd (cs := #[.int .i64 a0_0, .string a0_1, .bool a0_2, .int .i64 a0_3, .int .i64 a0_4, .int .i64 a0_5]) (t := 53) ?hr ?_; (case hd => rfl); (case hg => rfl); (case hr => first | (go_simp; done) | (go_simp; rfl)); intro gb148 hg w9 hbox hb; have n0_ := Aside0.mk (below_step (by repeat (first | (with_reducible first | exact HB.out | apply below_alloc | apply pw_below_drewN | apply below_drew1) | exact HB.out)) hb); have n1_ := Aside0.mk (hbox); have n2_ := Aside0.mk ((by rw [hg]; exact (below_size (by repeat (first | (with_reducible first | exact HB.out | apply below_alloc | apply pw_below_drewN | apply below_drew1) | exact HB.out))) : w.heap.size ≤ gb148)); have n3_ := Aside0.mk ((by rw [hg]; exact (below_size (by repeat (first | (with_reducible first | exact HB.out | apply below_alloc | apply pw_below_drewN | apply below_drew1) | exact HB.out))) : w.heap.size ≤ gb148)); clear HB; have HB := n0_; have BK148 := n1_; have GW148 := n2_; have GE148 := n3_; clear n0_ n1_ n2_ n3_; clear hb hbox hg) | ((with_reducible refine gate_dst (N := 3) rfl ?_); refine box_event ?hg (N := 3) ?hd (cs := #[.int .i64 a1_0, .string a1_1, .bool a1_2, .int .i64 a1_3, .int .i64 a1_4, .int .i64 a1_5]) (t := 53) ?hr ?_; (case hd => rfl); (case hg => rfl); (case hr => first | (go_simp; done) | (go_simp; rfl)); intro gb149 hg w10 hbox hb; have n0_ := Aside0.mk (blk_below (g := gb148) (o := .cells #[.int .i64 a0_0, .string a0_1, .bool a0_2, .int .i64 a0_3, .int .i64 a0_4, .int .i64 a0_5] 53 (0, 0)) (by (with_reducible repeat (first | refine blk_drewN ?_ _ | refine blk_drew ?_ | refine blk_alloc ?_ _)); exact BK148.out) hb); have n1_ := Aside0.mk (below_step (by repeat (first | (with_reducible first | exact HB.out | apply below_alloc | apply pw_below_drewN | apply below_drew1 | refine below_set ?_ GE148.out) | exact HB.out)) hb); have n2_ := Aside0.mk (hbox); have n3_ := Aside0.mk ((by rw [hg]; exact (below_size (by repeat (first | (with_reducible first | exact HB.out | apply below_alloc | apply pw_below_drewN | apply below_drew1 | refine below_set ?_ GE148.out) | exact HB.out))) : w.heap.size ≤ gb149)); have n4_ := Aside0.mk ((by rw [hg]; exact (below_size (by repeat (first | (with_reducible first | exact HB.out | apply below_alloc | apply pw_below_drewN | apply below_drew1 | refine below_set ?_ GE148.out) | exact HB.out))) : w.heap.size ≤ gb149)); have n5_ := Aside0.mk ((by rw [hg]; exact Nat.ne_of_lt (blk_lt (g := gb148) (o := .cells #[.int .i64 a0_0, .string a0_1, .bool a0_2, .int .i64 a0_3, .int .i64 a0_4, .int .i64 a0_5] 53 (0, 0)) (by (with_reducible repeat (first | refine blk_drewN ?_ _ | refine blk_drew ?_ | refine blk_alloc ?_ _)); exact BK148.out)) : gb148 ≠ gb149)); have n6_ := Aside0.mk ((by rw [hg]; exact Nat.ne_of_gt (blk_lt (g := gb148) (o := .cells #[.int .i64 a0_0, .string a0_1, .bool a0_2, .int .i64 a0_3, .int .i64 a0_4, .int .i64 a0_5] 53 (0, 0)) (by (with_reducible repeat (first | refine blk_drewN ?_ _ | refine blk_drew ?_ | refine blk_alloc ?_ _)); exact BK148.out)) : gb149 ≠ gb148)); clear BK148; clear HB; have BK148 := n0_; have HB := n1_; have BK149 := n2_; have GW149 := n3_; have GE149 := n4_; have NB148_149 := n5_; have NB149_148 := n6_; clear n0_ n1_ n2_ n3_ n4_ n5_ n6_; clear hb hbox hg; have hnb11 := NB148_149.out; have hnc11 := NB149_148.out; have hcz12_0 : w10.cell? ⟨gb148, 0, none⟩ = some (.int .i64 a0_0) := (blk_cell BK148.out 0).trans rfl; have hcz12_1 : w10.cell? ⟨gb148, 1, none⟩ = some (.string a0_1) := (blk_cell BK148.out 1).trans rfl; have hcz12_2 : w10.cell? ⟨gb148, 2, none⟩ = some (.bool a0_2) := (blk_cell BK148.out 2).trans rfl; have hcz12_3 : w10.cell? ⟨gb148, 3, none⟩ = some (.int .i64 a0_3) := (blk_cell BK148.out 3).trans rfl; have hcz12_4 : w10.cell? ⟨gb148, 4, none⟩ = some (.int .i64 a0_4) := (blk_cell BK148.out 4).trans rfl; have hcz12_5 : w10.cell? ⟨gb148, 5, none⟩ = some (.int .i64 a0_5) := (blk_cell BK148.out 5).trans rfl; have hfz12_0 := blk_frozen BK148.out 0; have hfz12_1 := blk_frozen BK148.out 1; have hfz12_2 := blk_frozen BK148.out 2; have hfz12_3 := blk_frozen BK148.out 3; have hfz12_4 := blk_frozen BK148.out 4; have hfz12_5 := blk_frozen BK148.out 5; have hcz13_0 : w10.cell? ⟨gb149, 0, none⟩ = some (.int .i64 a1_0) := (blk_cell BK149.out 0).trans rfl; have hcz13_1 : w10.cell? ⟨gb149, 1, none⟩ = some (.string a1_1) := (blk_cell BK149.out 1).trans rfl; have hcz13_2 : w10.cell? ⟨gb149, 2, none⟩ = some (.bool a1_2) := (blk_cell BK149.out 2).trans rfl; have hcz13_3 : w10.cell? ⟨gb149, 3, none⟩ = some (.int .i64 a1_3) := (blk_cell BK149.out 3).trans rfl; have hcz13_4 : w10.cell? ⟨gb149, 4, none⟩ = some (.int .i64 a1_4) := (blk_cell BK149.out 4).trans rfl; have hcz13_5 : w10.cell? ⟨gb149, 5, none⟩ = some (.int .i64 a1_5) := (blk_cell BK149.out 5).trans rfl; have hfz13_0 := blk_frozen BK149.out 0; have hfz13_1 := blk_frozen BK149.out 1; have hfz13_2 := blk_frozen BK149.out 2; have hfz13_3 := blk_frozen BK149.out 3; have hfz13_4 := blk_frozen BK149.out 4; have hfz13_5 := blk_frozen BK149.out 5))
    go_ret
    exact ⟨by first | rfl | (simp [errW_none, errW_some] <;> rfl) | (simp [*, errW_none, errW_some] <;> rfl), by repeat (first | (with_reducible first | exact HB.out | apply below_alloc | apply pw_below_drewN | apply below_drew1 | refine below_set ?_ GE148.out | refine below_set ?_ GE149.out) | exact HB.out)⟩
end Go.Proofs.YtkkpjonfaflkmaaGreatDoor.T

namespace Go.Proofs.YtkkpjonfaflkmaaGreatDoor.T
set_option linter.unusedSimpArgs false
set_option linter.unusedVariables false
open Go.RowKit Go.Proofs.YtkkpjonfaflkmaaGreatDoorW.PrintWords Go.Proofs.YtkkpjonfaflkmaaGreatDoorW.PrintLast Go.Proofs.YtkkpjonfaflkmaaGreatDoorW.PrintMore
attribute [local go_sem] Oper.semAt_some
def encTk (x : S53) : Value := .agg #[.int .i64 x.f0, .string x.f1, .bool x.f2, .int .i64 x.f3, .int .i64 x.f4, .int .i64 x.f5]
def eqF {α : Type} (p : α → α → Bool) : List α → List α → Bool
  | [], [] => true
  | x :: l, y :: m => p x y && eqF p l m
  | _, _ => false
theorem eqF_len {α : Type} (p : α → α → Bool) : ∀ l m : List α, l.length ≠ m.length → eqF p l m = false
  | [], [], h => absurd rfl h
  | [], _ :: _, _ => rfl
  | _ :: _, [], _ => rfl
  | x :: l, y :: m, h => by rw [eqF, eqF_len p l m (fun e => h (by simp [e])), Bool.and_false]
def likeB (x y : S53) : Bool := decide (x.f0 = y.f0) && (x.f1.toList == y.f1.toList)
def sameB (x y : S53) : Bool := likeB x y && (x.f2 == y.f2)
def Tells2 (g : Nat) (p : S53 → S53 → Bool) : Prop := ∀ (W : World) (x y : S53), Calls Tryz.prog g #[encTk x, encTk y] W fun e W' => e = .returned (.bool (p x y)) ∧ Below W.heap.size W W'
theorem like_tells : Tells2 76 likeB := fun W x y => by
  refine scan_like.calls _ _ _ _ _ _ _ _ _ _ _ _ _ W ?_
  unfold scan_like.f likeB
  by_cases h : x.f0 = y.f0
  · rw [if_pos h, decide_eq_true h, Bool.true_and]
  · rw [if_neg h, decide_eq_false h, Bool.false_and]
theorem like_enters : ∀ args w, (callFunc 76 args).run Tryz.prog w = .ok (.enter 76 args) w := enters_of Tryz.func76 (by kernel_rfl) rfl
theorem same1_enters : ∀ args w, (callFunc 75 args).run Tryz.prog w = .ok (.enter 75 args) w := enters_of Tryz.func75 (by kernel_rfl) rfl
theorem drop_rd {l : List S53} {k : Nat} (h : k < l.length) : l.drop k = rd_T53 l (k : Int) :: l.drop (k + 1) := by
  rw [List.drop_eq_getElem_cons h]
  congr 1
  unfold rd_T53
  rw [Int.toNat_natCast, List.getD_eq_getElem?_getD, List.getElem?_eq_getElem h]
  rfl
set_option maxRecDepth 100000 in
set_option maxHeartbeats 4000000 in
theorem eqf.calls (A0 : Option Addr) (c0 : Nat) (l0 : List S53) (A1 : Option Addr) (c1 : Nat) (l1 : List S53) (g : Nat) (p : S53 → S53 → Bool) (w : World)
    (eg : ∀ args w, (callFunc g args).run Tryz.prog w = .ok (.enter g args) w) (hp : Tells2 g p) (hr0 : Kd.C k53 w A0 l0.length l0) (hc0 : l0.length ≤ c0) (hr1 : Kd.C k53 w A1 l1.length l1) (hc1 : l1.length ≤ c1) (hsm : l0.length ≤ 1000000) :
    Calls Tryz.prog 74 #[.slice A0 l0.length c0, .slice A1 l1.length c1, .func (.func g) #[] #[]] w fun e w' => e = .returned (.bool (eqF p l0 l1)) ∧ Below w.heap.size w w' := by
  have hu53 := Tryz.underlying53
  have HP := Aside0.mk hp
  have HR0 := Aside0.mk hr0
  have HR1 := Aside0.mk hr1
  clear hp hr0 hr1
  by_cases hl : l0.length = l1.length
  · obtain ⟨n, hn⟩ : ∃ n, l0.length = n := ⟨_, rfl⟩
    have hn1 : l1.length = n := by omega
    obtain ⟨R, hR⟩ : ∃ R, eqF p l0 l1 = R := ⟨_, rfl⟩
    rw [hR]
    have HR := Aside0.mk hR
    have HL0 := Aside0.mk hn
    have HL1 := Aside0.mk hn1
    rw [hn] at HR0 hc0 hsm ⊢
    rw [hn1] at HR1 hc1 ⊢
    clear hl hn hn1 hR
    go_enter Tryz.func74, Tryz.ntmps74
    go_wp2
    go_loopg [17] n (fun gg s17 wr => ∃ kk : Nat, kk ≤ n ∧ n - kk ≤ gg ∧ s17 = .int .i64 kk ∧ Aside0 (Below w.heap.size w wr) ∧ Aside0 (eqF p (l0.drop kk) (l1.drop kk) = R))
    case atStart => exact ⟨0, by omega, by omega, rfl, ⟨Below.refl _ _⟩, HR⟩
    case round =>
      obtain ⟨kk, hkk, hg, rfl, HB, HA⟩ := hrel
      by_cases hlt : kk < n
      · have hltz : (kk : Int) < (n : Int) := by omega
        have hz0 : (0 : Int) ≤ (kk : Int) := by omega
        have hw1 : IntKind.i64.wrap ((kk : Int) + 1) = ((kk + 1 : Nat) : Int) := by rw [w64 _ (by omega) (by omega)]; omega
        have HA2 := HA.out
        rw [drop_rd (l := l0) (k := kk) (by rw [HL0.out]; exact hlt), drop_rd (l := l1) (k := kk) (by rw [HL1.out]; exact hlt), eqF] at HA2
        obtain ⟨ad, rfl, x0, x1, x2, x3, x4, x5⟩ := at_T53 (Kd.C_below HR0.out HB.out) (kk : Int) hz0 hltz
        simp only [Int.toNat_natCast] at x0 x1 x2 x3 x4 x5
        have hcl := HP.out
        generalize rd_T53 l0 (kk : Int) = tx at *
        go_upto_region 6 with (fail)
        have hn1 := heap_alloc_new wr (.cells #[.int .i64 tx.f0, .string tx.f1, .bool tx.f2, .int .i64 tx.f3, .int .i64 tx.f4, .int .i64 tx.f5] 53)
        have hB1 := below_alloc HB.out (.cells #[.int .i64 tx.f0, .string tx.f1, .bool tx.f2, .int .i64 tx.f3, .int .i64 tx.f4, .int .i64 tx.f5] 53)
        obtain ⟨h1, hh1⟩ : ∃ h1, wr.heap.size = h1 := ⟨_, rfl⟩
        rw [hh1] at hn1 ⊢
        clear x0 x1 x2 x3 x4 x5 hh1 HB
        generalize wr.alloc (.cells #[.int .i64 tx.f0, .string tx.f1, .bool tx.f2, .int .i64 tx.f3, .int .i64 tx.f4, .int .i64 tx.f5] 53) = W1 at *
        obtain ⟨be, rfl, y0, y1, y2, y3, y4, y5⟩ := at_T53 (Kd.C_below HR1.out hB1) (kk : Int) hz0 hltz
        simp only [Int.toNat_natCast] at y0 y1 y2 y3 y4 y5
        generalize rd_T53 l1 (kk : Int) = ty at *
        go_upto_region 7 with (fail)
        have hn2 := heap_alloc_new W1 (.cells #[.int .i64 ty.f0, .string ty.f1, .bool ty.f2, .int .i64 ty.f3, .int .i64 ty.f4, .int .i64 ty.f5] 53)
        have hB2 := below_alloc hB1 (.cells #[.int .i64 ty.f0, .string ty.f1, .bool ty.f2, .int .i64 ty.f3, .int .i64 ty.f4, .int .i64 ty.f5] 53)
        have hn3 := (((But.refl (fun _ => False) W1).alloc (.cells #[.int .i64 ty.f0, .string ty.f1, .bool ty.f2, .int .i64 ty.f3, .int .i64 ty.f4, .int .i64 ty.f5] 53)).block h1 (Array.getElem?_eq_some_iff.1 hn1).1 (fun e => e)).trans hn1
        obtain ⟨h2, hh2⟩ : ∃ h2, W1.heap.size = h2 := ⟨_, rfl⟩
        rw [hh2] at hn2 ⊢
        clear y0 y1 y2 y3 y4 y5 hh2 hB1 hn1
        generalize W1.alloc (.cells #[.int .i64 ty.f0, .string ty.f1, .bool ty.f2, .int .i64 ty.f3, .int .i64 ty.f4, .int .i64 ty.f5] 53) = W2 at *
        have HC := Lib.hid (hcl W2 tx ty)
        have HB2 := Aside0.mk hB2
        have a0 : W2.cell? ⟨h1, 0, none⟩ = some (.int .i64 tx.f0) := (blk_cell hn3 0).trans rfl
        have a1 : W2.cell? ⟨h1, 1, none⟩ = some (.string tx.f1) := (blk_cell hn3 1).trans rfl
        have a2 : W2.cell? ⟨h1, 2, none⟩ = some (.bool tx.f2) := (blk_cell hn3 2).trans rfl
        have a3 : W2.cell? ⟨h1, 3, none⟩ = some (.int .i64 tx.f3) := (blk_cell hn3 3).trans rfl
        have a4 : W2.cell? ⟨h1, 4, none⟩ = some (.int .i64 tx.f4) := (blk_cell hn3 4).trans rfl
        have a5 : W2.cell? ⟨h1, 5, none⟩ = some (.int .i64 tx.f5) := (blk_cell hn3 5).trans rfl
        have b0 : W2.cell? ⟨h2, 0, none⟩ = some (.int .i64 ty.f0) := (blk_cell hn2 0).trans rfl
        have b1 : W2.cell? ⟨h2, 1, none⟩ = some (.string ty.f1) := (blk_cell hn2 1).trans rfl
        have b2 : W2.cell? ⟨h2, 2, none⟩ = some (.bool ty.f2) := (blk_cell hn2 2).trans rfl
        have b3 : W2.cell? ⟨h2, 3, none⟩ = some (.int .i64 ty.f3) := (blk_cell hn2 3).trans rfl
        have b4 : W2.cell? ⟨h2, 4, none⟩ = some (.int .i64 ty.f4) := (blk_cell hn2 4).trans rfl
        have b5 : W2.cell? ⟨h2, 5, none⟩ = some (.int .i64 ty.f5) := (blk_cell hn2 5).trans rfl
        clear hcl hB2 hn2 hn3
        cases hq : p tx ty with
        | true =>
          rw [hq] at HC HA2
          rw [Bool.true_and] at HA2
          replace HA2 := Aside0.mk HA2
          clear hq
          go_wp2_with (go_at_fn g; refine HC.out.mono ?_; rintro e w' ⟨rfl, hb3⟩)
          go_roundg (n - (kk + 1))
          case measure => omega
          case rel => exact ⟨kk + 1, by omega, by omega, by go_num, ⟨HB2.out.trans (hb3.mono HB2.out.size)⟩, HA2⟩
        | false =>
          rw [hq] at HC HA2
          rw [Bool.false_and] at HA2
          replace HA2 := Aside0.mk HA2
          clear hq
          go_wp2_with (go_at_fn g; refine HC.out.mono ?_; rintro e w' ⟨rfl, hb3⟩)
          go_ret
          exact ⟨by rw [← HA2.out]; rfl, HB2.out.trans (hb3.mono HB2.out.size)⟩
      · have hltz : ¬ (kk : Int) < (n : Int) := by omega
        have HA2 := HA.out
        rw [List.drop_eq_nil_of_le (by rw [HL0.out]; omega), List.drop_eq_nil_of_le (by rw [HL1.out]; omega)] at HA2
        replace HA2 := Aside0.mk HA2
        go_wp2
        go_ret
        exact ⟨by rw [← HA2.out]; rfl, HB.out⟩
  · rw [eqF_len p l0 l1 hl]
    obtain ⟨n, hn⟩ : ∃ n, l0.length = n := ⟨_, rfl⟩
    obtain ⟨m, hm⟩ : ∃ m, l1.length = m := ⟨_, rfl⟩
    rw [hn, hm] at hl
    rw [hn, hm]
    have g1 : ((n : Int) == (m : Int)) = false := beq_eq_false_iff_ne.2 (by omega)
    have g2 : ((n : Int) != (m : Int)) = true := bne_iff_ne.2 (by omega)
    have g3 : (n == m) = false := beq_eq_false_iff_ne.2 (by omega)
    clear hn hm hl HR0 HR1
    go_enter Tryz.func74, Tryz.ntmps74
    go_wp2
    go_ret
    exact ⟨rfl, Below.refl _ _⟩
set_option maxRecDepth 100000 in
set_option maxHeartbeats 4000000 in
theorem same1_tells : Tells2 75 sameB := fun W x y => by
  have hcl := like_tells
  unfold encTk
  have hu53 := Tryz.underlying53
  go_enter Tryz.func75, Tryz.ntmps75
  go_upto_region 1 with (fail)
  have hn1 := heap_alloc_new W (.cells #[.int .i64 x.f0, .string x.f1, .bool x.f2, .int .i64 x.f3, .int .i64 x.f4, .int .i64 x.f5] 53)
  have hs1 := World.size_alloc W (.cells #[.int .i64 x.f0, .string x.f1, .bool x.f2, .int .i64 x.f3, .int .i64 x.f4, .int .i64 x.f5] 53)
  have hn2 := heap_alloc_new (W.alloc (.cells #[.int .i64 x.f0, .string x.f1, .bool x.f2, .int .i64 x.f3, .int .i64 x.f4, .int .i64 x.f5] 53)) (.cells #[.int .i64 y.f0, .string y.f1, .bool y.f2, .int .i64 y.f3, .int .i64 y.f4, .int .i64 y.f5] 53)
  have hn3 := (((But.refl (fun _ => False) (W.alloc (.cells #[.int .i64 x.f0, .string x.f1, .bool x.f2, .int .i64 x.f3, .int .i64 x.f4, .int .i64 x.f5] 53))).alloc (.cells #[.int .i64 y.f0, .string y.f1, .bool y.f2, .int .i64 y.f3, .int .i64 y.f4, .int .i64 y.f5] 53)).block W.heap.size (by omega) (fun e => e)).trans hn1
  have hB2 := below_alloc (below_alloc (Below.refl W.heap.size W) (.cells #[.int .i64 x.f0, .string x.f1, .bool x.f2, .int .i64 x.f3, .int .i64 x.f4, .int .i64 x.f5] 53)) (.cells #[.int .i64 y.f0, .string y.f1, .bool y.f2, .int .i64 y.f3, .int .i64 y.f4, .int .i64 y.f5] 53)
  rw [hs1] at hn2
  obtain ⟨H, hH⟩ : ∃ H, W.heap.size = H := ⟨_, rfl⟩
  rw [hH] at hn2 hn3 hB2 ⊢
  clear hn1 hs1
  generalize (W.alloc (.cells #[.int .i64 x.f0, .string x.f1, .bool x.f2, .int .i64 x.f3, .int .i64 x.f4, .int .i64 x.f5] 53)).alloc (.cells #[.int .i64 y.f0, .string y.f1, .bool y.f2, .int .i64 y.f3, .int .i64 y.f4, .int .i64 y.f5] 53) = W2 at *
  have hc := hcl W2 x y
  have hfin : Aside0 (∀ w3, Below W2.heap.size W2 w3 → Below H W w3) := ⟨fun w3 hb => hB2.trans (hb.mono (by have := hB2.size; omega))⟩
  have hcf : Aside0 (∀ w3, Below W2.heap.size W2 w3 → w3.cell? ⟨H, 2, none⟩ = some (.bool x.f2) ∧ w3.cell? ⟨H + 1, 2, none⟩ = some (.bool y.f2)) := ⟨fun w3 hb => ⟨(blk_cell ((hb.block H (Array.getElem?_eq_some_iff.1 hn3).1).trans hn3) 2).trans rfl, (blk_cell ((hb.block (H + 1) (Array.getElem?_eq_some_iff.1 hn2).1).trans hn2) 2).trans rfl⟩⟩
  have a0 : W2.cell? ⟨H, 0, none⟩ = some (.int .i64 x.f0) := (blk_cell hn3 0).trans rfl
  have a1 : W2.cell? ⟨H, 1, none⟩ = some (.string x.f1) := (blk_cell hn3 1).trans rfl
  have a2 : W2.cell? ⟨H, 2, none⟩ = some (.bool x.f2) := (blk_cell hn3 2).trans rfl
  have a3 : W2.cell? ⟨H, 3, none⟩ = some (.int .i64 x.f3) := (blk_cell hn3 3).trans rfl
  have a4 : W2.cell? ⟨H, 4, none⟩ = some (.int .i64 x.f4) := (blk_cell hn3 4).trans rfl
  have a5 : W2.cell? ⟨H, 5, none⟩ = some (.int .i64 x.f5) := (blk_cell hn3 5).trans rfl
  have b0 : W2.cell? ⟨H + 1, 0, none⟩ = some (.int .i64 y.f0) := (blk_cell hn2 0).trans rfl
  have b1 : W2.cell? ⟨H + 1, 1, none⟩ = some (.string y.f1) := (blk_cell hn2 1).trans rfl
  have b2 : W2.cell? ⟨H + 1, 2, none⟩ = some (.bool y.f2) := (blk_cell hn2 2).trans rfl
  have b3 : W2.cell? ⟨H + 1, 3, none⟩ = some (.int .i64 y.f3) := (blk_cell hn2 3).trans rfl
  have b4 : W2.cell? ⟨H + 1, 4, none⟩ = some (.int .i64 y.f4) := (blk_cell hn2 4).trans rfl
  have b5 : W2.cell? ⟨H + 1, 5, none⟩ = some (.int .i64 y.f5) := (blk_cell hn2 5).trans rfl
  unfold encTk at hc
  have HH := Aside0.mk hH
  clear hcl hn2 hn3 hB2 hH
  cases hq : likeB x y with
  | false =>
    rw [hq] at hc
    have HC := Lib.hid hc
    have HSB : Aside0 (sameB x y = false) := ⟨by unfold sameB; rw [hq]; rfl⟩
    clear hc hq
    go_wp2_with (go_at_call 76; refine HC.out.mono ?_; rintro e w3 ⟨rfl, hb3⟩)
    go_ret
    exact ⟨by rw [HSB.out]; rfl, by rw [HH.out]; exact hfin.out _ hb3⟩
  | true =>
    rw [hq] at hc
    have HC := Lib.hid hc
    have HSB : Aside0 (sameB x y = (x.f2 == y.f2)) := ⟨by unfold sameB; rw [hq]; rfl⟩
    clear hc hq
    go_wp2_with (go_at_call 76; refine HC.out.mono ?_; rintro e w3 ⟨rfl, hb3⟩; obtain ⟨k1, k2⟩ := hcf.out _ hb3)
    go_ret
    exact ⟨by rw [HSB.out]; first | rfl | simp, by rw [HH.out]; exact hfin.out _ hb3⟩
def scan_Same.f (l0 l1 : List S53) : Option Bool := if l0.length ≤ 1000000 then some (eqF sameB l0 l1) else none
set_option maxRecDepth 100000 in
set_option maxHeartbeats 4000000 in
theorem scan_Same.calls (A0 : Option Addr) (c0 : Nat) (l0 : List S53) (A1 : Option Addr) (c1 : Nat) (l1 : List S53) (r : Bool) (w : World) (hr0 : Kd.C k53 w A0 l0.length l0) (hc0 : l0.length ≤ c0) (hr1 : Kd.C k53 w A1 l1.length l1) (hc1 : l1.length ≤ c1) (h : scan_Same.f l0 l1 = some r) :
    Calls Tryz.prog 37 #[.slice A0 l0.length c0, .slice A1 l1.length c1] w fun e w' => e = .returned (.bool r) ∧ Below w.heap.size w w' := by
  unfold scan_Same.f at h
  by_cases hs : l0.length ≤ 1000000
  · rw [if_pos hs] at h
    obtain rfl := Option.some.inj h
    have hc := Lib.hid (eqf.calls A0 c0 l0 A1 c1 l1 75 sameB w same1_enters same1_tells hr0 hc0 hr1 hc1 hs)
    clear hr0 hr1 hc0 hc1 hs
    generalize eqF sameB l0 l1 = R at *
    generalize l0.length = n at *
    generalize l1.length = m at *
    go_enter Tryz.func37, Tryz.ntmps37
    go_wp2_with (go_at_call 74; refine hc.out.mono ?_; rintro e w' ⟨rfl, hb⟩)
    go_ret
    exact ⟨rfl, hb⟩
  · rw [if_neg hs] at h; cases h
end Go.Proofs.YtkkpjonfaflkmaaGreatDoor.T

namespace Go.Proofs.YtkkpjonfaflkmaaGreatDoor.T
set_option linter.unusedSimpArgs false
set_option linter.unusedVariables false
open Go.RowKit Go.Maps Go.Proofs.YtkkpjonfaflkmaaGreatDoorW.PrintWords Go.Proofs.YtkkpjonfaflkmaaGreatDoorW.PrintLast Go.Proofs.YtkkpjonfaflkmaaGreatDoorW.PrintMore
def encS (v : Value) : Option (DataW Unit × List MemPlace) :=
  match v with
  | .slice none n c => some (.agg [.lit (.int .i64 n), .lit (.int .i64 c)], [])
  | .slice (some ⟨g, o, none⟩) n c => some (.agg [.lit (.int .i64 g), .lit (.int .i64 o), .lit (.int .i64 n), .lit (.int .i64 c)], [])
  | _ => none
theorem encS_inj {v v' : Value} {d : DataW Unit} {p p' : List MemPlace} (h : encS v = some (d, p)) (h' : encS v' = some (d, p')) : v = v' := by
  unfold encS at h h'
  split at h
  · split at h'
    · simp at h h'
      obtain ⟨rfl, _⟩ := h
      obtain ⟨h', _⟩ := h'
      simp at h'
      obtain ⟨h1, h2⟩ := h'
      cases Int.ofNat_inj.1 h1; cases Int.ofNat_inj.1 h2; rfl
    · simp at h h'
      obtain ⟨rfl, _⟩ := h
      obtain ⟨h', _⟩ := h'
      simp at h'
    · cases h'
  · split at h'
    · simp at h h'
      obtain ⟨rfl, _⟩ := h
      obtain ⟨h', _⟩ := h'
      simp at h'
    · simp at h h'
      obtain ⟨rfl, _⟩ := h
      obtain ⟨h', _⟩ := h'
      simp at h'
      obtain ⟨h1, h2, h3, h4⟩ := h'
      cases Int.ofNat_inj.1 h1; cases Int.ofNat_inj.1 h2; cases Int.ofNat_inj.1 h3; cases Int.ofNat_inj.1 h4; rfl
    · cases h'
  · cases h
def grp (ps : List (Int × ByteArray)) (c : Int) : List ByteArray := (ps.filter fun p => decide (p.1 = c)).map (·.2)
structure SgI (W : World) (b base : Nat) (ps : List (Int × ByteArray)) (hd : Int → Value) (D : DataW Unit) : Prop where
  map : W.ownsMap Tryz.prog 5 encS b ps.length D
  at_ : ∀ c, 0 ≤ c → c < 256 → ∃ d, encS (hd c) = some (d, []) ∧ D.atKey (.int .u8 c) (.agg [.lit (.int .i64 0), .lit (.int .i64 0)]) = d
  row : ∀ c, W.ownsRow base 9 1 (hd c) (grp ps c).length ((grp ps c).map Value.string)
  apart : ∀ c c', c ≠ c' → (hd c).ownBlock = none ∨ (hd c).ownBlock ≠ (hd c').ownBlock
  lt : b < base
theorem zero43 (w : World) : (zeroValue 43).run Tryz.prog w = .ok (.slice none 0 0) w := by kernel_rfl
theorem keyed5 : Keyed Tryz.prog 5 := int_keyed Tryz.underlying5
theorem key_u8 {x : Int} (h0 : 0 ≤ x) (h1 : x < 256) : keyOf Tryz.prog 5 (.int .u8 x) = some (.int .u8 x) := keyOf_int_mk Tryz.underlying5 (WalkArith.wf_u8 ⟨h0, by omega⟩)
theorem SgI.look {W : World} {b base : Nat} {ps : List (Int × ByteArray)} {hd : Int → Value} {D : DataW Unit} (h : SgI W b base ps hd D) (c : Int) (h0 : 0 ≤ c) (h1 : c < 256) :
    (Instr.lookup 91 (.map (some b)) (.int .u8 c) false).run Tryz.prog W = .ok (hd c) W := by
  obtain ⟨v, p, hrun, hv⟩ := h.map.lookup keyed5 Tryz.underlying91 (zero43 W) (zd := .agg [.lit (.int .i64 0), .lit (.int .i64 0)]) (zp := []) rfl (key_u8 h0 h1)
  obtain ⟨d, h2, h3⟩ := h.at_ c h0 h1
  rw [h3] at hv
  rw [hrun, encS_inj hv h2]
theorem SgI.blk {W W' : World} {b base : Nat} {ps : List (Int × ByteArray)} {hd : Int → Value} {D : DataW Unit} (h : SgI W b base ps hd D) (he : W'.heap[b]? = W.heap[b]?) (hr : ∀ c g, (hd c).ownBlock = some g → W'.heap[g]? = W.heap[g]?) : SgI W' b base ps hd D := by
  refine ⟨?_, h.at_, fun c => ?_, h.apart, h.lt⟩
  · obtain ⟨es, clock, hb, rest⟩ := h.map
    exact ⟨es, clock, he.trans hb, rest⟩
  · obtain ⟨h1, h2⟩ := h.row c
    refine ⟨h1, h2.imp id ?_⟩
    rintro ⟨g, cap, cur, hv, hbg, hg, rest⟩
    exact ⟨g, cap, cur, hv, hbg, (hr c g (by rw [hv]; rfl)).trans hg, rest⟩
theorem SgI.kept {W W' : World} {b base : Nat} {ps : List (Int × ByteArray)} {hd : Int → Value} {D : DataW Unit} (h : SgI W b base ps hd D) (hb : Below W.heap.size W W') : SgI W' b base ps hd D :=
  h.blk (hb.block _ h.map.lt) (fun c g hg => hb.block _ ((h.row c).lt g hg).2)
theorem SgI.step {W W1 w' : World} {b base : Nat} {ps : List (Int × ByteArray)} {hd : Int → Value} {D : DataW Unit} (h : SgI W b base ps hd D) (hw1 : Below W.heap.size W W1) (c : Int) (h0 : 0 ≤ c) (h1 : c < 256) (x : ByteArray) (g cap : Nat) (hps : ps.length ≤ 1000)
    (hown : w'.ownsRow base 9 1 (.slice (some ⟨g, 0, none⟩) ((grp ps c).length + 1) cap) ((grp ps c).length + 1) ((grp ps c).map Value.string ++ [.string x])) (hg : W1.grownBy w' (hd c).ownBlock) (hloc : (hd c).ownBlock = some g ∨ W.heap.size ≤ g) (hbw : b < W.heap.size) :
    ∃ w2 D' hd', (Instr.mapUpdate 91 (.map (some b)) (.int .u8 c) (.slice (some ⟨g, 0, none⟩) ((grp ps c).length + 1) cap)).run Tryz.prog w' = .ok () w2 ∧ SgI w2 b base (ps ++ [(c, x)]) hd' D' ∧ w'.grownBy w2 (some b) := by
  have hne : ∀ c', c' ≠ c → ∀ g', (hd c').ownBlock = some g' → w'.heap[g']? = W.heap[g']? := by
    intro c' hc' g' hg'
    have hl := ((h.row c').lt g' hg').2
    refine (hg.block g' (by have := hw1.size; omega) ?_).trans (hw1.block _ hl)
    intro e
    rcases h.apart c' c hc' with e1 | e1
    · rw [e1] at hg'; cases hg'
    · exact e1 (by rw [hg', e])
  have hbb : w'.heap[b]? = W.heap[b]? := by
    refine (hg.block b (by have := hw1.size; omega) ?_).trans (hw1.block _ hbw)
    intro e
    have := ((h.row c).lt b e.symm).1
    have := h.lt
    omega
  have hmap : w'.ownsMap Tryz.prog 5 encS b ps.length D := by
    obtain ⟨es, clock, hb, rest⟩ := h.map
    exact ⟨es, clock, hbb.trans hb, rest⟩
  obtain ⟨w2, hrun, hm2, hg2⟩ := hmap.update keyed5 Tryz.underlying91 (by unfold maxLen; omega) (key_u8 h0 h1) (val := .slice (some ⟨g, 0, none⟩) ((grp ps c).length + 1) cap) (d := _) (ps := []) rfl
  have hgb : g ≠ b := by have := (hown.lt g rfl).1; have := h.lt; omega
  have hlist : ∀ c', grp (ps ++ [(c, x)]) c' = if c' = c then grp ps c' ++ [x] else grp ps c' := fun c' => by
    unfold grp
    rw [List.filter_append, List.map_append]
    by_cases e : c' = c
    · rw [if_pos e]; simp [e]
    · rw [if_neg e]
      have : ¬ c = c' := fun q => e q.symm
      simp [this]
  refine ⟨w2, _, fun c' => if c' = c then .slice (some ⟨g, 0, none⟩) ((grp ps c).length + 1) cap else hd c', hrun, ⟨by rw [List.length_append]; exact hm2, fun c' h0' h1' => ?_, fun c' => ?_, fun c' c'' hcc => ?_, h.lt⟩, hg2⟩
  · by_cases e : c' = c
    · subst e
      simp only [if_true]
      exact ⟨_, rfl, atKey_put_same hmap.isMap (show WideAt.IsKeyLit (.int .u8 c') from trivial) _ _⟩
    · simp only [e, if_false]
      obtain ⟨d, h2, h3⟩ := h.at_ c' h0' h1'
      refine ⟨d, h2, ?_⟩
      rw [atKey_put_other (by simpa using e)]
      exact h3
  · rw [hlist]
    by_cases e : c' = c
    · subst e
      simp only [if_true]
      rw [List.length_append, List.map_append]
      have := hown.kept hg2 (.inr (by simp [Value.ownBlock]; exact hgb))
      exact this
    · simp only [e, if_false]
      obtain ⟨r1, r2⟩ := h.row c'
      refine ⟨r1, r2.imp id ?_⟩
      rintro ⟨g', cap', cur', hv, hbg, hg', rest⟩
      have hob : (hd c').ownBlock = some g' := by rw [hv]; rfl
      have hlt' : g' < w'.heap.size := by have := ((h.row c').lt g' hob).2; have := hw1.size; have := hg.size; omega
      exact ⟨g', cap', cur', hv, hbg, (hg2.block g' hlt' (by intro e1; cases e1; have := h.lt; omega)).trans ((hne c' e g' hob).trans hg'), rest⟩
  · have new_old : ∀ c', c' ≠ c → (hd c').ownBlock = none ∨ (hd c').ownBlock ≠ some g := by
      intro c' e
      rcases hloc with hl | hl
      · rw [← hl]; exact h.apart c' c e
      · cases hv : (hd c').ownBlock with
        | none => exact .inl rfl
        | some g' =>
          have := ((h.row c').lt g' hv).2
          exact .inr (by intro e1; cases e1; omega)
    by_cases e : c' = c
    · have e2 : c'' ≠ c := fun q => hcc (by rw [e, q])
      simp only [e, e2, if_true, if_false]
      refine .inr ?_
      rcases new_old c'' e2 with q | q
      · rw [q]; simp [Value.ownBlock]
      · exact fun q2 => q q2.symm
    · by_cases e2 : c'' = c
      · simp only [e, e2, if_true, if_false]
        exact new_old c' e
      · simp only [e, e2, if_false]
        exact h.apart c' c'' hcc
def sgPs : List (Int × ByteArray) := S.signs.map fun l => (l.headD 0, strOfNums l)
theorem sgPs_len : sgPs.length = 35 := by decide
def sgSrc : ByteArray := ⟨(([92, 61, 61, 32, 92, 62, 62, 32, 92, 60, 60, 32, 62, 62, 61, 32, 60, 60, 61, 32, 42, 42, 32, 47, 47, 32, 124, 124, 32, 38, 38, 32, 61, 61, 32, 92, 61, 32, 92, 62, 32, 92, 60, 32, 62, 61] : List UInt8).append [32, 60, 61, 32, 62, 62, 32, 60, 60, 32, 62, 60, 32, 60, 62, 32, 43, 32, 45, 32, 42, 32, 47, 32, 37, 32, 124, 32, 38, 32, 61, 32, 62, 32, 60, 32, 92, 32, 40, 32, 41, 32, 44, 32, 58, 32, 59]).toArray⟩
theorem sg_fields : (Lib.fields sgSrc.data.toList).map (fun l => Value.string ⟨l.toArray⟩) = sgPs.map fun p => Value.string p.2 := by
  have h : (Lib.fields sgSrc.data.toList).map (fun l => (⟨l.toArray⟩ : ByteArray)) = sgPs.map (·.2) := by decide +kernel
  have h2 := congrArg (List.map Value.string) h
  rw [List.map_map, List.map_map] at h2
  exact h2
theorem sg_flen : (Lib.fields sgSrc.data.toList).length = 35 := by decide +kernel
theorem sg_ascii : ∀ (j : Nat) b, sgSrc.data.toList[j]? = some b → b.toNat < 128 := fun j b hb =>
  of_decide_eq_true (List.all_eq_true.1 (show sgSrc.data.toList.all (fun b => decide (b.toNat < 128)) = true by decide +kernel) b (List.mem_of_getElem? hb))
theorem sg_each : ∀ k : Fin 35, (bytesOf (sgPs.getD k.val (0, ⟨#[]⟩)).2).headD 0 = (sgPs.getD k.val (0, ⟨#[]⟩)).1 ∧ (bytesOf (sgPs.getD k.val (0, ⟨#[]⟩)).2) ≠ [] ∧ 0 ≤ (sgPs.getD k.val (0, ⟨#[]⟩)).1 ∧ (sgPs.getD k.val (0, ⟨#[]⟩)).1 < 256 := by decide +kernel
theorem SgI.made2 (w : World) (o : Obj) : SgI ((w.alloc (.map #[] 0)).alloc o) w.heap.size (w.heap.size + 2) [] (fun _ => .slice none 0 0) (.map []) :=
  ⟨(World.ownsMap_made _ _ _ _).alloc o, fun c _ _ => ⟨_, rfl, rfl⟩, fun c => World.ownsRow_nil _ _ _ _, fun c c' _ => .inl rfl, by omega⟩
set_option maxRecDepth 100000 in
set_option maxHeartbeats 4000000 in
theorem scan_signs.calls (w : World) (hT : Lib.TabIs Tryz.prog (w.alloc (.map #[] 0)) "strings.asciiSpace" .u8 Lib.asciiSpaceTab) :
    Calls Tryz.prog 88 #[] w fun e w' => e = .returned (.map (some w.heap.size)) ∧ Below w.heap.size w w' ∧ ∃ hd D, SgI w' w.heap.size (w.heap.size + 2) sgPs hd D := by
  have hmm := @run_makeMap Tryz.prog
  have hfi := Tryz.strings_Fields_laid sgSrc (w.alloc (.map #[] 0)) (by decide) sg_ascii hT
  rw [sg_flen, sg_fields] at hfi
  have HFI := Lib.hid hfi
  have HI0 := Aside0.mk (SgI.made2 w (.cells (sgPs.map fun p => Value.string p.2).toArray 9))
  have HR0 : Aside0 (((w.alloc (.map #[] 0)).alloc (.cells (sgPs.map fun p => Value.string p.2).toArray 9)).heap[w.heap.size + 1]? = some (.cells (sgPs.map fun p => Value.string p.2).toArray 9 (0, 0))) := ⟨by
    have := heap_alloc_new (w.alloc (.map #[] 0)) (.cells (sgPs.map fun p => Value.string p.2).toArray 9)
    rwa [World.size_alloc] at this⟩
  have HB0 : Aside0 (Below w.heap.size w ((w.alloc (.map #[] 0)).alloc (.cells (sgPs.map fun p => Value.string p.2).toArray 9))) := ⟨below_alloc (below_alloc (Below.refl _ _) _) _⟩
  have HS0 : Aside0 (w.heap.size + 2 ≤ ((w.alloc (.map #[] 0)).alloc (.cells (sgPs.map fun p => Value.string p.2).toArray 9)).heap.size) := ⟨by simp⟩
  clear hfi hT
  go_enter Tryz.func88, Tryz.ntmps88
  go_wp2_with (go_at_call 122; refine HFI.out.mono ?_; rintro e w1 ⟨rfl, rfl⟩)
  obtain ⟨W0, hW0⟩ : ∃ W0, (w.alloc (.map #[] 0)).alloc (.cells (sgPs.map fun p => Value.string p.2).toArray 9) = W0 := ⟨_, rfl⟩
  rw [hW0] at HI0 HR0 HB0 HS0 ⊢
  clear hW0 HFI
  generalize hH : w.heap.size = H at *
  obtain ⟨i0, hi, hz0, hz1, hz2⟩ := info_parts (show (Tryz.prog.info? 9).map (fun i => (i.zero, i.size, i.bytes)) = some (some (.string ⟨#[]⟩), 1, 16) by kernel_rfl)
  go_loopg [3, 7] 35 (fun gg _ s7 wr => ∃ (kk : Nat) (hd : Int → Value) (D : DataW Unit), kk ≤ 35 ∧ 35 - kk ≤ gg ∧ s7 = .int .i64 kk ∧ Aside0 (SgI wr H (H + 2) (sgPs.take kk) hd D) ∧ Aside0 (wr.heap[H + 1]? = some (.cells (sgPs.map fun p => Value.string p.2).toArray 9 (0, 0))) ∧ Aside0 (Below H w wr) ∧ Aside0 (H + 2 ≤ wr.heap.size))
  case atStart => exact ⟨0, _, _, by omega, by omega, rfl, HI0, HR0, HB0, HS0⟩
  case round =>
    obtain ⟨kk, hd, D, hkk, hg, rfl, HI, HR, HB, HS⟩ := hrel
    by_cases hlt : kk < 35
    · have hltz : (kk : Int) < 35 := by omega
      obtain ⟨q1, q2, q3, q4⟩ := sg_each ⟨kk, hlt⟩
      simp only at q1 q2 q3 q4
      have hget : sgPs[kk]? = some (sgPs.getD kk (0, ⟨#[]⟩)) := by
        rw [List.getD_eq_getElem?_getD, List.getElem?_eq_getElem (by rw [sgPs_len]; exact hlt)]
        rfl
      have htake : sgPs.take (kk + 1) = sgPs.take kk ++ [sgPs.getD kk (0, ⟨#[]⟩)] := by
        rw [List.take_add_one, hget]
        rfl
      have hcell : wr.cell? ⟨H + 1, kk, none⟩ = some (.string (sgPs.getD kk (0, ⟨#[]⟩)).2) := by
        refine (blk_cell HR.out kk).trans ?_
        rw [List.getElem?_toArray, List.getElem?_map, hget]
        rfl
      obtain ⟨p, hp⟩ : ∃ p, sgPs.getD kk (0, ⟨#[]⟩) = p := ⟨_, rfl⟩
      rw [hp] at q1 q2 q3 q4 htake hcell
      obtain ⟨c, x⟩ := p
      simp only at q1 q2 q3 q4 hcell
      obtain ⟨y, M, hyM⟩ : ∃ y M, bytesOf x = y :: M := by
        rcases hb : bytesOf x with _ | ⟨y, M⟩
        · exact absurd hb q2
        · exact ⟨y, M, rfl⟩
      obtain ⟨hz, hby⟩ := first_byte x y M hyM
      rw [hyM] at q1
      obtain rfl : y = c := q1
      have hzi : (0 : Int) < (x.size : Int) := by omega
      have HI1 : Aside0 (SgI wr.drew H (H + 2) (sgPs.take kk) hd D) := ⟨⟨HI.out.map, HI.out.at_, HI.out.row, HI.out.apart, HI.out.lt⟩⟩
      have HI2 : Aside0 (SgI (wr.alloc (.cells #[.string x] 9)).drew H (H + 2) (sgPs.take kk) hd D) := ⟨HI.out.kept (below_drew1 (below_alloc (Below.refl _ _) _))⟩
      have hlk1 := HI1.out.look y q3 q4
      have hlk2 := HI2.out.look y q3 q4
      have HT := Aside0.mk htake
      have hplen : (sgPs.take kk).length ≤ 1000 := by rw [List.length_take]; omega
      have HPL := Aside0.mk hplen
      have hgl : (grp (sgPs.take kk) y).length ≤ 1000 := by
        unfold grp
        rw [List.length_map]
        exact Nat.le_trans (List.length_filter_le _ _) hplen
      obtain ⟨gn, hgn⟩ : ∃ gn, (grp (sgPs.take kk) y).length = gn := ⟨_, rfl⟩
      have HGN := Aside0.mk hgn
      rw [hgn] at hgl
      clear q2 hyM hget htake hplen hgn
      go_wp2
      go_region_law ((refine step_append_lies _ rfl (.tmp 17) (.tmp 19) 43 rfl (H + 2) 9 i0 (.string ⟨#[]⟩) 1 16 Tryz.underlying43 hi hz0 hz1 hz2 rfl (by decide) (hd y) gn ((grp (sgPs.take kk) y).map Value.string) rfl (by rw [← HGN.out]; exact HI2.out.row y) ⟨wr.heap.size, 0, none⟩ 1 1 [.string x] rfl rfl (cell_one_new _ _ _) (by simp [Value.oneCell']) (by decide) (by unfold maxLen; omega) (by omega) (by have := HS.out; simp; omega) (wr.heap.size + 1) (by simp) ?_; intro g cap w' hown' hgr hl hlt'; obtain ⟨w2, D2, hd2, hrun, hI2, hg2⟩ := HI.out.step (W1 := (wr.alloc (.cells #[.string x] 9)).drew) (below_drew1 (below_alloc (Below.refl _ _) _)) y q3 q4 x g cap HPL.out (by rw [HGN.out]; exact hown') hgr (hl.imp id (fun e => by omega)) HI.out.map.lt; rw [HGN.out] at hrun; have HI3 := Aside0.mk hI2; have HG3 := Aside0.mk (And.intro hgr hg2); clear hI2 hg2 hgr hown' hl))
      all_goals
        go_wp2
        go_roundg (35 - (kk + 1))
        case measure => omega
        case rel =>
          obtain ⟨k1, k2⟩ := HG3.out
          have hobl : ∀ k, (hd y).ownBlock = some k → H + 2 ≤ k := fun k e => ((HI.out.row y).lt k e).1
          have hs1 := k1.size
          have hs2 := k2.size
          have hs0 := HS.out
          have hs3 : ((wr.alloc (.cells #[.string x] 9)).drew).heap.size = wr.heap.size + 1 := World.size_alloc _ _
          refine ⟨kk + 1, hd2, D2, by omega, by omega, by go_num, ⟨by rw [HT.out]; exact HI3.out⟩, ⟨?_⟩, ⟨?_⟩, ⟨by omega⟩⟩
          · refine (k2.block _ (by omega) (by simp)).trans ((k1.block _ (by omega) (by intro e; have := hobl _ e.symm; omega)).trans ?_)
            exact (Below.heap_alloc _ _ _ (by omega)).trans HR.out
          · have b0 : Below H w (wr.alloc (.cells #[.string x] 9)) := HB.out.alloc (by omega) _
            have b1 : Below H w (wr.alloc (.cells #[.string x] 9)).drew := ⟨b0.os, b0.tape, b0.output, b0.size, b0.block⟩
            exact (b1.grown k1 (by omega) (fun k e => by have := hobl k e; omega)).grown k2 (by omega) (fun k e => by cases e; omega)
    · obtain rfl : kk = 35 := by omega
      go_wp2
      go_ret
      rw [hH]
      refine ⟨rfl, HB.out, hd, D, ?_⟩
      have := HI.out
      rw [List.take_of_length_le (by rw [sgPs_len]; omega)] at this
      exact this
end Go.Proofs.YtkkpjonfaflkmaaGreatDoor.T
