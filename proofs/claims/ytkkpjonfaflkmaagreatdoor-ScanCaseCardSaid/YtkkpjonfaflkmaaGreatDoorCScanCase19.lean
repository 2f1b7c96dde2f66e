/- Part 19 of the proof of ScanCase: the functions that it calls return what their plain descriptions say. -/
import Derived.Test.YtkkpjonfaflkmaaGreatDoorCScanCase3
import Derived.Test.YtkkpjonfaflkmaaGreatDoorCScanCase18
import Derived.Test.YtkkpjonfaflkmaaGreatDoorCScanCase4
import Derived.Test.YtkkpjonfaflkmaaGreatDoorCScanCase12

namespace Go.Proofs.YtkkpjonfaflkmaaGreatDoor.T
set_option linter.unusedSimpArgs false
open Go.RowKit Go.Proofs.YtkkpjonfaflkmaaGreatDoorW.PrintWords Go.Proofs.YtkkpjonfaflkmaaGreatDoorW.PrintLast Go.Proofs.YtkkpjonfaflkmaaGreatDoorW.PrintMore
attribute [local go_sem] max2_int min2_int max_two min_two max_three min_three max_four min_four   -- for this text's walks alone
set_option linter.unusedVariables false
set_option linter.unusedSimpArgs false
attribute [local go_sem high] eqA53
def qanatref03_Equal.l0 : Nat → List (S53) → List (S53) → Int → Option (Bool)
  | 0, _, _, _ => none
  | k + 1, x0, x1, x5 => if x5 < (x0.length : Int) then (if 0 ≤ x5 then (if x5 < (x1.length : Int) then (if (!(((rd_T53 x0 x5).f0) == ((rd_T53 x1 x5).f0)) || (!((((rd_T53 x0 x5).f1).toList) == (((rd_T53 x1 x5).f1).toList)) || (!(((rd_T53 x0 x5).f2) == ((rd_T53 x1 x5).f2)) || (!(((rd_T53 x0 x5).f3) == ((rd_T53 x1 x5).f3)) || (!(((rd_T53 x0 x5).f4) == ((rd_T53 x1 x5).f4)) || (!(((rd_T53 x0 x5).f5) == ((rd_T53 x1 x5).f5)))))))) = true then (some false) else (qanatref03_Equal.l0 k x0 x1 (wrap64 (x5 + 1)))) else (none)) else (none)) else (some true)
def qanatref03_Equal.f (k : Nat) (l0 : List (S53)) (l1 : List (S53)) : Option (Bool) := if (l0.length : Int) = (l1.length : Int) then (qanatref03_Equal.l0 k l0 l1 0) else (some false)
theorem qanatref03_Equal.mono_l : ∀ k, (∀ y0 y1 y2, LeO (qanatref03_Equal.l0 k y0 y1 y2) (qanatref03_Equal.l0 (k + 1) y0 y1 y2))
  | 0 => fun _ _ _ r h => by simp [qanatref03_Equal.l0] at h
  | k + 1 => by
    have ih0 := qanatref03_Equal.mono_l k
    · intro y0 y1 y2
      unfold qanatref03_Equal.l0
      repeat' first
      | (with_reducible exact ih0 _ _ _)
      | (with_reducible exact LeO.refl _)
      | (with_reducible exact LeO.none _)
      | (with_reducible refine LeO.ite ?_ ?_)
      | (with_reducible refine LeO.bind ?_ (fun _ => ?_))
      | exact ih0 _ _ _
      | exact LeO.none _
      | refine LeO.ite ?_ ?_
      | refine LeO.bind ?_ (fun _ => ?_)
theorem qanatref03_Equal.mono : ∀ a0 a1 k, LeO (qanatref03_Equal.f k a0 a1) (qanatref03_Equal.f (k + 1) a0 a1) := by
  intro a0 a1 k
  have ih0 := qanatref03_Equal.mono_l k
  unfold qanatref03_Equal.f
  repeat' first
      | (with_reducible exact ih0 _ _ _)
      | (with_reducible exact LeO.refl _)
      | (with_reducible exact LeO.none _)
      | (with_reducible refine LeO.ite ?_ ?_)
      | (with_reducible refine LeO.bind ?_ (fun _ => ?_))
      | exact ih0 _ _ _
      | exact LeO.none _
      | refine LeO.ite ?_ ?_
      | refine LeO.bind ?_ (fun _ => ?_)
set_option maxHeartbeats 8000000 in
set_option maxRecDepth 100000 in
theorem qanatref03_Equal.calls (k : Nat) (A0 : Option Addr) (c0 : Nat) (l0 : List (S53)) (A1 : Option Addr) (c1 : Nat) (l1 : List (S53)) (r : Bool) (w : World) (hr0 : Kd.C k53 w A0 l0.length l0) (hc0 : l0.length ≤ c0) (hr1 : Kd.C k53 w A1 l1.length l1) (hc1 : l1.length ≤ c1) (h : qanatref03_Equal.f k l0 l1 = some r) :
    Calls Tryz.prog 21 #[.slice A0 l0.length c0, .slice A1 l1.length c1] w fun e w' => e = .returned (.bool r) ∧ Drawn0 w w' := by
  have hu53 := Tryz.underlying53
  have HR0 := Aside0.mk hr0
  have HC0 := Aside0.mk hc0
  clear hr0 hc0
  have HR1 := Aside0.mk hr1
  have HC1 := Aside0.mk hc1
  clear hr1 hc1
  have H : (if (l0.length : Int) = (l1.length : Int) then (qanatref03_Equal.l0 k l0 l1 0) else (some false)) = some r := h
  clear h
  by_cases c3 : (l0.length : Int) = (l1.length : Int)
  · rw [if_pos c3] at H
    have c3b0 : ((l0.length : Int) == (l1.length : Int)) = true := beq_iff_eq.mpr c3
    have c3b1 : ((l0.length : Int) != (l1.length : Int)) = false := bne_eq_false_iff_eq.mpr c3
    have c3b2 : (l0.length == l1.length) = true := by first | simpa using c3 | (simp at c3 ⊢; omega)
    clear c3
    have H' := Aside0.mk H
    clear H
    go_enter Tryz.func21, Tryz.ntmps21
    go_wp2
    repeat (go_quiet (fail); try go_wp2)
    go_loopg [5] k (fun kq v5 w' => ∃ (x5_1 : Int), v5 = .int .i64 x5_1 ∧ Aside0 (qanatref03_Equal.l0 kq l0 l1 x5_1 = some r) ∧ Aside0 (kq ≤ k) ∧ Drawn0 w w')
    case atStart => exact ⟨(0), (by first | rfl | (simp; done) | (simp [*]; done)), H', ⟨Nat.le_refl _⟩, by repeat (first | exact Drawn0.refl _ | apply Drawn0.step)⟩
    case round =>
      clear H'
      try clear c1
      try clear c2
      try clear p2
      try clear c3
      try clear c3b0
      try clear c3b1
      try clear c3b2
      obtain ⟨x5_1, rfl, HA, HK1, ⟨m1, rfl⟩⟩ := hrel
      cases gk with
      | zero => exact absurd HA.out (by simp [qanatref03_Equal.l0])
      | succ k1 =>
        have H := HA.out
        clear HA
        simp only [qanatref03_Equal.l0] at H
        by_cases c4 : x5_1 < (l0.length : Int)
        · rw [if_pos c4] at H
          have c4b0 : decide (x5_1 < (l0.length : Int)) = true := decide_eq_true c4
          clear c4
          by_cases c5 : 0 ≤ x5_1
          · rw [if_pos c5] at H
            have c5b0 : decide (0 ≤ x5_1) = true := decide_eq_true c5
            clear c5
            by_cases c6 : x5_1 < (l1.length : Int)
            · rw [if_pos c6] at H
              have c6b0 : decide (x5_1 < (l1.length : Int)) = true := decide_eq_true c6
              clear c6
              by_cases c7 : (!(((rd_T53 l0 x5_1).f0) == ((rd_T53 l1 x5_1).f0)) || (!((((rd_T53 l0 x5_1).f1).toList) == (((rd_T53 l1 x5_1).f1).toList)) || (!(((rd_T53 l0 x5_1).f2) == ((rd_T53 l1 x5_1).f2)) || (!(((rd_T53 l0 x5_1).f3) == ((rd_T53 l1 x5_1).f3)) || (!(((rd_T53 l0 x5_1).f4) == ((rd_T53 l1 x5_1).f4)) || (!(((rd_T53 l0 x5_1).f5) == ((rd_T53 l1 x5_1).f5)))))))) = true
              · rw [if_pos c7] at H
                have c7b0 : (!(((rd_T53 l0 x5_1).f0) == ((rd_T53 l1 x5_1).f0)) || (!((((rd_T53 l0 x5_1).f1).toList) == (((rd_T53 l1 x5_1).f1).toList)) || (!(((rd_T53 l0 x5_1).f2) == ((rd_T53 l1 x5_1).f2)) || (!(((rd_T53 l0 x5_1).f3) == ((rd_T53 l1 x5_1).f3)) || (!(((rd_T53 l0 x5_1).f4) == ((rd_T53 l1 x5_1).f4)) || (!(((rd_T53 l0 x5_1).f5) == ((rd_T53 l1 x5_1).f5)))))))) = true := c7
                clear c7
                obtain rfl := Option.some.inj H
                have p214 : 0 ≤ (x5_1 : Int) := of_decide_eq_true (by first | (with_reducible assumption) | assumption)
                have q214 : x5_1 < (l0.length : Int) := of_decide_eq_true (by first | (with_reducible assumption) | assumption)
                obtain ⟨ad214, e214, hx214_0, hx214_1, hx214_2, hx214_3, hx214_4, hx214_5⟩ := at_T53 HR0.out x5_1 p214 q214
                cases e214
                replace p214 := eq_true p214
                replace q214 := eq_true q214
                have p215 : 0 ≤ (x5_1 : Int) := of_decide_eq_true (by first | (with_reducible assumption) | assumption)
                have q215 : x5_1 < (l1.length : Int) := of_decide_eq_true (by first | (with_reducible assumption) | assumption)
                obtain ⟨ad215, e215, hx215_0, hx215_1, hx215_2, hx215_3, hx215_4, hx215_5⟩ := at_T53 HR1.out x5_1 p215 q215
                cases e215
                replace p215 := eq_true p215
                replace q215 := eq_true q215
                go_wp2
                repeat (go_quiet (fail); try go_wp2)
                go_ret
                exact ⟨by first | rfl | (simp; done) | (simp [*]; done), by repeat (first | exact Drawn0.refl _ | apply Drawn0.step)⟩
              · rw [if_neg c7] at H
                have c7b0 : (!(((rd_T53 l0 x5_1).f0) == ((rd_T53 l1 x5_1).f0)) || (!((((rd_T53 l0 x5_1).f1).toList) == (((rd_T53 l1 x5_1).f1).toList)) || (!(((rd_T53 l0 x5_1).f2) == ((rd_T53 l1 x5_1).f2)) || (!(((rd_T53 l0 x5_1).f3) == ((rd_T53 l1 x5_1).f3)) || (!(((rd_T53 l0 x5_1).f4) == ((rd_T53 l1 x5_1).f4)) || (!(((rd_T53 l0 x5_1).f5) == ((rd_T53 l1 x5_1).f5)))))))) = false := by simpa using c7
                clear c7
                have H' := Aside0.mk H
                clear H
                have p214 : 0 ≤ (x5_1 : Int) := of_decide_eq_true (by first | (with_reducible assumption) | assumption)
                have q214 : x5_1 < (l0.length : Int) := of_decide_eq_true (by first | (with_reducible assumption) | assumption)
                obtain ⟨ad214, e214, hx214_0, hx214_1, hx214_2, hx214_3, hx214_4, hx214_5⟩ := at_T53 HR0.out x5_1 p214 q214
                cases e214
                replace p214 := eq_true p214
                replace q214 := eq_true q214
                have p215 : 0 ≤ (x5_1 : Int) := of_decide_eq_true (by first | (with_reducible assumption) | assumption)
                have q215 : x5_1 < (l1.length : Int) := of_decide_eq_true (by first | (with_reducible assumption) | assumption)
                obtain ⟨ad215, e215, hx215_0, hx215_1, hx215_2, hx215_3, hx215_4, hx215_5⟩ := at_T53 HR1.out x5_1 p215 q215
                cases e215
                replace p215 := eq_true p215
                replace q215 := eq_true q215
                go_wp2
                repeat (go_quiet (fail); try go_wp2)
                go_roundg k1
                case measure => have := HK1.out; omega
                case rel => exact ⟨(wrap64 (x5_1 + 1)), (by first | rfl | (simp; done) | (simp [*]; done)), H', ⟨by have := HK1.out; omega⟩, by repeat (first | exact Drawn0.refl _ | apply Drawn0.step)⟩
            · rw [if_neg c6] at H
              exact absurd H (by simp)
          · rw [if_neg c5] at H
            exact absurd H (by simp)
        · rw [if_neg c4] at H
          have c4b0 : decide (x5_1 < (l0.length : Int)) = false := decide_eq_false c4
          clear c4
          obtain rfl := Option.some.inj H
          go_wp2
          repeat (go_quiet (fail); try go_wp2)
          go_ret
          exact ⟨by first | rfl | (simp; done) | (simp [*]; done), by repeat (first | exact Drawn0.refl _ | apply Drawn0.step)⟩
  · rw [if_neg c3] at H
    have c3b0 : ((l0.length : Int) == (l1.length : Int)) = false := beq_eq_false_iff_ne.mpr c3
    have c3b1 : ((l0.length : Int) != (l1.length : Int)) = true := bne_iff_ne.mpr c3
    have c3b2 : (l0.length == l1.length) = false := by first | simpa using c3 | (simp at c3 ⊢; omega)
    obtain rfl := Option.some.inj H
    go_enter Tryz.func21, Tryz.ntmps21
    go_wp2
    repeat (go_quiet (fail); try go_wp2)
    go_ret
    exact ⟨by first | rfl | (simp; done) | (simp [*]; done), by repeat (first | exact Drawn0.refl _ | apply Drawn0.step)⟩
end Go.Proofs.YtkkpjonfaflkmaaGreatDoor.T

namespace Go.Proofs.YtkkpjonfaflkmaaGreatDoor.T
set_option linter.unusedSimpArgs false
open Go.RowKit Go.Proofs.YtkkpjonfaflkmaaGreatDoorW.PrintWords Go.Proofs.YtkkpjonfaflkmaaGreatDoorW.PrintLast Go.Proofs.YtkkpjonfaflkmaaGreatDoorW.PrintMore
attribute [local go_sem] max2_int min2_int max_two min_two max_three min_three max_four min_four   -- for this text's walks alone
set_option linter.unusedVariables false
set_option linter.unusedSimpArgs false
def qanatlaw03_small.f (a0 : ByteArray) : Option (Bool) := some (decide ((a0.size : Int) ≤ 3000))
set_option maxHeartbeats 8000000 in
set_option maxRecDepth 100000 in
theorem qanatlaw03_small.calls (a0 : ByteArray) (r : Bool) (w : World) (h : qanatlaw03_small.f a0 = some r) :
    Calls Tryz.prog 39 #[.string a0] w fun e w' => e = .returned (.bool r) ∧ Drawn0 w w' := by
  have H : (some (decide ((a0.size : Int) ≤ 3000))) = some r := h
  clear h
  obtain rfl := Option.some.inj H
  go_enter Tryz.func39, Tryz.ntmps39
  go_wp2
  go_ret
  exact ⟨by first | rfl | (simp; done) | (simp [*]; done), by repeat (first | exact Drawn0.refl _ | apply Drawn0.step)⟩
end Go.Proofs.YtkkpjonfaflkmaaGreatDoor.T

namespace Go.Proofs.YtkkpjonfaflkmaaGreatDoor.T
set_option linter.unusedSimpArgs false
set_option linter.unusedVariables false
open Go.RowKit Go.Proofs.YtkkpjonfaflkmaaGreatDoorW.PrintWords Go.Proofs.YtkkpjonfaflkmaaGreatDoorW.PrintLast Go.Proofs.YtkkpjonfaflkmaaGreatDoorW.PrintMore
theorem equalC_l0 (l : List S53) (hl : l.length ≤ 1000000) : ∀ (m k i : Nat), i + m = l.length → m < k → qanatref03_Equal.l0 k l l (i : Int) = some true
  | m, 0, i, _, h => absurd h (Nat.not_lt_zero _)
  | 0, k + 1, i, h, _ => by rw [qanatref03_Equal.l0, if_neg (by omega)]
  | m + 1, k + 1, i, h, hk => by
    have ih := equalC_l0 l hl m k (i + 1) (by omega) (by omega)
    rw [qanatref03_Equal.l0, if_pos (by omega), if_pos (by omega), if_pos (by omega), w64n (by omega), ih, if_neg]
    simp
theorem equalC_f (l : List S53) (hl : l.length ≤ 1000000) (k : Nat) (hk : l.length < k) : qanatref03_Equal.f k l l = some true := by
  unfold qanatref03_Equal.f
  rw [if_pos rfl]
  exact equalC_l0 l hl l.length k 0 (by omega) hk
def isQ (c : Int) : Bool := decide (c = 39) || decide (c = 34)
theorem tokens_turn (a0 : ByteArray) (hs : a0.size ≤ 20000) (T : List S53) (c ln e : Int) (h : scan_Tokens.f a0 = some (T, c, ln, e)) (hq : e = 0 ∨ (bytesOf a0).any isQ = false) : scan_Tokens.f (turnS (litAt T) a0) = some (T, c, ln, e) ∧ T.length ≤ 40001 := by
  have g := tokens_g a0 hs
  rw [h] at g
  simp only [Option.some.injEq, Prod.mk.injEq] at g
  obtain ⟨rfl, rfl, rfl, rfl⟩ := g
  have hlen := S.tokens_length (bo_range a0)
  have hbl : (bytesOf a0).length = a0.size := bytesOf_length a0
  obtain ⟨p, hp⟩ : ∃ p : Nat → Bool, (fun i : Nat => litAt ((S.tokens (bytesOf a0)).map toS) (i : Int)) = p := ⟨_, rfl⟩
  have hsc : S.scan (S.turn p 0 (bytesOf a0)) = S.scan (bytesOf a0) := by
    refine S.scan_turn p (bytesOf a0) (bo_range a0) (fun t ht hk j h1 h2 => ?_) (fun he => ?_)
    · rw [← hp]
      show litAt _ (j : Int) = true
      unfold litAt
      rw [List.any_eq_true]
      refine ⟨toS t, List.mem_map.2 ⟨t, ht, rfl⟩, ?_⟩
      unfold litOne
      have e1 : (toS t).f0 = 2 := by show (t.kind : Int) = 2; omega
      have e2 : (toS t).f4 ≤ (j : Int) := by show (t.at_ : Int) ≤ (j : Int); omega
      have e3 : (j : Int) < (toS t).f5 := by show (j : Int) < (t.to : Int); omega
      rw [decide_eq_true e1, decide_eq_true e2, decide_eq_true e3]; rfl
    · have hn : (bytesOf a0).any isQ = false := hq.resolve_left (by rw [if_neg he]; decide)
      rw [List.any_eq_false] at hn
      exact ⟨fun h => hn 39 h (by decide), fun h => hn 34 h (by decide)⟩
  have hb2 : bytesOf (turnS (litAt ((S.tokens (bytesOf a0)).map toS)) a0) = S.turn p 0 (bytesOf a0) := by
    unfold turnS
    rw [hp]
    refine bytesOf_str _ (fun x hx => ?_)
    have key : ∀ (xs : List Int) (i : Nat), (∀ x ∈ xs, 0 ≤ x ∧ x < 256) → ∀ x ∈ S.turn p i xs, 0 ≤ x ∧ x < 256 := fun xs => by
      induction xs with
      | nil => intro i _ x hx; cases hx
      | cons c t ih =>
        intro i hb x hx
        rw [S.turn] at hx
        rcases List.mem_cons.1 hx with rfl | hx
        · have := hb c (by simp)
          split
          · exact this
          · have := S.oc_cases c
            omega
        · exact ih (i + 1) (fun y hy => hb y (by simp [hy])) x hx
    exact key _ 0 (bo_range a0) x hx
  have hz2 : (turnS (litAt ((S.tokens (bytesOf a0)).map toS)) a0).size = a0.size := by
    rw [← bytesOf_length, hb2, S.turn_len, hbl]
  refine ⟨?_, by rw [List.length_map]; omega⟩
  rw [tokens_g _ (by omega), hb2]
  unfold S.tokens
  rw [hsc]
theorem any_take (p : Int → Bool) (xs : List Int) (k : Nat) (hk : k < xs.length) : (xs.take (k + 1)).any p = ((xs.take k).any p || p (xs.getD k 0)) := by
  rw [List.take_add_one, List.any_append, List.getD_eq_getElem?_getD, List.getElem?_eq_getElem hk]
  simp
set_option maxHeartbeats 8000000 in
set_option maxRecDepth 100000 in
theorem qanatlaw03_ScanCase.walk (a0 : ByteArray) (w : World) (hT : TabOK w) :
    Calls Tryz.prog 9 #[.string a0] w fun e w' => e = .returned (.bool true) ∧ Below w.heap.size w w' := by
  have HT := Aside0.mk hT
  clear hT
  have hmf : ∀ (fn : Fn) (first cap : Array Value) (w : World), (Instr.makeFunc fn first cap).run Tryz.prog w = .ok (.func fn first cap) w := fun _ _ _ _ => rfl
  by_cases hs : (a0.size : Int) ≤ 3000
  · have HSM : Aside0 (qanatlaw03_small.f a0 = some true) := ⟨by unfold qanatlaw03_small.f; rw [decide_eq_true hs]⟩
    have tot : ∃ r, scan_Tokens.f a0 = some r := by
      rw [tokens_g a0 (by omega)]; exact ⟨_, rfl⟩
    obtain ⟨⟨T, c, ln, e⟩, hr⟩ := tot
    have HR := Aside0.mk hr
    have HTL := Aside0.mk (fun h => tokens_turn a0 (by omega) T c ln e hr h)
    have hTn : T.length ≤ 40001 := by
      have g := tokens_g a0 (by omega)
      rw [hr] at g
      simp only [Option.some.injEq, Prod.mk.injEq] at g
      rw [g.1, List.length_map]
      have := S.tokens_length (bo_range a0)
      have hbl : (bytesOf a0).length = a0.size := bytesOf_length a0
      omega
    obtain ⟨n, hn⟩ : ∃ n, a0.size = n := ⟨_, rfl⟩
    have HN : Aside0 ((bytesOf a0).length = n) := ⟨by rw [bytesOf_length]; exact hn⟩
    have hns : n ≤ 3000 := by omega
    have HZ := Aside0.mk hn
    have hbt : ∀ k : Nat, k < n → ∃ y, (bytesOf a0).getD k 0 = y ∧ bt a0 (k : Int) = y := fun k hk => ⟨_, rfl, bt_getD a0 k (by omega)⟩
    have HBT := Lib.hid hbt
    clear hr hs hbt hn
    go_enter Tryz.func9, Tryz.ntmps9
    go_upto_region 4 with (first
      | (go_at_call 39; refine (qanatlaw03_small.calls a0 true _ HSM.out).mono ?_; rintro _ w1 ⟨rfl, hd1⟩)
      | (go_at_call 17; refine (scan_Tokens.calls a0 T c ln e _ (HT.out.of_below hd1.below) HR.out).mono ?_; rintro _ w2 ⟨v0, rfl, ho0, hb2⟩; obtain ⟨Av, cv, rfl⟩ := Kd.R_slice ho0))
    obtain ⟨B, hB⟩ : ∃ B, w2.heap.size = B := ⟨_, rfl⟩
    obtain ⟨W3, hW3⟩ : ∃ W3, w2.alloc (.cells #[.slice Av T.length cv] 24) = W3 := ⟨_, rfl⟩
    have hbx : W3.heap[B]? = some (.cells #[.slice Av T.length cv] 24 (0, 0)) := by
      rw [← hW3, ← hB]; exact heap_alloc_new w2 _
    have hal : Below w2.heap.size w2 W3 := by rw [← hW3]; exact below_alloc (Below.refl _ _) _
    have h02 : Below w.heap.size w w2 := hd1.below.trans (hb2.mono (by obtain ⟨q, rfl⟩ := hd1.out; exact Nat.le_refl _))
    have HB3 : Aside0 (Below w.heap.size w W3) := ⟨below_step h02 hal⟩
    have hrr := (Kd.R_reads' ho0).2.2
    have hcap := (Kd.R_reads' ho0).2.1
    have HC3 : Aside0 (Kd.C k53 W3 Av T.length T) := ⟨Kd.C_below hrr hal⟩
    have HBX := Aside0.mk hbx
    have HCAP := Aside0.mk hcap
    clear hal h02 hrr hcap hb2 hd1 ho0
    have hB3 : B < W3.heap.size := (Array.getElem?_eq_some_iff.1 hbx).1
    clear hbx
    rw [hB, hW3]
    clear hB hW3
    go_wp2
    go_loopg [7, 8] n (fun gg s7 s8 wr => ∃ (kk : Nat) (x : Int) (b : Bool), kk ≤ n ∧ n - kk ≤ gg ∧ s8 = .int .i64 x ∧ s7 = .bool b ∧ W3 = wr ∧ Aside0 (x = (kk : Int)) ∧ Aside0 (((bytesOf a0).take kk).any isQ = b))
    case atStart => exact ⟨0, 0, false, Nat.zero_le _, by omega, rfl, rfl, rfl, ⟨rfl⟩, ⟨rfl⟩⟩
    case round =>
      obtain ⟨kk, x, b, hkk, hg, rfl, rfl, rfl, HX0, HQ⟩ := hrel
      have hx := HX0.out
      by_cases hlt : kk < n
      · have l1 : decide (x < (a0.size : Int)) = true := decide_eq_true (by have := HZ.out; omega)
        have p1 : (0 ≤ x) = True := eq_true (by omega)
        have q1 : (x < (a0.size : Int)) = True := eq_true (by have := HZ.out; omega)
        have hw1 : IntKind.i64.wrap (x + 1) = x + 1 := (i64_w _).trans (by unfold wrap64; omega)
        have hbt := bt_at a0 x
        obtain ⟨y, hy1, hy2⟩ := HBT.out kk hlt
        rw [← hx] at hy2
        rw [hy2] at hbt
        have hat := any_take isQ (bytesOf a0) kk (by have := HN.out; omega)
        rw [hy1, HQ.out] at hat
        have HAT := Aside0.mk hat
        clear hy1 hy2 hat hx
        cases b with
        | true =>
          go_wp2
          go_roundg (n - (kk + 1))
          case measure => omega
          case rel => exact ⟨kk + 1, x + 1, true, by omega, by omega, rfl, rfl, rfl, ⟨by have := HX0.out; omega⟩, ⟨HAT.out⟩⟩
        | false =>
          by_cases c1 : y = 39
          · have d1 : (y == 39) = true := beq_iff_eq.2 c1
            have HX : Aside0 (((bytesOf a0).take (kk + 1)).any isQ = true) := ⟨by rw [HAT.out]; unfold isQ; rw [decide_eq_true c1]; rfl⟩
            clear c1
            go_wp2
            go_roundg (n - (kk + 1))
            case measure => omega
            case rel => exact ⟨kk + 1, x + 1, true, by omega, by omega, rfl, rfl, rfl, ⟨by have := HX0.out; omega⟩, HX⟩
          · have d1 : (y == 39) = false := beq_eq_false_iff_ne.2 c1
            by_cases c2 : y = 34
            · have d2 : (y == 34) = true := beq_iff_eq.2 c2
              have HX : Aside0 (((bytesOf a0).take (kk + 1)).any isQ = true) := ⟨by rw [HAT.out]; unfold isQ; rw [decide_eq_true c2, Bool.or_true]; rfl⟩
              clear c1 c2
              go_wp2
              go_roundg (n - (kk + 1))
              case measure => omega
              case rel => exact ⟨kk + 1, x + 1, true, by omega, by omega, rfl, rfl, rfl, ⟨by have := HX0.out; omega⟩, HX⟩
            · have d2 : (y == 34) = false := beq_eq_false_iff_ne.2 c2
              have HX : Aside0 (((bytesOf a0).take (kk + 1)).any isQ = false) := ⟨by rw [HAT.out]; unfold isQ; rw [decide_eq_false c1, decide_eq_false c2]; rfl⟩
              clear c1 c2
              go_wp2
              go_roundg (n - (kk + 1))
              case measure => omega
              case rel => exact ⟨kk + 1, x + 1, false, by omega, by omega, rfl, rfl, rfl, ⟨by have := HX0.out; omega⟩, HX⟩
      · obtain rfl : kk = n := by omega
        have l1 : decide (x < (a0.size : Int)) = false := decide_eq_false (by have := HZ.out; omega)
        have HQN : Aside0 ((bytesOf a0).any isQ = b) := ⟨by have := HQ.out; rw [← HN.out, List.take_length] at this; exact this⟩
        clear HQ hx
        obtain ⟨z, hz⟩ : ∃ z, (e != 0) = z := ⟨_, rfl⟩
        have HZZ := Aside0.mk hz
        by_cases hcase : z = true ∧ b = true
        · obtain ⟨rfl, rfl⟩ := hcase
          go_wp2_with (go_at_call 16; refine (qanatlaw03_sanity.calls true _ (HT.out.of_below HB3.out) rfl).mono ?_; rintro _ w6 ⟨rfl, hb6⟩)
          go_ret
          exact ⟨rfl, below_step HB3.out hb6⟩
        · have hq : e = 0 ∨ (bytesOf a0).any isQ = false := by
            rw [HQN.out]
            cases z with
            | false => exact .inl (by simpa using hz)
            | true => exact .inr (by cases b with
              | false => rfl
              | true => exact absurd ⟨rfl, rfl⟩ hcase)
          have HP1 := Aside0.mk (HTL.out hq).1
          have hpay : Pays 42 #[.pointer (some ⟨B, 0, none⟩)] (fun x => Value.int .i64 x) (litAt T) (fun _ => True) W3 := fun W x _ hW =>
            (keep.calls Av cv T B x W ((hW.block _ hB3).trans HBX.out) (Kd.C_below HC3.out hW) (by omega)).mono (by rintro _ _ ⟨rfl, rfl⟩; exact ⟨rfl, Below.refl _ _⟩)
          have HPAY := Lib.hid hpay
          have q1 : (c == c) = true := beq_self_eq_true c
          have q2 : (ln == ln) = true := beq_self_eq_true ln
          have q3 : (e == e) = true := beq_self_eq_true e
          have hcase2 : z = false ∨ (z = true ∧ b = false) := by
            cases z <;> cases b <;> simp at hcase ⊢
          clear hq hpay hcase
          rcases hcase2 with rfl | ⟨rfl, rfl⟩
          all_goals
            go_upto_region 12 with (first
              | (go_at_call 41; refine (turned.calls a0 _ _ (litAt T) _ (enters_of Tryz.func42 (by kernel_rfl) rfl) HPAY.out (by have := HZ.out; omega)).mono ?_; rintro _ w4 ⟨rfl, hb4⟩)
              | (go_at_call 17; refine (scan_Tokens.calls _ T c ln e _ ((HT.out.of_below HB3.out).of_below hb4) HP1.out).mono ?_; rintro _ w5 ⟨v5, rfl, ho5, hb5⟩; obtain ⟨A5, c5, rfl⟩ := Kd.R_slice ho5))
            have h35 : Aside0 (Below W3.heap.size W3 w5) := ⟨below_step hb4 hb5⟩
            have HC5 := Aside0.mk (Kd.R_reads' ho5).2.2
            have HCAP5 := Aside0.mk (Kd.R_reads' ho5).2.1
            clear ho5 hb4 hb5
            go_wp2_with (first
              | (go_at_call 16; refine (qanatlaw03_sanity.calls true _ ((HT.out.of_below HB3.out).of_below h35.out) rfl).mono ?_; rintro _ w6 ⟨rfl, hb6⟩; have h36 := Aside0.mk (below_step h35.out hb6); have cB : w6.cell? ⟨B, 0, none⟩ = some (.slice Av T.length cv) := (blk_cell ((h36.out.block _ hB3).trans HBX.out) 0).trans rfl)
              | (go_at_call 21; refine (qanatref03_Equal.calls 50000 Av cv T A5 c5 T true _ (Kd.C_below HC3.out h36.out) HCAP.out (Kd.C_below HC5.out hb6) HCAP5.out (equalC_f T (by omega) _ (by omega))).mono ?_; rintro _ w7 ⟨rfl, hd7⟩))
            go_ret
            exact ⟨rfl, (below_step HB3.out h36.out).trans (hd7.below.mono (Nat.le_trans (HB3.out.size) h36.out.size))⟩
  · have HSM : Aside0 (qanatlaw03_small.f a0 = some false) := ⟨by unfold qanatlaw03_small.f; rw [decide_eq_false hs]⟩
    clear hs
    go_enter Tryz.func9, Tryz.ntmps9
    go_wp2_with (first
      | (go_at_call 39; refine (qanatlaw03_small.calls a0 false _ HSM.out).mono ?_; rintro e w1 ⟨rfl, hd1⟩)
      | (go_at_call 16; refine (qanatlaw03_sanity.calls true _ (HT.out.of_below hd1.below) rfl).mono ?_; rintro e w2 ⟨rfl, hb2⟩))
    go_ret
    exact ⟨rfl, hd1.below.trans (hb2.mono (by obtain ⟨q, rfl⟩ := hd1.out; exact Nat.le_refl _))⟩
end Go.Proofs.YtkkpjonfaflkmaaGreatDoor.T
