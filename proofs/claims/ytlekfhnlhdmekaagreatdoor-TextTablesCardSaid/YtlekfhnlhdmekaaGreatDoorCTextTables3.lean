/- Part 3 of the proof of TextTables: the functions that it calls return what their plain descriptions say. -/
import Derived.Test.YtlekfhnlhdmekaaGreatDoorCTextTables0
import Derived.Test.YtlekfhnlhdmekaaGreatDoorCTextTables2
import Derived.Test.YtlekfhnlhdmekaaGreatDoorCTextTables1

-- Written by a program of this session (mp.py over the kit's print.py), out of the translation.
namespace Go.Proofs.YtlekfhnlhdmekaaGreatDoor.T
set_option linter.unusedSimpArgs false
open Go.RowKit Go.Proofs.YtlekfhnlhdmekaaGreatDoorW.PrintWords Go.Proofs.YtlekfhnlhdmekaaGreatDoorW.PrintLast Go.Proofs.YtlekfhnlhdmekaaGreatDoorW.PrintMore
attribute [local go_sem] max2_int min2_int max_two min_two max_three min_three max_four min_four   -- for this text's walks alone
set_option linter.unusedVariables false
set_option linter.unusedSimpArgs false

/-! ### qanatlaw02_TextTables: function 4 -/
mutual
def qanatlaw02_TextTables.j0 : Nat → ByteArray → ByteArray → ByteArray → Int → Int → Bool → Bool → Option (Bool)
  | 0, _, _, _, _, _, _, _ => none
  | k + 1, x0, x1, x2, x3, x4, x11, x31 => if x31 = true then (some x11) else ((text_Upper.f x0).bind fun bt235 => ((text_Lower.f x0).bind fun bt237 => ((text_Translate.f x0 x1 x2 x3).bind fun bt239 => ((text_Xrange.f k x3 x4).bind fun bt241 => ((qanatref02_Upper.f x0).bind fun bt243 => ((qanatlaw02_str.f bt235.1 bt235.2 bt243.1 bt243.2).bind fun t245 => (if t245 = true then ((qanatref02_Lower.f x0).bind fun bt246 => ((qanatlaw02_str.f bt237.1 bt237.2 bt246.1 bt246.2).bind fun t248 => (qanatlaw02_TextTables.j1 k x0 x1 x2 x3 x4 x11 bt239.1 bt239.2 bt241.1 bt241.2 t248))) else (qanatlaw02_TextTables.j1 k x0 x1 x2 x3 x4 x11 bt239.1 bt239.2 bt241.1 bt241.2 false))))))))
def qanatlaw02_TextTables.j1 : Nat → ByteArray → ByteArray → ByteArray → Int → Int → Bool → ByteArray → Int → ByteArray → Int → Bool → Option (Bool)
  | 0, _, _, _, _, _, _, _, _, _, _, _ => none
  | k + 1, x0, x1, x2, x3, x4, x11, x16, x17, x18, x19, x20 => if x11 = true then (if x20 = true then ((qanatref02_Translate.f x0 x1 x2 x3).bind fun bt249 => ((qanatlaw02_str.f x16 x17 bt249.1 bt249.2).bind fun t251 => (if t251 = true then ((qanatref02_Xrange.f k x3 x4).bind fun bt252 => ((qanatlaw02_str.f x18 x19 bt252.1 bt252.2).bind fun t254 => (some t254))) else (some false)))) else (some false)) else (some false)
end
def qanatlaw02_TextTables.f (k : Nat) (a0 : ByteArray) (a1 : ByteArray) (a2 : ByteArray) (a3 : Int) (a4 : Int) : Option (Bool) := (qanatlaw02_head.f k).bind fun t231 => ((qanatlaw02_long.f a0).bind fun t232 => (if t232 = true then (qanatlaw02_TextTables.j0 k a0 a1 a2 a3 a4 t231 true) else ((qanatlaw02_long.f a1).bind fun t233 => (if t233 = true then (qanatlaw02_TextTables.j0 k a0 a1 a2 a3 a4 t231 true) else ((qanatlaw02_long.f a2).bind fun t234 => (qanatlaw02_TextTables.j0 k a0 a1 a2 a3 a4 t231 t234))))))
theorem qanatlaw02_TextTables.mono_l : ∀ k, (∀ y0 y1 y2 y3 y4 y5 y6, LeO (qanatlaw02_TextTables.j0 k y0 y1 y2 y3 y4 y5 y6) (qanatlaw02_TextTables.j0 (k + 1) y0 y1 y2 y3 y4 y5 y6)) ∧ (∀ y0 y1 y2 y3 y4 y5 y6 y7 y8 y9 y10, LeO (qanatlaw02_TextTables.j1 k y0 y1 y2 y3 y4 y5 y6 y7 y8 y9 y10) (qanatlaw02_TextTables.j1 (k + 1) y0 y1 y2 y3 y4 y5 y6 y7 y8 y9 y10))
  | 0 => ⟨fun _ _ _ _ _ _ _ r h => by simp [qanatlaw02_TextTables.j0] at h, fun _ _ _ _ _ _ _ _ _ _ _ r h => by simp [qanatlaw02_TextTables.j1] at h⟩
  | k + 1 => by
    obtain ⟨ih0, ih1⟩ := qanatlaw02_TextTables.mono_l k
    refine ⟨?_, ?_⟩
    · intro y0 y1 y2 y3 y4 y5 y6
      unfold qanatlaw02_TextTables.j0
      repeat' first
      | (with_reducible exact ih0 _ _ _ _ _ _ _)
      | (with_reducible exact ih1 _ _ _ _ _ _ _ _ _ _ _)
      | (with_reducible exact qanatlaw02_head.mono _)
      | (with_reducible exact qanatref02_Xrange.mono _ _ _)
      | (with_reducible exact text_Xrange.mono _ _ _)
      | (with_reducible exact LeO.refl _)
      | (with_reducible exact LeO.none _)
      | (with_reducible refine LeO.ite ?_ ?_)
      | (with_reducible refine LeO.bind ?_ (fun _ => ?_))
      | exact ih0 _ _ _ _ _ _ _
      | exact ih1 _ _ _ _ _ _ _ _ _ _ _
      | exact qanatlaw02_head.mono _
      | exact qanatref02_Xrange.mono _ _ _
      | exact text_Xrange.mono _ _ _
      | exact LeO.none _
      | refine LeO.ite ?_ ?_
      | refine LeO.bind ?_ (fun _ => ?_)
    · intro y0 y1 y2 y3 y4 y5 y6 y7 y8 y9 y10
      unfold qanatlaw02_TextTables.j1
      repeat' first
      | (with_reducible exact ih0 _ _ _ _ _ _ _)
      | (with_reducible exact ih1 _ _ _ _ _ _ _ _ _ _ _)
      | (with_reducible exact qanatlaw02_head.mono _)
      | (with_reducible exact qanatref02_Xrange.mono _ _ _)
      | (with_reducible exact text_Xrange.mono _ _ _)
      | (with_reducible exact LeO.refl _)
      | (with_reducible exact LeO.none _)
      | (with_reducible refine LeO.ite ?_ ?_)
      | (with_reducible refine LeO.bind ?_ (fun _ => ?_))
      | exact ih0 _ _ _ _ _ _ _
      | exact ih1 _ _ _ _ _ _ _ _ _ _ _
      | exact qanatlaw02_head.mono _
      | exact qanatref02_Xrange.mono _ _ _
      | exact text_Xrange.mono _ _ _
      | exact LeO.none _
      | refine LeO.ite ?_ ?_
      | refine LeO.bind ?_ (fun _ => ?_)
theorem qanatlaw02_TextTables.mono : ∀ a0 a1 a2 a3 a4 k, LeO (qanatlaw02_TextTables.f k a0 a1 a2 a3 a4) (qanatlaw02_TextTables.f (k + 1) a0 a1 a2 a3 a4) := by
  intro a0 a1 a2 a3 a4 k
  obtain ⟨ih0, ih1⟩ := qanatlaw02_TextTables.mono_l k
  unfold qanatlaw02_TextTables.f
  repeat' first
      | (with_reducible exact ih0 _ _ _ _ _ _ _)
      | (with_reducible exact ih1 _ _ _ _ _ _ _ _ _ _ _)
      | (with_reducible exact qanatlaw02_head.mono _)
      | (with_reducible exact qanatref02_Xrange.mono _ _ _)
      | (with_reducible exact text_Xrange.mono _ _ _)
      | (with_reducible exact LeO.refl _)
      | (with_reducible exact LeO.none _)
      | (with_reducible refine LeO.ite ?_ ?_)
      | (with_reducible refine LeO.bind ?_ (fun _ => ?_))
      | exact ih0 _ _ _ _ _ _ _
      | exact ih1 _ _ _ _ _ _ _ _ _ _ _
      | exact qanatlaw02_head.mono _
      | exact qanatref02_Xrange.mono _ _ _
      | exact text_Xrange.mono _ _ _
      | exact LeO.none _
      | refine LeO.ite ?_ ?_
      | refine LeO.bind ?_ (fun _ => ?_)
set_option maxHeartbeats 8000000 in
set_option maxRecDepth 100000 in
theorem qanatlaw02_TextTables.calls (k : Nat) (a0 : ByteArray) (a1 : ByteArray) (a2 : ByteArray) (a3 : Int) (a4 : Int) (r : Bool) (w : World) (hT : TabOK w) (h : qanatlaw02_TextTables.f k a0 a1 a2 a3 a4 = some r) :
    Calls Tryz.prog 4 #[.string a0, .string a1, .string a2, .int .u8 a3, .int .u8 a4] w fun e w' => e = .returned (.bool r) ∧ Below w.heap.size w w' := by
  have HB := Aside0.mk (Below.refl w.heap.size w)
  have H : ((qanatlaw02_head.f k).bind fun t231 => ((qanatlaw02_long.f a0).bind fun t232 => (if t232 = true then (qanatlaw02_TextTables.j0 k a0 a1 a2 a3 a4 t231 true) else ((qanatlaw02_long.f a1).bind fun t233 => (if t233 = true then (qanatlaw02_TextTables.j0 k a0 a1 a2 a3 a4 t231 true) else ((qanatlaw02_long.f a2).bind fun t234 => (qanatlaw02_TextTables.j0 k a0 a1 a2 a3 a4 t231 t234))))))) = some r := h
  clear h
  replace H := Option.bind_eq_some_iff.mp H
  obtain ⟨t231, A60, H⟩ := H
  replace H : ((qanatlaw02_long.f a0).bind fun t232 => (if t232 = true then (qanatlaw02_TextTables.j0 k a0 a1 a2 a3 a4 t231 true) else ((qanatlaw02_long.f a1).bind fun t233 => (if t233 = true then (qanatlaw02_TextTables.j0 k a0 a1 a2 a3 a4 t231 true) else ((qanatlaw02_long.f a2).bind fun t234 => (qanatlaw02_TextTables.j0 k a0 a1 a2 a3 a4 t231 t234)))))) = some r := H
  have A6 := Aside0.mk A60
  clear A60
  have HC7 := Aside0.mk H
  clear H
  go_enter Tryz.func4, Tryz.ntmps4
  go_upto_region 2 with (first | ((with_reducible refine gate_callee (f := 15) rfl ?_); refine goesL_ (some 21) rfl rfl Tryz.func15 (by kernel_rfl) rfl #[] rfl (by (try simp only [List.map_toArray, List.map_cons, List.map_nil]); first | done | rfl | (simp only [List.length_drop, List.length_take]; rfl)) ?_; (with_reducible refine (qanatlaw02_head.calls k  t231 _ (TabOK.of_below hT (by repeat (first | (with_reducible first | exact HB.out | apply below_alloc | apply pw_below_drewN | apply below_drew1) | exact HB.out))) A6.out).mono ?_); rintro e w8 ⟨rfl, hb⟩; refine ⟨_, rfl, ?_⟩; have n0_ := Aside0.mk (below_step (by repeat (first | (with_reducible first | exact HB.out | apply below_alloc | apply pw_below_drewN | apply below_drew1) | exact HB.out)) hb); clear HB; have HB := n0_; clear n0_; (try clear hb); (try clear hb2); (try clear hk); (try clear hi)))
  (try simp only [Act.put, List.setIfInBounds_toArray, List.set_cons_zero, List.set_cons_succ])
  go_cut [31] (fun v31 wc => ∃ (kq : Nat) (x31_6 : Bool), v31 = .bool x31_6 ∧ Aside0 (qanatlaw02_TextTables.j0 kq a0 a1 a2 a3 a4 t231 x31_6 = some r) ∧ Aside0 (kq ≤ k) ∧ Aside0 (Below w.heap.size w wc))
  case first =>
    have H := HC7.out
    clear HC7
    replace H := Option.bind_eq_some_iff.mp H
    obtain ⟨t232, A90, H⟩ := H
    replace H : (if t232 = true then (qanatlaw02_TextTables.j0 k a0 a1 a2 a3 a4 t231 true) else ((qanatlaw02_long.f a1).bind fun t233 => (if t233 = true then (qanatlaw02_TextTables.j0 k a0 a1 a2 a3 a4 t231 true) else ((qanatlaw02_long.f a2).bind fun t234 => (qanatlaw02_TextTables.j0 k a0 a1 a2 a3 a4 t231 t234))))) = some r := H
    have A9 := Aside0.mk A90
    clear A90
    by_cases c10 : t232 = true
    · subst c10
      have H1 : (qanatlaw02_TextTables.j0 k a0 a1 a2 a3 a4 t231 true) = some r := by rw [if_pos rfl] at H; exact H
      clear H
      have H := H1
      clear H1
      have H' := Aside0.mk H
      clear H
      go_wp2_with (first | ((with_reducible refine gate_callee (f := 16) rfl ?_); refine goesL_ (some 23) rfl rfl Tryz.func16 (by kernel_rfl) rfl #[.string a0] rfl (by (try simp only [List.map_toArray, List.map_cons, List.map_nil]); first | done | rfl | (simp only [List.length_drop, List.length_take]; rfl)) ?_; (with_reducible refine (qanatlaw02_long.calls a0 true _ A9.out).mono ?_); rintro e w' ⟨rfl, ⟨nd, rfl⟩⟩; refine ⟨_, rfl, ?_⟩))
      go_meet
      case rel => exact ⟨_, (true), (by first | rfl | (simp; done) | (simp [*]; done)), H', ⟨by first | omega | exact Nat.le_refl _⟩, ⟨by repeat (first | (with_reducible first | exact HB.out | apply below_alloc | apply pw_below_drewN | apply below_drew1) | exact HB.out)⟩⟩
    · replace c10 := Bool.eq_false_iff.mpr c10
      subst c10
      have H1 : ((qanatlaw02_long.f a1).bind fun t233 => (if t233 = true then (qanatlaw02_TextTables.j0 k a0 a1 a2 a3 a4 t231 true) else ((qanatlaw02_long.f a2).bind fun t234 => (qanatlaw02_TextTables.j0 k a0 a1 a2 a3 a4 t231 t234)))) = some r := by rw [if_neg (show ¬ (false = true) by decide)] at H; exact H
      clear H
      have H := H1
      clear H1
      replace H := Option.bind_eq_some_iff.mp H
      obtain ⟨t233, A110, H⟩ := H
      replace H : (if t233 = true then (qanatlaw02_TextTables.j0 k a0 a1 a2 a3 a4 t231 true) else ((qanatlaw02_long.f a2).bind fun t234 => (qanatlaw02_TextTables.j0 k a0 a1 a2 a3 a4 t231 t234))) = some r := H
      have A11 := Aside0.mk A110
      clear A110
      by_cases c12 : t233 = true
      · subst c12
        have H1 : (qanatlaw02_TextTables.j0 k a0 a1 a2 a3 a4 t231 true) = some r := by rw [if_pos rfl] at H; exact H
        clear H
        have H := H1
        clear H1
        have H' := Aside0.mk H
        clear H
        go_wp2_with (first | ((with_reducible refine gate_callee (f := 16) rfl ?_); refine goesL_ (some 23) rfl rfl Tryz.func16 (by kernel_rfl) rfl #[.string a0] rfl (by (try simp only [List.map_toArray, List.map_cons, List.map_nil]); first | done | rfl | (simp only [List.length_drop, List.length_take]; rfl)) ?_; (with_reducible refine (qanatlaw02_long.calls a0 false _ A9.out).mono ?_); rintro e w' ⟨rfl, ⟨nd, rfl⟩⟩; refine ⟨_, rfl, ?_⟩) | (go_at_call 16; (with_reducible refine (qanatlaw02_long.calls a1 true _ A11.out).mono ?_); rintro e w' ⟨rfl, ⟨nd, rfl⟩⟩))
        go_meet
        case rel => exact ⟨_, (true), (by first | rfl | (simp; done) | (simp [*]; done)), H', ⟨by first | omega | exact Nat.le_refl _⟩, ⟨by repeat (first | (with_reducible first | exact HB.out | apply below_alloc | apply pw_below_drewN | apply below_drew1) | exact HB.out)⟩⟩
      · replace c12 := Bool.eq_false_iff.mpr c12
        subst c12
        have H1 : ((qanatlaw02_long.f a2).bind fun t234 => (qanatlaw02_TextTables.j0 k a0 a1 a2 a3 a4 t231 t234)) = some r := by rw [if_neg (show ¬ (false = true) by decide)] at H; exact H
        clear H
        have H := H1
        clear H1
        replace H := Option.bind_eq_some_iff.mp H
        obtain ⟨t234, A130, H⟩ := H
        replace H : (qanatlaw02_TextTables.j0 k a0 a1 a2 a3 a4 t231 t234) = some r := H
        have A13 := Aside0.mk A130
        clear A130
        have H' := Aside0.mk H
        clear H
        go_wp2_with (first | ((with_reducible refine gate_callee (f := 16) rfl ?_); refine goesL_ (some 23) rfl rfl Tryz.func16 (by kernel_rfl) rfl #[.string a0] rfl (by (try simp only [List.map_toArray, List.map_cons, List.map_nil]); first | done | rfl | (simp only [List.length_drop, List.length_take]; rfl)) ?_; (with_reducible refine (qanatlaw02_long.calls a0 false _ A9.out).mono ?_); rintro e w' ⟨rfl, ⟨nd, rfl⟩⟩; refine ⟨_, rfl, ?_⟩) | (go_at_call 16; (with_reducible refine (qanatlaw02_long.calls a1 false _ A11.out).mono ?_); rintro e w' ⟨rfl, ⟨nd, rfl⟩⟩) | (go_at_call 16; (with_reducible refine (qanatlaw02_long.calls a2 t234 _ A13.out).mono ?_); rintro e w' ⟨rfl, ⟨nd, rfl⟩⟩))
        go_meet
        case rel => exact ⟨_, (t234), (by first | rfl | (simp; done) | (simp [*]; done)), H', ⟨by first | omega | exact Nat.le_refl _⟩, ⟨by repeat (first | (with_reducible first | exact HB.out | apply below_alloc | apply pw_below_drewN | apply below_drew1) | exact HB.out)⟩⟩
  case rest =>
    clear HC7
    try clear c1
    try clear p2
    try clear c4
    try clear c10
    try clear c12
    obtain ⟨kq, x31_6, rfl, HA, HJ6, HB⟩ := hcut
    cases kq with
    | zero => exact absurd HA.out (by simp [qanatlaw02_TextTables.j0])
    | succ kj6 =>
      have H := HA.out
      clear HA
      simp only [qanatlaw02_TextTables.j0] at H
      by_cases c14 : x31_6 = true
      · subst c14
        have H1 : (some t231) = some r := by rw [if_pos rfl] at H; exact H
        clear H
        have H := H1
        clear H1
        obtain rfl := Option.some.inj H
        go_wp2
        go_ret
        exact ⟨by first | rfl | (simp [errW_none, errW_some] <;> rfl) | (simp [*, errW_none, errW_some] <;> rfl), by repeat (first | (with_reducible first | exact HB.out | apply below_alloc | apply pw_below_drewN | apply below_drew1) | exact HB.out)⟩
      · replace c14 := Bool.eq_false_iff.mpr c14
        subst c14
        have H1 : ((text_Upper.f a0).bind fun bt235 => ((text_Lower.f a0).bind fun bt237 => ((text_Translate.f a0 a1 a2 a3).bind fun bt239 => ((text_Xrange.f kj6 a3 a4).bind fun bt241 => ((qanatref02_Upper.f a0).bind fun bt243 => ((qanatlaw02_str.f bt235.1 bt235.2 bt243.1 bt243.2).bind fun t245 => (if t245 = true then ((qanatref02_Lower.f a0).bind fun bt246 => ((qanatlaw02_str.f bt237.1 bt237.2 bt246.1 bt246.2).bind fun t248 => (qanatlaw02_TextTables.j1 kj6 a0 a1 a2 a3 a4 t231 bt239.1 bt239.2 bt241.1 bt241.2 t248))) else (qanatlaw02_TextTables.j1 kj6 a0 a1 a2 a3 a4 t231 bt239.1 bt239.2 bt241.1 bt241.2 false)))))))) = some r := by rw [if_neg (show ¬ (false = true) by decide)] at H; exact H
        clear H
        have H := H1
        clear H1
        replace H := Option.bind_eq_some_iff.mp H
        obtain ⟨⟨t235, t236⟩, A150, H⟩ := H
        replace H : ((text_Lower.f a0).bind fun bt237 => ((text_Translate.f a0 a1 a2 a3).bind fun bt239 => ((text_Xrange.f kj6 a3 a4).bind fun bt241 => ((qanatref02_Upper.f a0).bind fun bt243 => ((qanatlaw02_str.f t235 t236 bt243.1 bt243.2).bind fun t245 => (if t245 = true then ((qanatref02_Lower.f a0).bind fun bt246 => ((qanatlaw02_str.f bt237.1 bt237.2 bt246.1 bt246.2).bind fun t248 => (qanatlaw02_TextTables.j1 kj6 a0 a1 a2 a3 a4 t231 bt239.1 bt239.2 bt241.1 bt241.2 t248))) else (qanatlaw02_TextTables.j1 kj6 a0 a1 a2 a3 a4 t231 bt239.1 bt239.2 bt241.1 bt241.2 false))))))) = some r := H
        have A15 := Aside0.mk A150
        clear A150
        replace H := Option.bind_eq_some_iff.mp H
        obtain ⟨⟨t237, t238⟩, A160, H⟩ := H
        replace H : ((text_Translate.f a0 a1 a2 a3).bind fun bt239 => ((text_Xrange.f kj6 a3 a4).bind fun bt241 => ((qanatref02_Upper.f a0).bind fun bt243 => ((qanatlaw02_str.f t235 t236 bt243.1 bt243.2).bind fun t245 => (if t245 = true then ((qanatref02_Lower.f a0).bind fun bt246 => ((qanatlaw02_str.f t237 t238 bt246.1 bt246.2).bind fun t248 => (qanatlaw02_TextTables.j1 kj6 a0 a1 a2 a3 a4 t231 bt239.1 bt239.2 bt241.1 bt241.2 t248))) else (qanatlaw02_TextTables.j1 kj6 a0 a1 a2 a3 a4 t231 bt239.1 bt239.2 bt241.1 bt241.2 false)))))) = some r := H
        have A16 := Aside0.mk A160
        clear A160
        replace H := Option.bind_eq_some_iff.mp H
        obtain ⟨⟨t239, t240⟩, A170, H⟩ := H
        replace H : ((text_Xrange.f kj6 a3 a4).bind fun bt241 => ((qanatref02_Upper.f a0).bind fun bt243 => ((qanatlaw02_str.f t235 t236 bt243.1 bt243.2).bind fun t245 => (if t245 = true then ((qanatref02_Lower.f a0).bind fun bt246 => ((qanatlaw02_str.f t237 t238 bt246.1 bt246.2).bind fun t248 => (qanatlaw02_TextTables.j1 kj6 a0 a1 a2 a3 a4 t231 t239 t240 bt241.1 bt241.2 t248))) else (qanatlaw02_TextTables.j1 kj6 a0 a1 a2 a3 a4 t231 t239 t240 bt241.1 bt241.2 false))))) = some r := H
        have A17 := Aside0.mk A170
        clear A170
        replace H := Option.bind_eq_some_iff.mp H
        obtain ⟨⟨t241, t242⟩, A180, H⟩ := H
        replace H : ((qanatref02_Upper.f a0).bind fun bt243 => ((qanatlaw02_str.f t235 t236 bt243.1 bt243.2).bind fun t245 => (if t245 = true then ((qanatref02_Lower.f a0).bind fun bt246 => ((qanatlaw02_str.f t237 t238 bt246.1 bt246.2).bind fun t248 => (qanatlaw02_TextTables.j1 kj6 a0 a1 a2 a3 a4 t231 t239 t240 t241 t242 t248))) else (qanatlaw02_TextTables.j1 kj6 a0 a1 a2 a3 a4 t231 t239 t240 t241 t242 false)))) = some r := H
        have A18 := Aside0.mk A180
        clear A180
        have HC19 := Aside0.mk H
        clear H
        go_upto_region 8 with (first | ((with_reducible refine gate_callee (f := 22) rfl ?_); refine goesL_ (some 35) rfl rfl Tryz.func22 (by kernel_rfl) rfl #[.string a0] rfl (by (try simp only [List.map_toArray, List.map_cons, List.map_nil]); first | done | rfl | (simp only [List.length_drop, List.length_take]; rfl)) ?_; (with_reducible refine (text_Upper.calls a0 t235 t236 _ A15.out).mono ?_); rintro e w20 ⟨rfl, hb⟩; refine ⟨_, rfl, ?_⟩; have n0_ := Aside0.mk (below_step (by repeat (first | (with_reducible first | exact HB.out | apply below_alloc | apply pw_below_drewN | apply below_drew1) | exact HB.out)) hb); clear HB; have HB := n0_; clear n0_; (try clear hb); (try clear hb2); (try clear hk); (try clear hi)) | ((with_reducible refine gate_callee (f := 23) rfl ?_); refine goesL_ (some 40) rfl rfl Tryz.func23 (by kernel_rfl) rfl #[.string a0] rfl (by (try simp only [List.map_toArray, List.map_cons, List.map_nil]); first | done | rfl | (simp only [List.length_drop, List.length_take]; rfl)) ?_; (with_reducible refine (text_Lower.calls a0 t237 t238 _ A16.out).mono ?_); rintro e w21 ⟨rfl, hb⟩; refine ⟨_, rfl, ?_⟩; have n0_ := Aside0.mk (below_step (by repeat (first | (with_reducible first | exact HB.out | apply below_alloc | apply pw_below_drewN | apply below_drew1) | exact HB.out)) hb); clear HB; have HB := n0_; clear n0_; (try clear hb); (try clear hb2); (try clear hk); (try clear hi)) | ((with_reducible refine gate_callee (f := 24) rfl ?_); refine goesL_ (some 48) rfl rfl Tryz.func24 (by kernel_rfl) rfl #[.string a0, .string a1, .string a2, .int .u8 a3] rfl (by (try simp only [List.map_toArray, List.map_cons, List.map_nil]); first | done | rfl | (simp only [List.length_drop, List.length_take]; rfl)) ?_; (with_reducible refine (text_Translate.calls a0 a1 a2 a3 t239 t240 _ A17.out).mono ?_); rintro e w22 ⟨rfl, hb⟩; refine ⟨_, rfl, ?_⟩; have n0_ := Aside0.mk (below_step (by repeat (first | (with_reducible first | exact HB.out | apply below_alloc | apply pw_below_drewN | apply below_drew1) | exact HB.out)) hb); clear HB; have HB := n0_; clear n0_; (try clear hb); (try clear hb2); (try clear hk); (try clear hi)) | ((with_reducible refine gate_callee (f := 25) rfl ?_); refine goesL_ (some 54) rfl rfl Tryz.func25 (by kernel_rfl) rfl #[.int .u8 a3, .int .u8 a4] rfl (by (try simp only [List.map_toArray, List.map_cons, List.map_nil]); first | done | rfl | (simp only [List.length_drop, List.length_take]; rfl)) ?_; (with_reducible refine (text_Xrange.calls kj6 a3 a4 t241 t242 _ A18.out).mono ?_); rintro e w23 ⟨rfl, hb⟩; refine ⟨_, rfl, ?_⟩; have n0_ := Aside0.mk (below_step (by repeat (first | (with_reducible first | exact HB.out | apply below_alloc | apply pw_below_drewN | apply below_drew1) | exact HB.out)) hb); clear HB; have HB := n0_; clear n0_; (try clear hb); (try clear hb2); (try clear hk); (try clear hi)))
        (try simp only [Act.put, List.setIfInBounds_toArray, List.set_cons_zero, List.set_cons_succ])
        go_cut [20] (fun v20 wc => ∃ (kq : Nat) (x20_18 : Bool), v20 = .bool x20_18 ∧ Aside0 (qanatlaw02_TextTables.j1 kq a0 a1 a2 a3 a4 t231 t239 t240 t241 t242 x20_18 = some r) ∧ Aside0 (kq ≤ kj6) ∧ Aside0 (Below w.heap.size w wc))
        case first =>
          have H := HC19.out
          clear HC19
          replace H := Option.bind_eq_some_iff.mp H
          obtain ⟨⟨t243, t244⟩, A240, H⟩ := H
          replace H : ((qanatlaw02_str.f t235 t236 t243 t244).bind fun t245 => (if t245 = true then ((qanatref02_Lower.f a0).bind fun bt246 => ((qanatlaw02_str.f t237 t238 bt246.1 bt246.2).bind fun t248 => (qanatlaw02_TextTables.j1 kj6 a0 a1 a2 a3 a4 t231 t239 t240 t241 t242 t248))) else (qanatlaw02_TextTables.j1 kj6 a0 a1 a2 a3 a4 t231 t239 t240 t241 t242 false))) = some r := H
          have A24 := Aside0.mk A240
          clear A240
          replace H := Option.bind_eq_some_iff.mp H
          obtain ⟨t245, A250, H⟩ := H
          replace H : (if t245 = true then ((qanatref02_Lower.f a0).bind fun bt246 => ((qanatlaw02_str.f t237 t238 bt246.1 bt246.2).bind fun t248 => (qanatlaw02_TextTables.j1 kj6 a0 a1 a2 a3 a4 t231 t239 t240 t241 t242 t248))) else (qanatlaw02_TextTables.j1 kj6 a0 a1 a2 a3 a4 t231 t239 t240 t241 t242 false)) = some r := H
          have A25 := Aside0.mk A250
          clear A250
          by_cases c26 : t245 = true
          · subst c26
            have H1 : ((qanatref02_Lower.f a0).bind fun bt246 => ((qanatlaw02_str.f t237 t238 bt246.1 bt246.2).bind fun t248 => (qanatlaw02_TextTables.j1 kj6 a0 a1 a2 a3 a4 t231 t239 t240 t241 t242 t248))) = some r := by rw [if_pos rfl] at H; exact H
            clear H
            have H := H1
            clear H1
            replace H := Option.bind_eq_some_iff.mp H
            obtain ⟨⟨t246, t247⟩, A270, H⟩ := H
            replace H : ((qanatlaw02_str.f t237 t238 t246 t247).bind fun t248 => (qanatlaw02_TextTables.j1 kj6 a0 a1 a2 a3 a4 t231 t239 t240 t241 t242 t248)) = some r := H
            have A27 := Aside0.mk A270
            clear A270
            replace H := Option.bind_eq_some_iff.mp H
            obtain ⟨t248, A280, H⟩ := H
            replace H : (qanatlaw02_TextTables.j1 kj6 a0 a1 a2 a3 a4 t231 t239 t240 t241 t242 t248) = some r := H
            have A28 := Aside0.mk A280
            clear A280
            have H' := Aside0.mk H
            clear H
            go_wp2_with (first | ((with_reducible refine gate_callee (f := 26) rfl ?_); refine goesL_ (some 60) rfl rfl Tryz.func26 (by kernel_rfl) rfl #[.string a0] rfl (by (try simp only [List.map_toArray, List.map_cons, List.map_nil]); first | done | rfl | (simp only [List.length_drop, List.length_take]; rfl)) ?_; (with_reducible refine (qanatref02_Upper.calls a0 t243 t244 _ A24.out).mono ?_); rintro e w29 ⟨rfl, hb⟩; refine ⟨_, rfl, ?_⟩; have n0_ := Aside0.mk (below_step (by repeat (first | (with_reducible first | exact HB.out | apply below_alloc | apply pw_below_drewN | apply below_drew1) | exact HB.out)) hb); clear HB; have HB := n0_; clear n0_; (try clear hb); (try clear hb2); (try clear hk); (try clear hi)) | ((with_reducible refine gate_callee (f := 20) rfl ?_); refine goesL_ (some 61) rfl rfl Tryz.func20 (by kernel_rfl) rfl #[.string t235, .int .i64 t236, .agg #[.string t243, .int .i64 t244]] rfl (by (try simp only [List.map_toArray, List.map_cons, List.map_nil]); first | done | rfl | (simp only [List.length_drop, List.length_take]; rfl)) ?_; (with_reducible refine (qanatlaw02_str.calls t235 t236 t243 t244 true _ A25.out).mono ?_); rintro e w30 ⟨rfl, hb⟩; refine ⟨_, rfl, ?_⟩; have n0_ := Aside0.mk (below_step (by repeat (first | (with_reducible first | exact HB.out | apply below_alloc | apply pw_below_drewN | apply below_drew1) | exact HB.out)) hb); clear HB; have HB := n0_; clear n0_; (try clear hb); (try clear hb2); (try clear hk); (try clear hi)) | (go_at_call 27; (with_reducible refine (qanatref02_Lower.calls a0 t246 t247 _ A27.out).mono ?_); rintro e w31 ⟨rfl, hb⟩; have n0_ := Aside0.mk (below_step (by repeat (first | (with_reducible first | exact HB.out | apply below_alloc | apply pw_below_drewN | apply below_drew1) | exact HB.out)) hb); clear HB; have HB := n0_; clear n0_; (try clear hb); (try clear hb2); (try clear hk); (try clear hi)) | (go_at_call 20; (with_reducible refine (qanatlaw02_str.calls t237 t238 t246 t247 t248 _ A28.out).mono ?_); rintro e w32 ⟨rfl, hb⟩; have n0_ := Aside0.mk (below_step (by repeat (first | (with_reducible first | exact HB.out | apply below_alloc | apply pw_below_drewN | apply below_drew1) | exact HB.out)) hb); clear HB; have HB := n0_; clear n0_; (try clear hb); (try clear hb2); (try clear hk); (try clear hi)))
            go_meet
            case rel => exact ⟨_, (t248), (by first | rfl | (simp; done) | (simp [*]; done)), H', ⟨by have := HJ6.out; first | omega | exact Nat.le_refl _⟩, ⟨by repeat (first | (with_reducible first | exact HB.out | apply below_alloc | apply pw_below_drewN | apply below_drew1) | exact HB.out)⟩⟩
          · replace c26 := Bool.eq_false_iff.mpr c26
            subst c26
            have H1 : (qanatlaw02_TextTables.j1 kj6 a0 a1 a2 a3 a4 t231 t239 t240 t241 t242 false) = some r := by rw [if_neg (show ¬ (false = true) by decide)] at H; exact H
            clear H
            have H := H1
            clear H1
            have H' := Aside0.mk H
            clear H
            go_wp2_with (first | ((with_reducible refine gate_callee (f := 26) rfl ?_); refine goesL_ (some 60) rfl rfl Tryz.func26 (by kernel_rfl) rfl #[.string a0] rfl (by (try simp only [List.map_toArray, List.map_cons, List.map_nil]); first | done | rfl | (simp only [List.length_drop, List.length_take]; rfl)) ?_; (with_reducible refine (qanatref02_Upper.calls a0 t243 t244 _ A24.out).mono ?_); rintro e w33 ⟨rfl, hb⟩; refine ⟨_, rfl, ?_⟩; have n0_ := Aside0.mk (below_step (by repeat (first | (with_reducible first | exact HB.out | apply below_alloc | apply pw_below_drewN | apply below_drew1) | exact HB.out)) hb); clear HB; have HB := n0_; clear n0_; (try clear hb); (try clear hb2); (try clear hk); (try clear hi)) | ((with_reducible refine gate_callee (f := 20) rfl ?_); refine goesL_ (some 61) rfl rfl Tryz.func20 (by kernel_rfl) rfl #[.string t235, .int .i64 t236, .agg #[.string t243, .int .i64 t244]] rfl (by (try simp only [List.map_toArray, List.map_cons, List.map_nil]); first | done | rfl | (simp only [List.length_drop, List.length_take]; rfl)) ?_; (with_reducible refine (qanatlaw02_str.calls t235 t236 t243 t244 false _ A25.out).mono ?_); rintro e w34 ⟨rfl, hb⟩; refine ⟨_, rfl, ?_⟩; have n0_ := Aside0.mk (below_step (by repeat (first | (with_reducible first | exact HB.out | apply below_alloc | apply pw_below_drewN | apply below_drew1) | exact HB.out)) hb); clear HB; have HB := n0_; clear n0_; (try clear hb); (try clear hb2); (try clear hk); (try clear hi)))
            go_meet
            case rel => exact ⟨_, (false), (by first | rfl | (simp; done) | (simp [*]; done)), H', ⟨by have := HJ6.out; first | omega | exact Nat.le_refl _⟩, ⟨by repeat (first | (with_reducible first | exact HB.out | apply below_alloc | apply pw_below_drewN | apply below_drew1) | exact HB.out)⟩⟩
        case rest =>
          clear HC19
          try clear c1
          try clear c2
          try clear p2
          try clear c4
          try clear c10
          try clear c12
          try clear c14
          try clear c15
          try clear c16
          try clear c20
          try clear c22
          try clear c23
          try clear c24
          try clear c25
          try clear c26
          try clear p2
          obtain ⟨kq, x20_18, rfl, HA, HJ18, HB⟩ := hcut
          cases kq with
          | zero => exact absurd HA.out (by simp [qanatlaw02_TextTables.j1])
          | succ kj18 =>
            have H := HA.out
            clear HA
            simp only [qanatlaw02_TextTables.j1] at H
            by_cases c35 : t231 = true
            · subst c35
              have H1 : (if x20_18 = true then ((qanatref02_Translate.f a0 a1 a2 a3).bind fun bt249 => ((qanatlaw02_str.f t239 t240 bt249.1 bt249.2).bind fun t251 => (if t251 = true then ((qanatref02_Xrange.f kj18 a3 a4).bind fun bt252 => ((qanatlaw02_str.f t241 t242 bt252.1 bt252.2).bind fun t254 => (some t254))) else (some false)))) else (some false)) = some r := by rw [if_pos rfl] at H; exact H
              clear H
              have H := H1
              clear H1
              by_cases c36 : x20_18 = true
              · subst c36
                have H1 : ((qanatref02_Translate.f a0 a1 a2 a3).bind fun bt249 => ((qanatlaw02_str.f t239 t240 bt249.1 bt249.2).bind fun t251 => (if t251 = true then ((qanatref02_Xrange.f kj18 a3 a4).bind fun bt252 => ((qanatlaw02_str.f t241 t242 bt252.1 bt252.2).bind fun t254 => (some t254))) else (some false)))) = some r := by rw [if_pos rfl] at H; exact H
                clear H
                have H := H1
                clear H1
                replace H := Option.bind_eq_some_iff.mp H
                obtain ⟨⟨t249, t250⟩, A370, H⟩ := H
                replace H : ((qanatlaw02_str.f t239 t240 t249 t250).bind fun t251 => (if t251 = true then ((qanatref02_Xrange.f kj18 a3 a4).bind fun bt252 => ((qanatlaw02_str.f t241 t242 bt252.1 bt252.2).bind fun t254 => (some t254))) else (some false))) = some r := H
                have A37 := Aside0.mk A370
                clear A370
                replace H := Option.bind_eq_some_iff.mp H
                obtain ⟨t251, A380, H⟩ := H
                replace H : (if t251 = true then ((qanatref02_Xrange.f kj18 a3 a4).bind fun bt252 => ((qanatlaw02_str.f t241 t242 bt252.1 bt252.2).bind fun t254 => (some t254))) else (some false)) = some r := H
                have A38 := Aside0.mk A380
                clear A380
                by_cases c39 : t251 = true
                · subst c39
                  have H1 : ((qanatref02_Xrange.f kj18 a3 a4).bind fun bt252 => ((qanatlaw02_str.f t241 t242 bt252.1 bt252.2).bind fun t254 => (some t254))) = some r := by rw [if_pos rfl] at H; exact H
                  clear H
                  have H := H1
                  clear H1
                  replace H := Option.bind_eq_some_iff.mp H
                  obtain ⟨⟨t252, t253⟩, A400, H⟩ := H
                  replace H : ((qanatlaw02_str.f t241 t242 t252 t253).bind fun t254 => (some t254)) = some r := H
                  have A40 := Aside0.mk A400
                  clear A400
                  replace H := Option.bind_eq_some_iff.mp H
                  obtain ⟨t254, A410, H⟩ := H
                  replace H : (some t254) = some r := H
                  have A41 := Aside0.mk A410
                  clear A410
                  obtain rfl := Option.some.inj H
                  go_wp2_with (first | (go_at_call 28; (with_reducible refine (qanatref02_Translate.calls a0 a1 a2 a3 t249 t250 _ A37.out).mono ?_); rintro e w42 ⟨rfl, hb⟩; have n0_ := Aside0.mk (below_step (by repeat (first | (with_reducible first | exact HB.out | apply below_alloc | apply pw_below_drewN | apply below_drew1) | exact HB.out)) hb); clear HB; have HB := n0_; clear n0_; (try clear hb); (try clear hb2); (try clear hk); (try clear hi)) | (go_at_call 20; (with_reducible refine (qanatlaw02_str.calls t239 t240 t249 t250 true _ A38.out).mono ?_); rintro e w43 ⟨rfl, hb⟩; have n0_ := Aside0.mk (below_step (by repeat (first | (with_reducible first | exact HB.out | apply below_alloc | apply pw_below_drewN | apply below_drew1) | exact HB.out)) hb); clear HB; have HB := n0_; clear n0_; (try clear hb); (try clear hb2); (try clear hk); (try clear hi)) | (go_at_call 29; (with_reducible refine (qanatref02_Xrange.calls kj18 a3 a4 t252 t253 _ A40.out).mono ?_); rintro e w44 ⟨rfl, hb⟩; have n0_ := Aside0.mk (below_step (by repeat (first | (with_reducible first | exact HB.out | apply below_alloc | apply pw_below_drewN | apply below_drew1) | exact HB.out)) hb); clear HB; have HB := n0_; clear n0_; (try clear hb); (try clear hb2); (try clear hk); (try clear hi)) | (go_at_call 20; (with_reducible refine (qanatlaw02_str.calls t241 t242 t252 t253 t254 _ A41.out).mono ?_); rintro e w45 ⟨rfl, hb⟩; have n0_ := Aside0.mk (below_step (by repeat (first | (with_reducible first | exact HB.out | apply below_alloc | apply pw_below_drewN | apply below_drew1) | exact HB.out)) hb); clear HB; have HB := n0_; clear n0_; (try clear hb); (try clear hb2); (try clear hk); (try clear hi)))
                  go_ret
                  exact ⟨by first | rfl | (simp [errW_none, errW_some] <;> rfl) | (simp [*, errW_none, errW_some] <;> rfl), by repeat (first | (with_reducible first | exact HB.out | apply below_alloc | apply pw_below_drewN | apply below_drew1) | exact HB.out)⟩
                · replace c39 := Bool.eq_false_iff.mpr c39
                  subst c39
                  have H1 : (some false) = some r := by rw [if_neg (show ¬ (false = true) by decide)] at H; exact H
                  clear H
                  have H := H1
                  clear H1
                  obtain rfl := Option.some.inj H
                  go_wp2_with (first | (go_at_call 28; (with_reducible refine (qanatref02_Translate.calls a0 a1 a2 a3 t249 t250 _ A37.out).mono ?_); rintro e w46 ⟨rfl, hb⟩; have n0_ := Aside0.mk (below_step (by repeat (first | (with_reducible first | exact HB.out | apply below_alloc | apply pw_below_drewN | apply below_drew1) | exact HB.out)) hb); clear HB; have HB := n0_; clear n0_; (try clear hb); (try clear hb2); (try clear hk); (try clear hi)) | (go_at_call 20; (with_reducible refine (qanatlaw02_str.calls t239 t240 t249 t250 false _ A38.out).mono ?_); rintro e w47 ⟨rfl, hb⟩; have n0_ := Aside0.mk (below_step (by repeat (first | (with_reducible first | exact HB.out | apply below_alloc | apply pw_below_drewN | apply below_drew1) | exact HB.out)) hb); clear HB; have HB := n0_; clear n0_; (try clear hb); (try clear hb2); (try clear hk); (try clear hi)))
                  go_ret
                  exact ⟨by first | rfl | (simp [errW_none, errW_some] <;> rfl) | (simp [*, errW_none, errW_some] <;> rfl), by repeat (first | (with_reducible first | exact HB.out | apply below_alloc | apply pw_below_drewN | apply below_drew1) | exact HB.out)⟩
              · replace c36 := Bool.eq_false_iff.mpr c36
                subst c36
                have H1 : (some false) = some r := by rw [if_neg (show ¬ (false = true) by decide)] at H; exact H
                clear H
                have H := H1
                clear H1
                obtain rfl := Option.some.inj H
                go_wp2
                go_ret
                exact ⟨by first | rfl | (simp [errW_none, errW_some] <;> rfl) | (simp [*, errW_none, errW_some] <;> rfl), by repeat (first | (with_reducible first | exact HB.out | apply below_alloc | apply pw_below_drewN | apply below_drew1) | exact HB.out)⟩
            · replace c35 := Bool.eq_false_iff.mpr c35
              subst c35
              have H1 : (some false) = some r := by rw [if_neg (show ¬ (false = true) by decide)] at H; exact H
              clear H
              have H := H1
              clear H1
              obtain rfl := Option.some.inj H
              go_wp2
              go_ret
              exact ⟨by first | rfl | (simp [errW_none, errW_some] <;> rfl) | (simp [*, errW_none, errW_some] <;> rfl), by repeat (first | (with_reducible first | exact HB.out | apply below_alloc | apply pw_below_drewN | apply below_drew1) | exact HB.out)⟩

/-- THE ONE PURE STATEMENT of qanatlaw02_TextTables: yours. -/
def qanatlaw02_TextTables.Pure : Prop := ∀ (a0 : ByteArray) (a1 : ByteArray) (a2 : ByteArray) (a3 : Int) (a4 : Int), a0.size ≤ 140737488351232 → a1.size ≤ 140737488351232 → a2.size ≤ 140737488351232 → (Lit.int .u8 a3).wf = true → (Lit.int .u8 a4).wf = true → ∃ k, qanatlaw02_TextTables.f k a0 a1 a2 a3 a4 = some true
theorem qanatlaw02_TextTables.walk (P : qanatlaw02_TextTables.Pure) (a0 : ByteArray) (a1 : ByteArray) (a2 : ByteArray) (a3 : Int) (a4 : Int) (w : World) (hT : TabOK w) (w0 : a0.size ≤ 140737488351232) (w1 : a1.size ≤ 140737488351232) (w2 : a2.size ≤ 140737488351232) (w3 : (Lit.int .u8 a3).wf = true) (w4 : (Lit.int .u8 a4).wf = true) :
    Calls Tryz.prog 4 #[.string a0, .string a1, .string a2, .int .u8 a3, .int .u8 a4] w fun e w' => e = .returned (.bool true) ∧ Below w.heap.size w w' := by
  obtain ⟨k, h⟩ := P a0 a1 a2 a3 a4 w0 w1 w2 w3 w4
  refine (qanatlaw02_TextTables.calls k a0 a1 a2 a3 a4 true w hT h).mono ?_
  rintro e w' ⟨rfl, hd⟩
  exact ⟨rfl, hd⟩

end Go.Proofs.YtlekfhnlhdmekaaGreatDoor.T

/- The examples that each law checks first are as they should be. And the reference's out is made. -/
namespace Go.Proofs.YtlekfhnlhdmekaaGreatDoor.T
set_option linter.unusedSimpArgs false
set_option linter.unusedVariables false
open Go.RowKit Go.Proofs.YtlekfhnlhdmekaaGreatDoorW.PrintWords Go.Proofs.YtlekfhnlhdmekaaGreatDoorW.PrintLast Go.Proofs.YtlekfhnlhdmekaaGreatDoorW.PrintMore
theorem head_60 : qanatlaw02_head.f 60 = some true := by kernel_rfl
theorem head_ok : ∀ d, qanatlaw02_head.f (60 + d) = some true
  | 0 => head_60
  | d + 1 => qanatlaw02_head.mono (60 + d) _ (head_ok d)
theorem strOfNums_size (L : List Int) : (strOfNums L).size = L.length := by
  rw [← data_length]
  simp [strOfNums]
theorem bytesOf_str (L : List Int) (h : ∀ x ∈ L, 0 ≤ x ∧ x < 256) : bytesOf (strOfNums L) = L := by
  unfold bytesOf strOfNums
  simp only [List.map_map]
  conv => rhs; rw [← List.map_id L]
  apply List.map_congr_left
  intro x hx
  obtain ⟨h0, h1⟩ := h x hx
  simp only [Function.comp_apply, id_eq, UInt8.toNat_ofNat']
  omega
theorem strOfNums_bytes (s : ByteArray) : strOfNums (bytesOf s) = s := by
  have e : ((bytesOf s).map fun n : Int => UInt8.ofNat n.toNat) = s.data.toList := by
    unfold bytesOf
    rw [List.map_map]
    conv => rhs; rw [← List.map_id s.data.toList]
    apply List.map_congr_left
    intro x hx
    simp
  unfold strOfNums
  rw [e]
theorem made_eq (s : ByteArray) : text_made.f s = some (if s.size > 1000 then (⟨#[]⟩, 3) else if vld s = true then (s, 0) else (⟨#[]⟩, 8)) := by
  unfold text_made.f text_Valid.f
  by_cases h : s.size > 1000
  · rw [if_pos (by omega), if_pos h]
  · rw [if_neg (by omega), if_neg h]
    simp only [Option.bind_some]
    split <;> rfl
theorem made_out (L : List Int) (h : ∀ x ∈ L, 0 ≤ x ∧ x < 256) : text_made.f (strOfNums L) = qanatref02_out.f L := by
  rw [made_eq, qanatref02_out.f, strOfNums_size]
  by_cases hl : L.length > 1000
  · rw [if_pos hl, if_pos hl]
  · rw [if_neg hl, if_neg hl]
    have e : vld (strOfNums L) = L.all goodI := by
      unfold vld
      rw [strOfNums_size, bytesOf_str L h, decide_eq_true (show L.length ≤ 1000 by omega), Bool.true_and]
    rw [e]
theorem u8_rng (z : Int) : 0 ≤ IntKind.u8.wrap z ∧ IntKind.u8.wrap z < 256 := by
  simp only [IntKind.wrap, IntKind.bits, IntKind.signed]
  simp
  omega
end Go.Proofs.YtlekfhnlhdmekaaGreatDoor.T

/- The law TextTables: what the program and the reference compute is the same. -/
namespace Go.Proofs.YtlekfhnlhdmekaaGreatDoor.T
set_option linter.unusedSimpArgs false
set_option linter.unusedVariables false
open Go.RowKit Go.Proofs.YtlekfhnlhdmekaaGreatDoorW.PrintWords Go.Proofs.YtlekfhnlhdmekaaGreatDoorW.PrintLast Go.Proofs.YtlekfhnlhdmekaaGreatDoorW.PrintMore

theorem good_iff (x : Int) : goodI x = true ↔ 32 ≤ x ∧ x ≤ 126 := by simp [goodI]
theorem vld_size {s : ByteArray} (h : vld s = true) : s.size ≤ 1000 := by
  simp [vld] at h; exact h.1
theorem vld_all {s : ByteArray} (h : vld s = true) : ∀ x ∈ bytesOf s, goodI x = true := by
  simp only [vld, Bool.and_eq_true, List.all_eq_true] at h
  exact h.2
theorem str_same (s : ByteArray) (e : Int) : qanatlaw02_str.f s e s e = some true := by
  unfold qanatlaw02_str.f
  rw [if_pos rfl]
  simp
theorem out_good (L : List Int) (hl : L.length ≤ 1000) (h : ∀ x ∈ L, goodI x = true) : qanatref02_out.f L = some (strOfNums L, 0) := by
  rw [qanatref02_out.f, if_neg (by omega), if_pos (by rw [List.all_eq_true]; exact h)]
theorem map_good (f : Int → Int) (s : ByteArray) (hs : vld s = true) (h : ∀ x, goodI x = true → goodI (f x) = true) : qanatref02_out.f ((bytesOf s).map f) = some (mapd f s, 0) := by
  refine out_good _ ?_ ?_
  · rw [List.length_map, bytesOf_length]; exact vld_size hs
  · intro x hx
    obtain ⟨y, hy, rfl⟩ := List.mem_map.1 hx
    exact h y (vld_all hs y hy)
theorem turn_good (x : Int) (h : goodI x = true) : goodI (turnB 97 65 x) = true ∧ goodI (turnB 65 97 x) = true := by
  rw [good_iff] at h
  rw [good_iff, good_iff]
  unfold turnB
  constructor <;> split <;> omega
theorem upper_agree (s : ByteArray) (hs : s.size ≤ 1200) : ∃ r e, text_Upper.f s = some (r, e) ∧ qanatref02_Upper.f s = some (r, e) := by
  have c1 : s.size ≤ 100000 ∧ (0 : Int) ≤ 97 ∧ (97 : Int) < 256 ∧ (0 : Int) ≤ 65 ∧ (65 : Int) < 200 := ⟨by omega, by decide, by decide, by decide, by decide⟩
  unfold text_Upper.f text_turned.f qanatref02_Upper.f
  rw [if_pos c1, if_pos c1.1]
  by_cases hv : vld s = true
  · rw [if_pos hv, if_pos hv, map_good _ s hv (fun x h => (turn_good x h).1)]
    exact ⟨_, _, rfl, rfl⟩
  · rw [if_neg hv, if_neg hv]
    exact ⟨_, _, rfl, rfl⟩
theorem lower_agree (s : ByteArray) (hs : s.size ≤ 1200) : ∃ r e, text_Lower.f s = some (r, e) ∧ qanatref02_Lower.f s = some (r, e) := by
  have c1 : s.size ≤ 100000 ∧ (0 : Int) ≤ 65 ∧ (65 : Int) < 256 ∧ (0 : Int) ≤ 97 ∧ (97 : Int) < 200 := ⟨by omega, by decide, by decide, by decide, by decide⟩
  unfold text_Lower.f text_turned.f qanatref02_Lower.f
  rw [if_pos c1, if_pos c1.1]
  by_cases hv : vld s = true
  · rw [if_pos hv, if_pos hv, map_good _ s hv (fun x h => (turn_good x h).2)]
    exact ⟨_, _, rfl, rfl⟩
  · rw [if_neg hv, if_neg hv]
    exact ⟨_, _, rfl, rfl⟩
theorem bt_good {s : ByteArray} (hv : vld s = true) (i : Int) (h0 : 0 ≤ i) (h1 : i < s.size) : goodI (bt s i) = true := by
  obtain ⟨k, rfl⟩ := Int.eq_ofNat_of_zero_le h0
  have hk : k < s.size := by omega
  rw [bt_getD s k hk]
  exact vld_all hv _ (getD_mem _ k (by rw [bytesOf_length]; exact hk))
theorem tr_good (out inn : ByteArray) (pad x : Int) (ho : vld out = true) (hp : goodI pad = true) (hx : goodI x = true) : goodI (trB out inn pad x) = true := by
  unfold trB
  by_cases h : 0 ≤ idxI (fun y => y == x) (bytesOf inn)
  · rw [if_pos h]
    split
    · next h2 => exact bt_good ho _ h h2
    · exact hp
  · rw [if_neg h]; exact hx
theorem trans_agree (s out inn : ByteArray) (pad : Int) (hs : s.size ≤ 1200) (ho : out.size ≤ 1200) (hi : inn.size ≤ 1200) (h0 : 0 ≤ pad) (h1 : pad < 256) :
    ∃ r e, text_Translate.f s out inn pad = some (r, e) ∧ qanatref02_Translate.f s out inn pad = some (r, e) := by
  have c1 : s.size ≤ 100000 ∧ out.size ≤ 100000 ∧ inn.size ≤ 100000 ∧ 0 ≤ pad ∧ pad < 256 := ⟨by omega, by omega, by omega, h0, h1⟩
  have c2 : s.size ≤ 100000 ∧ out.size ≤ 100000 ∧ inn.size ≤ 100000 := ⟨c1.1, c1.2.1, c1.2.2.1⟩
  unfold text_Translate.f qanatref02_Translate.f
  rw [if_pos c1, if_pos c2]
  by_cases hv : (vld s = true ∧ vld out = true ∧ vld inn = true) ∧ goodI pad = true
  · rw [if_pos hv, if_pos hv, map_good _ s hv.1.1 (fun x h => tr_good out inn pad x hv.1.2.1 hv.2 h)]
    exact ⟨_, _, rfl, rfl⟩
  · rw [if_neg hv, if_neg hv]
    exact ⟨_, _, rfl, rfl⟩

/-- How many steps from x on to y. -/
def distX (x y : Int) : Nat := ((y - x) % 95).toNat
theorem xr : ∀ (k : Nat) (x y : Int) (L : List Int), goodI x = true → goodI y = true → distX x y < k → L.length + distX x y ≤ 1000 → (∀ z ∈ L, goodI z = true) →
    ∃ r, text_Xrange.l0 k y L x = some (r, 0) ∧ qanatref02_Xrange.l0 k x y L = some (r, 0)
  | 0, x, y, L, _, _, h, _, _ => absurd h (by omega)
  | k + 1, x, y, L, hx, hy, hd, hl, hL => by
    rw [good_iff] at hx hy
    rw [text_Xrange.l0, qanatref02_Xrange.l0]
    by_cases e : x = y
    · rw [if_pos e, if_pos e, out_good L (by omega) hL]
      exact ⟨_, rfl, rfl⟩
    · rw [if_neg e, if_neg e]
      have hd0 : 0 < distX x y := by unfold distX; omega
      have hll : L.length < 140737488355328 := by omega
      by_cases h126 : (x + 1) % 256 > 126
      · have e126 : x = 126 := by omega
        have hdd : distX 32 y + 1 = distX x y := by unfold distX; omega
        rw [if_pos h126, if_pos h126, if_pos hll, if_pos hll]
        exact xr k 32 y (L ++ [32]) (by decide) ((good_iff y).2 hy) (by omega) (by simp; omega) (fun z hz => by
          rcases List.mem_append.1 hz with h | h
          · exact hL z h
          · simp at h; rw [h]; decide)
      · have e126 : (x + 1) % 256 = x + 1 := by omega
        rw [e126] at h126 ⊢
        have hdd : distX (x + 1) y + 1 = distX x y := by unfold distX; omega
        have hg : goodI (x + 1) = true := (good_iff _).2 (by omega)
        rw [if_neg h126, if_neg h126, if_pos hll, if_pos hll]
        exact xr k (x + 1) y (L ++ [x + 1]) hg ((good_iff y).2 hy) (by omega) (by simp; omega) (fun z hz => by
          rcases List.mem_append.1 hz with h | h
          · exact hL z h
          · simp at h; rw [h]; exact hg)
theorem dist_lt (x y : Int) : distX x y < 95 := by unfold distX; omega
theorem xrange_agree (a b : Int) : ∃ r e, (∀ k, 100 ≤ k → text_Xrange.f k a b = some (r, e)) ∧ ∀ k, 102 ≤ k → qanatref02_Xrange.f k a b = some (r, e) := by
  by_cases h : goodI a = true ∧ goodI b = true
  · have hd := dist_lt a b
    obtain ⟨r, h1, h2⟩ := xr 100 a b [a] h.1 h.2 (by omega) (by simp; omega) (fun z hz => by simp at hz; rw [hz]; exact h.1)
    have m1 : ∀ d, text_Xrange.l0 (100 + d) b [a] a = some (r, 0) := fun d => by
      induction d with
      | zero => exact h1
      | succ d ih => exact text_Xrange.mono_l _ _ _ _ _ ih
    refine ⟨r, 0, fun k hk => ?_, fun k hk => ?_⟩
    · obtain ⟨d, rfl⟩ := Nat.exists_eq_add_of_le hk
      unfold text_Xrange.f text_pads.f
      rw [if_pos (show ([a, b] : List Int).all goodI = true by simp [h.1, h.2])]
      simp only [Option.bind_some, if_true]
      exact m1 d
    · obtain ⟨d, rfl⟩ := Nat.exists_eq_add_of_le hk
      obtain ⟨r', h1', h2'⟩ := xr (101 + d) a b [a] h.1 h.2 (by omega) (by simp; omega) (fun z hz => by simp at hz; rw [hz]; exact h.1)
      have e := m1 (1 + d)
      rw [show 100 + (1 + d) = 101 + d by omega] at e
      have er : r' = r := by rw [e] at h1'; simpa using h1'.symm
      unfold qanatref02_Xrange.f qanatref02_Pad.f
      simp only [Option.bind_some, h.1, h.2, if_true, Bool.not_true]
      rw [show 102 + d = (101 + d) + 1 by omega, qanatref02_Xrange.j0, if_neg (by decide), h2', er]
  · refine ⟨⟨#[]⟩, 1, fun k hk => ?_, fun k hk => ?_⟩
    · unfold text_Xrange.f text_pads.f
      rw [if_neg (by simpa using h)]
      simp
    · obtain ⟨d, rfl⟩ := Nat.exists_eq_add_of_le hk
      unfold qanatref02_Xrange.f qanatref02_Pad.f
      simp only [Option.bind_some]
      rw [show 102 + d = (101 + d) + 1 by omega]
      by_cases ha : goodI a = true
      · have hb : goodI b = false := by
          cases hb : goodI b with
          | false => rfl
          | true => exact absurd ⟨ha, hb⟩ h
        rw [if_pos ha, hb, qanatref02_Xrange.j0]
        simp
      · rw [if_neg ha, qanatref02_Xrange.j0]
        simp
theorem tables_pure : qanatlaw02_TextTables.Pure := by
  intro a0 a1 a2 a3 a4 _ _ _ w3 w4
  have h3 := u8_of_wf w3
  refine ⟨60 + 140, ?_⟩
  unfold qanatlaw02_TextTables.f
  rw [head_ok 140]
  simp only [Option.bind_some, qanatlaw02_long.f]
  by_cases h0 : (a0.size : Int) > 1200
  · rw [if_pos (decide_eq_true h0)]
    simp [qanatlaw02_TextTables.j0]
  · rw [if_neg (by simp; omega)]
    by_cases h1 : (a1.size : Int) > 1200
    · rw [if_pos (decide_eq_true h1)]
      simp [qanatlaw02_TextTables.j0]
    · rw [if_neg (by simp; omega)]
      by_cases h2 : (a2.size : Int) > 1200
      · rw [decide_eq_true h2]
        simp [qanatlaw02_TextTables.j0]
      · rw [decide_eq_false h2, show 60 + 140 = 198 + 2 from rfl, qanatlaw02_TextTables.j0]
        obtain ⟨ru, eu, u1, u2⟩ := upper_agree a0 (by omega)
        obtain ⟨rl, el, l1, l2⟩ := lower_agree a0 (by omega)
        obtain ⟨rt, et, t1, t2⟩ := trans_agree a0 a1 a2 a3 (by omega) (by omega) (by omega) h3.1 h3.2
        obtain ⟨rx, ex, x1, x2⟩ := xrange_agree a3 a4
        simp only [u1, u2, l1, l2, t1, x1 199 (by omega), Option.bind_some, str_same, if_true, Bool.false_eq_true, if_false]
        rw [qanatlaw02_TextTables.j1]
        simp only [t2, x2 198 (by omega), Option.bind_some, str_same, if_true]
end Go.Proofs.YtlekfhnlhdmekaaGreatDoor.T
