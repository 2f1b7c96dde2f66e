/- Part 3 of the proof of TextBits: the functions that it calls return what their plain descriptions say. -/
import Derived.Test.YtlekfhnlhdmekaaGreatDoorCTextBits0
import Derived.Test.YtlekfhnlhdmekaaGreatDoorCTextBits2
import Derived.Test.YtlekfhnlhdmekaaGreatDoorCTextBits1

-- Written by a program of this session (mp.py over the kit's print.py), out of the translation.
namespace Go.Proofs.YtlekfhnlhdmekaaGreatDoor.T
open Go.RowKit Go.Proofs.YtlekfhnlhdmekaaGreatDoorW.PrintWords Go.Proofs.YtlekfhnlhdmekaaGreatDoorW.PrintLast Go.Proofs.YtlekfhnlhdmekaaGreatDoorW.PrintMore
attribute [local go_sem] max2_int min2_int max_two min_two max_three min_three max_four min_four   -- for this text's walks alone
set_option linter.unusedVariables false
set_option linter.unusedSimpArgs false

/-! ### qanatlaw02_TextBits: function 3 -/
def qanatlaw02_TextBits.j0 : Nat → ByteArray → ByteArray → Int → Bool → Bool → Option (Bool)
  | 0, _, _, _, _, _ => none
  | k + 1, x0, x1, x2, x7, x20 => if x20 = true then (some x7) else ((text_BitAnd.f x0 x1 x2).bind fun bt189 => ((text_BitOr.f x0 x1 x2).bind fun bt191 => ((text_BitXor.f x0 x1 x2).bind fun bt193 => (if x7 = true then ((qanatref02_Bits.f 0 x0 x1 x2).bind fun bt195 => ((qanatlaw02_str.f bt189.1 bt189.2 bt195.1 bt195.2).bind fun t197 => (if t197 = true then ((qanatref02_Bits.f 1 x0 x1 x2).bind fun bt198 => ((qanatlaw02_str.f bt191.1 bt191.2 bt198.1 bt198.2).bind fun t200 => (if t200 = true then ((qanatref02_Bits.f 2 x0 x1 x2).bind fun bt201 => ((qanatlaw02_str.f bt193.1 bt193.2 bt201.1 bt201.2).bind fun t203 => (some t203))) else (some false)))) else (some false)))) else (some false)))))
def qanatlaw02_TextBits.f (k : Nat) (a0 : ByteArray) (a1 : ByteArray) (a2 : Int) : Option (Bool) := (qanatlaw02_head.f k).bind fun t186 => ((qanatlaw02_long.f a0).bind fun t187 => (if t187 = true then (qanatlaw02_TextBits.j0 k a0 a1 a2 t186 true) else ((qanatlaw02_long.f a1).bind fun t188 => (qanatlaw02_TextBits.j0 k a0 a1 a2 t186 t188))))
theorem qanatlaw02_TextBits.mono_l : ∀ k, (∀ y0 y1 y2 y3 y4, LeO (qanatlaw02_TextBits.j0 k y0 y1 y2 y3 y4) (qanatlaw02_TextBits.j0 (k + 1) y0 y1 y2 y3 y4))
  | 0 => fun _ _ _ _ _ r h => by simp [qanatlaw02_TextBits.j0] at h
  | k + 1 => by
    have ih0 := qanatlaw02_TextBits.mono_l k
    · intro y0 y1 y2 y3 y4
      unfold qanatlaw02_TextBits.j0
      repeat' first
      | (with_reducible exact ih0 _ _ _ _ _)
      | (with_reducible exact qanatlaw02_head.mono _)
      | (with_reducible exact LeO.refl _)
      | (with_reducible exact LeO.none _)
      | (with_reducible refine LeO.ite ?_ ?_)
      | (with_reducible refine LeO.bind ?_ (fun _ => ?_))
      | exact ih0 _ _ _ _ _
      | exact qanatlaw02_head.mono _
      | exact LeO.none _
      | refine LeO.ite ?_ ?_
      | refine LeO.bind ?_ (fun _ => ?_)
theorem qanatlaw02_TextBits.mono : ∀ a0 a1 a2 k, LeO (qanatlaw02_TextBits.f k a0 a1 a2) (qanatlaw02_TextBits.f (k + 1) a0 a1 a2) := by
  intro a0 a1 a2 k
  have ih0 := qanatlaw02_TextBits.mono_l k
  unfold qanatlaw02_TextBits.f
  repeat' first
      | (with_reducible exact ih0 _ _ _ _ _)
      | (with_reducible exact qanatlaw02_head.mono _)
      | (with_reducible exact LeO.refl _)
      | (with_reducible exact LeO.none _)
      | (with_reducible refine LeO.ite ?_ ?_)
      | (with_reducible refine LeO.bind ?_ (fun _ => ?_))
      | exact ih0 _ _ _ _ _
      | exact qanatlaw02_head.mono _
      | exact LeO.none _
      | refine LeO.ite ?_ ?_
      | refine LeO.bind ?_ (fun _ => ?_)
set_option maxHeartbeats 8000000 in
set_option maxRecDepth 100000 in
theorem qanatlaw02_TextBits.calls (k : Nat) (a0 : ByteArray) (a1 : ByteArray) (a2 : Int) (r : Bool) (w : World) (hT : TabOK w) (h : qanatlaw02_TextBits.f k a0 a1 a2 = some r) :
    Calls Tryz.prog 3 #[.string a0, .string a1, .int .i64 a2] w fun e w' => e = .returned (.bool r) ∧ Below w.heap.size w w' := by
  have HB := Aside0.mk (Below.refl w.heap.size w)
  have H : ((qanatlaw02_head.f k).bind fun t186 => ((qanatlaw02_long.f a0).bind fun t187 => (if t187 = true then (qanatlaw02_TextBits.j0 k a0 a1 a2 t186 true) else ((qanatlaw02_long.f a1).bind fun t188 => (qanatlaw02_TextBits.j0 k a0 a1 a2 t186 t188))))) = some r := h
  clear h
  replace H := Option.bind_eq_some_iff.mp H
  obtain ⟨t186, A40, H⟩ := H
  replace H : ((qanatlaw02_long.f a0).bind fun t187 => (if t187 = true then (qanatlaw02_TextBits.j0 k a0 a1 a2 t186 true) else ((qanatlaw02_long.f a1).bind fun t188 => (qanatlaw02_TextBits.j0 k a0 a1 a2 t186 t188)))) = some r := H
  have A4 := Aside0.mk A40
  clear A40
  have HC5 := Aside0.mk H
  clear H
  go_enter Tryz.func3, Tryz.ntmps3
  go_upto_region 2 with (first | ((with_reducible refine gate_callee (f := 15) rfl ?_); refine goesL_ (some 14) rfl rfl Tryz.func15 (by kernel_rfl) rfl #[] rfl (by (try simp only [List.map_toArray, List.map_cons, List.map_nil]); first | done | rfl | (simp only [List.length_drop, List.length_take]; rfl)) ?_; (with_reducible refine (qanatlaw02_head.calls k  t186 _ (TabOK.of_below hT (by repeat (first | (with_reducible first | exact HB.out | apply below_alloc | apply pw_below_drewN | apply below_drew1) | exact HB.out))) A4.out).mono ?_); rintro e w6 ⟨rfl, hb⟩; refine ⟨_, rfl, ?_⟩; have n0_ := Aside0.mk (below_step (by repeat (first | (with_reducible first | exact HB.out | apply below_alloc | apply pw_below_drewN | apply below_drew1) | exact HB.out)) hb); clear HB; have HB := n0_; clear n0_; (try clear hb); (try clear hb2); (try clear hk); (try clear hi)))
  (try simp only [Act.put, List.setIfInBounds_toArray, List.set_cons_zero, List.set_cons_succ])
  go_cut [20] (fun v20 wc => ∃ (kq : Nat) (x20_4 : Bool), v20 = .bool x20_4 ∧ Aside0 (qanatlaw02_TextBits.j0 kq a0 a1 a2 t186 x20_4 = some r) ∧ Aside0 (kq ≤ k) ∧ Aside0 (Below w.heap.size w wc))
  case first =>
    have H := HC5.out
    clear HC5
    replace H := Option.bind_eq_some_iff.mp H
    obtain ⟨t187, A70, H⟩ := H
    replace H : (if t187 = true then (qanatlaw02_TextBits.j0 k a0 a1 a2 t186 true) else ((qanatlaw02_long.f a1).bind fun t188 => (qanatlaw02_TextBits.j0 k a0 a1 a2 t186 t188))) = some r := H
    have A7 := Aside0.mk A70
    clear A70
    by_cases c8 : t187 = true
    · subst c8
      have H1 : (qanatlaw02_TextBits.j0 k a0 a1 a2 t186 true) = some r := by rw [if_pos rfl] at H; exact H
      clear H
      have H := H1
      clear H1
      have H' := Aside0.mk H
      clear H
      go_wp2_with (first | ((with_reducible refine gate_callee (f := 16) rfl ?_); refine goesL_ (some 16) rfl rfl Tryz.func16 (by kernel_rfl) rfl #[.string a0] rfl (by (try simp only [List.map_toArray, List.map_cons, List.map_nil]); first | done | rfl | (simp only [List.length_drop, List.length_take]; rfl)) ?_; (with_reducible refine (qanatlaw02_long.calls a0 true _ A7.out).mono ?_); rintro e w' ⟨rfl, ⟨nd, rfl⟩⟩; refine ⟨_, rfl, ?_⟩))
      go_meet
      case rel => exact ⟨_, (true), (by first | rfl | (simp; done) | (simp [*]; done)), H', ⟨by first | omega | exact Nat.le_refl _⟩, ⟨by repeat (first | (with_reducible first | exact HB.out | apply below_alloc | apply pw_below_drewN | apply below_drew1) | exact HB.out)⟩⟩
    · replace c8 := Bool.eq_false_iff.mpr c8
      subst c8
      have H1 : ((qanatlaw02_long.f a1).bind fun t188 => (qanatlaw02_TextBits.j0 k a0 a1 a2 t186 t188)) = some r := by rw [if_neg (show ¬ (false = true) by decide)] at H; exact H
      clear H
      have H := H1
      clear H1
      replace H := Option.bind_eq_some_iff.mp H
      obtain ⟨t188, A90, H⟩ := H
      replace H : (qanatlaw02_TextBits.j0 k a0 a1 a2 t186 t188) = some r := H
      have A9 := Aside0.mk A90
      clear A90
      have H' := Aside0.mk H
      clear H
      go_wp2_with (first | ((with_reducible refine gate_callee (f := 16) rfl ?_); refine goesL_ (some 16) rfl rfl Tryz.func16 (by kernel_rfl) rfl #[.string a0] rfl (by (try simp only [List.map_toArray, List.map_cons, List.map_nil]); first | done | rfl | (simp only [List.length_drop, List.length_take]; rfl)) ?_; (with_reducible refine (qanatlaw02_long.calls a0 false _ A7.out).mono ?_); rintro e w' ⟨rfl, ⟨nd, rfl⟩⟩; refine ⟨_, rfl, ?_⟩) | (go_at_call 16; (with_reducible refine (qanatlaw02_long.calls a1 t188 _ A9.out).mono ?_); rintro e w' ⟨rfl, ⟨nd, rfl⟩⟩))
      go_meet
      case rel => exact ⟨_, (t188), (by first | rfl | (simp; done) | (simp [*]; done)), H', ⟨by first | omega | exact Nat.le_refl _⟩, ⟨by repeat (first | (with_reducible first | exact HB.out | apply below_alloc | apply pw_below_drewN | apply below_drew1) | exact HB.out)⟩⟩
  case rest =>
    clear HC5
    try clear c1
    try clear p2
    try clear c3
    try clear c8
    obtain ⟨kq, x20_4, rfl, HA, HJ4, HB⟩ := hcut
    cases kq with
    | zero => exact absurd HA.out (by simp [qanatlaw02_TextBits.j0])
    | succ kj4 =>
      have H := HA.out
      clear HA
      simp only [qanatlaw02_TextBits.j0] at H
      by_cases c10 : x20_4 = true
      · subst c10
        have H1 : (some t186) = some r := by rw [if_pos rfl] at H; exact H
        clear H
        have H := H1
        clear H1
        obtain rfl := Option.some.inj H
        go_wp2
        go_ret
        exact ⟨by first | rfl | (simp [errW_none, errW_some] <;> rfl) | (simp [*, errW_none, errW_some] <;> rfl), by repeat (first | (with_reducible first | exact HB.out | apply below_alloc | apply pw_below_drewN | apply below_drew1) | exact HB.out)⟩
      · replace c10 := Bool.eq_false_iff.mpr c10
        subst c10
        have H1 : ((text_BitAnd.f a0 a1 a2).bind fun bt189 => ((text_BitOr.f a0 a1 a2).bind fun bt191 => ((text_BitXor.f a0 a1 a2).bind fun bt193 => (if t186 = true then ((qanatref02_Bits.f 0 a0 a1 a2).bind fun bt195 => ((qanatlaw02_str.f bt189.1 bt189.2 bt195.1 bt195.2).bind fun t197 => (if t197 = true then ((qanatref02_Bits.f 1 a0 a1 a2).bind fun bt198 => ((qanatlaw02_str.f bt191.1 bt191.2 bt198.1 bt198.2).bind fun t200 => (if t200 = true then ((qanatref02_Bits.f 2 a0 a1 a2).bind fun bt201 => ((qanatlaw02_str.f bt193.1 bt193.2 bt201.1 bt201.2).bind fun t203 => (some t203))) else (some false)))) else (some false)))) else (some false))))) = some r := by rw [if_neg (show ¬ (false = true) by decide)] at H; exact H
        clear H
        have H := H1
        clear H1
        replace H := Option.bind_eq_some_iff.mp H
        obtain ⟨⟨t189, t190⟩, A110, H⟩ := H
        replace H : ((text_BitOr.f a0 a1 a2).bind fun bt191 => ((text_BitXor.f a0 a1 a2).bind fun bt193 => (if t186 = true then ((qanatref02_Bits.f 0 a0 a1 a2).bind fun bt195 => ((qanatlaw02_str.f t189 t190 bt195.1 bt195.2).bind fun t197 => (if t197 = true then ((qanatref02_Bits.f 1 a0 a1 a2).bind fun bt198 => ((qanatlaw02_str.f bt191.1 bt191.2 bt198.1 bt198.2).bind fun t200 => (if t200 = true then ((qanatref02_Bits.f 2 a0 a1 a2).bind fun bt201 => ((qanatlaw02_str.f bt193.1 bt193.2 bt201.1 bt201.2).bind fun t203 => (some t203))) else (some false)))) else (some false)))) else (some false)))) = some r := H
        have A11 := Aside0.mk A110
        clear A110
        replace H := Option.bind_eq_some_iff.mp H
        obtain ⟨⟨t191, t192⟩, A120, H⟩ := H
        replace H : ((text_BitXor.f a0 a1 a2).bind fun bt193 => (if t186 = true then ((qanatref02_Bits.f 0 a0 a1 a2).bind fun bt195 => ((qanatlaw02_str.f t189 t190 bt195.1 bt195.2).bind fun t197 => (if t197 = true then ((qanatref02_Bits.f 1 a0 a1 a2).bind fun bt198 => ((qanatlaw02_str.f t191 t192 bt198.1 bt198.2).bind fun t200 => (if t200 = true then ((qanatref02_Bits.f 2 a0 a1 a2).bind fun bt201 => ((qanatlaw02_str.f bt193.1 bt193.2 bt201.1 bt201.2).bind fun t203 => (some t203))) else (some false)))) else (some false)))) else (some false))) = some r := H
        have A12 := Aside0.mk A120
        clear A120
        replace H := Option.bind_eq_some_iff.mp H
        obtain ⟨⟨t193, t194⟩, A130, H⟩ := H
        replace H : (if t186 = true then ((qanatref02_Bits.f 0 a0 a1 a2).bind fun bt195 => ((qanatlaw02_str.f t189 t190 bt195.1 bt195.2).bind fun t197 => (if t197 = true then ((qanatref02_Bits.f 1 a0 a1 a2).bind fun bt198 => ((qanatlaw02_str.f t191 t192 bt198.1 bt198.2).bind fun t200 => (if t200 = true then ((qanatref02_Bits.f 2 a0 a1 a2).bind fun bt201 => ((qanatlaw02_str.f t193 t194 bt201.1 bt201.2).bind fun t203 => (some t203))) else (some false)))) else (some false)))) else (some false)) = some r := H
        have A13 := Aside0.mk A130
        clear A130
        by_cases c14 : t186 = true
        · subst c14
          have H1 : ((qanatref02_Bits.f 0 a0 a1 a2).bind fun bt195 => ((qanatlaw02_str.f t189 t190 bt195.1 bt195.2).bind fun t197 => (if t197 = true then ((qanatref02_Bits.f 1 a0 a1 a2).bind fun bt198 => ((qanatlaw02_str.f t191 t192 bt198.1 bt198.2).bind fun t200 => (if t200 = true then ((qanatref02_Bits.f 2 a0 a1 a2).bind fun bt201 => ((qanatlaw02_str.f t193 t194 bt201.1 bt201.2).bind fun t203 => (some t203))) else (some false)))) else (some false)))) = some r := by rw [if_pos rfl] at H; exact H
          clear H
          have H := H1
          clear H1
          replace H := Option.bind_eq_some_iff.mp H
          obtain ⟨⟨t195, t196⟩, A150, H⟩ := H
          replace H : ((qanatlaw02_str.f t189 t190 t195 t196).bind fun t197 => (if t197 = true then ((qanatref02_Bits.f 1 a0 a1 a2).bind fun bt198 => ((qanatlaw02_str.f t191 t192 bt198.1 bt198.2).bind fun t200 => (if t200 = true then ((qanatref02_Bits.f 2 a0 a1 a2).bind fun bt201 => ((qanatlaw02_str.f t193 t194 bt201.1 bt201.2).bind fun t203 => (some t203))) else (some false)))) else (some false))) = some r := H
          have A15 := Aside0.mk A150
          clear A150
          replace H := Option.bind_eq_some_iff.mp H
          obtain ⟨t197, A160, H⟩ := H
          replace H : (if t197 = true then ((qanatref02_Bits.f 1 a0 a1 a2).bind fun bt198 => ((qanatlaw02_str.f t191 t192 bt198.1 bt198.2).bind fun t200 => (if t200 = true then ((qanatref02_Bits.f 2 a0 a1 a2).bind fun bt201 => ((qanatlaw02_str.f t193 t194 bt201.1 bt201.2).bind fun t203 => (some t203))) else (some false)))) else (some false)) = some r := H
          have A16 := Aside0.mk A160
          clear A160
          by_cases c17 : t197 = true
          · subst c17
            have H1 : ((qanatref02_Bits.f 1 a0 a1 a2).bind fun bt198 => ((qanatlaw02_str.f t191 t192 bt198.1 bt198.2).bind fun t200 => (if t200 = true then ((qanatref02_Bits.f 2 a0 a1 a2).bind fun bt201 => ((qanatlaw02_str.f t193 t194 bt201.1 bt201.2).bind fun t203 => (some t203))) else (some false)))) = some r := by rw [if_pos rfl] at H; exact H
            clear H
            have H := H1
            clear H1
            replace H := Option.bind_eq_some_iff.mp H
            obtain ⟨⟨t198, t199⟩, A180, H⟩ := H
            replace H : ((qanatlaw02_str.f t191 t192 t198 t199).bind fun t200 => (if t200 = true then ((qanatref02_Bits.f 2 a0 a1 a2).bind fun bt201 => ((qanatlaw02_str.f t193 t194 bt201.1 bt201.2).bind fun t203 => (some t203))) else (some false))) = some r := H
            have A18 := Aside0.mk A180
            clear A180
            replace H := Option.bind_eq_some_iff.mp H
            obtain ⟨t200, A190, H⟩ := H
            replace H : (if t200 = true then ((qanatref02_Bits.f 2 a0 a1 a2).bind fun bt201 => ((qanatlaw02_str.f t193 t194 bt201.1 bt201.2).bind fun t203 => (some t203))) else (some false)) = some r := H
            have A19 := Aside0.mk A190
            clear A190
            by_cases c20 : t200 = true
            · subst c20
              have H1 : ((qanatref02_Bits.f 2 a0 a1 a2).bind fun bt201 => ((qanatlaw02_str.f t193 t194 bt201.1 bt201.2).bind fun t203 => (some t203))) = some r := by rw [if_pos rfl] at H; exact H
              clear H
              have H := H1
              clear H1
              replace H := Option.bind_eq_some_iff.mp H
              obtain ⟨⟨t201, t202⟩, A210, H⟩ := H
              replace H : ((qanatlaw02_str.f t193 t194 t201 t202).bind fun t203 => (some t203)) = some r := H
              have A21 := Aside0.mk A210
              clear A210
              replace H := Option.bind_eq_some_iff.mp H
              obtain ⟨t203, A220, H⟩ := H
              replace H : (some t203) = some r := H
              have A22 := Aside0.mk A220
              clear A220
              obtain rfl := Option.some.inj H
              go_wp2_with (first | ((with_reducible refine gate_callee (f := 17) rfl ?_); refine goesL_ (some 26) rfl rfl Tryz.func17 (by kernel_rfl) rfl #[.string a0, .string a1, .int .i64 a2] rfl (by (try simp only [List.map_toArray, List.map_cons, List.map_nil]); first | done | rfl | (simp only [List.length_drop, List.length_take]; rfl)) ?_; (with_reducible refine (text_BitAnd.calls a0 a1 a2 t189 t190 _ A11.out).mono ?_); rintro e w23 ⟨rfl, hb⟩; refine ⟨_, rfl, ?_⟩; have n0_ := Aside0.mk (below_step (by repeat (first | (with_reducible first | exact HB.out | apply below_alloc | apply pw_below_drewN | apply below_drew1) | exact HB.out)) hb); clear HB; have HB := n0_; clear n0_; (try clear hb); (try clear hb2); (try clear hk); (try clear hi)) | ((with_reducible refine gate_callee (f := 18) rfl ?_); refine goesL_ (some 33) rfl rfl Tryz.func18 (by kernel_rfl) rfl #[.string a0, .string a1, .int .i64 a2] rfl (by (try simp only [List.map_toArray, List.map_cons, List.map_nil]); first | done | rfl | (simp only [List.length_drop, List.length_take]; rfl)) ?_; (with_reducible refine (text_BitOr.calls a0 a1 a2 t191 t192 _ A12.out).mono ?_); rintro e w24 ⟨rfl, hb⟩; refine ⟨_, rfl, ?_⟩; have n0_ := Aside0.mk (below_step (by repeat (first | (with_reducible first | exact HB.out | apply below_alloc | apply pw_below_drewN | apply below_drew1) | exact HB.out)) hb); clear HB; have HB := n0_; clear n0_; (try clear hb); (try clear hb2); (try clear hk); (try clear hi)) | ((with_reducible refine gate_callee (f := 19) rfl ?_); refine goesL_ (some 40) rfl rfl Tryz.func19 (by kernel_rfl) rfl #[.string a0, .string a1, .int .i64 a2] rfl (by (try simp only [List.map_toArray, List.map_cons, List.map_nil]); first | done | rfl | (simp only [List.length_drop, List.length_take]; rfl)) ?_; (with_reducible refine (text_BitXor.calls a0 a1 a2 t193 t194 _ A13.out).mono ?_); rintro e w25 ⟨rfl, hb⟩; refine ⟨_, rfl, ?_⟩; have n0_ := Aside0.mk (below_step (by repeat (first | (with_reducible first | exact HB.out | apply below_alloc | apply pw_below_drewN | apply below_drew1) | exact HB.out)) hb); clear HB; have HB := n0_; clear n0_; (try clear hb); (try clear hb2); (try clear hk); (try clear hi)) | (go_at_call 21; (with_reducible refine (qanatref02_Bits.calls 0 a0 a1 a2 t195 t196 _ A15.out).mono ?_); rintro e w26 ⟨rfl, hb⟩; have n0_ := Aside0.mk (below_step (by repeat (first | (with_reducible first | exact HB.out | apply below_alloc | apply pw_below_drewN | apply below_drew1) | exact HB.out)) hb); clear HB; have HB := n0_; clear n0_; (try clear hb); (try clear hb2); (try clear hk); (try clear hi)) | (go_at_call 20; (with_reducible refine (qanatlaw02_str.calls t189 t190 t195 t196 true _ A16.out).mono ?_); rintro e w27 ⟨rfl, hb⟩; have n0_ := Aside0.mk (below_step (by repeat (first | (with_reducible first | exact HB.out | apply below_alloc | apply pw_below_drewN | apply below_drew1) | exact HB.out)) hb); clear HB; have HB := n0_; clear n0_; (try clear hb); (try clear hb2); (try clear hk); (try clear hi)) | (go_at_call 21; (with_reducible refine (qanatref02_Bits.calls 1 a0 a1 a2 t198 t199 _ A18.out).mono ?_); rintro e w28 ⟨rfl, hb⟩; have n0_ := Aside0.mk (below_step (by repeat (first | (with_reducible first | exact HB.out | apply below_alloc | apply pw_below_drewN | apply below_drew1) | exact HB.out)) hb); clear HB; have HB := n0_; clear n0_; (try clear hb); (try clear hb2); (try clear hk); (try clear hi)) | (go_at_call 20; (with_reducible refine (qanatlaw02_str.calls t191 t192 t198 t199 true _ A19.out).mono ?_); rintro e w29 ⟨rfl, hb⟩; have n0_ := Aside0.mk (below_step (by repeat (first | (with_reducible first | exact HB.out | apply below_alloc | apply pw_below_drewN | apply below_drew1) | exact HB.out)) hb); clear HB; have HB := n0_; clear n0_; (try clear hb); (try clear hb2); (try clear hk); (try clear hi)) | (go_at_call 21; (with_reducible refine (qanatref02_Bits.calls 2 a0 a1 a2 t201 t202 _ A21.out).mono ?_); rintro e w30 ⟨rfl, hb⟩; have n0_ := Aside0.mk (below_step (by repeat (first | (with_reducible first | exact HB.out | apply below_alloc | apply pw_below_drewN | apply below_drew1) | exact HB.out)) hb); clear HB; have HB := n0_; clear n0_; (try clear hb); (try clear hb2); (try clear hk); (try clear hi)) | (go_at_call 20; (with_reducible refine (qanatlaw02_str.calls t193 t194 t201 t202 t203 _ A22.out).mono ?_); rintro e w31 ⟨rfl, hb⟩; have n0_ := Aside0.mk (below_step (by repeat (first | (with_reducible first | exact HB.out | apply below_alloc | apply pw_below_drewN | apply below_drew1) | exact HB.out)) hb); clear HB; have HB := n0_; clear n0_; (try clear hb); (try clear hb2); (try clear hk); (try clear hi)))
              go_ret
              exact ⟨by first | rfl | (simp [errW_none, errW_some] <;> rfl) | (simp [*, errW_none, errW_some] <;> rfl), by repeat (first | (with_reducible first | exact HB.out | apply below_alloc | apply pw_below_drewN | apply below_drew1) | exact HB.out)⟩
            · replace c20 := Bool.eq_false_iff.mpr c20
              subst c20
              have H1 : (some false) = some r := by rw [if_neg (show ¬ (false = true) by decide)] at H; exact H
              clear H
              have H := H1
              clear H1
              obtain rfl := Option.some.inj H
              go_wp2_with (first | ((with_reducible refine gate_callee (f := 17) rfl ?_); refine goesL_ (some 26) rfl rfl Tryz.func17 (by kernel_rfl) rfl #[.string a0, .string a1, .int .i64 a2] rfl (by (try simp only [List.map_toArray, List.map_cons, List.map_nil]); first | done | rfl | (simp only [List.length_drop, List.length_take]; rfl)) ?_; (with_reducible refine (text_BitAnd.calls a0 a1 a2 t189 t190 _ A11.out).mono ?_); rintro e w32 ⟨rfl, hb⟩; refine ⟨_, rfl, ?_⟩; have n0_ := Aside0.mk (below_step (by repeat (first | (with_reducible first | exact HB.out | apply below_alloc | apply pw_below_drewN | apply below_drew1) | exact HB.out)) hb); clear HB; have HB := n0_; clear n0_; (try clear hb); (try clear hb2); (try clear hk); (try clear hi)) | ((with_reducible refine gate_callee (f := 18) rfl ?_); refine goesL_ (some 33) rfl rfl Tryz.func18 (by kernel_rfl) rfl #[.string a0, .string a1, .int .i64 a2] rfl (by (try simp only [List.map_toArray, List.map_cons, List.map_nil]); first | done | rfl | (simp only [List.length_drop, List.length_take]; rfl)) ?_; (with_reducible refine (text_BitOr.calls a0 a1 a2 t191 t192 _ A12.out).mono ?_); rintro e w33 ⟨rfl, hb⟩; refine ⟨_, rfl, ?_⟩; have n0_ := Aside0.mk (below_step (by repeat (first | (with_reducible first | exact HB.out | apply below_alloc | apply pw_below_drewN | apply below_drew1) | exact HB.out)) hb); clear HB; have HB := n0_; clear n0_; (try clear hb); (try clear hb2); (try clear hk); (try clear hi)) | ((with_reducible refine gate_callee (f := 19) rfl ?_); refine goesL_ (some 40) rfl rfl Tryz.func19 (by kernel_rfl) rfl #[.string a0, .string a1, .int .i64 a2] rfl (by (try simp only [List.map_toArray, List.map_cons, List.map_nil]); first | done | rfl | (simp only [List.length_drop, List.length_take]; rfl)) ?_; (with_reducible refine (text_BitXor.calls a0 a1 a2 t193 t194 _ A13.out).mono ?_); rintro e w34 ⟨rfl, hb⟩; refine ⟨_, rfl, ?_⟩; have n0_ := Aside0.mk (below_step (by repeat (first | (with_reducible first | exact HB.out | apply below_alloc | apply pw_below_drewN | apply below_drew1) | exact HB.out)) hb); clear HB; have HB := n0_; clear n0_; (try clear hb); (try clear hb2); (try clear hk); (try clear hi)) | (go_at_call 21; (with_reducible refine (qanatref02_Bits.calls 0 a0 a1 a2 t195 t196 _ A15.out).mono ?_); rintro e w35 ⟨rfl, hb⟩; have n0_ := Aside0.mk (below_step (by repeat (first | (with_reducible first | exact HB.out | apply below_alloc | apply pw_below_drewN | apply below_drew1) | exact HB.out)) hb); clear HB; have HB := n0_; clear n0_; (try clear hb); (try clear hb2); (try clear hk); (try clear hi)) | (go_at_call 20; (with_reducible refine (qanatlaw02_str.calls t189 t190 t195 t196 true _ A16.out).mono ?_); rintro e w36 ⟨rfl, hb⟩; have n0_ := Aside0.mk (below_step (by repeat (first | (with_reducible first | exact HB.out | apply below_alloc | apply pw_below_drewN | apply below_drew1) | exact HB.out)) hb); clear HB; have HB := n0_; clear n0_; (try clear hb); (try clear hb2); (try clear hk); (try clear hi)) | (go_at_call 21; (with_reducible refine (qanatref02_Bits.calls 1 a0 a1 a2 t198 t199 _ A18.out).mono ?_); rintro e w37 ⟨rfl, hb⟩; have n0_ := Aside0.mk (below_step (by repeat (first | (with_reducible first | exact HB.out | apply below_alloc | apply pw_below_drewN | apply below_drew1) | exact HB.out)) hb); clear HB; have HB := n0_; clear n0_; (try clear hb); (try clear hb2); (try clear hk); (try clear hi)) | (go_at_call 20; (with_reducible refine (qanatlaw02_str.calls t191 t192 t198 t199 false _ A19.out).mono ?_); rintro e w38 ⟨rfl, hb⟩; have n0_ := Aside0.mk (below_step (by repeat (first | (with_reducible first | exact HB.out | apply below_alloc | apply pw_below_drewN | apply below_drew1) | exact HB.out)) hb); clear HB; have HB := n0_; clear n0_; (try clear hb); (try clear hb2); (try clear hk); (try clear hi)))
              go_ret
              exact ⟨by first | rfl | (simp [errW_none, errW_some] <;> rfl) | (simp [*, errW_none, errW_some] <;> rfl), by repeat (first | (with_reducible first | exact HB.out | apply below_alloc | apply pw_below_drewN | apply below_drew1) | exact HB.out)⟩
          · replace c17 := Bool.eq_false_iff.mpr c17
            subst c17
            have H1 : (some false) = some r := by rw [if_neg (show ¬ (false = true) by decide)] at H; exact H
            clear H
            have H := H1
            clear H1
            obtain rfl := Option.some.inj H
            go_wp2_with (first | ((with_reducible refine gate_callee (f := 17) rfl ?_); refine goesL_ (some 26) rfl rfl Tryz.func17 (by kernel_rfl) rfl #[.string a0, .string a1, .int .i64 a2] rfl (by (try simp only [List.map_toArray, List.map_cons, List.map_nil]); first | done | rfl | (simp only [List.length_drop, List.length_take]; rfl)) ?_; (with_reducible refine (text_BitAnd.calls a0 a1 a2 t189 t190 _ A11.out).mono ?_); rintro e w39 ⟨rfl, hb⟩; refine ⟨_, rfl, ?_⟩; have n0_ := Aside0.mk (below_step (by repeat (first | (with_reducible first | exact HB.out | apply below_alloc | apply pw_below_drewN | apply below_drew1) | exact HB.out)) hb); clear HB; have HB := n0_; clear n0_; (try clear hb); (try clear hb2); (try clear hk); (try clear hi)) | ((with_reducible refine gate_callee (f := 18) rfl ?_); refine goesL_ (some 33) rfl rfl Tryz.func18 (by kernel_rfl) rfl #[.string a0, .string a1, .int .i64 a2] rfl (by (try simp only [List.map_toArray, List.map_cons, List.map_nil]); first | done | rfl | (simp only [List.length_drop, List.length_take]; rfl)) ?_; (with_reducible refine (text_BitOr.calls a0 a1 a2 t191 t192 _ A12.out).mono ?_); rintro e w40 ⟨rfl, hb⟩; refine ⟨_, rfl, ?_⟩; have n0_ := Aside0.mk (below_step (by repeat (first | (with_reducible first | exact HB.out | apply below_alloc | apply pw_below_drewN | apply below_drew1) | exact HB.out)) hb); clear HB; have HB := n0_; clear n0_; (try clear hb); (try clear hb2); (try clear hk); (try clear hi)) | ((with_reducible refine gate_callee (f := 19) rfl ?_); refine goesL_ (some 40) rfl rfl Tryz.func19 (by kernel_rfl) rfl #[.string a0, .string a1, .int .i64 a2] rfl (by (try simp only [List.map_toArray, List.map_cons, List.map_nil]); first | done | rfl | (simp only [List.length_drop, List.length_take]; rfl)) ?_; (with_reducible refine (text_BitXor.calls a0 a1 a2 t193 t194 _ A13.out).mono ?_); rintro e w41 ⟨rfl, hb⟩; refine ⟨_, rfl, ?_⟩; have n0_ := Aside0.mk (below_step (by repeat (first | (with_reducible first | exact HB.out | apply below_alloc | apply pw_below_drewN | apply below_drew1) | exact HB.out)) hb); clear HB; have HB := n0_; clear n0_; (try clear hb); (try clear hb2); (try clear hk); (try clear hi)) | (go_at_call 21; (with_reducible refine (qanatref02_Bits.calls 0 a0 a1 a2 t195 t196 _ A15.out).mono ?_); rintro e w42 ⟨rfl, hb⟩; have n0_ := Aside0.mk (below_step (by repeat (first | (with_reducible first | exact HB.out | apply below_alloc | apply pw_below_drewN | apply below_drew1) | exact HB.out)) hb); clear HB; have HB := n0_; clear n0_; (try clear hb); (try clear hb2); (try clear hk); (try clear hi)) | (go_at_call 20; (with_reducible refine (qanatlaw02_str.calls t189 t190 t195 t196 false _ A16.out).mono ?_); rintro e w43 ⟨rfl, hb⟩; have n0_ := Aside0.mk (below_step (by repeat (first | (with_reducible first | exact HB.out | apply below_alloc | apply pw_below_drewN | apply below_drew1) | exact HB.out)) hb); clear HB; have HB := n0_; clear n0_; (try clear hb); (try clear hb2); (try clear hk); (try clear hi)))
            go_ret
            exact ⟨by first | rfl | (simp [errW_none, errW_some] <;> rfl) | (simp [*, errW_none, errW_some] <;> rfl), by repeat (first | (with_reducible first | exact HB.out | apply below_alloc | apply pw_below_drewN | apply below_drew1) | exact HB.out)⟩
        · replace c14 := Bool.eq_false_iff.mpr c14
          subst c14
          have H1 : (some false) = some r := by rw [if_neg (show ¬ (false = true) by decide)] at H; exact H
          clear H
          have H := H1
          clear H1
          obtain rfl := Option.some.inj H
          go_wp2_with (first | ((with_reducible refine gate_callee (f := 17) rfl ?_); refine goesL_ (some 26) rfl rfl Tryz.func17 (by kernel_rfl) rfl #[.string a0, .string a1, .int .i64 a2] rfl (by (try simp only [List.map_toArray, List.map_cons, List.map_nil]); first | done | rfl | (simp only [List.length_drop, List.length_take]; rfl)) ?_; (with_reducible refine (text_BitAnd.calls a0 a1 a2 t189 t190 _ A11.out).mono ?_); rintro e w44 ⟨rfl, hb⟩; refine ⟨_, rfl, ?_⟩; have n0_ := Aside0.mk (below_step (by repeat (first | (with_reducible first | exact HB.out | apply below_alloc | apply pw_below_drewN | apply below_drew1) | exact HB.out)) hb); clear HB; have HB := n0_; clear n0_; (try clear hb); (try clear hb2); (try clear hk); (try clear hi)) | ((with_reducible refine gate_callee (f := 18) rfl ?_); refine goesL_ (some 33) rfl rfl Tryz.func18 (by kernel_rfl) rfl #[.string a0, .string a1, .int .i64 a2] rfl (by (try simp only [List.map_toArray, List.map_cons, List.map_nil]); first | done | rfl | (simp only [List.length_drop, List.length_take]; rfl)) ?_; (with_reducible refine (text_BitOr.calls a0 a1 a2 t191 t192 _ A12.out).mono ?_); rintro e w45 ⟨rfl, hb⟩; refine ⟨_, rfl, ?_⟩; have n0_ := Aside0.mk (below_step (by repeat (first | (with_reducible first | exact HB.out | apply below_alloc | apply pw_below_drewN | apply below_drew1) | exact HB.out)) hb); clear HB; have HB := n0_; clear n0_; (try clear hb); (try clear hb2); (try clear hk); (try clear hi)) | ((with_reducible refine gate_callee (f := 19) rfl ?_); refine goesL_ (some 40) rfl rfl Tryz.func19 (by kernel_rfl) rfl #[.string a0, .string a1, .int .i64 a2] rfl (by (try simp only [List.map_toArray, List.map_cons, List.map_nil]); first | done | rfl | (simp only [List.length_drop, List.length_take]; rfl)) ?_; (with_reducible refine (text_BitXor.calls a0 a1 a2 t193 t194 _ A13.out).mono ?_); rintro e w46 ⟨rfl, hb⟩; refine ⟨_, rfl, ?_⟩; have n0_ := Aside0.mk (below_step (by repeat (first | (with_reducible first | exact HB.out | apply below_alloc | apply pw_below_drewN | apply below_drew1) | exact HB.out)) hb); clear HB; have HB := n0_; clear n0_; (try clear hb); (try clear hb2); (try clear hk); (try clear hi)))
          go_ret
          exact ⟨by first | rfl | (simp [errW_none, errW_some] <;> rfl) | (simp [*, errW_none, errW_some] <;> rfl), by repeat (first | (with_reducible first | exact HB.out | apply below_alloc | apply pw_below_drewN | apply below_drew1) | exact HB.out)⟩

/-- THE ONE PURE STATEMENT of qanatlaw02_TextBits: yours. -/
def qanatlaw02_TextBits.Pure : Prop := ∀ (a0 : ByteArray) (a1 : ByteArray) (a2 : Int), a0.size ≤ 140737488351232 → a1.size ≤ 140737488351232 → (Lit.int .i64 a2).wf = true → ∃ k, qanatlaw02_TextBits.f k a0 a1 a2 = some true
theorem qanatlaw02_TextBits.walk (P : qanatlaw02_TextBits.Pure) (a0 : ByteArray) (a1 : ByteArray) (a2 : Int) (w : World) (hT : TabOK w) (w0 : a0.size ≤ 140737488351232) (w1 : a1.size ≤ 140737488351232) (w2 : (Lit.int .i64 a2).wf = true) :
    Calls Tryz.prog 3 #[.string a0, .string a1, .int .i64 a2] w fun e w' => e = .returned (.bool true) ∧ Below w.heap.size w w' := by
  obtain ⟨k, h⟩ := P a0 a1 a2 w0 w1 w2
  refine (qanatlaw02_TextBits.calls k a0 a1 a2 true w hT h).mono ?_
  rintro e w' ⟨rfl, hd⟩
  exact ⟨rfl, hd⟩

end Go.Proofs.YtlekfhnlhdmekaaGreatDoor.T

/- The examples that each law checks first are as they should be. And the reference's out is made. -/
namespace Go.Proofs.YtlekfhnlhdmekaaGreatDoor.T
set_option linter.unusedVariables false
open Go.RowKit Go.Proofs.YtlekfhnlhdmekaaGreatDoorW.PrintWords Go.Proofs.YtlekfhnlhdmekaaGreatDoorW.PrintLast Go.Proofs.YtlekfhnlhdmekaaGreatDoorW.PrintMore
theorem head_60 : qanatlaw02_head.f 60 = some true := by kernel_rfl
theorem head_ok : ∀ d, qanatlaw02_head.f (60 + d) = some true
  | 0 => head_60
  | d + 1 => qanatlaw02_head.mono (60 + d) _ (head_ok d)
theorem strOfNums_size (L : List Int) : (strOfNums L).size = L.length := by
  rw [← data_length]
  simp [strOfNums]
theorem bytesOf_str (L : List Int) (h : ∀ x ∈ L, 0 ≤ x ∧ x < 256) : bytesOf (strOfNums L) = L := by
  unfold bytesOf strOfNums
  simp only [List.map_map]
  conv => rhs; rw [← List.map_id L]
  apply List.map_congr_left
  intro x hx
  obtain ⟨h0, h1⟩ := h x hx
  simp only [Function.comp_apply, id_eq, UInt8.toNat_ofNat']
  omega
theorem strOfNums_bytes (s : ByteArray) : strOfNums (bytesOf s) = s := by
  have e : ((bytesOf s).map fun n : Int => UInt8.ofNat n.toNat) = s.data.toList := by
    unfold bytesOf
    rw [List.map_map]
    conv => rhs; rw [← List.map_id s.data.toList]
    apply List.map_congr_left
    intro x hx
    simp
  unfold strOfNums
  rw [e]
theorem made_eq (s : ByteArray) : text_made.f s = some (if s.size > 1000 then (⟨#[]⟩, 3) else if vld s = true then (s, 0) else (⟨#[]⟩, 8)) := by
  unfold text_made.f text_Valid.f
  by_cases h : s.size > 1000
  · rw [if_pos (by omega), if_pos h]
  · rw [if_neg (by omega), if_neg h]
    simp only [Option.bind_some]
    split <;> rfl
theorem made_out (L : List Int) (h : ∀ x ∈ L, 0 ≤ x ∧ x < 256) : text_made.f (strOfNums L) = qanatref02_out.f L := by
  rw [made_eq, qanatref02_out.f, strOfNums_size]
  by_cases hl : L.length > 1000
  · rw [if_pos hl, if_pos hl]
  · rw [if_neg hl, if_neg hl]
    have e : vld (strOfNums L) = L.all goodI := by
      unfold vld
      rw [strOfNums_size, bytesOf_str L h, decide_eq_true (show L.length ≤ 1000 by omega), Bool.true_and]
    rw [e]
theorem u8_rng (z : Int) : 0 ≤ IntKind.u8.wrap z ∧ IntKind.u8.wrap z < 256 := by
  simp only [IntKind.wrap, IntKind.bits, IntKind.signed]
  simp
  omega
end Go.Proofs.YtlekfhnlhdmekaaGreatDoor.T

/- The law TextBits: what the program and the reference compute is the same. -/
namespace Go.Proofs.YtlekfhnlhdmekaaGreatDoor.T
set_option linter.unusedVariables false
open Go.RowKit Go.Proofs.YtlekfhnlhdmekaaGreatDoorW.PrintWords Go.Proofs.YtlekfhnlhdmekaaGreatDoorW.PrintLast Go.Proofs.YtlekfhnlhdmekaaGreatDoorW.PrintMore
theorem bitF_rng (o : BinOp) (b : ByteArray) (p : Int) (i : Nat) (x : Int) (h : 0 ≤ x ∧ x < 256) : 0 ≤ bitF o b p i x ∧ bitF o b p i x < 256 := by
  unfold bitF
  split
  · exact u8_rng _
  · split
    · exact h
    · exact u8_rng _
theorem bit_list_rng (o : BinOp) (a b : ByteArray) (p : Int) : ∀ x ∈ (bytesOf a).mapIdx (bitF o b p), 0 ≤ x ∧ x < 256 := by
  intro x hx
  obtain ⟨i, hi, rfl⟩ := List.mem_mapIdx.1 hx
  exact bitF_rng o b p i _ (bo_range a _ (List.getElem_mem _))
theorem bits_agree (c : Int) (hc : c = 0 ∨ c = 1 ∨ c = 2) (a b : ByteArray) (p : Int) (ha : a.size ≤ 1200) (hb : b.size ≤ 1200) : text_bits.f (opOf c) a b p = qanatref02_Bits.f c a b p := by
  have c1 : a.size ≤ 100000 ∧ b.size ≤ 100000 := ⟨by omega, by omega⟩
  have c2 : (c = 0 ∨ c = 1 ∨ c = 2) ∧ a.size ≤ 100000 ∧ b.size ≤ 100000 := ⟨hc, c1⟩
  unfold text_bits.f qanatref02_Bits.f
  rw [if_pos c1, if_pos c2]
  by_cases hv : (vld a = true ∧ vld b = true) ∧ (p = -1 ∨ 32 ≤ p ∧ p ≤ 126)
  · rw [if_pos hv, if_pos hv]
    unfold bitS
    by_cases hs : a.size < b.size
    · rw [if_pos hs, if_pos hs]
      exact made_out _ (bit_list_rng _ _ _ _)
    · rw [if_neg hs, if_neg hs]
      exact made_out _ (bit_list_rng _ _ _ _)
  · rw [if_neg hv, if_neg hv]
theorem str_self (s : ByteArray) (e : Int) : qanatlaw02_str.f s e s e = some true := by
  unfold qanatlaw02_str.f
  rw [if_pos rfl]
  simp
theorem bits_some (o : BinOp) (a b : ByteArray) (p : Int) (ha : a.size ≤ 1200) (hb : b.size ≤ 1200) : ∃ r, text_bits.f o a b p = some r := by
  unfold text_bits.f
  rw [if_pos ⟨by omega, by omega⟩]
  split
  · rw [made_eq]; exact ⟨_, rfl⟩
  · exact ⟨_, rfl⟩
theorem bits_pure : qanatlaw02_TextBits.Pure := by
  intro a0 a1 a2 _ _ _
  refine ⟨60 + 1, ?_⟩
  unfold qanatlaw02_TextBits.f
  rw [head_ok 1]
  simp only [Option.bind_some, qanatlaw02_long.f]
  by_cases h0 : (a0.size : Int) > 1200
  · rw [if_pos (decide_eq_true h0)]
    simp [qanatlaw02_TextBits.j0]
  · rw [if_neg (by simp; omega)]
    by_cases h1 : (a1.size : Int) > 1200
    · rw [decide_eq_true h1]
      simp [qanatlaw02_TextBits.j0]
    · rw [decide_eq_false h1]
      rw [qanatlaw02_TextBits.j0]
      obtain ⟨x, hx⟩ := bits_some .and a0 a1 a2 (by omega) (by omega)
      obtain ⟨y, hy⟩ := bits_some .or a0 a1 a2 (by omega) (by omega)
      obtain ⟨z, hz⟩ := bits_some .xor a0 a1 a2 (by omega) (by omega)
      have ex := (bits_agree 0 (by decide) a0 a1 a2 (by omega) (by omega)).symm.trans hx
      have ey := (bits_agree 1 (by decide) a0 a1 a2 (by omega) (by omega)).symm.trans hy
      have ez := (bits_agree 2 (by decide) a0 a1 a2 (by omega) (by omega)).symm.trans hz
      simp only [text_BitAnd.f, text_BitOr.f, text_BitXor.f, hx, hy, hz, ex, ey, ez, Option.bind_some, str_self, if_true, Bool.false_eq_true, if_false]
end Go.Proofs.YtlekfhnlhdmekaaGreatDoor.T
