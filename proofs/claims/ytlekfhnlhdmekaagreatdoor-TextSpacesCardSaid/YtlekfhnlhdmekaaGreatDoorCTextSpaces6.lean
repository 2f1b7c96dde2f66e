/- Part 6 of the proof of TextSpaces: the functions that it calls return what their plain descriptions say. -/
import Derived.Test.YtlekfhnlhdmekaaGreatDoorCTextSpaces2
import Derived.Test.YtlekfhnlhdmekaaGreatDoorCTextSpaces4
import Derived.Test.YtlekfhnlhdmekaaGreatDoorCTextSpaces5
import Derived.Test.YtlekfhnlhdmekaaGreatDoorCTextSpaces3
import Derived.Shelf.Strings.FieldsAny
import Derived.Lib.Join
import Derived.Lib.TrimByte

-- Written by a program of this session (mp.py over the kit's print.py), out of the translation.
namespace Go.Proofs.YtlekfhnlhdmekaaGreatDoor.T
set_option linter.unusedSimpArgs false
open Go.RowKit Go.Proofs.YtlekfhnlhdmekaaGreatDoorW.PrintWords Go.Proofs.YtlekfhnlhdmekaaGreatDoorW.PrintLast Go.Proofs.YtlekfhnlhdmekaaGreatDoorW.PrintMore
attribute [local go_sem] max2_int min2_int max_two min_two max_three min_three max_four min_four   -- for this text's walks alone
set_option linter.unusedVariables false
set_option linter.unusedSimpArgs false

/-! ### qanatlaw02_TextSpaces: function 11 -/
def qanatlaw02_TextSpaces.j0 : Nat → ByteArray → ByteArray → Int → Int → Bool → Bool → Option (Bool)
  | 0, _, _, _, _, _, _ => none
  | k + 1, x0, x1, x2, x3, x9, x20 => if x20 = true then (some x9) else ((text_Space.f x1 x2 x3).bind fun bt810 => ((text_WordPos.f k x0 x1 x2).bind fun bt812 => (if x9 = true then ((qanatref02_Space.f x1 x2 x3).bind fun bt814 => ((qanatlaw02_str.f bt810.1 bt810.2 bt814.1 bt814.2).bind fun t816 => (if t816 = true then ((qanatref02_WordPos.f k x0 x1 x2).bind fun bt817 => ((qanatlaw02_num.f bt812.1 bt812.2 bt817.1 bt817.2).bind fun t819 => (some t819))) else (some false)))) else (some false))))
def qanatlaw02_TextSpaces.f (k : Nat) (a0 : ByteArray) (a1 : ByteArray) (a2 : Int) (a3 : Int) : Option (Bool) := (qanatlaw02_head.f k).bind fun t807 => ((qanatlaw02_long.f a0).bind fun t808 => (if t808 = true then (qanatlaw02_TextSpaces.j0 k a0 a1 a2 a3 t807 true) else ((qanatlaw02_long.f a1).bind fun t809 => (qanatlaw02_TextSpaces.j0 k a0 a1 a2 a3 t807 t809))))
theorem qanatlaw02_TextSpaces.mono_l : ∀ k, (∀ y0 y1 y2 y3 y4 y5, LeO (qanatlaw02_TextSpaces.j0 k y0 y1 y2 y3 y4 y5) (qanatlaw02_TextSpaces.j0 (k + 1) y0 y1 y2 y3 y4 y5))
  | 0 => fun _ _ _ _ _ _ r h => by simp [qanatlaw02_TextSpaces.j0] at h
  | k + 1 => by
    have ih0 := qanatlaw02_TextSpaces.mono_l k
    · intro y0 y1 y2 y3 y4 y5
      unfold qanatlaw02_TextSpaces.j0
      repeat' first
      | (with_reducible exact ih0 _ _ _ _ _ _)
      | (with_reducible exact qanatlaw02_head.mono _)
      | (with_reducible exact qanatref02_WordPos.mono _ _ _ _)
      | (with_reducible exact text_WordPos.mono _ _ _ _)
      | (with_reducible exact LeO.refl _)
      | (with_reducible exact LeO.none _)
      | (with_reducible refine LeO.ite ?_ ?_)
      | (with_reducible refine LeO.bind ?_ (fun _ => ?_))
      | exact ih0 _ _ _ _ _ _
      | exact qanatlaw02_head.mono _
      | exact qanatref02_WordPos.mono _ _ _ _
      | exact text_WordPos.mono _ _ _ _
      | exact LeO.none _
      | refine LeO.ite ?_ ?_
      | refine LeO.bind ?_ (fun _ => ?_)
theorem qanatlaw02_TextSpaces.mono : ∀ a0 a1 a2 a3 k, LeO (qanatlaw02_TextSpaces.f k a0 a1 a2 a3) (qanatlaw02_TextSpaces.f (k + 1) a0 a1 a2 a3) := by
  intro a0 a1 a2 a3 k
  have ih0 := qanatlaw02_TextSpaces.mono_l k
  unfold qanatlaw02_TextSpaces.f
  repeat' first
      | (with_reducible exact ih0 _ _ _ _ _ _)
      | (with_reducible exact qanatlaw02_head.mono _)
      | (with_reducible exact qanatref02_WordPos.mono _ _ _ _)
      | (with_reducible exact text_WordPos.mono _ _ _ _)
      | (with_reducible exact LeO.refl _)
      | (with_reducible exact LeO.none _)
      | (with_reducible refine LeO.ite ?_ ?_)
      | (with_reducible refine LeO.bind ?_ (fun _ => ?_))
      | exact ih0 _ _ _ _ _ _
      | exact qanatlaw02_head.mono _
      | exact qanatref02_WordPos.mono _ _ _ _
      | exact text_WordPos.mono _ _ _ _
      | exact LeO.none _
      | refine LeO.ite ?_ ?_
      | refine LeO.bind ?_ (fun _ => ?_)
set_option maxHeartbeats 8000000 in
set_option maxRecDepth 100000 in
theorem qanatlaw02_TextSpaces.calls (k : Nat) (a0 : ByteArray) (a1 : ByteArray) (a2 : Int) (a3 : Int) (r : Bool) (w : World) (hT : TabOK w) (h : qanatlaw02_TextSpaces.f k a0 a1 a2 a3 = some r) :
    Calls Tryz.prog 11 #[.string a0, .string a1, .int .i64 a2, .int .u8 a3] w fun e w' => e = .returned (.bool r) ∧ Below w.heap.size w w' := by
  have HB := Aside0.mk (Below.refl w.heap.size w)
  have H : ((qanatlaw02_head.f k).bind fun t807 => ((qanatlaw02_long.f a0).bind fun t808 => (if t808 = true then (qanatlaw02_TextSpaces.j0 k a0 a1 a2 a3 t807 true) else ((qanatlaw02_long.f a1).bind fun t809 => (qanatlaw02_TextSpaces.j0 k a0 a1 a2 a3 t807 t809))))) = some r := h
  clear h
  replace H := Option.bind_eq_some_iff.mp H
  obtain ⟨t807, A50, H⟩ := H
  replace H : ((qanatlaw02_long.f a0).bind fun t808 => (if t808 = true then (qanatlaw02_TextSpaces.j0 k a0 a1 a2 a3 t807 true) else ((qanatlaw02_long.f a1).bind fun t809 => (qanatlaw02_TextSpaces.j0 k a0 a1 a2 a3 t807 t809)))) = some r := H
  have A5 := Aside0.mk A50
  clear A50
  have HC6 := Aside0.mk H
  clear H
  go_enter Tryz.func11, Tryz.ntmps11
  go_upto_region 2 with (first | ((with_reducible refine gate_callee (f := 15) rfl ?_); refine goesL_ (some 14) rfl rfl Tryz.func15 (by kernel_rfl) rfl #[] rfl (by (try simp only [List.map_toArray, List.map_cons, List.map_nil]); first | done | rfl | (simp only [List.length_drop, List.length_take]; rfl)) ?_; (with_reducible refine (qanatlaw02_head.calls k  t807 _ (TabOK.of_below hT (by repeat (first | (with_reducible first | exact HB.out | apply below_alloc | apply pw_below_drewN | apply below_drew1) | exact HB.out))) A5.out).mono ?_); rintro e w7 ⟨rfl, hb⟩; refine ⟨_, rfl, ?_⟩; have n0_ := Aside0.mk (below_step (by repeat (first | (with_reducible first | exact HB.out | apply below_alloc | apply pw_below_drewN | apply below_drew1) | exact HB.out)) hb); clear HB; have HB := n0_; clear n0_; (try clear hb); (try clear hb2); (try clear hk); (try clear hi)))
  (try simp only [Act.put, List.setIfInBounds_toArray, List.set_cons_zero, List.set_cons_succ])
  go_cut [20] (fun v20 wc => ∃ (kq : Nat) (x20_5 : Bool), v20 = .bool x20_5 ∧ Aside0 (qanatlaw02_TextSpaces.j0 kq a0 a1 a2 a3 t807 x20_5 = some r) ∧ Aside0 (kq ≤ k) ∧ Aside0 (Below w.heap.size w wc))
  case first =>
    have H := HC6.out
    clear HC6
    replace H := Option.bind_eq_some_iff.mp H
    obtain ⟨t808, A80, H⟩ := H
    replace H : (if t808 = true then (qanatlaw02_TextSpaces.j0 k a0 a1 a2 a3 t807 true) else ((qanatlaw02_long.f a1).bind fun t809 => (qanatlaw02_TextSpaces.j0 k a0 a1 a2 a3 t807 t809))) = some r := H
    have A8 := Aside0.mk A80
    clear A80
    by_cases c9 : t808 = true
    · subst c9
      have H1 : (qanatlaw02_TextSpaces.j0 k a0 a1 a2 a3 t807 true) = some r := by rw [if_pos rfl] at H; exact H
      clear H
      have H := H1
      clear H1
      have H' := Aside0.mk H
      clear H
      go_wp2_with (first | ((with_reducible refine gate_callee (f := 16) rfl ?_); refine goesL_ (some 16) rfl rfl Tryz.func16 (by kernel_rfl) rfl #[.string a0] rfl (by (try simp only [List.map_toArray, List.map_cons, List.map_nil]); first | done | rfl | (simp only [List.length_drop, List.length_take]; rfl)) ?_; (with_reducible refine (qanatlaw02_long.calls a0 true _ A8.out).mono ?_); rintro e w' ⟨rfl, ⟨nd, rfl⟩⟩; refine ⟨_, rfl, ?_⟩))
      go_meet
      case rel => exact ⟨_, (true), (by first | rfl | (simp; done) | (simp [*]; done)), H', ⟨by first | omega | exact Nat.le_refl _⟩, ⟨by repeat (first | (with_reducible first | exact HB.out | apply below_alloc | apply pw_below_drewN | apply below_drew1) | exact HB.out)⟩⟩
    · replace c9 := Bool.eq_false_iff.mpr c9
      subst c9
      have H1 : ((qanatlaw02_long.f a1).bind fun t809 => (qanatlaw02_TextSpaces.j0 k a0 a1 a2 a3 t807 t809)) = some r := by rw [if_neg (show ¬ (false = true) by decide)] at H; exact H
      clear H
      have H := H1
      clear H1
      replace H := Option.bind_eq_some_iff.mp H
      obtain ⟨t809, A100, H⟩ := H
      replace H : (qanatlaw02_TextSpaces.j0 k a0 a1 a2 a3 t807 t809) = some r := H
      have A10 := Aside0.mk A100
      clear A100
      have H' := Aside0.mk H
      clear H
      go_wp2_with (first | ((with_reducible refine gate_callee (f := 16) rfl ?_); refine goesL_ (some 16) rfl rfl Tryz.func16 (by kernel_rfl) rfl #[.string a0] rfl (by (try simp only [List.map_toArray, List.map_cons, List.map_nil]); first | done | rfl | (simp only [List.length_drop, List.length_take]; rfl)) ?_; (with_reducible refine (qanatlaw02_long.calls a0 false _ A8.out).mono ?_); rintro e w' ⟨rfl, ⟨nd, rfl⟩⟩; refine ⟨_, rfl, ?_⟩) | (go_at_call 16; (with_reducible refine (qanatlaw02_long.calls a1 t809 _ A10.out).mono ?_); rintro e w' ⟨rfl, ⟨nd, rfl⟩⟩))
      go_meet
      case rel => exact ⟨_, (t809), (by first | rfl | (simp; done) | (simp [*]; done)), H', ⟨by first | omega | exact Nat.le_refl _⟩, ⟨by repeat (first | (with_reducible first | exact HB.out | apply below_alloc | apply pw_below_drewN | apply below_drew1) | exact HB.out)⟩⟩
  case rest =>
    clear HC6
    try clear c1
    try clear p2
    try clear c9
    obtain ⟨kq, x20_5, rfl, HA, HJ5, HB⟩ := hcut
    cases kq with
    | zero => exact absurd HA.out (by simp [qanatlaw02_TextSpaces.j0])
    | succ kj5 =>
      have H := HA.out
      clear HA
      simp only [qanatlaw02_TextSpaces.j0] at H
      by_cases c11 : x20_5 = true
      · subst c11
        have H1 : (some t807) = some r := by rw [if_pos rfl] at H; exact H
        clear H
        have H := H1
        clear H1
        obtain rfl := Option.some.inj H
        go_wp2
        go_ret
        exact ⟨by first | rfl | (simp [errW_none, errW_some] <;> rfl) | (simp [*, errW_none, errW_some] <;> rfl), by repeat (first | (with_reducible first | exact HB.out | apply below_alloc | apply pw_below_drewN | apply below_drew1) | exact HB.out)⟩
      · replace c11 := Bool.eq_false_iff.mpr c11
        subst c11
        have H1 : ((text_Space.f a1 a2 a3).bind fun bt810 => ((text_WordPos.f kj5 a0 a1 a2).bind fun bt812 => (if t807 = true then ((qanatref02_Space.f a1 a2 a3).bind fun bt814 => ((qanatlaw02_str.f bt810.1 bt810.2 bt814.1 bt814.2).bind fun t816 => (if t816 = true then ((qanatref02_WordPos.f kj5 a0 a1 a2).bind fun bt817 => ((qanatlaw02_num.f bt812.1 bt812.2 bt817.1 bt817.2).bind fun t819 => (some t819))) else (some false)))) else (some false)))) = some r := by rw [if_neg (show ¬ (false = true) by decide)] at H; exact H
        clear H
        have H := H1
        clear H1
        replace H := Option.bind_eq_some_iff.mp H
        obtain ⟨⟨t810, t811⟩, A120, H⟩ := H
        replace H : ((text_WordPos.f kj5 a0 a1 a2).bind fun bt812 => (if t807 = true then ((qanatref02_Space.f a1 a2 a3).bind fun bt814 => ((qanatlaw02_str.f t810 t811 bt814.1 bt814.2).bind fun t816 => (if t816 = true then ((qanatref02_WordPos.f kj5 a0 a1 a2).bind fun bt817 => ((qanatlaw02_num.f bt812.1 bt812.2 bt817.1 bt817.2).bind fun t819 => (some t819))) else (some false)))) else (some false))) = some r := H
        have A12 := Aside0.mk A120
        clear A120
        replace H := Option.bind_eq_some_iff.mp H
        obtain ⟨⟨t812, t813⟩, A130, H⟩ := H
        replace H : (if t807 = true then ((qanatref02_Space.f a1 a2 a3).bind fun bt814 => ((qanatlaw02_str.f t810 t811 bt814.1 bt814.2).bind fun t816 => (if t816 = true then ((qanatref02_WordPos.f kj5 a0 a1 a2).bind fun bt817 => ((qanatlaw02_num.f t812 t813 bt817.1 bt817.2).bind fun t819 => (some t819))) else (some false)))) else (some false)) = some r := H
        have A13 := Aside0.mk A130
        clear A130
        by_cases c14 : t807 = true
        · subst c14
          have H1 : ((qanatref02_Space.f a1 a2 a3).bind fun bt814 => ((qanatlaw02_str.f t810 t811 bt814.1 bt814.2).bind fun t816 => (if t816 = true then ((qanatref02_WordPos.f kj5 a0 a1 a2).bind fun bt817 => ((qanatlaw02_num.f t812 t813 bt817.1 bt817.2).bind fun t819 => (some t819))) else (some false)))) = some r := by rw [if_pos rfl] at H; exact H
          clear H
          have H := H1
          clear H1
          replace H := Option.bind_eq_some_iff.mp H
          obtain ⟨⟨t814, t815⟩, A150, H⟩ := H
          replace H : ((qanatlaw02_str.f t810 t811 t814 t815).bind fun t816 => (if t816 = true then ((qanatref02_WordPos.f kj5 a0 a1 a2).bind fun bt817 => ((qanatlaw02_num.f t812 t813 bt817.1 bt817.2).bind fun t819 => (some t819))) else (some false))) = some r := H
          have A15 := Aside0.mk A150
          clear A150
          replace H := Option.bind_eq_some_iff.mp H
          obtain ⟨t816, A160, H⟩ := H
          replace H : (if t816 = true then ((qanatref02_WordPos.f kj5 a0 a1 a2).bind fun bt817 => ((qanatlaw02_num.f t812 t813 bt817.1 bt817.2).bind fun t819 => (some t819))) else (some false)) = some r := H
          have A16 := Aside0.mk A160
          clear A160
          by_cases c17 : t816 = true
          · subst c17
            have H1 : ((qanatref02_WordPos.f kj5 a0 a1 a2).bind fun bt817 => ((qanatlaw02_num.f t812 t813 bt817.1 bt817.2).bind fun t819 => (some t819))) = some r := by rw [if_pos rfl] at H; exact H
            clear H
            have H := H1
            clear H1
            replace H := Option.bind_eq_some_iff.mp H
            obtain ⟨⟨t817, t818⟩, A180, H⟩ := H
            replace H : ((qanatlaw02_num.f t812 t813 t817 t818).bind fun t819 => (some t819)) = some r := H
            have A18 := Aside0.mk A180
            clear A180
            replace H := Option.bind_eq_some_iff.mp H
            obtain ⟨t819, A190, H⟩ := H
            replace H : (some t819) = some r := H
            have A19 := Aside0.mk A190
            clear A190
            obtain rfl := Option.some.inj H
            go_wp2_with (first | ((with_reducible refine gate_callee (f := 70) rfl ?_); refine goesL_ (some 26) rfl rfl Tryz.func70 (by kernel_rfl) rfl #[.string a1, .int .i64 a2, .int .u8 a3] rfl (by (try simp only [List.map_toArray, List.map_cons, List.map_nil]); first | done | rfl | (simp only [List.length_drop, List.length_take]; rfl)) ?_; (with_reducible refine (text_Space.calls a1 a2 a3 t810 t811 _ (TabOK.of_below hT (by repeat (first | (with_reducible first | exact HB.out | apply below_alloc | apply pw_below_drewN | apply below_drew1) | exact HB.out))) A12.out).mono ?_); rintro e w20 ⟨rfl, hb⟩; refine ⟨_, rfl, ?_⟩; have n0_ := Aside0.mk (below_step (by repeat (first | (with_reducible first | exact HB.out | apply below_alloc | apply pw_below_drewN | apply below_drew1) | exact HB.out)) hb); clear HB; have HB := n0_; clear n0_; (try clear hb); (try clear hb2); (try clear hk); (try clear hi)) | ((with_reducible refine gate_callee (f := 71) rfl ?_); refine goesL_ (some 33) rfl rfl Tryz.func71 (by kernel_rfl) rfl #[.string a0, .string a1, .int .i64 a2] rfl (by (try simp only [List.map_toArray, List.map_cons, List.map_nil]); first | done | rfl | (simp only [List.length_drop, List.length_take]; rfl)) ?_; (with_reducible refine (text_WordPos.calls kj5 a0 a1 a2 t812 t813 _ (TabOK.of_below hT (by repeat (first | (with_reducible first | exact HB.out | apply below_alloc | apply pw_below_drewN | apply below_drew1) | exact HB.out))) A13.out).mono ?_); rintro e w21 ⟨rfl, hb⟩; refine ⟨_, rfl, ?_⟩; have n0_ := Aside0.mk (below_step (by repeat (first | (with_reducible first | exact HB.out | apply below_alloc | apply pw_below_drewN | apply below_drew1) | exact HB.out)) hb); clear HB; have HB := n0_; clear n0_; (try clear hb); (try clear hb2); (try clear hk); (try clear hi)) | (go_at_call 72; (with_reducible refine (qanatref02_Space.calls a1 a2 a3 t814 t815 _ A15.out).mono ?_); rintro e w22 ⟨rfl, hb⟩; have n0_ := Aside0.mk (below_step (by repeat (first | (with_reducible first | exact HB.out | apply below_alloc | apply pw_below_drewN | apply below_drew1) | exact HB.out)) hb); clear HB; have HB := n0_; clear n0_; (try clear hb); (try clear hb2); (try clear hk); (try clear hi)) | (go_at_call 20; (with_reducible refine (qanatlaw02_str.calls t810 t811 t814 t815 true _ A16.out).mono ?_); rintro e w23 ⟨rfl, hb⟩; have n0_ := Aside0.mk (below_step (by repeat (first | (with_reducible first | exact HB.out | apply below_alloc | apply pw_below_drewN | apply below_drew1) | exact HB.out)) hb); clear HB; have HB := n0_; clear n0_; (try clear hb); (try clear hb2); (try clear hk); (try clear hi)) | (go_at_call 73; (with_reducible refine (qanatref02_WordPos.calls kj5 a0 a1 a2 t817 t818 _ A18.out).mono ?_); rintro e w24 ⟨rfl, hb⟩; have n0_ := Aside0.mk (below_step (by repeat (first | (with_reducible first | exact HB.out | apply below_alloc | apply pw_below_drewN | apply below_drew1) | exact HB.out)) hb); clear HB; have HB := n0_; clear n0_; (try clear hb); (try clear hb2); (try clear hk); (try clear hi)) | (go_at_call 34; (with_reducible refine (qanatlaw02_num.calls t812 t813 t817 t818 t819 _ A19.out).mono ?_); rintro e w25 ⟨rfl, hb⟩; have n0_ := Aside0.mk (below_step (by repeat (first | (with_reducible first | exact HB.out | apply below_alloc | apply pw_below_drewN | apply below_drew1) | exact HB.out)) hb); clear HB; have HB := n0_; clear n0_; (try clear hb); (try clear hb2); (try clear hk); (try clear hi)))
            go_ret
            exact ⟨by first | rfl | (simp [errW_none, errW_some] <;> rfl) | (simp [*, errW_none, errW_some] <;> rfl), by repeat (first | (with_reducible first | exact HB.out | apply below_alloc | apply pw_below_drewN | apply below_drew1) | exact HB.out)⟩
          · replace c17 := Bool.eq_false_iff.mpr c17
            subst c17
            have H1 : (some false) = some r := by rw [if_neg (show ¬ (false = true) by decide)] at H; exact H
            clear H
            have H := H1
            clear H1
            obtain rfl := Option.some.inj H
            go_wp2_with (first | ((with_reducible refine gate_callee (f := 70) rfl ?_); refine goesL_ (some 26) rfl rfl Tryz.func70 (by kernel_rfl) rfl #[.string a1, .int .i64 a2, .int .u8 a3] rfl (by (try simp only [List.map_toArray, List.map_cons, List.map_nil]); first | done | rfl | (simp only [List.length_drop, List.length_take]; rfl)) ?_; (with_reducible refine (text_Space.calls a1 a2 a3 t810 t811 _ (TabOK.of_below hT (by repeat (first | (with_reducible first | exact HB.out | apply below_alloc | apply pw_below_drewN | apply below_drew1) | exact HB.out))) A12.out).mono ?_); rintro e w26 ⟨rfl, hb⟩; refine ⟨_, rfl, ?_⟩; have n0_ := Aside0.mk (below_step (by repeat (first | (with_reducible first | exact HB.out | apply below_alloc | apply pw_below_drewN | apply below_drew1) | exact HB.out)) hb); clear HB; have HB := n0_; clear n0_; (try clear hb); (try clear hb2); (try clear hk); (try clear hi)) | ((with_reducible refine gate_callee (f := 71) rfl ?_); refine goesL_ (some 33) rfl rfl Tryz.func71 (by kernel_rfl) rfl #[.string a0, .string a1, .int .i64 a2] rfl (by (try simp only [List.map_toArray, List.map_cons, List.map_nil]); first | done | rfl | (simp only [List.length_drop, List.length_take]; rfl)) ?_; (with_reducible refine (text_WordPos.calls kj5 a0 a1 a2 t812 t813 _ (TabOK.of_below hT (by repeat (first | (with_reducible first | exact HB.out | apply below_alloc | apply pw_below_drewN | apply below_drew1) | exact HB.out))) A13.out).mono ?_); rintro e w27 ⟨rfl, hb⟩; refine ⟨_, rfl, ?_⟩; have n0_ := Aside0.mk (below_step (by repeat (first | (with_reducible first | exact HB.out | apply below_alloc | apply pw_below_drewN | apply below_drew1) | exact HB.out)) hb); clear HB; have HB := n0_; clear n0_; (try clear hb); (try clear hb2); (try clear hk); (try clear hi)) | (go_at_call 72; (with_reducible refine (qanatref02_Space.calls a1 a2 a3 t814 t815 _ A15.out).mono ?_); rintro e w28 ⟨rfl, hb⟩; have n0_ := Aside0.mk (below_step (by repeat (first | (with_reducible first | exact HB.out | apply below_alloc | apply pw_below_drewN | apply below_drew1) | exact HB.out)) hb); clear HB; have HB := n0_; clear n0_; (try clear hb); (try clear hb2); (try clear hk); (try clear hi)) | (go_at_call 20; (with_reducible refine (qanatlaw02_str.calls t810 t811 t814 t815 false _ A16.out).mono ?_); rintro e w29 ⟨rfl, hb⟩; have n0_ := Aside0.mk (below_step (by repeat (first | (with_reducible first | exact HB.out | apply below_alloc | apply pw_below_drewN | apply below_drew1) | exact HB.out)) hb); clear HB; have HB := n0_; clear n0_; (try clear hb); (try clear hb2); (try clear hk); (try clear hi)))
            go_ret
            exact ⟨by first | rfl | (simp [errW_none, errW_some] <;> rfl) | (simp [*, errW_none, errW_some] <;> rfl), by repeat (first | (with_reducible first | exact HB.out | apply below_alloc | apply pw_below_drewN | apply below_drew1) | exact HB.out)⟩
        · replace c14 := Bool.eq_false_iff.mpr c14
          subst c14
          have H1 : (some false) = some r := by rw [if_neg (show ¬ (false = true) by decide)] at H; exact H
          clear H
          have H := H1
          clear H1
          obtain rfl := Option.some.inj H
          go_wp2_with (first | ((with_reducible refine gate_callee (f := 70) rfl ?_); refine goesL_ (some 26) rfl rfl Tryz.func70 (by kernel_rfl) rfl #[.string a1, .int .i64 a2, .int .u8 a3] rfl (by (try simp only [List.map_toArray, List.map_cons, List.map_nil]); first | done | rfl | (simp only [List.length_drop, List.length_take]; rfl)) ?_; (with_reducible refine (text_Space.calls a1 a2 a3 t810 t811 _ (TabOK.of_below hT (by repeat (first | (with_reducible first | exact HB.out | apply below_alloc | apply pw_below_drewN | apply below_drew1) | exact HB.out))) A12.out).mono ?_); rintro e w30 ⟨rfl, hb⟩; refine ⟨_, rfl, ?_⟩; have n0_ := Aside0.mk (below_step (by repeat (first | (with_reducible first | exact HB.out | apply below_alloc | apply pw_below_drewN | apply below_drew1) | exact HB.out)) hb); clear HB; have HB := n0_; clear n0_; (try clear hb); (try clear hb2); (try clear hk); (try clear hi)) | ((with_reducible refine gate_callee (f := 71) rfl ?_); refine goesL_ (some 33) rfl rfl Tryz.func71 (by kernel_rfl) rfl #[.string a0, .string a1, .int .i64 a2] rfl (by (try simp only [List.map_toArray, List.map_cons, List.map_nil]); first | done | rfl | (simp only [List.length_drop, List.length_take]; rfl)) ?_; (with_reducible refine (text_WordPos.calls kj5 a0 a1 a2 t812 t813 _ (TabOK.of_below hT (by repeat (first | (with_reducible first | exact HB.out | apply below_alloc | apply pw_below_drewN | apply below_drew1) | exact HB.out))) A13.out).mono ?_); rintro e w31 ⟨rfl, hb⟩; refine ⟨_, rfl, ?_⟩; have n0_ := Aside0.mk (below_step (by repeat (first | (with_reducible first | exact HB.out | apply below_alloc | apply pw_below_drewN | apply below_drew1) | exact HB.out)) hb); clear HB; have HB := n0_; clear n0_; (try clear hb); (try clear hb2); (try clear hk); (try clear hi)))
          go_ret
          exact ⟨by first | rfl | (simp [errW_none, errW_some] <;> rfl) | (simp [*, errW_none, errW_some] <;> rfl), by repeat (first | (with_reducible first | exact HB.out | apply below_alloc | apply pw_below_drewN | apply below_drew1) | exact HB.out)⟩

/-- THE ONE PURE STATEMENT of qanatlaw02_TextSpaces: yours. -/
def qanatlaw02_TextSpaces.Pure : Prop := ∀ (a0 : ByteArray) (a1 : ByteArray) (a2 : Int) (a3 : Int), a0.size ≤ 140737488351232 → a1.size ≤ 140737488351232 → (Lit.int .i64 a2).wf = true → (Lit.int .u8 a3).wf = true → ∃ k, qanatlaw02_TextSpaces.f k a0 a1 a2 a3 = some true
theorem qanatlaw02_TextSpaces.walk (P : qanatlaw02_TextSpaces.Pure) (a0 : ByteArray) (a1 : ByteArray) (a2 : Int) (a3 : Int) (w : World) (hT : TabOK w) (w0 : a0.size ≤ 140737488351232) (w1 : a1.size ≤ 140737488351232) (w2 : (Lit.int .i64 a2).wf = true) (w3 : (Lit.int .u8 a3).wf = true) :
    Calls Tryz.prog 11 #[.string a0, .string a1, .int .i64 a2, .int .u8 a3] w fun e w' => e = .returned (.bool true) ∧ Below w.heap.size w w' := by
  obtain ⟨k, h⟩ := P a0 a1 a2 a3 w0 w1 w2 w3
  refine (qanatlaw02_TextSpaces.calls k a0 a1 a2 a3 true w hT h).mono ?_
  rintro e w' ⟨rfl, hd⟩
  exact ⟨rfl, hd⟩

end Go.Proofs.YtlekfhnlhdmekaaGreatDoor.T

/- The words of a list of bytes, parted by blanks: plain laws. -/
namespace Go.Proofs.YtlekfhnlhdmekaaGreatDoor.T
set_option linter.unusedSimpArgs false
set_option linter.unusedVariables false
open Go

/-- The words of l; what cur holds has been read of the first one. -/
def fw : List UInt8 → List UInt8 → List (List UInt8)
  | cur, [] => if cur = [] then [] else [cur]
  | cur, b :: t => if b = 32 then (if cur = [] then [] else [cur]) ++ fw [] t else fw (cur ++ [b]) t
theorem fw_blank (t : List UInt8) : fw [] (32 :: t) = fw [] t := by simp [fw]
theorem fw_sep : ∀ (u cur v : List UInt8), fw cur (u ++ 32 :: v) = fw cur u ++ fw [] v
  | [], cur, v => by simp [fw]
  | b :: u, cur, v => by
    simp only [List.cons_append, fw]
    by_cases h : b = 32
    · rw [if_pos h, if_pos h, fw_sep u [] v, List.append_assoc]
    · rw [if_neg h, if_neg h, fw_sep u _ v]
theorem fw_word : ∀ (u cur : List UInt8), (∀ b ∈ u, b ≠ 32) → fw cur u = if cur ++ u = [] then [] else [cur ++ u]
  | [], cur, _ => by simp [fw]
  | b :: u, cur, h => by
    simp only [fw]
    rw [if_neg (h b (List.mem_cons_self)), fw_word u _ (fun x hx => h x (List.mem_cons_of_mem _ hx))]
    simp
/-- v is empty or begins with a blank. -/
def Stops (v : List UInt8) : Prop := v = [] ∨ ∃ t, v = 32 :: t
/-- u is empty or ends with a blank. -/
def Starts (u : List UInt8) : Prop := u = [] ∨ ∃ t, u = t ++ [32]
theorem fw_stops (u v : List UInt8) (h : Stops v) : fw [] (u ++ v) = fw [] u ++ fw [] v := by
  rcases h with rfl | ⟨t, rfl⟩
  · simp [fw]
  · rw [fw_sep, fw_blank]
theorem fw_starts (u v : List UInt8) (h : Starts u) : fw [] (u ++ v) = fw [] u ++ fw [] v := by
  rcases h with rfl | ⟨t, rfl⟩
  · simp [fw]
  · have h1 : fw [] (t ++ [32]) = fw [] t := by rw [fw_sep]; simp [fw]
    rw [h1, List.append_assoc, List.singleton_append, fw_sep]
theorem fw_one (w v : List UInt8) (hw : w ≠ []) (h : ∀ b ∈ w, b ≠ 32) (hv : Stops v) : fw [] (w ++ v) = w :: fw [] v := by
  rw [fw_stops w v hv, fw_word w [] h]
  simp [hw]
theorem fw_mem : ∀ (u cur : List UInt8), (∀ b ∈ cur, b ≠ 32) → ∀ w ∈ fw cur u, w ≠ [] ∧ ∀ b ∈ w, b ≠ 32
  | [], cur, hc, w, hw => by
    simp only [fw] at hw
    split at hw
    · cases hw
    · rw [List.mem_singleton.1 hw]; exact ⟨by assumption, hc⟩
  | b :: u, cur, hc, w, hw => by
    simp only [fw] at hw
    split at hw
    · rcases List.mem_append.1 hw with hw | hw
      · split at hw
        · cases hw
        · rw [List.mem_singleton.1 hw]; exact ⟨by assumption, hc⟩
      · exact fw_mem u [] (fun _ h => by cases h) w hw
    · next hb => exact fw_mem u _ (fun x hx => by
        rcases List.mem_append.1 hx with hx | hx
        · exact hc x hx
        · rw [List.mem_singleton.1 hx]; exact hb) w hw
theorem fw_bytes : ∀ (u cur w : List UInt8), w ∈ fw cur u → ∀ b ∈ w, b ∈ cur ∨ b ∈ u
  | [], cur, w, hw, b, hb => by
    simp only [fw] at hw
    split at hw
    · cases hw
    · rw [List.mem_singleton.1 hw] at hb; exact .inl hb
  | x :: u, cur, w, hw, b, hb => by
    simp only [fw] at hw
    split at hw
    · rcases List.mem_append.1 hw with hw | hw
      · split at hw
        · cases hw
        · rw [List.mem_singleton.1 hw] at hb; exact .inl hb
      · rcases fw_bytes u [] w hw b hb with h | h
        · cases h
        · exact .inr (List.mem_cons_of_mem _ h)
    · rcases fw_bytes u _ w hw b hb with h | h
      · rcases List.mem_append.1 h with h | h
        · exact .inl h
        · rw [List.mem_singleton.1 h]; exact .inr List.mem_cons_self
      · exact .inr (List.mem_cons_of_mem _ h)
/-- Words, joined by blanks, are these words. -/
theorem fw_tail : ∀ (L : List (List UInt8)), (∀ w ∈ L, w ≠ [] ∧ ∀ b ∈ w, b ≠ 32) → fw [] (Lib.joinTail [32] L) = L ∧ Stops (Lib.joinTail [32] L)
  | [], _ => by simp [Lib.joinTail, fw, Stops]
  | w :: L, h => by
    have ih := fw_tail L (fun x hx => h x (List.mem_cons_of_mem _ hx))
    have hw := h w List.mem_cons_self
    have e : Lib.joinTail [32] (w :: L) = 32 :: (w ++ Lib.joinTail [32] L) := by simp [Lib.joinTail]
    rw [e, fw_blank, fw_one w _ hw.1 hw.2 ih.2, ih.1]
    exact ⟨rfl, .inr ⟨_, rfl⟩⟩
theorem fw_join (L : List (List UInt8)) (h : ∀ w ∈ L, w ≠ [] ∧ ∀ b ∈ w, b ≠ 32) : fw [] (Lib.join L [32]) = L := by
  cases L with
  | nil => simp [Lib.join_nil, fw]
  | cons w L =>
    have ih := fw_tail L (fun x hx => h x (List.mem_cons_of_mem _ hx))
    have hw := h w List.mem_cons_self
    rw [Lib.join_cons, fw_one w _ hw.1 hw.2 ih.2, ih.1]
/-- The words, each with one byte behind it, are not longer than the list with one byte more. -/
theorem fw_len : ∀ (u cur : List UInt8), Lib.lens (fw cur u) + (fw cur u).length ≤ cur.length + u.length + 1
  | [], cur => by
    simp only [fw]
    split
    · simp [Lib.lens]
    · simp [Lib.lens]
  | b :: u, cur => by
    simp only [fw]
    split
    · have ih := fw_len u []
      split
      · simp [Lib.lens] at ih ⊢; omega
      · simp [Lib.lens] at ih ⊢; omega
    · have ih := fw_len u (cur ++ [b])
      simp at ih ⊢; omega
theorem join_len (L : List (List UInt8)) : (Lib.join L [32]).length + 1 ≤ Lib.lens L + L.length ∨ L = [] := by
  cases L with
  | nil => exact .inr rfl
  | cons w L => left; rw [Lib.join_length]; simp; omega
theorem fw_join_len (u : List UInt8) : (Lib.join (fw [] u) [32]).length ≤ u.length := by
  have h := fw_len u []
  rcases join_len (fw [] u) with h1 | h1
  · simp at h; omega
  · rw [h1]; simp [Lib.join_nil]
theorem join_bytes (L : List (List UInt8)) (b : UInt8) (hb : b ∈ Lib.join L [32]) : b = 32 ∨ ∃ w ∈ L, b ∈ w := by
  have ht : ∀ (L : List (List UInt8)), b ∈ Lib.joinTail [32] L → b = 32 ∨ ∃ w ∈ L, b ∈ w := by
    intro L
    induction L with
    | nil => intro h; simp [Lib.joinTail] at h
    | cons w L ih =>
      intro h
      have e : Lib.joinTail [32] (w :: L) = 32 :: (w ++ Lib.joinTail [32] L) := by simp [Lib.joinTail]
      rw [e] at h
      rcases List.mem_cons.1 h with h | h
      · exact .inl h
      · rcases List.mem_append.1 h with h | h
        · exact .inr ⟨w, List.mem_cons_self, h⟩
        · rcases ih h with h | ⟨x, hx, h⟩
          · exact .inl h
          · exact .inr ⟨x, List.mem_cons_of_mem _ hx, h⟩
  cases L with
  | nil => simp [Lib.join_nil] at hb
  | cons w L =>
    rw [Lib.join_cons] at hb
    rcases List.mem_append.1 hb with h | h
    · exact .inr ⟨w, List.mem_cons_self, h⟩
    · rcases ht L h with h | ⟨x, hx, h⟩
      · exact .inl h
      · exact .inr ⟨x, List.mem_cons_of_mem _ hx, h⟩
theorem fw_trim : ∀ (u : List UInt8), fw [] (Lib.trimLeftB u 32) = fw [] u
  | [] => rfl
  | b :: u => by
    unfold Lib.trimLeftB
    rw [List.dropWhile_cons]
    by_cases h : b = 32
    · subst h
      rw [if_pos (by rfl), fw_blank]
      exact fw_trim u
    · rw [if_neg (by simpa using h)]
/-- On printable bytes it is the library's. -/
theorem fields_fw : ∀ (u cur : List UInt8), (∀ b ∈ u, 32 ≤ b.toNat ∧ b.toNat ≤ 126) → Lib.fieldsGo cur u = fw cur u
  | [], cur, _ => by
    simp only [Lib.fieldsGo, fw]
    cases cur <;> simp
  | b :: u, cur, h => by
    have hb := h b List.mem_cons_self
    have hu := fun x hx => h x (List.mem_cons_of_mem _ hx)
    simp only [Lib.fieldsGo, fw]
    by_cases e : b = 32
    · subst e
      rw [if_pos (by decide), if_pos rfl, fields_fw u [] hu]
      cases cur <;> simp
    · have hs : Lib.isSp b = false := by
        cases hs : Lib.isSp b with
        | false => rfl
        | true =>
          exfalso
          simp only [Lib.isSp, Bool.or_eq_true, beq_iff_eq] at hs
          rcases hs with ((((rfl | rfl) | rfl) | rfl) | rfl) | rfl <;> first | exact absurd hb.1 (by decide) | exact e rfl
      rw [hs, if_neg (by decide), if_neg e, fields_fw u _ hu]
theorem fieldsD_fw (u : List UInt8) (h : ∀ b ∈ u, 32 ≤ b.toNat ∧ b.toNat ≤ 126) : Lib.fieldsD u = fw [] u := by
  rw [Lib.fieldsD_ascii u (fun b hb => by have := h b hb; omega)]
  exact fields_fw u [] h
end Go.Proofs.YtlekfhnlhdmekaaGreatDoor.T

/- The examples that each law checks first are as they should be. And the reference's out is made. -/
namespace Go.Proofs.YtlekfhnlhdmekaaGreatDoor.T
set_option linter.unusedSimpArgs false
set_option linter.unusedVariables false
open Go.RowKit Go.Proofs.YtlekfhnlhdmekaaGreatDoorW.PrintWords Go.Proofs.YtlekfhnlhdmekaaGreatDoorW.PrintLast Go.Proofs.YtlekfhnlhdmekaaGreatDoorW.PrintMore
theorem head_60 : qanatlaw02_head.f 60 = some true := by kernel_rfl
theorem head_ok : ∀ d, qanatlaw02_head.f (60 + d) = some true
  | 0 => head_60
  | d + 1 => qanatlaw02_head.mono (60 + d) _ (head_ok d)
theorem strOfNums_size (L : List Int) : (strOfNums L).size = L.length := by
  rw [← data_length]
  simp [strOfNums]
theorem bytesOf_str (L : List Int) (h : ∀ x ∈ L, 0 ≤ x ∧ x < 256) : bytesOf (strOfNums L) = L := by
  unfold bytesOf strOfNums
  simp only [List.map_map]
  conv => rhs; rw [← List.map_id L]
  apply List.map_congr_left
  intro x hx
  obtain ⟨h0, h1⟩ := h x hx
  simp only [Function.comp_apply, id_eq, UInt8.toNat_ofNat']
  omega
theorem strOfNums_bytes (s : ByteArray) : strOfNums (bytesOf s) = s := by
  have e : ((bytesOf s).map fun n : Int => UInt8.ofNat n.toNat) = s.data.toList := by
    unfold bytesOf
    rw [List.map_map]
    conv => rhs; rw [← List.map_id s.data.toList]
    apply List.map_congr_left
    intro x hx
    simp
  unfold strOfNums
  rw [e]
theorem made_eq (s : ByteArray) : text_made.f s = some (if s.size > 1000 then (⟨#[]⟩, 3) else if vld s = true then (s, 0) else (⟨#[]⟩, 8)) := by
  unfold text_made.f text_Valid.f
  by_cases h : s.size > 1000
  · rw [if_pos (by omega), if_pos h]
  · rw [if_neg (by omega), if_neg h]
    simp only [Option.bind_some]
    split <;> rfl
theorem made_out (L : List Int) (h : ∀ x ∈ L, 0 ≤ x ∧ x < 256) : text_made.f (strOfNums L) = qanatref02_out.f L := by
  rw [made_eq, qanatref02_out.f, strOfNums_size]
  by_cases hl : L.length > 1000
  · rw [if_pos hl, if_pos hl]
  · rw [if_neg hl, if_neg hl]
    have e : vld (strOfNums L) = L.all goodI := by
      unfold vld
      rw [strOfNums_size, bytesOf_str L h, decide_eq_true (show L.length ≤ 1000 by omega), Bool.true_and]
    rw [e]
theorem u8_rng (z : Int) : 0 ≤ IntKind.u8.wrap z ∧ IntKind.u8.wrap z < 256 := by
  simp only [IntKind.wrap, IntKind.bits, IntKind.signed]
  simp
  omega
end Go.Proofs.YtlekfhnlhdmekaaGreatDoor.T

-- Written by a program of this session (mp.py over the kit's print.py), out of the translation.
namespace Go.Proofs.YtlekfhnlhdmekaaGreatDoor.T
set_option linter.unusedSimpArgs false
open Go.RowKit Go.Proofs.YtlekfhnlhdmekaaGreatDoorW.PrintWords Go.Proofs.YtlekfhnlhdmekaaGreatDoorW.PrintLast Go.Proofs.YtlekfhnlhdmekaaGreatDoorW.PrintMore
attribute [local go_sem] max2_int min2_int max_two min_two max_three min_three max_four min_four   -- for this text's walks alone
set_option linter.unusedVariables false
set_option linter.unusedSimpArgs false

/-! ### text_nth: function 107 -/
def text_nth.f (a0 : ByteArray) (a1 : Int) : Option (Int × Int × Int) := (text_valid.f (([a0] : List ByteArray))).bind fun t315 => ((text_least.f 1 (([a1] : List Int))).bind fun t319 => ((text_first.f (([t315, t319] : List Int))).bind fun t323 => (if t323 = 0 then ((text_words.f a0).bind fun t324 => (if a1 > (t324.length : Int) then (some (0, 0, 0)) else (if 0 ≤ (wrap64 (a1 - 1)) then (if (wrap64 (a1 - 1)) < (t324.length : Int) then (some ((rd_T105 t324 (wrap64 (a1 - 1))).f0, (rd_T105 t324 (wrap64 (a1 - 1))).f1, 0)) else (none)) else (none)))) else (some (0, 0, t323)))))
set_option maxHeartbeats 8000000 in
set_option maxRecDepth 100000 in
theorem text_nth.calls (a0 : ByteArray) (a1 : Int) (r1 : Int) (r2 : Int) (r3 : Int) (w : World) (h : text_nth.f a0 a1 = some (r1, r2, r3)) :
    Calls Tryz.prog 107 #[.string a0, .int .i64 a1] w fun e w' => e = .returned (.tuple #[.agg #[.int .i64 r1, .int .i64 r2], .int .i64 r3]) ∧ Below w.heap.size w w' := by
  have hu105 := Tryz.underlying105
  have HB := Aside0.mk (Below.refl w.heap.size w)
  have H : ((text_valid.f (([a0] : List ByteArray))).bind fun t315 => ((text_least.f 1 (([a1] : List Int))).bind fun t319 => ((text_first.f (([t315, t319] : List Int))).bind fun t323 => (if t323 = 0 then ((text_words.f a0).bind fun t324 => (if a1 > (t324.length : Int) then (some (0, 0, 0)) else (if 0 ≤ (wrap64 (a1 - 1)) then (if (wrap64 (a1 - 1)) < (t324.length : Int) then (some ((rd_T105 t324 (wrap64 (a1 - 1))).f0, (rd_T105 t324 (wrap64 (a1 - 1))).f1, 0)) else (none)) else (none)))) else (some (0, 0, t323)))))) = some (r1, r2, r3) := h
  clear h
  obtain ⟨y312, hy312⟩ : ∃ y_ : List ByteArray, y_ = (([a0] : List ByteArray)) := ⟨_, rfl⟩
  replace H : ((text_valid.f y312).bind fun t315 => ((text_least.f 1 (([a1] : List Int))).bind fun t319 => ((text_first.f (([t315, t319] : List Int))).bind fun t323 => (if t323 = 0 then ((text_words.f a0).bind fun t324 => (if a1 > (t324.length : Int) then (some (0, 0, 0)) else (if 0 ≤ (wrap64 (a1 - 1)) then (if (wrap64 (a1 - 1)) < (t324.length : Int) then (some ((rd_T105 t324 (wrap64 (a1 - 1))).f0, (rd_T105 t324 (wrap64 (a1 - 1))).f1, 0)) else (none)) else (none)))) else (some (0, 0, t323)))))) = some (r1, r2, r3) := by first | (rw [hy312]; with_reducible exact H) | (have H2_ := (Option.bind_some _ _).symm.trans H; rw [hy312]; with_reducible exact H2_) | (have H2_ := (Option.bind_some _ _).symm.trans H; with_reducible exact H2_) | with_reducible exact H | (rw [hy312]; exact H) | exact H
  have Ny312 := Aside0.mk hy312
  clear hy312
  replace H := Option.bind_eq_some_iff.mp H
  obtain ⟨t315, A30, H⟩ := H
  replace H : ((text_least.f 1 (([a1] : List Int))).bind fun t319 => ((text_first.f (([t315, t319] : List Int))).bind fun t323 => (if t323 = 0 then ((text_words.f a0).bind fun t324 => (if a1 > (t324.length : Int) then (some (0, 0, 0)) else (if 0 ≤ (wrap64 (a1 - 1)) then (if (wrap64 (a1 - 1)) < (t324.length : Int) then (some ((rd_T105 t324 (wrap64 (a1 - 1))).f0, (rd_T105 t324 (wrap64 (a1 - 1))).f1, 0)) else (none)) else (none)))) else (some (0, 0, t323))))) = some (r1, r2, r3) := H
  have A3 := Aside0.mk A30
  clear A30
  obtain ⟨y316, hy316⟩ : ∃ y_ : List Int, y_ = (([a1] : List Int)) := ⟨_, rfl⟩
  replace H : ((text_least.f 1 y316).bind fun t319 => ((text_first.f (([t315, t319] : List Int))).bind fun t323 => (if t323 = 0 then ((text_words.f a0).bind fun t324 => (if a1 > (t324.length : Int) then (some (0, 0, 0)) else (if 0 ≤ (wrap64 (a1 - 1)) then (if (wrap64 (a1 - 1)) < (t324.length : Int) then (some ((rd_T105 t324 (wrap64 (a1 - 1))).f0, (rd_T105 t324 (wrap64 (a1 - 1))).f1, 0)) else (none)) else (none)))) else (some (0, 0, t323))))) = some (r1, r2, r3) := by first | (rw [hy316]; with_reducible exact H) | (have H2_ := (Option.bind_some _ _).symm.trans H; rw [hy316]; with_reducible exact H2_) | (have H2_ := (Option.bind_some _ _).symm.trans H; with_reducible exact H2_) | with_reducible exact H | (rw [hy316]; exact H) | exact H
  have Ny316 := Aside0.mk hy316
  clear hy316
  replace H := Option.bind_eq_some_iff.mp H
  obtain ⟨t319, A40, H⟩ := H
  replace H : ((text_first.f (([t315, t319] : List Int))).bind fun t323 => (if t323 = 0 then ((text_words.f a0).bind fun t324 => (if a1 > (t324.length : Int) then (some (0, 0, 0)) else (if 0 ≤ (wrap64 (a1 - 1)) then (if (wrap64 (a1 - 1)) < (t324.length : Int) then (some ((rd_T105 t324 (wrap64 (a1 - 1))).f0, (rd_T105 t324 (wrap64 (a1 - 1))).f1, 0)) else (none)) else (none)))) else (some (0, 0, t323)))) = some (r1, r2, r3) := H
  have A4 := Aside0.mk A40
  clear A40
  obtain ⟨y320, hy320⟩ : ∃ y_ : List Int, y_ = (([t315, t319] : List Int)) := ⟨_, rfl⟩
  replace H : ((text_first.f y320).bind fun t323 => (if t323 = 0 then ((text_words.f a0).bind fun t324 => (if a1 > (t324.length : Int) then (some (0, 0, 0)) else (if 0 ≤ (wrap64 (a1 - 1)) then (if (wrap64 (a1 - 1)) < (t324.length : Int) then (some ((rd_T105 t324 (wrap64 (a1 - 1))).f0, (rd_T105 t324 (wrap64 (a1 - 1))).f1, 0)) else (none)) else (none)))) else (some (0, 0, t323)))) = some (r1, r2, r3) := by first | (rw [hy320]; with_reducible exact H) | (have H2_ := (Option.bind_some _ _).symm.trans H; rw [hy320]; with_reducible exact H2_) | (have H2_ := (Option.bind_some _ _).symm.trans H; with_reducible exact H2_) | with_reducible exact H | (rw [hy320]; exact H) | exact H
  have Ny320 := Aside0.mk hy320
  clear hy320
  replace H := Option.bind_eq_some_iff.mp H
  obtain ⟨t323, A50, H⟩ := H
  replace H : (if t323 = 0 then ((text_words.f a0).bind fun t324 => (if a1 > (t324.length : Int) then (some (0, 0, 0)) else (if 0 ≤ (wrap64 (a1 - 1)) then (if (wrap64 (a1 - 1)) < (t324.length : Int) then (some ((rd_T105 t324 (wrap64 (a1 - 1))).f0, (rd_T105 t324 (wrap64 (a1 - 1))).f1, 0)) else (none)) else (none)))) else (some (0, 0, t323))) = some (r1, r2, r3) := H
  have A5 := Aside0.mk A50
  clear A50
  by_cases c6 : t323 = 0
  · rw [if_pos c6] at H
    have c6b0 : (t323 == 0) = true := beq_iff_eq.mpr c6
    have c6b1 : (t323 != 0) = false := bne_eq_false_iff_eq.mpr c6
    clear c6
    replace H := Option.bind_eq_some_iff.mp H
    obtain ⟨t324, A70, H⟩ := H
    replace H : (if a1 > (t324.length : Int) then (some (0, 0, 0)) else (if 0 ≤ (wrap64 (a1 - 1)) then (if (wrap64 (a1 - 1)) < (t324.length : Int) then (some ((rd_T105 t324 (wrap64 (a1 - 1))).f0, (rd_T105 t324 (wrap64 (a1 - 1))).f1, 0)) else (none)) else (none))) = some (r1, r2, r3) := H
    have A7 := Aside0.mk A70
    clear A70
    by_cases c8 : a1 > (t324.length : Int)
    · rw [if_pos c8] at H
      have c8b0 : decide ((t324.length : Int) < a1) = true := decide_eq_true c8
      clear c8
      simp only [Option.some.injEq, Prod.mk.injEq] at H
      obtain ⟨rfl, rfl, rfl⟩ := H
      go_enter Tryz.func107, Tryz.ntmps107
      go_wp2_with (first | ((with_reducible refine gate_dst (N := 4) rfl ?_); refine box_event ?hg (N := 4) ?hd (cs := #[.int .i64 0, .int .i64 0]) (t := 105) ?hr ?_; (case hd => rfl); (case hg => rfl); (case hr => first | (go_simp; done) | (go_simp; rfl)); intro gb311 hg w9 hbox hb; have n0_ := Aside0.mk (below_step (by repeat (first | (with_reducible first | exact HB.out | apply below_alloc | apply pw_below_drewN | apply below_drew1) | exact HB.out)) hb); have n1_ := Aside0.mk (hbox); have n2_ := Aside0.mk ((by rw [hg]; exact (below_size (by repeat (first | (with_reducible first | exact HB.out | apply below_alloc | apply pw_below_drewN | apply below_drew1) | exact HB.out))) : w.heap.size ≤ gb311)); have n3_ := Aside0.mk ((by rw [hg]; exact (below_size (by repeat (first | (with_reducible first | exact HB.out | apply below_alloc | apply pw_below_drewN | apply below_drew1) | exact HB.out))) : w.heap.size ≤ gb311)); clear HB; have HB := n0_; have BK311 := n1_; have GW311 := n2_; have GE311 := n3_; clear n0_ n1_ n2_ n3_; clear hb hbox hg) | ((with_reducible refine gate_dst (N := 9) rfl ?_); refine Kd.R_lit Kd.string _ 9 ?hg (N := 9) ?hd (xs := ([a0] : List ByteArray)) (inner := [.string a0]) (ok := fun _ => True) (okp := fun _ => True) ?hr ?hp (fun _ hk => hk) trivial (Below.refl _ _) (Nat.le_refl _) (by simp) ?_; (case hd => rfl); (case hg => rfl); (case hr => first | (go_simp; done) | (go_simp; rfl)); (case hp => exact (Reps.one (show Kd.M Kd.string _ _ _ a0 [.string a0] from rfl) (Reps.none _ _))); intro v313 w10 ho11 hb hg_ hnew_; clear hg_ hnew_; (first | rw [← Ny312.out] at ho11 | (simp only [Int.reduceToNat] at ho11; rw [← Ny312.out] at ho11)); have n0_ := Aside0.mk (Kd.R_lower ho11 (below_size (by repeat (first | (with_reducible first | exact HB.out | apply below_alloc | apply pw_below_drewN | apply below_drew1 | refine below_set ?_ GE311.out) | exact HB.out)))); have n1_ := Aside0.mk (blk_below (g := gb311) (o := .cells #[.int .i64 0, .int .i64 0] 105 (0, 0)) (by (with_reducible repeat (first | refine blk_drewN ?_ _ | refine blk_drew ?_ | refine blk_alloc ?_ _)); exact BK311.out) hb); have n2_ := Aside0.mk (below_step (by repeat (first | (with_reducible first | exact HB.out | apply below_alloc | apply pw_below_drewN | apply below_drew1 | refine below_set ?_ GE311.out) | exact HB.out)) hb); clear BK311; clear HB; have HO314 := n0_; have BK311 := n1_; have HB := n2_; clear n0_ n1_ n2_; clear hb ho11; obtain ⟨Ao12, co12, eo12⟩ := Kd.R_slice HO314.out; subst eo12) | ((with_reducible refine gate_callee (f := 93) rfl ?_); refine goesL_ (some 10) rfl rfl Tryz.func93 (by kernel_rfl) rfl #[.slice Ao12 y312.length co12] rfl (by (try simp only [List.map_toArray, List.map_cons, List.map_nil]); first | done | rfl | (simp only [List.length_drop, List.length_take]; rfl)) ?_; (with_reducible refine (text_valid.calls _ _ y312 t315 _ ?side1 ?side2 A3.out).mono ?_); (case side1 => repeat (first | exact (Kd.R_reads' HO314.out).2.2 | (with_reducible refine Kd.C_alloc ?_ _) | (with_reducible refine Kd.C_drewN ?_ _) | (with_reducible refine Kd.C_drew ?_))); (case side2 => exact (Kd.R_reads' HO314.out).2.1); rintro e w13 ⟨rfl, hb⟩; refine ⟨_, rfl, ?_⟩; have n0_ := Aside0.mk (Kd.R_below (by (with_reducible repeat (first | apply Kd.R_alloc | apply Kd.R_drewN | apply Kd.R_drew)); exact HO314.out) hb); have n1_ := Aside0.mk (blk_below (g := gb311) (o := .cells #[.int .i64 0, .int .i64 0] 105 (0, 0)) (by (with_reducible repeat (first | refine blk_drewN ?_ _ | refine blk_drew ?_ | refine blk_alloc ?_ _)); exact BK311.out) hb); have n2_ := Aside0.mk (below_step (by repeat (first | (with_reducible first | exact HB.out | apply below_alloc | apply pw_below_drewN | apply below_drew1 | refine below_set ?_ GE311.out) | exact HB.out)) hb); clear HO314; clear BK311; clear HB; have HO314 := n0_; have BK311 := n1_; have HB := n2_; clear n0_ n1_ n2_; (try clear hb); (try clear hb2); (try clear hk); (try clear hi)) | ((with_reducible refine gate_dst (N := 12) rfl ?_); refine Kd.R_lit (Kd.int .i64) _ 3 ?hg (N := 12) ?hd (xs := ([a1] : List Int)) (inner := [.int .i64 a1]) (ok := fun _ => True) (okp := fun _ => True) ?hr ?hp (fun _ hk => hk) trivial (Below.refl _ _) (Nat.le_refl _) (by simp) ?_; (case hd => rfl); (case hg => rfl); (case hr => first | (go_simp; done) | (go_simp; rfl)); (case hp => exact (Reps.one (show Kd.M (Kd.int .i64) _ _ _ a1 [.int .i64 a1] from rfl) (Reps.none _ _))); intro v317 w14 ho15 hb hg_ hnew_; clear hg_ hnew_; (first | rw [← Ny316.out] at ho15 | (simp only [Int.reduceToNat] at ho15; rw [← Ny316.out] at ho15)); have n0_ := Aside0.mk (Kd.R_below (by (with_reducible repeat (first | apply Kd.R_alloc | apply Kd.R_drewN | apply Kd.R_drew)); exact HO314.out) hb); have n1_ := Aside0.mk (Kd.R_lower ho15 (below_size (by repeat (first | (with_reducible first | exact HB.out | apply below_alloc | apply pw_below_drewN | apply below_drew1 | refine below_set ?_ GE311.out) | exact HB.out)))); have n2_ := Aside0.mk (blk_below (g := gb311) (o := .cells #[.int .i64 0, .int .i64 0] 105 (0, 0)) (by (with_reducible repeat (first | refine blk_drewN ?_ _ | refine blk_drew ?_ | refine blk_alloc ?_ _)); exact BK311.out) hb); have n3_ := Aside0.mk (below_step (by repeat (first | (with_reducible first | exact HB.out | apply below_alloc | apply pw_below_drewN | apply below_drew1 | refine below_set ?_ GE311.out) | exact HB.out)) hb); clear HO314; clear BK311; clear HB; have HO314 := n0_; have HO318 := n1_; have BK311 := n2_; have HB := n3_; clear n0_ n1_ n2_ n3_; clear hb ho15; obtain ⟨Ao16, co16, eo16⟩ := Kd.R_slice HO318.out; subst eo16) | ((with_reducible refine gate_callee (f := 100) rfl ?_); refine goesL_ (some 13) rfl rfl Tryz.func100 (by kernel_rfl) rfl #[.int .i64 1, .slice Ao16 y316.length co16] rfl (by (try simp only [List.map_toArray, List.map_cons, List.map_nil]); first | done | rfl | (simp only [List.length_drop, List.length_take]; rfl)) ?_; (with_reducible refine (text_least.calls 1 _ _ y316 t319 _ ?side1 ?side2 A4.out).mono ?_); (case side1 => repeat (first | exact (Kd.R_reads' HO318.out).2.2 | (with_reducible refine Kd.C_alloc ?_ _) | (with_reducible refine Kd.C_drewN ?_ _) | (with_reducible refine Kd.C_drew ?_))); (case side2 => exact (Kd.R_reads' HO318.out).2.1); rintro e w17 ⟨rfl, hb⟩; refine ⟨_, rfl, ?_⟩; have n0_ := Aside0.mk (Kd.R_below (by (with_reducible repeat (first | apply Kd.R_alloc | apply Kd.R_drewN | apply Kd.R_drew)); exact HO314.out) hb); have n1_ := Aside0.mk (Kd.R_below (by (with_reducible repeat (first | apply Kd.R_alloc | apply Kd.R_drewN | apply Kd.R_drew)); exact HO318.out) hb); have n2_ := Aside0.mk (blk_below (g := gb311) (o := .cells #[.int .i64 0, .int .i64 0] 105 (0, 0)) (by (with_reducible repeat (first | refine blk_drewN ?_ _ | refine blk_drew ?_ | refine blk_alloc ?_ _)); exact BK311.out) hb); have n3_ := Aside0.mk (below_step (by repeat (first | (with_reducible first | exact HB.out | apply below_alloc | apply pw_below_drewN | apply below_drew1 | refine below_set ?_ GE311.out) | exact HB.out)) hb); clear HO314; clear HO318; clear BK311; clear HB; have HO314 := n0_; have HO318 := n1_; have BK311 := n2_; have HB := n3_; clear n0_ n1_ n2_ n3_; (try clear hb); (try clear hb2); (try clear hk); (try clear hi)) | ((with_reducible refine gate_dst (N := 14) rfl ?_); refine Kd.R_lit (Kd.int .i64) _ 24 ?hg (N := 14) ?hd (xs := ([t315, t319] : List Int)) (inner := [.int .i64 t315, .int .i64 t319]) (ok := fun _ => True) (okp := fun _ => True) ?hr ?hp (fun _ hk => hk) trivial (Below.refl _ _) (Nat.le_refl _) (by simp) ?_; (case hd => rfl); (case hg => rfl); (case hr => first | (go_simp; done) | (go_simp; rfl)); (case hp => exact (Reps.one (show Kd.M (Kd.int .i64) _ _ _ t315 [.int .i64 t315] from rfl) (Reps.one (show Kd.M (Kd.int .i64) _ _ _ t319 [.int .i64 t319] from rfl) (Reps.none _ _)))); intro v321 w18 ho19 hb hg_ hnew_; clear hg_ hnew_; (first | rw [← Ny320.out] at ho19 | (simp only [Int.reduceToNat] at ho19; rw [← Ny320.out] at ho19)); have n0_ := Aside0.mk (Kd.R_below (by (with_reducible repeat (first | apply Kd.R_alloc | apply Kd.R_drewN | apply Kd.R_drew)); exact HO314.out) hb); have n1_ := Aside0.mk (Kd.R_below (by (with_reducible repeat (first | apply Kd.R_alloc | apply Kd.R_drewN | apply Kd.R_drew)); exact HO318.out) hb); have n2_ := Aside0.mk (Kd.R_lower ho19 (below_size (by repeat (first | (with_reducible first | exact HB.out | apply below_alloc | apply pw_below_drewN | apply below_drew1 | refine below_set ?_ GE311.out) | exact HB.out)))); have n3_ := Aside0.mk (blk_below (g := gb311) (o := .cells #[.int .i64 0, .int .i64 0] 105 (0, 0)) (by (with_reducible repeat (first | refine blk_drewN ?_ _ | refine blk_drew ?_ | refine blk_alloc ?_ _)); exact BK311.out) hb); have n4_ := Aside0.mk (below_step (by repeat (first | (with_reducible first | exact HB.out | apply below_alloc | apply pw_below_drewN | apply below_drew1 | refine below_set ?_ GE311.out) | exact HB.out)) hb); clear HO314; clear HO318; clear BK311; clear HB; have HO314 := n0_; have HO318 := n1_; have HO322 := n2_; have BK311 := n3_; have HB := n4_; clear n0_ n1_ n2_ n3_ n4_; clear hb ho19; obtain ⟨Ao20, co20, eo20⟩ := Kd.R_slice HO322.out; subst eo20) | ((with_reducible refine gate_callee (f := 92) rfl ?_); refine goesL_ (some 15) rfl rfl Tryz.func92 (by kernel_rfl) rfl #[.slice Ao20 y320.length co20] rfl (by (try simp only [List.map_toArray, List.map_cons, List.map_nil]); first | done | rfl | (simp only [List.length_drop, List.length_take]; rfl)) ?_; (with_reducible refine (text_first.calls _ _ y320 t323 _ ?side1 ?side2 A5.out).mono ?_); (case side1 => repeat (first | exact (Kd.R_reads' HO322.out).2.2 | (with_reducible refine Kd.C_alloc ?_ _) | (with_reducible refine Kd.C_drewN ?_ _) | (with_reducible refine Kd.C_drew ?_))); (case side2 => exact (Kd.R_reads' HO322.out).2.1); rintro e w21 ⟨rfl, hb⟩; refine ⟨_, rfl, ?_⟩; have n0_ := Aside0.mk (Kd.R_below (by (with_reducible repeat (first | apply Kd.R_alloc | apply Kd.R_drewN | apply Kd.R_drew)); exact HO314.out) hb); have n1_ := Aside0.mk (Kd.R_below (by (with_reducible repeat (first | apply Kd.R_alloc | apply Kd.R_drewN | apply Kd.R_drew)); exact HO318.out) hb); have n2_ := Aside0.mk (Kd.R_below (by (with_reducible repeat (first | apply Kd.R_alloc | apply Kd.R_drewN | apply Kd.R_drew)); exact HO322.out) hb); have n3_ := Aside0.mk (blk_below (g := gb311) (o := .cells #[.int .i64 0, .int .i64 0] 105 (0, 0)) (by (with_reducible repeat (first | refine blk_drewN ?_ _ | refine blk_drew ?_ | refine blk_alloc ?_ _)); exact BK311.out) hb); have n4_ := Aside0.mk (below_step (by repeat (first | (with_reducible first | exact HB.out | apply below_alloc | apply pw_below_drewN | apply below_drew1 | refine below_set ?_ GE311.out) | exact HB.out)) hb); clear HO314; clear HO318; clear HO322; clear BK311; clear HB; have HO314 := n0_; have HO318 := n1_; have HO322 := n2_; have BK311 := n3_; have HB := n4_; clear n0_ n1_ n2_ n3_ n4_; (try clear hb); (try clear hb2); (try clear hk); (try clear hi)) | ((with_reducible refine gate_callee (f := 106) rfl ?_); refine goesL_ (some 21) rfl rfl Tryz.func106 (by kernel_rfl) rfl #[.string a0] rfl (by (try simp only [List.map_toArray, List.map_cons, List.map_nil]); first | done | rfl | (simp only [List.length_drop, List.length_take]; rfl)) ?_; (with_reducible refine (text_words.calls a0 t324 _ A7.out).mono ?_); rintro e w22 ⟨v325, rfl, ho0, hb⟩; refine ⟨_, rfl, ?_⟩; have n0_ := Aside0.mk (Kd.R_below (by (with_reducible repeat (first | apply Kd.R_alloc | apply Kd.R_drewN | apply Kd.R_drew)); exact HO314.out) hb); have n1_ := Aside0.mk (Kd.R_below (by (with_reducible repeat (first | apply Kd.R_alloc | apply Kd.R_drewN | apply Kd.R_drew)); exact HO318.out) hb); have n2_ := Aside0.mk (Kd.R_below (by (with_reducible repeat (first | apply Kd.R_alloc | apply Kd.R_drewN | apply Kd.R_drew)); exact HO322.out) hb); have n3_ := Aside0.mk (Kd.R_lower (Kd.R_newB ho0 (g := gb311) (o := .cells #[.int .i64 0, .int .i64 0] 105 (0, 0)) (by (with_reducible repeat (first | refine blk_drewN ?_ _ | refine blk_drew ?_ | refine blk_alloc ?_ _)); exact BK311.out)) (below_size (by repeat (first | (with_reducible first | exact HB.out | apply below_alloc | apply pw_below_drewN | apply below_drew1 | refine below_set ?_ GE311.out) | exact HB.out)))); have n4_ := Aside0.mk (blk_below (g := gb311) (o := .cells #[.int .i64 0, .int .i64 0] 105 (0, 0)) (by (with_reducible repeat (first | refine blk_drewN ?_ _ | refine blk_drew ?_ | refine blk_alloc ?_ _)); exact BK311.out) hb); have n5_ := Aside0.mk (below_step (by repeat (first | (with_reducible first | exact HB.out | apply below_alloc | apply pw_below_drewN | apply below_drew1 | refine below_set ?_ GE311.out) | exact HB.out)) hb); clear HO314; clear HO318; clear HO322; clear BK311; clear HB; have HO314 := n0_; have HO318 := n1_; have HO322 := n2_; have HO326 := n3_; have BK311 := n4_; have HB := n5_; clear n0_ n1_ n2_ n3_ n4_ n5_; (try clear hb); (try clear hb2); (try clear hk); (try clear hi); (try clear ho0); obtain ⟨Ao23, co23, eo23⟩ := Kd.R_slice HO326.out; subst eo23; have hcz24_0 : w22.cell? ⟨gb311, 0, none⟩ = some (.int .i64 0) := (blk_cell BK311.out 0).trans rfl; have hcz24_1 : w22.cell? ⟨gb311, 1, none⟩ = some (.int .i64 0) := (blk_cell BK311.out 1).trans rfl; have hfz24_0 := blk_frozen BK311.out 0; have hfz24_1 := blk_frozen BK311.out 1))
      refine bodyPost_ret (results_ct rfl _ _ gb311 105 #[.int .i64 0, .int .i64 0] (0, 0) _ rfl (by (with_reducible repeat (first | refine blk_drewN ?_ _ | refine blk_drew ?_ | refine blk_alloc ?_ _)); refine blk_put (cs := #[.int .i64 0, .int .i64 0]) ?_ 1 _ rfl; (with_reducible repeat (first | refine blk_drewN ?_ _ | refine blk_drew ?_ | refine blk_alloc ?_ _)); refine blk_put (cs := #[.int .i64 0, .int .i64 0]) ?_ 0 _ rfl; (with_reducible repeat (first | refine blk_drewN ?_ _ | refine blk_drew ?_ | refine blk_alloc ?_ _)); exact BK311.out) Tryz.underlying105 rfl (by kernel_rfl)) rfl ?_
      exact ⟨by first | rfl | (simp [errW_none, errW_some] <;> rfl) | (simp [*, errW_none, errW_some] <;> rfl), by repeat (first | (with_reducible first | exact HB.out | apply below_alloc | apply pw_below_drewN | apply below_drew1 | refine below_set ?_ GE311.out) | exact HB.out)⟩
    · rw [if_neg c8] at H
      have c8b0 : decide ((t324.length : Int) < a1) = false := decide_eq_false c8
      clear c8
      obtain ⟨ji25, hji25⟩ : ∃ j_ : Int, (wrap64 (a1 - 1)) = j_ := ⟨_, rfl⟩
      replace H : (if 0 ≤ (ji25) then (if (ji25) < (t324.length : Int) then (some ((rd_T105 t324 (ji25)).f0, (rd_T105 t324 (ji25)).f1, 0)) else (none)) else (none)) = some (r1, r2, r3) := by first | (rw [hji25] at H; exact H) | (simp only [hji25] at H ⊢; exact H)
      (try rw [hji25] at A3)
      (try rw [hji25] at A4)
      (try rw [hji25] at A5)
      (try rw [hji25] at A7)
      have hji25w : (IntKind.i64.wrap (a1 - 1)) = ji25 := (i64_w _).trans hji25
      by_cases c26 : 0 ≤ (ji25)
      · rw [if_pos c26] at H
        have c26b0 : decide (0 ≤ (ji25)) = true := decide_eq_true c26
        clear c26
        by_cases c27 : (ji25) < (t324.length : Int)
        · rw [if_pos c27] at H
          have c27b0 : decide ((ji25) < (t324.length : Int)) = true := decide_eq_true c27
          clear c27
          simp only [Option.some.injEq, Prod.mk.injEq] at H
          obtain ⟨rfl, rfl, rfl⟩ := H
          go_enter Tryz.func107, Tryz.ntmps107
          go_wp2_with (first | ((with_reducible refine gate_dst (N := 4) rfl ?_); refine box_event ?hg (N := 4) ?hd (cs := #[.int .i64 0, .int .i64 0]) (t := 105) ?hr ?_; (case hd => rfl); (case hg => rfl); (case hr => first | (go_simp; done) | (go_simp; rfl)); intro gb311 hg w28 hbox hb; have n0_ := Aside0.mk (below_step (by repeat (first | (with_reducible first | exact HB.out | apply below_alloc | apply pw_below_drewN | apply below_drew1) | exact HB.out)) hb); have n1_ := Aside0.mk (hbox); have n2_ := Aside0.mk ((by rw [hg]; exact (below_size (by repeat (first | (with_reducible first | exact HB.out | apply below_alloc | apply pw_below_drewN | apply below_drew1) | exact HB.out))) : w.heap.size ≤ gb311)); have n3_ := Aside0.mk ((by rw [hg]; exact (below_size (by repeat (first | (with_reducible first | exact HB.out | apply below_alloc | apply pw_below_drewN | apply below_drew1) | exact HB.out))) : w.heap.size ≤ gb311)); clear HB; have HB := n0_; have BK311 := n1_; have GW311 := n2_; have GE311 := n3_; clear n0_ n1_ n2_ n3_; clear hb hbox hg) | ((with_reducible refine gate_dst (N := 9) rfl ?_); refine Kd.R_lit Kd.string _ 9 ?hg (N := 9) ?hd (xs := ([a0] : List ByteArray)) (inner := [.string a0]) (ok := fun _ => True) (okp := fun _ => True) ?hr ?hp (fun _ hk => hk) trivial (Below.refl _ _) (Nat.le_refl _) (by simp) ?_; (case hd => rfl); (case hg => rfl); (case hr => first | (go_simp; done) | (go_simp; rfl)); (case hp => exact (Reps.one (show Kd.M Kd.string _ _ _ a0 [.string a0] from rfl) (Reps.none _ _))); intro v313 w29 ho30 hb hg_ hnew_; clear hg_ hnew_; (first | rw [← Ny312.out] at ho30 | (simp only [Int.reduceToNat] at ho30; rw [← Ny312.out] at ho30)); have n0_ := Aside0.mk (Kd.R_lower ho30 (below_size (by repeat (first | (with_reducible first | exact HB.out | apply below_alloc | apply pw_below_drewN | apply below_drew1 | refine below_set ?_ GE311.out) | exact HB.out)))); have n1_ := Aside0.mk (blk_below (g := gb311) (o := .cells #[.int .i64 0, .int .i64 0] 105 (0, 0)) (by (with_reducible repeat (first | refine blk_drewN ?_ _ | refine blk_drew ?_ | refine blk_alloc ?_ _)); exact BK311.out) hb); have n2_ := Aside0.mk (below_step (by repeat (first | (with_reducible first | exact HB.out | apply below_alloc | apply pw_below_drewN | apply below_drew1 | refine below_set ?_ GE311.out) | exact HB.out)) hb); clear BK311; clear HB; have HO314 := n0_; have BK311 := n1_; have HB := n2_; clear n0_ n1_ n2_; clear hb ho30; obtain ⟨Ao31, co31, eo31⟩ := Kd.R_slice HO314.out; subst eo31) | ((with_reducible refine gate_callee (f := 93) rfl ?_); refine goesL_ (some 10) rfl rfl Tryz.func93 (by kernel_rfl) rfl #[.slice Ao31 y312.length co31] rfl (by (try simp only [List.map_toArray, List.map_cons, List.map_nil]); first | done | rfl | (simp only [List.length_drop, List.length_take]; rfl)) ?_; (with_reducible refine (text_valid.calls _ _ y312 t315 _ ?side1 ?side2 A3.out).mono ?_); (case side1 => repeat (first | exact (Kd.R_reads' HO314.out).2.2 | (with_reducible refine Kd.C_alloc ?_ _) | (with_reducible refine Kd.C_drewN ?_ _) | (with_reducible refine Kd.C_drew ?_))); (case side2 => exact (Kd.R_reads' HO314.out).2.1); rintro e w32 ⟨rfl, hb⟩; refine ⟨_, rfl, ?_⟩; have n0_ := Aside0.mk (Kd.R_below (by (with_reducible repeat (first | apply Kd.R_alloc | apply Kd.R_drewN | apply Kd.R_drew)); exact HO314.out) hb); have n1_ := Aside0.mk (blk_below (g := gb311) (o := .cells #[.int .i64 0, .int .i64 0] 105 (0, 0)) (by (with_reducible repeat (first | refine blk_drewN ?_ _ | refine blk_drew ?_ | refine blk_alloc ?_ _)); exact BK311.out) hb); have n2_ := Aside0.mk (below_step (by repeat (first | (with_reducible first | exact HB.out | apply below_alloc | apply pw_below_drewN | apply below_drew1 | refine below_set ?_ GE311.out) | exact HB.out)) hb); clear HO314; clear BK311; clear HB; have HO314 := n0_; have BK311 := n1_; have HB := n2_; clear n0_ n1_ n2_; (try clear hb); (try clear hb2); (try clear hk); (try clear hi)) | ((with_reducible refine gate_dst (N := 12) rfl ?_); refine Kd.R_lit (Kd.int .i64) _ 3 ?hg (N := 12) ?hd (xs := ([a1] : List Int)) (inner := [.int .i64 a1]) (ok := fun _ => True) (okp := fun _ => True) ?hr ?hp (fun _ hk => hk) trivial (Below.refl _ _) (Nat.le_refl _) (by simp) ?_; (case hd => rfl); (case hg => rfl); (case hr => first | (go_simp; done) | (go_simp; rfl)); (case hp => exact (Reps.one (show Kd.M (Kd.int .i64) _ _ _ a1 [.int .i64 a1] from rfl) (Reps.none _ _))); intro v317 w33 ho34 hb hg_ hnew_; clear hg_ hnew_; (first | rw [← Ny316.out] at ho34 | (simp only [Int.reduceToNat] at ho34; rw [← Ny316.out] at ho34)); have n0_ := Aside0.mk (Kd.R_below (by (with_reducible repeat (first | apply Kd.R_alloc | apply Kd.R_drewN | apply Kd.R_drew)); exact HO314.out) hb); have n1_ := Aside0.mk (Kd.R_lower ho34 (below_size (by repeat (first | (with_reducible first | exact HB.out | apply below_alloc | apply pw_below_drewN | apply below_drew1 | refine below_set ?_ GE311.out) | exact HB.out)))); have n2_ := Aside0.mk (blk_below (g := gb311) (o := .cells #[.int .i64 0, .int .i64 0] 105 (0, 0)) (by (with_reducible repeat (first | refine blk_drewN ?_ _ | refine blk_drew ?_ | refine blk_alloc ?_ _)); exact BK311.out) hb); have n3_ := Aside0.mk (below_step (by repeat (first | (with_reducible first | exact HB.out | apply below_alloc | apply pw_below_drewN | apply below_drew1 | refine below_set ?_ GE311.out) | exact HB.out)) hb); clear HO314; clear BK311; clear HB; have HO314 := n0_; have HO318 := n1_; have BK311 := n2_; have HB := n3_; clear n0_ n1_ n2_ n3_; clear hb ho34; obtain ⟨Ao35, co35, eo35⟩ := Kd.R_slice HO318.out; subst eo35) | ((with_reducible refine gate_callee (f := 100) rfl ?_); refine goesL_ (some 13) rfl rfl Tryz.func100 (by kernel_rfl) rfl #[.int .i64 1, .slice Ao35 y316.length co35] rfl (by (try simp only [List.map_toArray, List.map_cons, List.map_nil]); first | done | rfl | (simp only [List.length_drop, List.length_take]; rfl)) ?_; (with_reducible refine (text_least.calls 1 _ _ y316 t319 _ ?side1 ?side2 A4.out).mono ?_); (case side1 => repeat (first | exact (Kd.R_reads' HO318.out).2.2 | (with_reducible refine Kd.C_alloc ?_ _) | (with_reducible refine Kd.C_drewN ?_ _) | (with_reducible refine Kd.C_drew ?_))); (case side2 => exact (Kd.R_reads' HO318.out).2.1); rintro e w36 ⟨rfl, hb⟩; refine ⟨_, rfl, ?_⟩; have n0_ := Aside0.mk (Kd.R_below (by (with_reducible repeat (first | apply Kd.R_alloc | apply Kd.R_drewN | apply Kd.R_drew)); exact HO314.out) hb); have n1_ := Aside0.mk (Kd.R_below (by (with_reducible repeat (first | apply Kd.R_alloc | apply Kd.R_drewN | apply Kd.R_drew)); exact HO318.out) hb); have n2_ := Aside0.mk (blk_below (g := gb311) (o := .cells #[.int .i64 0, .int .i64 0] 105 (0, 0)) (by (with_reducible repeat (first | refine blk_drewN ?_ _ | refine blk_drew ?_ | refine blk_alloc ?_ _)); exact BK311.out) hb); have n3_ := Aside0.mk (below_step (by repeat (first | (with_reducible first | exact HB.out | apply below_alloc | apply pw_below_drewN | apply below_drew1 | refine below_set ?_ GE311.out) | exact HB.out)) hb); clear HO314; clear HO318; clear BK311; clear HB; have HO314 := n0_; have HO318 := n1_; have BK311 := n2_; have HB := n3_; clear n0_ n1_ n2_ n3_; (try clear hb); (try clear hb2); (try clear hk); (try clear hi)) | ((with_reducible refine gate_dst (N := 14) rfl ?_); refine Kd.R_lit (Kd.int .i64) _ 24 ?hg (N := 14) ?hd (xs := ([t315, t319] : List Int)) (inner := [.int .i64 t315, .int .i64 t319]) (ok := fun _ => True) (okp := fun _ => True) ?hr ?hp (fun _ hk => hk) trivial (Below.refl _ _) (Nat.le_refl _) (by simp) ?_; (case hd => rfl); (case hg => rfl); (case hr => first | (go_simp; done) | (go_simp; rfl)); (case hp => exact (Reps.one (show Kd.M (Kd.int .i64) _ _ _ t315 [.int .i64 t315] from rfl) (Reps.one (show Kd.M (Kd.int .i64) _ _ _ t319 [.int .i64 t319] from rfl) (Reps.none _ _)))); intro v321 w37 ho38 hb hg_ hnew_; clear hg_ hnew_; (first | rw [← Ny320.out] at ho38 | (simp only [Int.reduceToNat] at ho38; rw [← Ny320.out] at ho38)); have n0_ := Aside0.mk (Kd.R_below (by (with_reducible repeat (first | apply Kd.R_alloc | apply Kd.R_drewN | apply Kd.R_drew)); exact HO314.out) hb); have n1_ := Aside0.mk (Kd.R_below (by (with_reducible repeat (first | apply Kd.R_alloc | apply Kd.R_drewN | apply Kd.R_drew)); exact HO318.out) hb); have n2_ := Aside0.mk (Kd.R_lower ho38 (below_size (by repeat (first | (with_reducible first | exact HB.out | apply below_alloc | apply pw_below_drewN | apply below_drew1 | refine below_set ?_ GE311.out) | exact HB.out)))); have n3_ := Aside0.mk (blk_below (g := gb311) (o := .cells #[.int .i64 0, .int .i64 0] 105 (0, 0)) (by (with_reducible repeat (first | refine blk_drewN ?_ _ | refine blk_drew ?_ | refine blk_alloc ?_ _)); exact BK311.out) hb); have n4_ := Aside0.mk (below_step (by repeat (first | (with_reducible first | exact HB.out | apply below_alloc | apply pw_below_drewN | apply below_drew1 | refine below_set ?_ GE311.out) | exact HB.out)) hb); clear HO314; clear HO318; clear BK311; clear HB; have HO314 := n0_; have HO318 := n1_; have HO322 := n2_; have BK311 := n3_; have HB := n4_; clear n0_ n1_ n2_ n3_ n4_; clear hb ho38; obtain ⟨Ao39, co39, eo39⟩ := Kd.R_slice HO322.out; subst eo39) | ((with_reducible refine gate_callee (f := 92) rfl ?_); refine goesL_ (some 15) rfl rfl Tryz.func92 (by kernel_rfl) rfl #[.slice Ao39 y320.length co39] rfl (by (try simp only [List.map_toArray, List.map_cons, List.map_nil]); first | done | rfl | (simp only [List.length_drop, List.length_take]; rfl)) ?_; (with_reducible refine (text_first.calls _ _ y320 t323 _ ?side1 ?side2 A5.out).mono ?_); (case side1 => repeat (first | exact (Kd.R_reads' HO322.out).2.2 | (with_reducible refine Kd.C_alloc ?_ _) | (with_reducible refine Kd.C_drewN ?_ _) | (with_reducible refine Kd.C_drew ?_))); (case side2 => exact (Kd.R_reads' HO322.out).2.1); rintro e w40 ⟨rfl, hb⟩; refine ⟨_, rfl, ?_⟩; have n0_ := Aside0.mk (Kd.R_below (by (with_reducible repeat (first | apply Kd.R_alloc | apply Kd.R_drewN | apply Kd.R_drew)); exact HO314.out) hb); have n1_ := Aside0.mk (Kd.R_below (by (with_reducible repeat (first | apply Kd.R_alloc | apply Kd.R_drewN | apply Kd.R_drew)); exact HO318.out) hb); have n2_ := Aside0.mk (Kd.R_below (by (with_reducible repeat (first | apply Kd.R_alloc | apply Kd.R_drewN | apply Kd.R_drew)); exact HO322.out) hb); have n3_ := Aside0.mk (blk_below (g := gb311) (o := .cells #[.int .i64 0, .int .i64 0] 105 (0, 0)) (by (with_reducible repeat (first | refine blk_drewN ?_ _ | refine blk_drew ?_ | refine blk_alloc ?_ _)); exact BK311.out) hb); have n4_ := Aside0.mk (below_step (by repeat (first | (with_reducible first | exact HB.out | apply below_alloc | apply pw_below_drewN | apply below_drew1 | refine below_set ?_ GE311.out) | exact HB.out)) hb); clear HO314; clear HO318; clear HO322; clear BK311; clear HB; have HO314 := n0_; have HO318 := n1_; have HO322 := n2_; have BK311 := n3_; have HB := n4_; clear n0_ n1_ n2_ n3_ n4_; (try clear hb); (try clear hb2); (try clear hk); (try clear hi)) | ((with_reducible refine gate_callee (f := 106) rfl ?_); refine goesL_ (some 21) rfl rfl Tryz.func106 (by kernel_rfl) rfl #[.string a0] rfl (by (try simp only [List.map_toArray, List.map_cons, List.map_nil]); first | done | rfl | (simp only [List.length_drop, List.length_take]; rfl)) ?_; (with_reducible refine (text_words.calls a0 t324 _ A7.out).mono ?_); rintro e w41 ⟨v325, rfl, ho0, hb⟩; refine ⟨_, rfl, ?_⟩; have n0_ := Aside0.mk (Kd.R_below (by (with_reducible repeat (first | apply Kd.R_alloc | apply Kd.R_drewN | apply Kd.R_drew)); exact HO314.out) hb); have n1_ := Aside0.mk (Kd.R_below (by (with_reducible repeat (first | apply Kd.R_alloc | apply Kd.R_drewN | apply Kd.R_drew)); exact HO318.out) hb); have n2_ := Aside0.mk (Kd.R_below (by (with_reducible repeat (first | apply Kd.R_alloc | apply Kd.R_drewN | apply Kd.R_drew)); exact HO322.out) hb); have n3_ := Aside0.mk (Kd.R_lower (Kd.R_newB ho0 (g := gb311) (o := .cells #[.int .i64 0, .int .i64 0] 105 (0, 0)) (by (with_reducible repeat (first | refine blk_drewN ?_ _ | refine blk_drew ?_ | refine blk_alloc ?_ _)); exact BK311.out)) (below_size (by repeat (first | (with_reducible first | exact HB.out | apply below_alloc | apply pw_below_drewN | apply below_drew1 | refine below_set ?_ GE311.out) | exact HB.out)))); have n4_ := Aside0.mk (blk_below (g := gb311) (o := .cells #[.int .i64 0, .int .i64 0] 105 (0, 0)) (by (with_reducible repeat (first | refine blk_drewN ?_ _ | refine blk_drew ?_ | refine blk_alloc ?_ _)); exact BK311.out) hb); have n5_ := Aside0.mk (below_step (by repeat (first | (with_reducible first | exact HB.out | apply below_alloc | apply pw_below_drewN | apply below_drew1 | refine below_set ?_ GE311.out) | exact HB.out)) hb); clear HO314; clear HO318; clear HO322; clear BK311; clear HB; have HO314 := n0_; have HO318 := n1_; have HO322 := n2_; have HO326 := n3_; have BK311 := n4_; have HB := n5_; clear n0_ n1_ n2_ n3_ n4_ n5_; (try clear hb); (try clear hb2); (try clear hk); (try clear hi); (try clear ho0); obtain ⟨Ao42, co42, eo42⟩ := Kd.R_slice HO326.out; subst eo42; have p327 : 0 ≤ ((ji25) : Int) := of_decide_eq_true (by first | (with_reducible assumption) | assumption); have q327 : (ji25) < (t324.length : Int) := of_decide_eq_true (by first | (with_reducible assumption) | assumption); obtain ⟨ad327, e327, hx327_0, hx327_1⟩ := at_T105 (Kd.R_reads' HO326.out).2.2 (ji25) p327 q327; cases e327; replace p327 := eq_true p327; replace q327 := eq_true q327; have hcz43_0 : w41.cell? ⟨gb311, 0, none⟩ = some (.int .i64 0) := (blk_cell BK311.out 0).trans rfl; have hcz43_1 : w41.cell? ⟨gb311, 1, none⟩ = some (.int .i64 0) := (blk_cell BK311.out 1).trans rfl; have hfz43_0 := blk_frozen BK311.out 0; have hfz43_1 := blk_frozen BK311.out 1))
          refine bodyPost_ret (results_ct rfl _ _ gb311 105 #[.int .i64 ((rd_T105 t324 (ji25)).f0), .int .i64 ((rd_T105 t324 (ji25)).f1)] (0, 0) _ rfl (by (with_reducible repeat (first | refine blk_drewN ?_ _ | refine blk_drew ?_ | refine blk_alloc ?_ _)); refine blk_put (cs := #[.int .i64 ((rd_T105 t324 (ji25)).f0), .int .i64 0]) ?_ 1 _ rfl; (with_reducible repeat (first | refine blk_drewN ?_ _ | refine blk_drew ?_ | refine blk_alloc ?_ _)); refine blk_put (cs := #[.int .i64 0, .int .i64 0]) ?_ 0 _ rfl; (with_reducible repeat (first | refine blk_drewN ?_ _ | refine blk_drew ?_ | refine blk_alloc ?_ _)); exact BK311.out) Tryz.underlying105 rfl (by kernel_rfl)) rfl ?_
          exact ⟨by first | rfl | (simp [errW_none, errW_some] <;> rfl) | (simp only [← hji25]; first | rfl | (simp [errW_none, errW_some] <;> rfl)) | (simp [*, errW_none, errW_some] <;> rfl), by repeat (first | (with_reducible first | exact HB.out | apply below_alloc | apply pw_below_drewN | apply below_drew1 | refine below_set ?_ GE311.out) | exact HB.out)⟩
        · rw [if_neg c27] at H
          exact absurd H (by simp)
      · rw [if_neg c26] at H
        exact absurd H (by simp)
  · rw [if_neg c6] at H
    have c6b0 : (t323 == 0) = false := beq_eq_false_iff_ne.mpr c6
    have c6b1 : (t323 != 0) = true := bne_iff_ne.mpr c6
    simp only [Option.some.injEq, Prod.mk.injEq] at H
    obtain ⟨rfl, rfl, rfl⟩ := H
    go_enter Tryz.func107, Tryz.ntmps107
    go_wp2_with (first | ((with_reducible refine gate_dst (N := 4) rfl ?_); refine box_event ?hg (N := 4) ?hd (cs := #[.int .i64 0, .int .i64 0]) (t := 105) ?hr ?_; (case hd => rfl); (case hg => rfl); (case hr => first | (go_simp; done) | (go_simp; rfl)); intro gb311 hg w44 hbox hb; have n0_ := Aside0.mk (below_step (by repeat (first | (with_reducible first | exact HB.out | apply below_alloc | apply pw_below_drewN | apply below_drew1) | exact HB.out)) hb); have n1_ := Aside0.mk (hbox); have n2_ := Aside0.mk ((by rw [hg]; exact (below_size (by repeat (first | (with_reducible first | exact HB.out | apply below_alloc | apply pw_below_drewN | apply below_drew1) | exact HB.out))) : w.heap.size ≤ gb311)); have n3_ := Aside0.mk ((by rw [hg]; exact (below_size (by repeat (first | (with_reducible first | exact HB.out | apply below_alloc | apply pw_below_drewN | apply below_drew1) | exact HB.out))) : w.heap.size ≤ gb311)); clear HB; have HB := n0_; have BK311 := n1_; have GW311 := n2_; have GE311 := n3_; clear n0_ n1_ n2_ n3_; clear hb hbox hg) | ((with_reducible refine gate_dst (N := 9) rfl ?_); refine Kd.R_lit Kd.string _ 9 ?hg (N := 9) ?hd (xs := ([a0] : List ByteArray)) (inner := [.string a0]) (ok := fun _ => True) (okp := fun _ => True) ?hr ?hp (fun _ hk => hk) trivial (Below.refl _ _) (Nat.le_refl _) (by simp) ?_; (case hd => rfl); (case hg => rfl); (case hr => first | (go_simp; done) | (go_simp; rfl)); (case hp => exact (Reps.one (show Kd.M Kd.string _ _ _ a0 [.string a0] from rfl) (Reps.none _ _))); intro v313 w45 ho46 hb hg_ hnew_; clear hg_ hnew_; (first | rw [← Ny312.out] at ho46 | (simp only [Int.reduceToNat] at ho46; rw [← Ny312.out] at ho46)); have n0_ := Aside0.mk (Kd.R_lower ho46 (below_size (by repeat (first | (with_reducible first | exact HB.out | apply below_alloc | apply pw_below_drewN | apply below_drew1 | refine below_set ?_ GE311.out) | exact HB.out)))); have n1_ := Aside0.mk (blk_below (g := gb311) (o := .cells #[.int .i64 0, .int .i64 0] 105 (0, 0)) (by (with_reducible repeat (first | refine blk_drewN ?_ _ | refine blk_drew ?_ | refine blk_alloc ?_ _)); exact BK311.out) hb); have n2_ := Aside0.mk (below_step (by repeat (first | (with_reducible first | exact HB.out | apply below_alloc | apply pw_below_drewN | apply below_drew1 | refine below_set ?_ GE311.out) | exact HB.out)) hb); clear BK311; clear HB; have HO314 := n0_; have BK311 := n1_; have HB := n2_; clear n0_ n1_ n2_; clear hb ho46; obtain ⟨Ao47, co47, eo47⟩ := Kd.R_slice HO314.out; subst eo47) | ((with_reducible refine gate_callee (f := 93) rfl ?_); refine goesL_ (some 10) rfl rfl Tryz.func93 (by kernel_rfl) rfl #[.slice Ao47 y312.length co47] rfl (by (try simp only [List.map_toArray, List.map_cons, List.map_nil]); first | done | rfl | (simp only [List.length_drop, List.length_take]; rfl)) ?_; (with_reducible refine (text_valid.calls _ _ y312 t315 _ ?side1 ?side2 A3.out).mono ?_); (case side1 => repeat (first | exact (Kd.R_reads' HO314.out).2.2 | (with_reducible refine Kd.C_alloc ?_ _) | (with_reducible refine Kd.C_drewN ?_ _) | (with_reducible refine Kd.C_drew ?_))); (case side2 => exact (Kd.R_reads' HO314.out).2.1); rintro e w48 ⟨rfl, hb⟩; refine ⟨_, rfl, ?_⟩; have n0_ := Aside0.mk (Kd.R_below (by (with_reducible repeat (first | apply Kd.R_alloc | apply Kd.R_drewN | apply Kd.R_drew)); exact HO314.out) hb); have n1_ := Aside0.mk (blk_below (g := gb311) (o := .cells #[.int .i64 0, .int .i64 0] 105 (0, 0)) (by (with_reducible repeat (first | refine blk_drewN ?_ _ | refine blk_drew ?_ | refine blk_alloc ?_ _)); exact BK311.out) hb); have n2_ := Aside0.mk (below_step (by repeat (first | (with_reducible first | exact HB.out | apply below_alloc | apply pw_below_drewN | apply below_drew1 | refine below_set ?_ GE311.out) | exact HB.out)) hb); clear HO314; clear BK311; clear HB; have HO314 := n0_; have BK311 := n1_; have HB := n2_; clear n0_ n1_ n2_; (try clear hb); (try clear hb2); (try clear hk); (try clear hi)) | ((with_reducible refine gate_dst (N := 12) rfl ?_); refine Kd.R_lit (Kd.int .i64) _ 3 ?hg (N := 12) ?hd (xs := ([a1] : List Int)) (inner := [.int .i64 a1]) (ok := fun _ => True) (okp := fun _ => True) ?hr ?hp (fun _ hk => hk) trivial (Below.refl _ _) (Nat.le_refl _) (by simp) ?_; (case hd => rfl); (case hg => rfl); (case hr => first | (go_simp; done) | (go_simp; rfl)); (case hp => exact (Reps.one (show Kd.M (Kd.int .i64) _ _ _ a1 [.int .i64 a1] from rfl) (Reps.none _ _))); intro v317 w49 ho50 hb hg_ hnew_; clear hg_ hnew_; (first | rw [← Ny316.out] at ho50 | (simp only [Int.reduceToNat] at ho50; rw [← Ny316.out] at ho50)); have n0_ := Aside0.mk (Kd.R_below (by (with_reducible repeat (first | apply Kd.R_alloc | apply Kd.R_drewN | apply Kd.R_drew)); exact HO314.out) hb); have n1_ := Aside0.mk (Kd.R_lower ho50 (below_size (by repeat (first | (with_reducible first | exact HB.out | apply below_alloc | apply pw_below_drewN | apply below_drew1 | refine below_set ?_ GE311.out) | exact HB.out)))); have n2_ := Aside0.mk (blk_below (g := gb311) (o := .cells #[.int .i64 0, .int .i64 0] 105 (0, 0)) (by (with_reducible repeat (first | refine blk_drewN ?_ _ | refine blk_drew ?_ | refine blk_alloc ?_ _)); exact BK311.out) hb); have n3_ := Aside0.mk (below_step (by repeat (first | (with_reducible first | exact HB.out | apply below_alloc | apply pw_below_drewN | apply below_drew1 | refine below_set ?_ GE311.out) | exact HB.out)) hb); clear HO314; clear BK311; clear HB; have HO314 := n0_; have HO318 := n1_; have BK311 := n2_; have HB := n3_; clear n0_ n1_ n2_ n3_; clear hb ho50; obtain ⟨Ao51, co51, eo51⟩ := Kd.R_slice HO318.out; subst eo51) | ((with_reducible refine gate_callee (f := 100) rfl ?_); refine goesL_ (some 13) rfl rfl Tryz.func100 (by kernel_rfl) rfl #[.int .i64 1, .slice Ao51 y316.length co51] rfl (by (try simp only [List.map_toArray, List.map_cons, List.map_nil]); first | done | rfl | (simp only [List.length_drop, List.length_take]; rfl)) ?_; (with_reducible refine (text_least.calls 1 _ _ y316 t319 _ ?side1 ?side2 A4.out).mono ?_); (case side1 => repeat (first | exact (Kd.R_reads' HO318.out).2.2 | (with_reducible refine Kd.C_alloc ?_ _) | (with_reducible refine Kd.C_drewN ?_ _) | (with_reducible refine Kd.C_drew ?_))); (case side2 => exact (Kd.R_reads' HO318.out).2.1); rintro e w52 ⟨rfl, hb⟩; refine ⟨_, rfl, ?_⟩; have n0_ := Aside0.mk (Kd.R_below (by (with_reducible repeat (first | apply Kd.R_alloc | apply Kd.R_drewN | apply Kd.R_drew)); exact HO314.out) hb); have n1_ := Aside0.mk (Kd.R_below (by (with_reducible repeat (first | apply Kd.R_alloc | apply Kd.R_drewN | apply Kd.R_drew)); exact HO318.out) hb); have n2_ := Aside0.mk (blk_below (g := gb311) (o := .cells #[.int .i64 0, .int .i64 0] 105 (0, 0)) (by (with_reducible repeat (first | refine blk_drewN ?_ _ | refine blk_drew ?_ | refine blk_alloc ?_ _)); exact BK311.out) hb); have n3_ := Aside0.mk (below_step (by repeat (first | (with_reducible first | exact HB.out | apply below_alloc | apply pw_below_drewN | apply below_drew1 | refine below_set ?_ GE311.out) | exact HB.out)) hb); clear HO314; clear HO318; clear BK311; clear HB; have HO314 := n0_; have HO318 := n1_; have BK311 := n2_; have HB := n3_; clear n0_ n1_ n2_ n3_; (try clear hb); (try clear hb2); (try clear hk); (try clear hi)) | ((with_reducible refine gate_dst (N := 14) rfl ?_); refine Kd.R_lit (Kd.int .i64) _ 24 ?hg (N := 14) ?hd (xs := ([t315, t319] : List Int)) (inner := [.int .i64 t315, .int .i64 t319]) (ok := fun _ => True) (okp := fun _ => True) ?hr ?hp (fun _ hk => hk) trivial (Below.refl _ _) (Nat.le_refl _) (by simp) ?_; (case hd => rfl); (case hg => rfl); (case hr => first | (go_simp; done) | (go_simp; rfl)); (case hp => exact (Reps.one (show Kd.M (Kd.int .i64) _ _ _ t315 [.int .i64 t315] from rfl) (Reps.one (show Kd.M (Kd.int .i64) _ _ _ t319 [.int .i64 t319] from rfl) (Reps.none _ _)))); intro v321 w53 ho54 hb hg_ hnew_; clear hg_ hnew_; (first | rw [← Ny320.out] at ho54 | (simp only [Int.reduceToNat] at ho54; rw [← Ny320.out] at ho54)); have n0_ := Aside0.mk (Kd.R_below (by (with_reducible repeat (first | apply Kd.R_alloc | apply Kd.R_drewN | apply Kd.R_drew)); exact HO314.out) hb); have n1_ := Aside0.mk (Kd.R_below (by (with_reducible repeat (first | apply Kd.R_alloc | apply Kd.R_drewN | apply Kd.R_drew)); exact HO318.out) hb); have n2_ := Aside0.mk (Kd.R_lower ho54 (below_size (by repeat (first | (with_reducible first | exact HB.out | apply below_alloc | apply pw_below_drewN | apply below_drew1 | refine below_set ?_ GE311.out) | exact HB.out)))); have n3_ := Aside0.mk (blk_below (g := gb311) (o := .cells #[.int .i64 0, .int .i64 0] 105 (0, 0)) (by (with_reducible repeat (first | refine blk_drewN ?_ _ | refine blk_drew ?_ | refine blk_alloc ?_ _)); exact BK311.out) hb); have n4_ := Aside0.mk (below_step (by repeat (first | (with_reducible first | exact HB.out | apply below_alloc | apply pw_below_drewN | apply below_drew1 | refine below_set ?_ GE311.out) | exact HB.out)) hb); clear HO314; clear HO318; clear BK311; clear HB; have HO314 := n0_; have HO318 := n1_; have HO322 := n2_; have BK311 := n3_; have HB := n4_; clear n0_ n1_ n2_ n3_ n4_; clear hb ho54; obtain ⟨Ao55, co55, eo55⟩ := Kd.R_slice HO322.out; subst eo55) | ((with_reducible refine gate_callee (f := 92) rfl ?_); refine goesL_ (some 15) rfl rfl Tryz.func92 (by kernel_rfl) rfl #[.slice Ao55 y320.length co55] rfl (by (try simp only [List.map_toArray, List.map_cons, List.map_nil]); first | done | rfl | (simp only [List.length_drop, List.length_take]; rfl)) ?_; (with_reducible refine (text_first.calls _ _ y320 t323 _ ?side1 ?side2 A5.out).mono ?_); (case side1 => repeat (first | exact (Kd.R_reads' HO322.out).2.2 | (with_reducible refine Kd.C_alloc ?_ _) | (with_reducible refine Kd.C_drewN ?_ _) | (with_reducible refine Kd.C_drew ?_))); (case side2 => exact (Kd.R_reads' HO322.out).2.1); rintro e w56 ⟨rfl, hb⟩; refine ⟨_, rfl, ?_⟩; have n0_ := Aside0.mk (Kd.R_below (by (with_reducible repeat (first | apply Kd.R_alloc | apply Kd.R_drewN | apply Kd.R_drew)); exact HO314.out) hb); have n1_ := Aside0.mk (Kd.R_below (by (with_reducible repeat (first | apply Kd.R_alloc | apply Kd.R_drewN | apply Kd.R_drew)); exact HO318.out) hb); have n2_ := Aside0.mk (Kd.R_below (by (with_reducible repeat (first | apply Kd.R_alloc | apply Kd.R_drewN | apply Kd.R_drew)); exact HO322.out) hb); have n3_ := Aside0.mk (blk_below (g := gb311) (o := .cells #[.int .i64 0, .int .i64 0] 105 (0, 0)) (by (with_reducible repeat (first | refine blk_drewN ?_ _ | refine blk_drew ?_ | refine blk_alloc ?_ _)); exact BK311.out) hb); have n4_ := Aside0.mk (below_step (by repeat (first | (with_reducible first | exact HB.out | apply below_alloc | apply pw_below_drewN | apply below_drew1 | refine below_set ?_ GE311.out) | exact HB.out)) hb); clear HO314; clear HO318; clear HO322; clear BK311; clear HB; have HO314 := n0_; have HO318 := n1_; have HO322 := n2_; have BK311 := n3_; have HB := n4_; clear n0_ n1_ n2_ n3_ n4_; (try clear hb); (try clear hb2); (try clear hk); (try clear hi); have hcz57_0 : w56.cell? ⟨gb311, 0, none⟩ = some (.int .i64 0) := (blk_cell BK311.out 0).trans rfl; have hcz57_1 : w56.cell? ⟨gb311, 1, none⟩ = some (.int .i64 0) := (blk_cell BK311.out 1).trans rfl; have hfz57_0 := blk_frozen BK311.out 0; have hfz57_1 := blk_frozen BK311.out 1))
    refine bodyPost_ret (results_ct rfl _ _ gb311 105 #[.int .i64 0, .int .i64 0] (0, 0) _ rfl (by (with_reducible repeat (first | refine blk_drewN ?_ _ | refine blk_drew ?_ | refine blk_alloc ?_ _)); refine blk_put (cs := #[.int .i64 0, .int .i64 0]) ?_ 1 _ rfl; (with_reducible repeat (first | refine blk_drewN ?_ _ | refine blk_drew ?_ | refine blk_alloc ?_ _)); refine blk_put (cs := #[.int .i64 0, .int .i64 0]) ?_ 0 _ rfl; (with_reducible repeat (first | refine blk_drewN ?_ _ | refine blk_drew ?_ | refine blk_alloc ?_ _)); exact BK311.out) Tryz.underlying105 rfl (by kernel_rfl)) rfl ?_
    exact ⟨by first | rfl | (simp [errW_none, errW_some] <;> rfl) | (simp [*, errW_none, errW_some] <;> rfl), by repeat (first | (with_reducible first | exact HB.out | apply below_alloc | apply pw_below_drewN | apply below_drew1 | refine below_set ?_ GE311.out) | exact HB.out)⟩

end Go.Proofs.YtlekfhnlhdmekaaGreatDoor.T

/- Where the words of a string stand: what the program and the reference find, and plain laws. -/
namespace Go.Proofs.YtlekfhnlhdmekaaGreatDoor.T
set_option linter.unusedSimpArgs false
set_option linter.unusedVariables false
open Go.RowKit Go.Proofs.YtlekfhnlhdmekaaGreatDoorW.PrintWords Go.Proofs.YtlekfhnlhdmekaaGreatDoorW.PrintLast Go.Proofs.YtlekfhnlhdmekaaGreatDoorW.PrintMore

def cv (x : S105) : S113 := ⟨x.f0, x.f1⟩
theorem wds_end (s : ByteArray) (i : Nat) (h : ¬ i < s.size) : wds s i = [] := by rw [wds, dif_neg h]
theorem wds_blank (s : ByteArray) (i : Nat) (h : i < s.size) (hb : bt s (i : Int) = 32) : wds s i = wds s (i + 1) := by rw [wds, dif_pos h, dif_pos hb]
theorem wds_word (s : ByteArray) (i : Nat) (h : i < s.size) (hb : bt s (i : Int) ≠ 32) : wds s i = ⟨(i : Int), (wend s i : Int)⟩ :: wds s (wend s i) := by rw [wds, dif_pos h, dif_neg hb]
theorem wend_stop (s : ByteArray) (i : Nat) (h : ¬ (i < s.size ∧ bt s (i : Int) ≠ 32)) : wend s i = i := by
  rw [wend]
  by_cases hi : i < s.size
  · rw [dif_pos hi, if_pos (Classical.byContradiction fun hb => h ⟨hi, hb⟩)]
  · rw [dif_neg hi]
theorem wend_next (s : ByteArray) (i : Nat) (h : i < s.size) (hb : bt s (i : Int) ≠ 32) : wend s i = wend s (i + 1) := by rw [wend, dif_pos h, if_neg hb]

theorem spans_ind (s : ByteArray) (hs : s.size ≤ 1200) : ∀ (d i : Nat), i ≤ s.size → s.size - i = d →
    (∀ (k : Nat) (L : List S113), 3 * d + 2 ≤ k → L.length + k < 8796093022208 → qanatref02_Spans.l0 k s L (i : Int) = some (L ++ (wds s i).map cv)) ∧
    (∀ (k : Nat) (L : List S113) (st : Int), 3 * d + 3 ≤ k → L.length + k < 8796093022208 → qanatref02_Spans.l1 k s L (i : Int) st = some (L ++ ⟨st, (wend s i : Int)⟩ :: (wds s (wend s i)).map cv))
  | d, i, hi, hd => by
    have A : ∀ (k : Nat) (L : List S113), 3 * d + 2 ≤ k → L.length + k < 8796093022208 → qanatref02_Spans.l0 k s L (i : Int) = some (L ++ (wds s i).map cv) := by
      intro k L hk hL
      obtain ⟨k, rfl⟩ : ∃ k', k = k' + 1 := ⟨k - 1, by omega⟩
      rw [qanatref02_Spans.l0]
      by_cases hlt : i < s.size
      · rw [if_pos (by omega), if_pos (by omega)]
        have IH := spans_ind s hs (d - 1) (i + 1) (by omega) (by omega)
        by_cases hb : bt s (i : Int) = 32
        · rw [if_pos hb, wrap64_id _ (by omega) (by omega), wds_blank s i hlt hb]
          have := IH.1 k L (by omega) (by omega)
          simpa using this
        · rw [if_neg hb]
          obtain ⟨k, rfl⟩ : ∃ k', k = k' + 1 := ⟨k - 1, by omega⟩
          rw [qanatref02_Spans.l1, if_pos (by omega), if_pos (by omega), if_neg hb, wrap64_id _ (by omega) (by omega), wds_word s i hlt hb, wend_next s i hlt hb]
          have := IH.2 k L (i : Int) (by omega) (by omega)
          rw [show ((i : Int) + 1) = ((i + 1 : Nat) : Int) by omega, this]
          simp [cv]
      · rw [if_neg (by omega), wds_end s i hlt]
        simp
    refine ⟨A, fun k L st hk hL => ?_⟩
    obtain ⟨k, rfl⟩ : ∃ k', k = k' + 1 := ⟨k - 1, by omega⟩
    rw [qanatref02_Spans.l1]
    by_cases hlt : i < s.size
    · rw [if_pos (by omega), if_pos (by omega)]
      by_cases hb : bt s (i : Int) = 32
      · rw [if_pos hb, if_pos (by omega), A k _ (by omega) (by simp; omega), wend_stop s i (fun h => h.2 hb)]
        simp
      · rw [if_neg hb, wrap64_id _ (by omega) (by omega), wend_next s i hlt hb]
        have IH := spans_ind s hs (d - 1) (i + 1) (by omega) (by omega)
        have := IH.2 k L st (by omega) (by omega)
        rw [show ((i : Int) + 1) = ((i + 1 : Nat) : Int) by omega, this]
    · rw [if_neg (by omega), if_pos (by omega), A k _ (by omega) (by simp; omega), wend_stop s i (fun h => hlt h.1)]
      simp
  termination_by d => d
  decreasing_by all_goals omega
theorem spans_eq (s : ByteArray) (hs : s.size ≤ 1200) (k : Nat) (hk : 3602 ≤ k) (hk2 : k ≤ 100000) : qanatref02_Spans.f k s = some ((wds s 0).map cv) := by
  unfold qanatref02_Spans.f
  have := (spans_ind s hs s.size 0 (by omega) (by omega)).1 k [] (by omega) (by simp; omega)
  simpa using this
theorem wds_mem (s : ByteArray) (i : Nat) (hi : i ≤ s.size) : ∀ x ∈ wds s i, (i : Int) ≤ x.f0 ∧ x.f0 < x.f1 ∧ x.f1 ≤ s.size := by
  by_cases h : i < s.size
  · by_cases hb : bt s (i : Int) = 32
    · rw [wds_blank s i h hb]
      intro x hx
      have := wds_mem s (i + 1) (by omega) x hx
      omega
    · rw [wds_word s i h hb]
      intro x hx
      have h1 := wend_gt s i h hb
      have h2 := wend_le s i hi
      rcases List.mem_cons.1 hx with rfl | hx
      · exact ⟨Int.le_refl _, by simp only; omega, by simp only; omega⟩
      · have := wds_mem s (wend s i) h2 x hx
        omega
  · rw [wds_end s i h]
    intro x hx; cases hx
termination_by s.size - i
theorem wds_pair (s : ByteArray) (i : Nat) (hi : i ≤ s.size) : (wds s i).Pairwise (fun a b => a.f1 ≤ b.f0) := by
  by_cases h : i < s.size
  · by_cases hb : bt s (i : Int) = 32
    · rw [wds_blank s i h hb]
      exact wds_pair s (i + 1) (by omega)
    · rw [wds_word s i h hb]
      have h1 := wend_gt s i h hb
      have h2 := wend_le s i hi
      refine List.pairwise_cons.2 ⟨fun x hx => ?_, wds_pair s (wend s i) h2⟩
      have := wds_mem s (wend s i) h2 x hx
      simp; omega
  · rw [wds_end s i h]
    exact List.Pairwise.nil
termination_by s.size - i
theorem rd_mem (l : List S105) (i : Int) (h0 : 0 ≤ i) (h1 : i < l.length) : rd_T105 l i ∈ l := by
  have h : i.toNat < l.length := by omega
  unfold rd_T105
  rw [List.getD_eq_getElem?_getD, List.getElem?_eq_getElem h]
  exact List.getElem_mem h
theorem rd_cv (l : List S105) (i : Int) (h0 : 0 ≤ i) (h1 : i < l.length) : rd_T113 (l.map cv) i = cv (rd_T105 l i) := by
  have h : i.toNat < l.length := by omega
  unfold rd_T113 rd_T105
  rw [List.getD_eq_getElem?_getD, List.getD_eq_getElem?_getD, List.getElem?_map, List.getElem?_eq_getElem h]
  rfl
theorem rd_ok (s : ByteArray) (i : Int) (h0 : 0 ≤ i) (h1 : i < (wds s 0).length) : 0 ≤ (rd_T105 (wds s 0) i).f0 ∧ (rd_T105 (wds s 0) i).f0 < (rd_T105 (wds s 0) i).f1 ∧ (rd_T105 (wds s 0) i).f1 ≤ s.size :=
  wds_mem s 0 (by omega) _ (rd_mem _ i h0 h1)
theorem rd_le (s : ByteArray) (i j : Int) (h0 : 0 ≤ i) (hij : i ≤ j) (h1 : j < (wds s 0).length) : (rd_T105 (wds s 0) i).f0 < (rd_T105 (wds s 0) j).f1 := by
  by_cases e : i = j
  · subst e; exact (rd_ok s i h0 h1).2.1
  · have a := rd_ok s i h0 (by omega)
    have b := rd_ok s j (by omega) h1
    have p := List.pairwise_iff_getElem.1 (wds_pair s 0 (by omega)) i.toNat j.toNat (by omega) (by omega) (by omega)
    have e1 : rd_T105 (wds s 0) i = (wds s 0)[i.toNat]'(by omega) := by
      unfold rd_T105
      rw [List.getD_eq_getElem?_getD, List.getElem?_eq_getElem (by omega)]; rfl
    have e2 : rd_T105 (wds s 0) j = (wds s 0)[j.toNat]'(by omega) := by
      unfold rd_T105
      rw [List.getD_eq_getElem?_getD, List.getElem?_eq_getElem (by omega)]; rfl
    rw [← e1, ← e2] at p
    omega
theorem len_le (s : ByteArray) : (wds s 0).length ≤ s.size := wds_length s 0

theorem first3 (b c d : Prop) [Decidable b] [Decidable c] [Decidable d] : text_first.f [if b then 0 else 1, if c then 0 else 1, if d then 0 else 1] = some (if b ∧ c ∧ d then 0 else 1) := by
  by_cases h1 : b <;> by_cases h2 : c <;> by_cases h3 : d <;> simp [h1, h2, h3] <;> rfl
theorem first2' (b c : Prop) [Decidable b] [Decidable c] : text_first.f [if b then 0 else 1, if c then 0 else 1] = some (if b ∧ c then 0 else 1) := by
  by_cases h1 : b <;> by_cases h2 : c <;> simp [h1, h2] <;> rfl
theorem words_f (s : ByteArray) (hs : s.size ≤ 1200) : text_words.f s = some (wds s 0) := by
  unfold text_words.f
  rw [if_pos (by omega)]
theorem valid1 (s : ByteArray) : text_valid.f [s] = some (if vld s = true then 0 else 1) := by
  unfold text_valid.f
  by_cases h : vld s = true <;> simp [h]
theorem least1 (n x : Int) : text_least.f n [x] = some (if n ≤ x then 0 else 1) := by
  unfold text_least.f
  by_cases h : n ≤ x <;> simp [h]
theorem nth_eq (s : ByteArray) (n : Int) (hs : s.size ≤ 1200) (hn : n ≤ 9223372036854775807) : text_nth.f s n =
    some (if vld s = true ∧ 1 ≤ n then (if n > ((wds s 0).length : Int) then (0, 0, 0) else ((rd_T105 (wds s 0) (n - 1)).f0, (rd_T105 (wds s 0) (n - 1)).f1, 0)) else (0, 0, 1)) := by
  unfold text_nth.f
  simp only [valid1, least1, Option.bind_some, first2']
  by_cases h : vld s = true ∧ 1 ≤ n
  · rw [if_pos h, if_pos rfl, if_pos h, words_f s hs]
    simp only [Option.bind_some]
    have := len_le s
    by_cases hl : n > ((wds s 0).length : Int)
    · rw [if_pos hl, if_pos hl]
    · rw [if_neg hl, if_neg hl, wrap64_id _ (by omega) (by omega), if_pos (by omega), if_pos (by omega)]
  · rw [if_neg h, if_neg (by decide), if_neg h]
theorem empty_ex (s : ByteArray) : s.extract (0 : Int).toNat (0 : Int).toNat = ⟨#[]⟩ := by
  apply ByteArray.ext
  simp
theorem nth_err (s : ByteArray) (n : Int) (hs : s.size ≤ 1200) (hn : n ≤ 9223372036854775807) (h : ¬ (vld s = true ∧ 1 ≤ n)) : text_nth.f s n = some (0, 0, 1) := by rw [nth_eq s n hs hn, if_neg h]
theorem nth_out (s : ByteArray) (n : Int) (hs : s.size ≤ 1200) (hn : n ≤ 9223372036854775807) (h : vld s = true ∧ 1 ≤ n) (hl : n > ((wds s 0).length : Int)) : text_nth.f s n = some (0, 0, 0) := by rw [nth_eq s n hs hn, if_pos h, if_pos hl]
theorem nth_in (s : ByteArray) (n : Int) (hs : s.size ≤ 1200) (hn : n ≤ 9223372036854775807) (h : vld s = true ∧ 1 ≤ n) (hl : ¬ n > ((wds s 0).length : Int)) : text_nth.f s n = some ((rd_T105 (wds s 0) (n - 1)).f0, (rd_T105 (wds s 0) (n - 1)).f1, 0) := by rw [nth_eq s n hs hn, if_pos h, if_neg hl]
theorem whole1_no (s : ByteArray) (n : Int) (hv : vld s = true) (h : ¬ (vld s = true ∧ 1 ≤ n)) : decide (1 ≤ n) = false := decide_eq_false (fun h1 => h ⟨hv, h1⟩)
theorem spanLast_rng (len : Nat) (n m : Int) (h1 : 1 ≤ n) (hl : n ≤ len) (hm : m = -1 ∨ 1 ≤ m) : n ≤ spanLast len n m ∧ spanLast len n m ≤ len := by
  unfold spanLast
  split
  · omega
  · split <;> split <;> omega
theorem span_eq (s : ByteArray) (n m : Int) (hs : s.size ≤ 1200) (h1 : 1 ≤ n) (hm : -1 ≤ m) : text_span.f s n m =
    some (if m = 0 ∨ ((wds s 0).length : Int) < n then (0, 0) else ((rd_T105 (wds s 0) (n - 1)).f0, (rd_T105 (wds s 0) (spanLast (wds s 0).length n m - 1)).f1)) := by
  have := len_le s
  unfold text_span.f
  rw [words_f s hs]
  simp only [Option.bind_some]
  have c : 1 ≤ n ∧ -1 ≤ m ∧ (wds s 0).length ≤ 100000 := ⟨h1, hm, by omega⟩
  rw [if_pos c]
  split <;> rfl
theorem drop_list (s : ByteArray) (j : Nat) : (s.extract j s.size).data.toList = s.data.toList.drop j := by
  rw [ByteArray.data_extract, Array.toList_extract]
  have e : s.size = s.data.toList.length := (data_length s).symm
  rw [e]
  simp
  apply List.take_of_length_le
  rw [List.length_drop]
  omega
theorem ba_ext {a b : ByteArray} (h : a.data.toList = b.data.toList) : a = b := by
  apply ByteArray.ext
  exact Array.toList_inj.1 h
theorem trim_skip (s : ByteArray) (j : Nat) (hj : j < s.size) (hb : bt s (j : Int) = 32) : Lib.trimLeftB (s.extract j s.size).data.toList 32 = Lib.trimLeftB (s.extract (j + 1) s.size).data.toList 32 := by
  have hl : j < s.data.toList.length := by rw [data_length]; exact hj
  rw [drop_list, drop_list, List.drop_eq_getElem_cons hl]
  unfold Lib.trimLeftB
  have hx : s.data.toList[j] = 32 := by
    rw [bt_getD s j hj] at hb
    simp [bytesOf, List.getD_eq_getElem?_getD, List.getElem?_eq_getElem hl] at hb
    apply UInt8.toNat_inj.1
    have h2 : (s.data[j].toNat : Int) = 32 := by simpa using hb
    have h3 : s.data[j].toNat = 32 := by omega
    simpa using h3
  rw [List.dropWhile_cons, if_pos (by rw [hx]; rfl)]
theorem trim_stop (s : ByteArray) (j : Nat) (h : ¬ (j < s.size ∧ bt s (j : Int) = 32)) : (⟨(Lib.trimLeftB (s.extract j s.size).data.toList 32).toArray⟩ : ByteArray) = s.extract j s.size := by
  apply ba_ext
  simp only
  rw [drop_list]
  unfold Lib.trimLeftB
  by_cases hj : j < s.size
  · have hl : j < s.data.toList.length := by rw [data_length]; exact hj
    rw [List.drop_eq_getElem_cons hl, List.dropWhile_cons, if_neg]
    intro hx
    apply h
    refine ⟨hj, ?_⟩
    have hx : s.data.toList[j] = 32 := by simpa using hx
    rw [bt_getD s j hj]
    simp [bytesOf, List.getD_eq_getElem?_getD, List.getElem?_eq_getElem hl, hx]
  · rw [List.drop_eq_nil_of_le (by rw [data_length]; omega)]
    rfl
theorem i64_of_wf {x : Int} (h : (Lit.int .i64 x).wf = true) : x ≤ 9223372036854775807 := by
  simp [Lit.wf, IntKind.min, IntKind.max, IntKind.bits, IntKind.signed] at h
  omega
end Go.Proofs.YtlekfhnlhdmekaaGreatDoor.T

/- Where the words of a string stand, and the words themselves. -/
namespace Go.Proofs.YtlekfhnlhdmekaaGreatDoor.T
set_option linter.unusedSimpArgs false
set_option linter.unusedVariables false
open Go.RowKit Go.Proofs.YtlekfhnlhdmekaaGreatDoorW.PrintWords Go.Proofs.YtlekfhnlhdmekaaGreatDoorW.PrintLast Go.Proofs.YtlekfhnlhdmekaaGreatDoorW.PrintMore
/-- The bytes of a string. -/
def by8 (s : ByteArray) : List UInt8 := s.data.toList
theorem by8_length (s : ByteArray) : (by8 s).length = s.size := data_length s
theorem by8_drop (s : ByteArray) (i : Nat) (hi : i < s.size) : ∃ b : UInt8, (by8 s).drop i = b :: (by8 s).drop (i + 1) ∧ bt s (i : Int) = (b.toNat : Int) := by
  have hl : i < (by8 s).length := by rw [by8_length]; exact hi
  refine ⟨(by8 s)[i], List.drop_eq_getElem_cons hl, ?_⟩
  rw [bt_getD s i hi]
  have hl' : i < s.data.toList.length := hl
  simp [bytesOf, by8, List.getD_eq_getElem?_getD, List.getElem?_eq_getElem hl']
theorem b32 (b : UInt8) : b = 32 ↔ (b.toNat : Int) = 32 := by
  constructor
  · rintro rfl; rfl
  · intro h; apply UInt8.toNat_inj.1; have : (32 : UInt8).toNat = 32 := rfl; omega
theorem wend_all (s : ByteArray) (i : Nat) (hi : i ≤ s.size) : ∀ b ∈ ((by8 s).drop i).take (wend s i - i), b ≠ 32 := by
  by_cases h : i < s.size ∧ bt s (i : Int) ≠ 32
  · obtain ⟨b, hb, hv⟩ := by8_drop s i h.1
    have hg := wend_gt s i h.1 h.2
    rw [hb, show wend s i - i = (wend s i - (i + 1)) + 1 by omega, List.take_succ_cons]
    intro x hx
    rcases List.mem_cons.1 hx with rfl | hx
    · intro e; rw [b32, ← hv] at e; exact h.2 e
    · rw [wend_next s i h.1 h.2] at hx
      exact wend_all s (i + 1) (by omega) x hx
  · rw [wend_stop s i h]
    simp
termination_by s.size - i
theorem wend_at (s : ByteArray) (i : Nat) (hi : i ≤ s.size) : Stops ((by8 s).drop (wend s i)) := by
  by_cases h : i < s.size ∧ bt s (i : Int) ≠ 32
  · rw [wend_next s i h.1 h.2]
    exact wend_at s (i + 1) (by omega)
  · rw [wend_stop s i h]
    by_cases hlt : i < s.size
    · obtain ⟨b, hb, hv⟩ := by8_drop s i hlt
      have : bt s (i : Int) = 32 := Classical.byContradiction fun hn => h ⟨hlt, hn⟩
      rw [hb, (b32 b).2 (by rw [← hv]; exact this)]
      exact .inr ⟨_, rfl⟩
    · rw [List.drop_eq_nil_of_le (by rw [by8_length]; omega)]
      exact .inl rfl
termination_by s.size - i
/-- A word. -/
def wt (s : ByteArray) (x : S105) : List UInt8 := ((by8 s).drop x.f0.toNat).take (x.f1.toNat - x.f0.toNat)
theorem part_drop (l : List UInt8) (i e : Nat) (h : i ≤ e) : l.drop i = (l.drop i).take (e - i) ++ l.drop e := by
  have := List.take_append_drop (e - i) (l.drop i)
  rw [List.drop_drop, show i + (e - i) = e by omega] at this
  exact this.symm
theorem wd_ne (s : ByteArray) (i : Nat) (h : i < s.size) (hb : bt s (i : Int) ≠ 32) : ((by8 s).drop i).take (wend s i - i) ≠ [] := by
  obtain ⟨b, h1, hv⟩ := by8_drop s i h
  have hg := wend_gt s i h hb
  rw [h1, show wend s i - i = (wend s i - (i + 1)) + 1 by omega, List.take_succ_cons]
  simp
theorem wd_drop (s : ByteArray) (i : Nat) (hi : i ≤ s.size) : fw [] ((by8 s).drop i) = (wds s i).map (wt s) := by
  by_cases h : i < s.size
  · by_cases hb : bt s (i : Int) = 32
    · obtain ⟨b, h1, hv⟩ := by8_drop s i h
      rw [wds_blank s i h hb, h1, (b32 b).2 (by rw [← hv]; exact hb), fw_blank]
      exact wd_drop s (i + 1) (by omega)
    · have h1 := wend_gt s i h hb
      have h2 := wend_le s i hi
      rw [wds_word s i h hb, part_drop (by8 s) i (wend s i) (by omega), fw_one _ _ (wd_ne s i h hb) (wend_all s i hi) (wend_at s i hi), wd_drop s (wend s i) h2]
      simp [wt]
  · rw [wds_end s i h, List.drop_eq_nil_of_le (by rw [by8_length]; omega)]
    rfl
termination_by s.size - i
theorem wds_at (s : ByteArray) (i k : Nat) (hi : i ≤ s.size) (x : S105) (hx : (wds s i)[k]? = some x) : (i : Int) ≤ x.f0 ∧ x.f0 < x.f1 ∧ x.f1 ≤ s.size :=
  wds_mem s i hi x (List.mem_of_getElem? hx)
theorem starts_app (u v : List UInt8) (h : Starts v) (hv : v ≠ []) : Starts (u ++ v) := by
  rcases h with rfl | ⟨t, rfl⟩
  · exact absurd rfl hv
  · exact .inr ⟨u ++ t, by rw [List.append_assoc]⟩
theorem wd_pre (s : ByteArray) (i : Nat) (hi : i ≤ s.size) : ∀ (k : Nat) (x : S105), (wds s i)[k]? = some x →
    fw [] (((by8 s).drop i).take (x.f0.toNat - i)) = ((wds s i).map (wt s)).take k ∧ Starts (((by8 s).drop i).take (x.f0.toNat - i)) := by
  intro k x hx
  by_cases h : i < s.size
  · by_cases hb : bt s (i : Int) = 32
    · obtain ⟨b, h1, hv⟩ := by8_drop s i h
      rw [wds_blank s i h hb] at hx ⊢
      have hr := wds_at s (i + 1) k (by omega) x hx
      have ih := wd_pre s (i + 1) (by omega) k x hx
      rw [h1, (b32 b).2 (by rw [← hv]; exact hb), show x.f0.toNat - i = (x.f0.toNat - (i + 1)) + 1 by omega, List.take_succ_cons, fw_blank]
      refine ⟨ih.1, ?_⟩
      by_cases hn : ((by8 s).drop (i + 1)).take (x.f0.toNat - (i + 1)) = []
      · rw [hn]; exact .inr ⟨[], rfl⟩
      · exact starts_app [32] _ ih.2 hn
    · have h1 := wend_gt s i h hb
      have h2 := wend_le s i hi
      rw [wds_word s i h hb] at hx ⊢
      cases k with
      | zero =>
        have : x = ⟨(i : Int), (wend s i : Int)⟩ := by simpa using hx.symm
        subst this
        simp [fw, Starts]
      | succ k =>
        have hx : (wds s (wend s i))[k]? = some x := by simpa using hx
        have hr := wds_at s (wend s i) k h2 x hx
        have ih := wd_pre s (wend s i) h2 k x hx
        have hst := wend_at s i hi
        have hlt : wend s i < x.f0.toNat := by
          rcases Nat.lt_or_ge (wend s i) x.f0.toNat with h' | h'
          · exact h'
          · exfalso
            have he : wend s i < s.size := by omega
            obtain ⟨b, h3, hv⟩ := by8_drop s (wend s i) he
            rcases hst with h4 | ⟨t, h4⟩
            · rw [h3] at h4; cases h4
            · rw [h3] at h4
              have hb2 : bt s (wend s i : Int) = 32 := by rw [hv]; exact (b32 b).1 (by injection h4)
              rw [wds_blank s _ he hb2] at hx
              have := wds_at s (wend s i + 1) k (by omega) x hx
              omega
        have e1 : ((by8 s).drop i).take (x.f0.toNat - i) = ((by8 s).drop i).take (wend s i - i) ++ ((by8 s).drop (wend s i)).take (x.f0.toNat - wend s i) := by
          have hlen : (((by8 s).drop i).take (wend s i - i)).length = wend s i - i := by
            rw [List.length_take, List.length_drop, by8_length]; omega
          conv => lhs; rw [part_drop (by8 s) i (wend s i) (by omega)]
          rw [List.take_append, hlen, List.take_of_length_le (by omega), show x.f0.toNat - i - (wend s i - i) = x.f0.toNat - wend s i by omega]
        have hne : ((by8 s).drop (wend s i)).take (x.f0.toNat - wend s i) ≠ [] := by
          intro e
          have := congrArg List.length e
          rw [List.length_take, List.length_drop, by8_length] at this
          simp at this; omega
        have hst2 : Stops (((by8 s).drop (wend s i)).take (x.f0.toNat - wend s i)) := by
          rcases hst with h4 | ⟨t, h4⟩
          · rw [h4]; simp [Stops]
          · rw [h4, show x.f0.toNat - wend s i = (x.f0.toNat - wend s i - 1) + 1 by omega, List.take_succ_cons]
            exact .inr ⟨_, rfl⟩
        rw [e1, fw_one _ _ (wd_ne s i h hb) (wend_all s i hi) hst2, ih.1]
        refine ⟨?_, starts_app _ _ ih.2 hne⟩
        simp [wt]
  · rw [wds_end s i h] at hx
    simp at hx
termination_by s.size - i
theorem wd_post (s : ByteArray) (i : Nat) (hi : i ≤ s.size) : ∀ (k : Nat) (x : S105), (wds s i)[k]? = some x →
    fw [] ((by8 s).drop x.f1.toNat) = ((wds s i).map (wt s)).drop (k + 1) ∧ Stops ((by8 s).drop x.f1.toNat) := by
  intro k x hx
  by_cases h : i < s.size
  · by_cases hb : bt s (i : Int) = 32
    · rw [wds_blank s i h hb] at hx ⊢
      exact wd_post s (i + 1) (by omega) k x hx
    · have h1 := wend_gt s i h hb
      have h2 := wend_le s i hi
      rw [wds_word s i h hb] at hx ⊢
      cases k with
      | zero =>
        have : x = ⟨(i : Int), (wend s i : Int)⟩ := by simpa using hx.symm
        subst this
        simp only [Int.toNat_natCast]
        exact ⟨by rw [wd_drop s (wend s i) h2]; simp, wend_at s i hi⟩
      | succ k =>
        have hx : (wds s (wend s i))[k]? = some x := by simpa using hx
        have ih := wd_post s (wend s i) h2 k x hx
        rw [ih.1]
        exact ⟨by simp, ih.2⟩
  · rw [wds_end s i h] at hx
    simp at hx
termination_by s.size - i
end Go.Proofs.YtlekfhnlhdmekaaGreatDoor.T

/- Small laws that the pure laws share. -/
namespace Go.Proofs.YtlekfhnlhdmekaaGreatDoor.T
set_option linter.unusedSimpArgs false
set_option linter.unusedVariables false
open Go.RowKit Go.Proofs.YtlekfhnlhdmekaaGreatDoorW.PrintWords Go.Proofs.YtlekfhnlhdmekaaGreatDoorW.PrintLast Go.Proofs.YtlekfhnlhdmekaaGreatDoorW.PrintMore
namespace B
theorem str_eq (s : ByteArray) (e : Int) : qanatlaw02_str.f s e s e = some true := by
  unfold qanatlaw02_str.f
  rw [if_pos rfl]
  simp
theorem num_eq (n e : Int) : qanatlaw02_num.f n e n e = some true := by
  unfold qanatlaw02_num.f
  rw [if_pos rfl]
  simp
theorem i64 {x : Int} (h : (Lit.int .i64 x).wf = true) : -9223372036854775808 ≤ x ∧ x ≤ 9223372036854775807 := by
  simp [Lit.wf, IntKind.min, IntKind.max, IntKind.bits, IntKind.signed] at h
  omega
theorem size {s : ByteArray} (h : vld s = true) : s.size ≤ 1000 := by
  simp [vld] at h; exact h.1
theorem all {s : ByteArray} (h : vld s = true) : ∀ x ∈ bytesOf s, goodI x = true := by
  simp only [vld, Bool.and_eq_true, List.all_eq_true] at h
  exact h.2
theorem mk {s : ByteArray} (h1 : s.size ≤ 1000) (h2 : ∀ x ∈ bytesOf s, goodI x = true) : vld s = true := by
  simp only [vld, Bool.and_eq_true, List.all_eq_true, decide_eq_true_eq]
  exact ⟨h1, h2⟩
theorem good (x : Int) : goodI x = true ↔ 32 ≤ x ∧ x ≤ 126 := by simp [goodI]
theorem valid1 (s : ByteArray) : text_valid.f [s] = some (if vld s = true then 0 else 1) := by
  unfold text_valid.f
  by_cases h : vld s = true <;> simp [h]
theorem valid2 (s t : ByteArray) : text_valid.f [s, t] = some (if vld s = true ∧ vld t = true then 0 else 1) := by
  unfold text_valid.f
  by_cases h : vld s = true <;> by_cases h' : vld t = true <;> simp [h, h']
theorem valid3 (s t u : ByteArray) : text_valid.f [s, t, u] = some (if vld s = true ∧ vld t = true ∧ vld u = true then 0 else 1) := by
  unfold text_valid.f
  by_cases h : vld s = true <;> by_cases h' : vld t = true <;> by_cases h'' : vld u = true <;> simp [h, h', h'']
theorem pads1 (p : Int) : text_pads.f [p] = some (if goodI p = true then 0 else 1) := by
  unfold text_pads.f
  by_cases h : goodI p = true <;> simp [h]
theorem least1 (n x : Int) : text_least.f n [x] = some (if n ≤ x then 0 else 1) := by
  unfold text_least.f
  by_cases h : n ≤ x <;> simp [h]
theorem first2 (b c : Prop) [Decidable b] [Decidable c] : text_first.f [if b then 0 else 1, if c then 0 else 1] = some (if b ∧ c then 0 else 1) := by
  by_cases h1 : b <;> by_cases h2 : c <;> simp [h1, h2] <;> rfl
theorem first3 (b c d : Prop) [Decidable b] [Decidable c] [Decidable d] : text_first.f [if b then 0 else 1, if c then 0 else 1, if d then 0 else 1] = some (if b ∧ c ∧ d then 0 else 1) := by
  by_cases h1 : b <;> by_cases h2 : c <;> by_cases h3 : d <;> simp [h1, h2, h3] <;> rfl
theorem first4 (b c d e : Prop) [Decidable b] [Decidable c] [Decidable d] [Decidable e] : text_first.f [if b then 0 else 1, if c then 0 else 1, if d then 0 else 1, if e then 0 else 1] = some (if b ∧ c ∧ d ∧ e then 0 else 1) := by
  by_cases h1 : b <;> by_cases h2 : c <;> by_cases h3 : d <;> by_cases h4 : e <;> simp [h1, h2, h3, h4] <;> rfl
theorem whole (n lo : Int) : qanatref02_whole.f n lo false = some (decide (lo ≤ n)) := by
  unfold qanatref02_whole.f
  by_cases h : lo ≤ n
  · rw [if_pos (by omega)]; simp [h]
  · rw [if_neg (by omega)]; simp [h]
theorem wholeM (n : Int) : qanatref02_whole.f n 0 true = some (decide (-1 ≤ n)) := by
  unfold qanatref02_whole.f
  by_cases h : 0 ≤ n
  · rw [if_pos (by omega)]; simp; omega
  · rw [if_neg (by omega), if_pos rfl]
    by_cases e : n = -1
    · subst e; rfl
    · rw [show (n == -1) = false from beq_eq_false_iff_ne.mpr e, show decide (-1 ≤ n) = false from decide_eq_false (by omega)]
theorem toL (s : ByteArray) : s.toList = s.data.toList := Lib.toList_data s
theorem ext {a b : ByteArray} (h : a.data.toList = b.data.toList) : a = b := by
  apply ByteArray.ext
  exact Array.toList_inj.1 h
theorem sz (s : ByteArray) : s.size = s.data.toList.length := (data_length s).symm
theorem extract (s : ByteArray) (i j : Nat) : (s.extract i j).data.toList = (s.data.toList.drop i).take (j - i) := by
  rw [ByteArray.data_extract, Array.toList_extract, List.extract_eq_take_drop]
theorem append (a b : ByteArray) : (a ++ b).data.toList = a.data.toList ++ b.data.toList := by
  rw [ByteArray.data_append, Array.toList_append]
theorem vldA {a b : ByteArray} (ha : ∀ x ∈ bytesOf a, goodI x = true) (hb : ∀ x ∈ bytesOf b, goodI x = true) (h : (a ++ b).size ≤ 1000) : vld (a ++ b) = true := by
  refine mk h (fun x hx => ?_)
  unfold bytesOf at hx
  rw [append, List.map_append] at hx
  exact (List.mem_append.1 hx).elim (ha x) (hb x)
theorem vldE {a : ByteArray} (i j : Nat) (h : vld a = true) : vld (a.extract i j) = true := by
  refine mk ?_ (fun x hx => ?_)
  · have := size h; rw [ByteArray.size_extract]; omega
  · refine all h x ?_
    unfold bytesOf at hx ⊢
    rw [extract] at hx
    obtain ⟨b, hb, rfl⟩ := List.mem_map.1 hx
    exact List.mem_map.2 ⟨b, List.mem_of_mem_drop (List.mem_of_mem_take hb), rfl⟩
theorem made (s : ByteArray) (h : vld s = true) : text_made.f s = some (s, 0) := by
  rw [made_eq, if_neg (by have := size h; omega), if_pos h]
end B
end Go.Proofs.YtlekfhnlhdmekaaGreatDoor.T

-- Written by a program of this session (mp.py over the kit's print.py), out of the translation.
namespace Go.Proofs.YtlekfhnlhdmekaaGreatDoor.T
set_option linter.unusedSimpArgs false
open Go.RowKit Go.Proofs.YtlekfhnlhdmekaaGreatDoorW.PrintWords Go.Proofs.YtlekfhnlhdmekaaGreatDoorW.PrintLast Go.Proofs.YtlekfhnlhdmekaaGreatDoorW.PrintMore
attribute [local go_sem] max2_int min2_int max_two min_two max_three min_three max_four min_four   -- for this text's walks alone
set_option linter.unusedVariables false
set_option linter.unusedSimpArgs false

/-! ### text_fit: function 99 -/
def text_fit.f (a0 : ByteArray) (a1 : Int) (a2 : Int) : Option (ByteArray) := if a1 ≤ (a0.size : Int) then (if 0 ≤ a1 then (some (a0.extract 0 (a1 : Int).toNat)) else (none)) else ((text_many.f (strOfNums (([a2] : List Int))) (wrap64 (a1 - (a0.size : Int)))).bind fun t258 => (if a0.size + t258.size ≤ 9223372036854775807 then (some (a0 ++ t258)) else (none)))
set_option maxHeartbeats 8000000 in
set_option maxRecDepth 100000 in
theorem text_fit.calls (a0 : ByteArray) (a1 : Int) (a2 : Int) (r : ByteArray) (w : World) (h : text_fit.f a0 a1 a2 = some r) :
    Calls Tryz.prog 99 #[.string a0, .int .i64 a1, .int .u8 a2] w fun e w' => e = .returned (.string r) ∧ Below w.heap.size w w' := by
  have HB := Aside0.mk (Below.refl w.heap.size w)
  have H : (if a1 ≤ (a0.size : Int) then (if 0 ≤ a1 then (some (a0.extract 0 (a1 : Int).toNat)) else (none)) else ((text_many.f (strOfNums (([a2] : List Int))) (wrap64 (a1 - (a0.size : Int)))).bind fun t258 => (if a0.size + t258.size ≤ 9223372036854775807 then (some (a0 ++ t258)) else (none)))) = some r := h
  clear h
  by_cases c4 : a1 ≤ (a0.size : Int)
  · rw [if_pos c4] at H
    have c4b0 : decide (a1 ≤ (a0.size : Int)) = true := decide_eq_true c4
    clear c4
    by_cases c5 : 0 ≤ a1
    · rw [if_pos c5] at H
      have c5b0 := eq_true c5
      have c5b1 : decide (0 ≤ a1) = true := decide_eq_true c5
      clear c5
      have c6b0 := eq_true (of_decide_eq_true (by first | (with_reducible assumption) | assumption) : a1 ≤ (a0.size : Int))
      obtain rfl := Option.some.inj H
      go_enter Tryz.func99, Tryz.ntmps99
      go_wp2
      go_ret
      exact ⟨by first | rfl | (simp [errW_none, errW_some] <;> rfl) | (simp [*, errW_none, errW_some] <;> rfl), by repeat (first | (with_reducible first | exact HB.out | apply below_alloc | apply pw_below_drewN | apply below_drew1) | exact HB.out)⟩
    · rw [if_neg c5] at H
      exact absurd H (by simp)
  · rw [if_neg c4] at H
    have c4b0 : decide (a1 ≤ (a0.size : Int)) = false := decide_eq_false c4
    clear c4
    obtain ⟨y255, hy255⟩ : ∃ y_ : List Int, y_ = (([a2] : List Int)) := ⟨_, rfl⟩
    replace H : ((text_many.f (strOfNums y255) (wrap64 (a1 - (a0.size : Int)))).bind fun t258 => (if a0.size + t258.size ≤ 9223372036854775807 then (some (a0 ++ t258)) else (none))) = some r := by first | (rw [hy255]; with_reducible exact H) | (have H2_ := (Option.bind_some _ _).symm.trans H; rw [hy255]; with_reducible exact H2_) | (have H2_ := (Option.bind_some _ _).symm.trans H; with_reducible exact H2_) | with_reducible exact H | (rw [hy255]; exact H) | exact H
    have Ny255 := Aside0.mk hy255
    clear hy255
    replace H := Option.bind_eq_some_iff.mp H
    obtain ⟨t258, A70, H⟩ := H
    replace H : (if a0.size + t258.size ≤ 9223372036854775807 then (some (a0 ++ t258)) else (none)) = some r := H
    have A7 := Aside0.mk A70
    clear A70
    by_cases c8 : a0.size + t258.size ≤ 9223372036854775807
    · rw [if_pos c8] at H
      have c8b0 := eq_true c8
      have c8b1 : decide (a0.size + t258.size ≤ 9223372036854775807) = true := decide_eq_true c8
      try have c8b2 : (9223372036854775807 < a0.size + t258.size) = False := eq_false (Nat.not_lt.2 c8)
      obtain rfl := Option.some.inj H
      go_enter Tryz.func99, Tryz.ntmps99
      go_wp2_with (first | ((with_reducible refine gate_dst (N := 16) rfl ?_); refine Kd.R_lit (Kd.int .u8) _ 5 ?hg (N := 16) ?hd (xs := ([a2] : List Int)) (inner := [.int .u8 a2]) (ok := fun _ => True) (okp := fun _ => True) ?hr ?hp (fun _ hk => hk) trivial (Below.refl _ _) (Nat.le_refl _) (by simp) ?_; (case hd => rfl); (case hg => rfl); (case hr => first | (go_simp; done) | (go_simp; rfl)); (case hp => exact (Reps.one (show Kd.M (Kd.int .u8) _ _ _ a2 [.int .u8 a2] from rfl) (Reps.none _ _))); intro v256 w9 ho10 hb hg_ hnew_; clear hg_ hnew_; (first | rw [← Ny255.out] at ho10 | (simp only [Int.reduceToNat] at ho10; rw [← Ny255.out] at ho10)); have n0_ := Aside0.mk (Kd.R_lower ho10 (below_size (by repeat (first | (with_reducible first | exact HB.out | apply below_alloc | apply pw_below_drewN | apply below_drew1) | exact HB.out)))); have n1_ := Aside0.mk (below_step (by repeat (first | (with_reducible first | exact HB.out | apply below_alloc | apply pw_below_drewN | apply below_drew1) | exact HB.out)) hb); clear HB; have HO257 := n0_; have HB := n1_; clear n0_ n1_; clear hb ho10; have hcv11 := own_string (P := Tryz.prog) Tryz.underlying83 Tryz.underlying5 Tryz.underlying9 (Kd.own_of_R HO257.out)) | ((with_reducible refine gate_callee (f := 126) rfl ?_); refine goesL_ (some 22) rfl rfl Tryz.func126 (by kernel_rfl) rfl #[.string (strOfNums y255), .int .i64 (wrap64 (a1 - (a0.size : Int)))] rfl (by (try simp only [List.map_toArray, List.map_cons, List.map_nil]); first | done | rfl | (simp only [List.length_drop, List.length_take]; rfl)) ?_; (with_reducible refine (text_many.calls (strOfNums y255) (wrap64 (a1 - (a0.size : Int))) t258 _ A7.out).mono ?_); rintro e w12 ⟨rfl, hb⟩; refine ⟨_, rfl, ?_⟩; have n0_ := Aside0.mk (Kd.R_below (by (with_reducible repeat (first | apply Kd.R_alloc | apply Kd.R_drewN | apply Kd.R_drew)); exact HO257.out) hb); have n1_ := Aside0.mk (below_step (by repeat (first | (with_reducible first | exact HB.out | apply below_alloc | apply pw_below_drewN | apply below_drew1) | exact HB.out)) hb); clear HO257; clear HB; have HO257 := n0_; have HB := n1_; clear n0_ n1_; (try clear hb); (try clear hb2); (try clear hk); (try clear hi)))
      go_ret
      exact ⟨by first | rfl | (simp [errW_none, errW_some] <;> rfl) | (simp [*, errW_none, errW_some] <;> rfl), by repeat (first | (with_reducible first | exact HB.out | apply below_alloc | apply pw_below_drewN | apply below_drew1) | exact HB.out)⟩
    · rw [if_neg c8] at H
      exact absurd H (by simp)

end Go.Proofs.YtlekfhnlhdmekaaGreatDoor.T

/- What text.fit makes of a valid string: its beginning, or the string and pads. -/
namespace Go.Proofs.YtlekfhnlhdmekaaGreatDoor.T
set_option linter.unusedSimpArgs false
set_option linter.unusedVariables false
open Go.RowKit Go.Proofs.YtlekfhnlhdmekaaGreatDoorW.PrintWords Go.Proofs.YtlekfhnlhdmekaaGreatDoorW.PrintLast Go.Proofs.YtlekfhnlhdmekaaGreatDoorW.PrintMore
theorem repeat_one (b : UInt8) : ∀ n, Lib.repeatL [b] n = List.replicate n b
  | 0 => rfl
  | n + 1 => by rw [Lib.repeatL, repeat_one b n]; rfl
theorem many_one (p : Int) (m : Nat) (hm : m ≤ 1000) : text_many.f (strOfNums [p]) (m : Int) = some ⟨(List.replicate m (UInt8.ofNat p.toNat)).toArray⟩ := by
  have hs : (strOfNums [p]).size = 1 := by rw [strOfNums_size]; rfl
  unfold text_many.f
  rw [if_neg (by omega), hs]
  rw [if_neg (by simp; omega)]
  unfold strings_Repeat.f
  have c : 0 ≤ (m : Int) ∧ (strOfNums [p]).size * (m : Int).toNat ≤ 100000 ∧ (m : Int) ≤ 100000 := by rw [hs]; simp; omega
  rw [if_pos c]
  simp only [Int.toNat_natCast]
  rw [show (strOfNums [p]).data.toList = [UInt8.ofNat p.toNat] by simp [strOfNums], repeat_one]
theorem fit_short (s : ByteArray) (n p : Int) (h0 : 0 ≤ n) (h1 : n ≤ s.size) : text_fit.f s n p = some (s.extract 0 n.toNat) := by
  unfold text_fit.f
  rw [if_pos h1, if_pos h0]
theorem fit_long (s : ByteArray) (m : Nat) (p : Int) (hs : s.size ≤ 1000) (h1 : s.size < m) (h2 : m - s.size ≤ 1000) :
    text_fit.f s (m : Int) p = some (s ++ ⟨(List.replicate (m - s.size) (UInt8.ofNat p.toNat)).toArray⟩) := by
  unfold text_fit.f
  rw [if_neg (by omega)]
  have e : wrap64 ((m : Int) - (s.size : Int)) = ((m - s.size : Nat) : Int) := by unfold wrap64; omega
  rw [e, many_one p (m - s.size) h2]
  simp only [Option.bind_some]
  have hz : (⟨(List.replicate (m - s.size) (UInt8.ofNat p.toNat)).toArray⟩ : ByteArray).size = m - s.size := by
    rw [← data_length]; simp
  rw [if_pos (by rw [hz]; omega)]
end Go.Proofs.YtlekfhnlhdmekaaGreatDoor.T

/- The law TextSpaces: Space and WordPos agree with the reference. -/
namespace Go.Proofs.YtlekfhnlhdmekaaGreatDoor.T
set_option linter.unusedSimpArgs false
set_option linter.unusedVariables false
open Go.RowKit Go.Proofs.YtlekfhnlhdmekaaGreatDoorW.PrintWords Go.Proofs.YtlekfhnlhdmekaaGreatDoorW.PrintLast Go.Proofs.YtlekfhnlhdmekaaGreatDoorW.PrintMore
namespace Sc
/-- The words of a string. -/
def ws (s : ByteArray) : List (List UInt8) := fw [] (by8 s)
def ba (l : List UInt8) : ByteArray := ⟨l.toArray⟩
theorem ws_wds (s : ByteArray) : ws s = (wds s 0).map (wt s) := by
  have := wd_drop s 0 (Nat.zero_le _)
  simpa [ws] using this
theorem ws_len (s : ByteArray) : (ws s).length = (wds s 0).length := by rw [ws_wds, List.length_map]
theorem ws_le (s : ByteArray) : (ws s).length ≤ s.size := by rw [ws_len]; exact len_le s
theorem print {s : ByteArray} (h : vld s = true) : ∀ b ∈ by8 s, 32 ≤ b.toNat ∧ b.toNat ≤ 126 := by
  intro b hb
  have := (B.good _).1 (B.all h (b.toNat : Int) (by unfold bytesOf; exact List.mem_map.2 ⟨b, hb, rfl⟩))
  omega
theorem in_eq (s : ByteArray) (h : vld s = true) : text_in.f s = some ((ws s).map ba) := by
  unfold text_in.f
  have := B.size h
  rw [if_pos (by omega), show Lib.fieldsD s.data.toList = ws s from fieldsD_fw _ (print h)]
  rfl
theorem map_ba (L : List (List UInt8)) : (L.map ba).map (·.data.toList) = L := by
  rw [List.map_map]
  conv => rhs; rw [← List.map_id L]
  exact List.map_congr_left (fun x _ => rfl)
theorem spans_all (s : ByteArray) (hs : s.size ≤ 1200) : ∀ d : Nat, qanatref02_Spans.f (3602 + d) s = some ((wds s 0).map cv)
  | 0 => spans_eq s hs 3602 (by omega) (by omega)
  | d + 1 => qanatref02_Spans.mono s (3602 + d) _ (spans_all s hs d)
theorem spans (s : ByteArray) (hs : s.size ≤ 1200) (k : Nat) (hk : 3602 ≤ k) : qanatref02_Spans.f k s = some ((wds s 0).map cv) := by
  obtain ⟨d, rfl⟩ : ∃ d, k = 3602 + d := ⟨k - 3602, by omega⟩
  exact spans_all s hs d
/-- The numbers of bytes. -/
def tz (l : List UInt8) : List Int := l.map fun b => (b.toNat : Int)
theorem tz_app (a b : List UInt8) : tz (a ++ b) = tz a ++ tz b := List.map_append
theorem tz_len (a : List UInt8) : (tz a).length = a.length := List.length_map _
theorem tz_rep (q : Nat) (p : Int) (h0 : 0 ≤ p) (h1 : p ≤ 255) : tz (List.replicate q (UInt8.ofNat p.toNat)) = List.replicate q p := by
  unfold tz
  rw [List.map_replicate]
  congr 1
  simp
  omega
theorem str_tz (l : List UInt8) : strOfNums (tz l) = ba l := by
  apply B.ext
  unfold strOfNums tz ba
  simp only [List.map_map]
  conv => rhs; rw [← List.map_id l]
  apply List.map_congr_left
  intro x _
  simp
theorem wt_tz (s : ByteArray) (x : S105) : bytesOf (s.extract (cv x).f0.toNat (cv x).f1.toNat) = tz (wt s x) := by
  unfold bytesOf tz
  rw [B.extract]; rfl
/-- What is made of words behind what there is. -/
def jt (sep : List UInt8) : Bool → List (List UInt8) → List UInt8
  | _, [] => []
  | t, w :: r => (if t = true then [] else sep) ++ w ++ Lib.joinTail sep r
theorem jt_join (sep : List UInt8) (L : List (List UInt8)) : jt sep true L = Lib.join L sep := by
  cases L with
  | nil => rfl
  | cons w r => rw [Lib.join_cons]; simp [jt]
theorem jt_tail (sep : List UInt8) (L : List (List UInt8)) : jt sep false L = Lib.joinTail sep L := by
  cases L with
  | nil => rfl
  | cons w r => simp [jt, Lib.joinTail]
theorem sp_go (s : ByteArray) (n p : Int) (h0 : 0 ≤ p) (h1 : p ≤ 255) : ∀ (L : List S105) (t : Bool) (u full : List UInt8), full = u ++ jt (List.replicate (if n < 1001 then n else 1001).toNat (UInt8.ofNat p.toNat)) t (L.map (wt s)) →
    (full.length ≤ 1000 → spGo s n p (L.map cv) t (tz u) = tz full) ∧ (1000 < full.length → 1000 < (spGo s n p (L.map cv) t (tz u)).length)
  | [], t, u, full, hf => by
    have e : full = u := by rw [hf]; cases t <;> simp [jt]
    rw [e]
    exact ⟨fun _ => rfl, fun h => by simpa [spGo, tz_len] using h⟩
  | x :: L, t, u, full, hf => by
    rw [List.map_cons, spGo, tz_len]
    rw [List.map_cons] at hf
    by_cases hu : u.length ≤ 1000
    · rw [if_pos hu, wt_tz, ← tz_rep _ p h0 h1]
      have e : (if t = true then tz u else tz u ++ tz (List.replicate (if n < 1001 then n else 1001).toNat (UInt8.ofNat p.toNat))) ++ tz (wt s x) = tz ((u ++ (if t = true then [] else List.replicate (if n < 1001 then n else 1001).toNat (UInt8.ofNat p.toNat))) ++ wt s x) := by
        cases t <;> simp [tz_app]
      rw [e]
      refine sp_go s n p h0 h1 L false _ full ?_
      rw [jt_tail, hf]
      simp only [jt, List.append_assoc]
    · rw [if_neg hu]
      have : u.length ≤ full.length := by rw [hf, List.length_append]; omega
      exact ⟨fun h => by omega, fun _ => by rw [tz_len]; omega⟩
theorem join_bytes (sep : List UInt8) (L : List (List UInt8)) (b : UInt8) (hb : b ∈ Lib.join L sep) : b ∈ sep ∨ ∃ w ∈ L, b ∈ w := by
  cases L with
  | nil => cases hb
  | cons w r =>
    rw [Lib.join_cons] at hb
    rcases List.mem_append.1 hb with h | h
    · exact .inr ⟨w, List.mem_cons_self, h⟩
    · unfold Lib.joinTail at h
      obtain ⟨q, hq, h2⟩ := List.mem_flatten.1 h
      obtain ⟨v, hv, rfl⟩ := List.mem_map.1 hq
      rcases List.mem_append.1 h2 with h3 | h3
      · exact .inl h3
      · exact .inr ⟨v, List.mem_cons_of_mem _ hv, h3⟩
theorem many_eq (p n : Int) (hn : 0 ≤ n) : text_many.f (strOfNums [p]) n = some (ba (List.replicate (if n < 1001 then n else 1001).toNat (UInt8.ofNat p.toNat))) := by
  have hs : (strOfNums [p]).size = 1 := by rw [strOfNums_size]; rfl
  unfold text_many.f
  rw [if_neg (by omega), hs]
  have e : (if ((1000 / 1 : Nat) : Int) + 1 < n then ((1000 / 1 : Nat) : Int) + 1 else n) = (if n < 1001 then n else 1001) := by
    rw [show (((1000 / 1 : Nat) : Int)) = 1000 from rfl]
    split <;> split <;> omega
  rw [e]
  generalize hq : (if n < 1001 then n else 1001) = q
  have hq2 : 0 ≤ q ∧ q ≤ 1001 := by rw [← hq]; split <;> omega
  unfold strings_Repeat.f
  rw [if_pos ⟨hq2.1, by rw [hs]; omega, by omega⟩, show (strOfNums [p]).data.toList = [UInt8.ofNat p.toNat] by simp [strOfNums], repeat_one]
  rfl
theorem lens_le (s : ByteArray) : Lib.lens (ws s) + (ws s).length ≤ s.size + 1 := by
  have := fw_len (by8 s) []
  rw [by8_length] at this
  simpa [ws] using this
theorem all_tz (l : List UInt8) (h : ∀ b ∈ l, 32 ≤ b.toNat ∧ b.toNat ≤ 126) : (tz l).all goodI = true := by
  rw [List.all_eq_true]
  intro x hx
  obtain ⟨b, hb, rfl⟩ := List.mem_map.1 hx
  rw [B.good]
  have := h b hb
  omega
/-- Space and the reference's Space are the same. -/
theorem space_agree (s : ByteArray) (n p : Int) (hs : s.size ≤ 1200) (hn : n ≤ 9223372036854775807) (h0 : 0 ≤ p) (h1 : p ≤ 255) : ∃ v e, text_Space.f s n p = some (v, e) ∧ qanatref02_Space.f s n p = some (v, e) := by
  unfold text_Space.f qanatref02_Space.f
  simp only [B.valid1, B.pads1, B.least1, Option.bind_some, B.first3]
  rw [if_pos (show s.size ≤ 2000 ∧ n ≤ 9223372036854775807 from ⟨by omega, hn⟩)]
  by_cases c : vld s = true ∧ goodI p = true ∧ 0 ≤ n
  · rw [if_pos c, if_pos rfl, if_pos (by rw [c.1, c.2.1, decide_eq_true c.2.2]; rfl), in_eq s c.1, spans s hs 5000 (by omega)]
    have hz := B.size c.1
    have hp := (B.good p).1 c.2.1
    have hl : (ws s).length ≤ 1000 := by have := ws_le s; omega
    have hin : ((wds s 0).map cv).all (inside s) = true := by
      rw [List.all_eq_true]
      intro x hx
      obtain ⟨y, hy, rfl⟩ := List.mem_map.1 hx
      have := wds_mem s 0 (by omega) y hy
      show (decide (0 ≤ y.f0) && decide (y.f0 ≤ y.f1) && decide (y.f1 ≤ (s.size : Int))) = true
      rw [decide_eq_true (show 0 ≤ y.f0 by omega), decide_eq_true (show y.f0 ≤ y.f1 by omega), decide_eq_true this.2.2]
      rfl
    simp only [Option.bind_some, List.length_map]
    rw [if_pos (show (wds s 0).length ≤ 5000 ∧ ((wds s 0).map cv).all (inside s) = true from ⟨by rw [← ws_len]; omega, hin⟩)]
    have key := sp_go s n p h0 h1 (wds s 0) true [] _ rfl
    rw [← ws_wds, List.nil_append, jt_join] at key
    obtain ⟨sep, hsep⟩ : ∃ sep, List.replicate (if n < 1001 then n else 1001).toNat (UInt8.ofNat p.toNat) = sep := ⟨_, rfl⟩
    have hseplen : sep.length ≤ 1001 := by rw [← hsep, List.length_replicate]; split <;> omega
    have hsepb : ∀ b ∈ sep, 32 ≤ b.toNat ∧ b.toNat ≤ 126 := by
      intro b hb
      rw [← hsep] at hb
      rw [List.eq_of_mem_replicate hb]
      simp
      omega
    have hme := many_eq p n c.2.2
    rw [hsep] at key hme
    have hgood : ∀ b ∈ Lib.join (ws s) sep, 32 ≤ b.toNat ∧ b.toNat ≤ 126 := by
      intro b hb
      rcases join_bytes sep (ws s) b hb with h | ⟨w, hw, h⟩
      · exact hsepb b h
      · rcases fw_bytes _ [] w hw b h with h2 | h2
        · cases h2
        · exact print c.1 b h2
    have hll := lens_le s
    have hjl : (Lib.join (ws s) sep).length ≤ 1001 * (ws s).length + Lib.lens (ws s) := by
      cases hw : ws s with
      | nil => rw [Lib.join_nil]; simp
      | cons w r =>
        rw [Lib.join_length, List.length_cons]
        have : sep.length * r.length ≤ 1001 * r.length := Nat.mul_le_mul_right _ hseplen
        generalize sep.length * r.length = X at *
        omega
    have eqv : (⟨(Lib.join (ws s) sep).toArray⟩ : ByteArray) = ba (Lib.join (ws s) sep) := rfl
    have hsz : (ba (Lib.join (ws s) sep)).size = (Lib.join (ws s) sep).length := by rw [B.sz]; rfl
    have hvl : (Lib.join (ws s) sep).length ≤ 1000 → vld (ba (Lib.join (ws s) sep)) = true := by
      intro h
      refine B.mk (by rw [hsz]; exact h) (fun x hx => ?_)
      exact List.all_eq_true.1 (all_tz _ hgood) x hx
    by_cases h2 : ((ws s).length : Int) < 2
    · have e : Lib.join (ws s) [] = Lib.join (ws s) sep := by
        have hl : (ws s).length < 2 := by omega
        match hw : ws s, hl with
        | [], _ => rfl
        | [x], _ => rw [Lib.join_one, Lib.join_one]
      have hlen : (Lib.join (ws s) sep).length ≤ 1000 := by
        rw [← e]
        cases hw : ws s with
        | nil => rw [Lib.join_nil]; simp
        | cons w r => rw [Lib.join_length, ← hw]; rw [hw] at hll; rw [hw]; simp at hll ⊢; omega
      rw [if_pos h2]
      unfold strings_Join.f
      rw [map_ba, show (⟨#[]⟩ : ByteArray).data.toList = [] from rfl, e, if_pos ⟨by rw [List.length_map]; omega, by omega⟩]
      refine ⟨_, _, rfl, ?_⟩
      rw [show ([] : List Int) = tz [] from rfl, key.1 hlen]
      unfold qanatref02_out.f
      rw [tz_len, if_neg (by omega), if_pos (all_tz _ hgood), str_tz, eqv]
    · rw [if_neg h2, hme]
      simp only [Option.bind_some]
      unfold strings_Join.f
      rw [map_ba, show (ba sep).data.toList = sep from rfl, if_pos ⟨by rw [List.length_map]; omega, by omega⟩]
      simp only [Option.bind_some]
      rw [eqv, made_eq, hsz]
      unfold qanatref02_out.f
      rw [show ([] : List Int) = tz [] from rfl]
      by_cases hlen : (Lib.join (ws s) sep).length ≤ 1000
      · rw [key.1 hlen, tz_len, if_neg (by omega), if_pos (hvl hlen), if_neg (by omega), if_pos (all_tz _ hgood), str_tz]
        exact ⟨_, _, rfl, rfl⟩
      · rw [if_pos (by omega), if_pos (key.2 (by omega))]
        exact ⟨_, _, rfl, rfl⟩
  · rw [if_neg c, if_neg (by decide), if_neg (by
      intro h
      simp only [Bool.and_eq_true, decide_eq_true_eq] at h
      exact c ⟨h.1.1, h.2, h.1.2⟩)]
    exact ⟨_, _, rfl, rfl⟩
theorem rd_get (s : ByteArray) (j : Nat) (hj : j < (wds s 0).length) : (wds s 0)[j]? = some (rd_T105 (wds s 0) (j : Int)) := by
  unfold rd_T105
  rw [Int.toNat_natCast, List.getD_eq_getElem?_getD, List.getElem?_eq_getElem hj]
  rfl
theorem ws_get (s : ByteArray) (j : Nat) (hj : j < (ws s).length) : (ws s)[j] = wt s (rd_T105 (wds s 0) (j : Int)) := by
  have h : (ws s)[j]? = some (wt s (rd_T105 (wds s 0) (j : Int))) := by
    rw [ws_wds, List.getElem?_map, rd_get s j (by rw [← ws_len]; exact hj)]; rfl
  rw [List.getElem?_eq_getElem hj] at h
  exact Option.some.inj h
theorem wt_ext (s : ByteArray) (x : S105) : (s.extract (cv x).f0.toNat (cv x).f1.toNat).toList = wt s x := by
  rw [B.toL, B.extract]; rfl
theorem ba_inj {a b : List UInt8} (h : ba a = ba b) : a = b := by
  have := congrArg (fun x : ByteArray => x.data.toList) h
  exact this
theorem map_inj {a b : List (List UInt8)} : a.map ba = b.map ba ↔ a = b := by
  constructor
  · intro h
    have := congrArg (List.map (fun x : ByteArray => x.data.toList)) h
    rwa [map_ba, map_ba] at this
  · intro h; rw [h]
theorem eq_l0 (a b : List ByteArray) (hl : a.length = b.length) (hq : a.length ≤ 2000) : ∀ (d j k : Nat), a.length - j = d → d < k → j ≤ a.length → slices_Equal_string_string.l0 k a b (a.length : Int) (j : Int) = some (decide (a.drop j = b.drop j))
  | d, j, 0, _, h, _ => absurd h (by omega)
  | d, j, k + 1, hd, hk, hj => by
    rw [slices_Equal_string_string.l0]
    by_cases hlt : j < a.length
    · have hb : j < b.length := by omega
      rw [if_pos (by omega), if_pos (by omega), if_pos (by omega), if_pos (by omega), wrap64_id _ (by omega) (by omega), show ((j : Int) + 1) = ((j + 1 : Nat) : Int) by omega]
      have e1 : rdOf ByteArray.empty a (j : Int) = a[j] := by
        unfold rdOf; rw [Int.toNat_natCast, List.getD_eq_getElem?_getD, List.getElem?_eq_getElem hlt]; rfl
      have e2 : rdOf ByteArray.empty b (j : Int) = b[j] := by
        unfold rdOf; rw [Int.toNat_natCast, List.getD_eq_getElem?_getD, List.getElem?_eq_getElem hb]; rfl
      rw [e1, e2, List.drop_eq_getElem_cons hlt, List.drop_eq_getElem_cons hb]
      by_cases e : a[j] = b[j]
      · rw [if_pos (by rw [e]), eq_l0 a b hl hq (d - 1) (j + 1) k (by omega) (by omega) (by omega)]
        congr 1
        apply decide_eq_decide.2
        rw [List.cons.injEq]
        exact ⟨fun h => ⟨e, h⟩, fun h => h.2⟩
      · rw [if_neg (fun h => e (B.ext (by rw [← B.toL, ← B.toL]; exact h))), decide_eq_false (fun h => e (List.cons.inj h).1)]
    · rw [if_neg (by omega), List.drop_of_length_le (by omega), List.drop_of_length_le (by omega), decide_eq_true rfl]
theorem eq_f (a b : List ByteArray) (hl : a.length = b.length) (hq : a.length ≤ 2000) (k : Nat) (hk : 2001 ≤ k) : slices_Equal_string_string.f k a b = some (decide (a = b)) := by
  unfold slices_Equal_string_string.f
  rw [if_pos (by omega), show (0 : Int) = ((0 : Nat) : Int) from rfl, eq_l0 a b hl hq a.length 0 k (by omega) (by omega) (by omega), List.drop_zero, List.drop_zero]
/-- The inner loop of the reference: all words from the j-th on are the same. -/
theorem ref_l1 (a s : ByteArray) (ha : a.size ≤ 1200) (hs : s.size ≤ 1200) (i : Nat) (hi : i + (ws a).length ≤ (ws s).length) : ∀ (d j k : Nat) (f : Bool), (ws a).length - j = d → j ≤ (ws a).length → d < k →
    qanatref02_WordPos.l1 k a s ((wds a 0).map cv) ((wds s 0).map cv) (i : Int) f (j : Int) = if f = true ∧ ((ws s).drop (i + j)).take ((ws a).length - j) = (ws a).drop j then some ((i : Int) + 1, 0) else qanatref02_WordPos.l0 (k - d - 1) a s ((wds a 0).map cv) ((wds s 0).map cv) ((i + 1 : Nat) : Int)
  | d, j, 0, f, _, _, h => absurd h (by omega)
  | d, j, k + 1, f, hd, hj, hk => by
    have la := ws_le a
    have ls := ws_le s
    have ea := ws_len a
    have es := ws_len s
    rw [qanatref02_WordPos.l1]
    simp only [List.length_map]
    by_cases hlt : j < (ws a).length
    · rw [if_pos (by omega), wrap64_id ((j : Int) + 1) (by omega) (by omega), show ((j : Int) + 1) = ((j + 1 : Nat) : Int) by omega]
      have fin : ∀ g : Bool, qanatref02_WordPos.l1 k a s ((wds a 0).map cv) ((wds s 0).map cv) (i : Int) g ((j + 1 : Nat) : Int) = if g = true ∧ ((ws s).drop (i + (j + 1))).take ((ws a).length - (j + 1)) = (ws a).drop (j + 1) then some ((i : Int) + 1, 0) else qanatref02_WordPos.l0 (k + 1 - d - 1) a s ((wds a 0).map cv) ((wds s 0).map cv) ((i + 1 : Nat) : Int) := by
        intro g
        rw [ref_l1 a s ha hs i hi (d - 1) (j + 1) k g (by omega) (by omega) (by omega), show k - (d - 1) - 1 = k + 1 - d - 1 by omega]
      cases f with
      | false =>
        rw [if_neg (by decide), fin false, if_neg (fun h => by cases h.1), if_neg (fun h => by cases h.1)]
      | true =>
        have q1 := rd_ok a (j : Int) (by omega) (by omega)
        have q2 := rd_ok s ((i + j : Nat) : Int) (by omega) (by omega)
        rw [wrap64_id ((i : Int) + (j : Int)) (by omega) (by omega), show ((i : Int) + (j : Int)) = ((i + j : Nat) : Int) by omega, rd_cv _ _ (by omega) (by omega), rd_cv _ _ (by omega) (by omega), wt_ext, wt_ext, ← ws_get a j hlt, ← ws_get s (i + j) (by omega)]
        rw [if_pos rfl, if_pos (by omega), if_pos (show 0 ≤ (cv (rd_T105 (wds a 0) (j : Int))).f0 from q1.1), if_pos (show (cv (rd_T105 (wds a 0) (j : Int))).f0 ≤ (cv (rd_T105 (wds a 0) (j : Int))).f1 from by have := q1.2.1; simp only [cv]; omega), if_pos (show (cv (rd_T105 (wds a 0) (j : Int))).f1 ≤ (a.size : Int) from q1.2.2),
          if_pos (by omega), if_pos (by omega), if_pos (show 0 ≤ (cv (rd_T105 (wds s 0) ((i + j : Nat) : Int))).f0 from q2.1), if_pos (show (cv (rd_T105 (wds s 0) ((i + j : Nat) : Int))).f0 ≤ (cv (rd_T105 (wds s 0) ((i + j : Nat) : Int))).f1 from by have := q2.2.1; simp only [cv]; omega), if_pos (show (cv (rd_T105 (wds s 0) ((i + j : Nat) : Int))).f1 ≤ (s.size : Int) from q2.2.2), fin]
        have e3 : ((ws s).drop (i + j)).take ((ws a).length - j) = (ws s)[i + j] :: ((ws s).drop (i + (j + 1))).take ((ws a).length - (j + 1)) := by
          rw [List.drop_eq_getElem_cons (show i + j < (ws s).length by omega), show (ws a).length - j = ((ws a).length - (j + 1)) + 1 by omega, List.take_succ_cons]; rfl
        have e4 : ((ws s).drop (i + j)).take ((ws a).length - j) = (ws a).drop j ↔ (ws s)[i + j] = (ws a)[j] ∧ ((ws s).drop (i + (j + 1))).take ((ws a).length - (j + 1)) = (ws a).drop (j + 1) := by
          rw [e3, List.drop_eq_getElem_cons hlt, List.cons.injEq]
        by_cases h1 : (ws a)[j] = (ws s)[i + j]
        · by_cases h2 : ((ws s).drop (i + (j + 1))).take ((ws a).length - (j + 1)) = (ws a).drop (j + 1)
          · rw [if_pos ⟨beq_iff_eq.2 h1, h2⟩, if_pos ⟨rfl, e4.2 ⟨h1.symm, h2⟩⟩]
          · rw [if_neg (fun h => h2 h.2), if_neg (fun h => h2 (e4.1 h.2).2)]
        · rw [if_neg (fun h => h1 (beq_iff_eq.1 h.1)), if_neg (fun h => h1 (e4.1 h.2).1.symm)]
    · obtain rfl : j = (ws a).length := by omega
      have e : ((ws s).drop (i + (ws a).length)).take ((ws a).length - (ws a).length) = (ws a).drop (ws a).length := by simp
      rw [if_neg (by omega), wrap64_id ((i : Int) + 1) (by omega) (by omega)]
      cases f with
      | false => rw [if_neg (by decide), if_neg (fun h => by cases h.1), show k + 1 - d - 1 = k by omega, show ((i : Int) + 1) = ((i + 1 : Nat) : Int) by omega]
      | true => rw [if_pos rfl, if_pos ⟨rfl, e⟩]
theorem pos_ind (a s : ByteArray) (ha : a.size ≤ 1200) (hs : s.size ≤ 1200) (hc : 0 < (ws a).length) : ∀ (d i k1 k2 : Nat), (ws s).length - i ≤ d → 3000 * d + 3000 ≤ k1 → 3000 * d + 3000 ≤ k2 →
    ∃ v, text_WordPos.l0 k1 ((ws a).map ba) ((ws s).map ba) (i : Int) = some (v, 0) ∧ qanatref02_WordPos.l0 k2 a s ((wds a 0).map cv) ((wds s 0).map cv) (i : Int) = some (v, 0) := by
  intro d
  induction d with
  | zero =>
    intro i k1 k2 hd h1 h2
    have la := ws_le a
    have ls := ws_le s
    have ea := ws_len a
    have es := ws_len s
    obtain ⟨k1, rfl⟩ : ∃ k', k1 = k' + 1 := ⟨k1 - 1, by omega⟩
    obtain ⟨k2, rfl⟩ : ∃ k', k2 = k' + 2 := ⟨k2 - 2, by omega⟩
    rw [text_WordPos.l0, qanatref02_WordPos.l0]
    simp only [List.length_map]
    rw [wrap64_id (((ws s).length : Int) - ((ws a).length : Int)) (by omega) (by omega), if_neg (by omega), if_neg (by omega), qanatref02_WordPos.j2, if_neg (by decide)]
    exact ⟨_, rfl, rfl⟩
  | succ d ih =>
    intro i k1 k2 hd h1 h2
    have la := ws_le a
    have ls := ws_le s
    have ea := ws_len a
    have es := ws_len s
    obtain ⟨k1, rfl⟩ : ∃ k', k1 = k' + 1 := ⟨k1 - 1, by omega⟩
    obtain ⟨k2, rfl⟩ : ∃ k', k2 = k' + 2 := ⟨k2 - 2, by omega⟩
    rw [text_WordPos.l0, qanatref02_WordPos.l0]
    simp only [List.length_map]
    rw [wrap64_id (((ws s).length : Int) - ((ws a).length : Int)) (by omega) (by omega)]
    by_cases hc1 : i + (ws a).length ≤ (ws s).length
    · rw [if_pos (by omega), wrap64_id ((i : Int) + ((ws a).length : Int)) (by omega) (by omega), if_pos (by omega), if_pos (by omega), if_pos (by omega), wrap64_id ((i : Int) + 1) (by omega) (by omega), show ((i : Int) + ((ws a).length : Int)) = ((i + (ws a).length : Nat) : Int) by omega]
      simp only [Int.toNat_natCast]
      rw [← List.map_take, ← List.map_drop, List.drop_take, show i + (ws a).length - i = (ws a).length by omega,
        eq_f _ _ (by rw [List.length_map, List.length_map, List.length_take, List.length_drop]; omega) (by rw [List.length_map, List.length_take, List.length_drop]; omega) k1 (by omega)]
      simp only [Option.bind_some]
      have r := ref_l1 a s ha hs i hc1 (ws a).length 0 k2 true (by omega) (by omega) (by omega)
      rw [show ((0 : Nat) : Int) = 0 from rfl] at r
      rw [if_pos (show (i : Int) < ((wds s 0).length : Int) by omega), if_pos (show ((wds a 0).length : Int) > 0 by omega), wrap64_id (((wds s 0).length : Int) - (i : Int)) (by omega) (by omega), decide_eq_true (show ((wds a 0).length : Int) ≤ ((wds s 0).length : Int) - (i : Int) by omega), qanatref02_WordPos.j2, if_pos rfl, r]
      simp only [Nat.add_zero, Nat.sub_zero, List.drop_zero, decide_eq_true_eq, map_inj, true_and]
      by_cases he : ((ws s).drop i).take (ws a).length = ws a
      · rw [if_pos he, if_pos he]
        exact ⟨_, rfl, rfl⟩
      · rw [if_neg he, if_neg he, show ((i : Int) + 1) = ((i + 1 : Nat) : Int) by omega]
        exact ih (i + 1) k1 (k2 - (ws a).length - 1) (by omega) (by omega) (by omega)
    · have e : (if (i : Int) < ((wds s 0).length : Int) then (if ((wds a 0).length : Int) > 0 then (qanatref02_WordPos.j2 (k2 + 1) a s ((wds a 0).map cv) ((wds s 0).map cv) (i : Int) (decide (((wds a 0).length : Int) ≤ (wrap64 (((wds s 0).length : Int) - (i : Int)))))) else (qanatref02_WordPos.j2 (k2 + 1) a s ((wds a 0).map cv) ((wds s 0).map cv) (i : Int) false)) else (qanatref02_WordPos.j2 (k2 + 1) a s ((wds a 0).map cv) ((wds s 0).map cv) (i : Int) false)) = some (0, 0) := by
        by_cases hx : (i : Int) < ((wds s 0).length : Int)
        · rw [if_pos hx, if_pos (by omega), wrap64_id (((wds s 0).length : Int) - (i : Int)) (by omega) (by omega), decide_eq_false (by omega), qanatref02_WordPos.j2, if_neg (by decide)]
        · rw [if_neg hx, qanatref02_WordPos.j2, if_neg (by decide)]
      rw [if_neg (by omega), e]
      exact ⟨_, rfl, rfl⟩
theorem pos_agree (a s : ByteArray) (n : Int) (ha : a.size ≤ 1200) (hs : s.size ≤ 1200) (hn : n ≤ 9223372036854775807) (k : Nat) (hk : 3700000 ≤ k) : ∃ v e, text_WordPos.f k a s n = some (v, e) ∧ qanatref02_WordPos.f k a s n = some (v, e) := by
  obtain ⟨k, rfl⟩ : ∃ k', k = k' + 3 := ⟨k - 3, by omega⟩
  have hj : ∀ q : Bool, q = true → qanatref02_WordPos.j0 (k + 3) a s n q = some (0, 1) := fun q hq => by rw [qanatref02_WordPos.j0, if_pos hq]
  unfold text_WordPos.f qanatref02_WordPos.f qanatref02_Valid.f
  simp only [B.valid2, B.least1, B.whole, Option.bind_some, B.first2]
  by_cases h : (vld a = true ∧ vld s = true) ∧ 1 ≤ n
  · obtain ⟨m, hm⟩ : ∃ m : Nat, n - 1 = (m : Int) := ⟨(n - 1).toNat, by omega⟩
    have la := ws_le a
    have ls := ws_le s
    rw [if_pos h, if_pos rfl, if_pos h.1.1, if_pos h.1.2, decide_eq_true h.2, in_eq a h.1.1, in_eq s h.1.2, Bool.not_true, qanatref02_WordPos.j0, if_neg (by decide), spans a ha (k + 2) (by omega), spans s hs (k + 2) (by omega)]
    simp only [Option.bind_some, List.length_map]
    rw [wrap64_id (n - 1) (by omega) (by omega), hm]
    by_cases hc : 0 < (ws a).length
    · rw [if_neg (by omega)]
      obtain ⟨v, h1, h2⟩ := pos_ind a s ha hs hc (ws s).length m (k + 3) (k + 2) (by omega) (by omega) (by omega)
      exact ⟨v, 0, h1, h2⟩
    · rw [if_pos (by omega), qanatref02_WordPos.l0]
      simp only [List.length_map]
      have ea := ws_len a
      rw [if_neg (show ¬ ((wds a 0).length : Int) > 0 by omega)]
      refine ⟨0, 0, rfl, ?_⟩
      split <;> rw [qanatref02_WordPos.j2, if_neg (by decide)]
  · rw [if_neg h, if_neg (by decide)]
    refine ⟨0, 1, rfl, ?_⟩
    by_cases h1 : vld a = true
    · rw [if_pos h1]
      by_cases h2 : vld s = true
      · rw [if_pos h2, decide_eq_false (fun h3 => h ⟨⟨h1, h2⟩, h3⟩), Bool.not_false, hj _ rfl]
      · rw [if_neg h2, hj _ rfl]
    · rw [if_neg h1, hj _ rfl]
end Sc
theorem spaces_pure : qanatlaw02_TextSpaces.Pure := by
  intro a s n p _ _ w1 w2
  have hn := B.i64 w1
  obtain ⟨p0, p1⟩ := u8_of_wf w2
  refine ⟨60 + 4000000, ?_⟩
  unfold qanatlaw02_TextSpaces.f
  rw [head_ok 4000000]
  simp only [Option.bind_some, qanatlaw02_long.f]
  rw [show (60 + 4000000 : Nat) = 4000059 + 1 from rfl]
  by_cases h0 : (a.size : Int) > 1200
  · rw [if_pos (decide_eq_true h0), qanatlaw02_TextSpaces.j0, if_pos rfl]
  · rw [if_neg (by simp; omega)]
    by_cases h1 : (s.size : Int) > 1200
    · rw [decide_eq_true h1, qanatlaw02_TextSpaces.j0, if_pos rfl]
    · rw [decide_eq_false h1, qanatlaw02_TextSpaces.j0, if_neg (by decide)]
      obtain ⟨v1, e1, a1, b1⟩ := Sc.space_agree s n p (by omega) hn.2 p0 (by omega)
      obtain ⟨v2, e2, a2, b2⟩ := Sc.pos_agree a s n (by omega) (by omega) hn.2 4000059 (by omega)
      simp only [a1, a2, b1, b2, Option.bind_some, B.num_eq, B.str_eq, if_true]
end Go.Proofs.YtlekfhnlhdmekaaGreatDoor.T
