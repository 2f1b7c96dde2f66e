/- Part 6 of the proof of TextWordy: the functions that it calls return what their plain descriptions say. -/
import Derived.Test.YtlekfhnlhdmekaaGreatDoorCTextWordy2
import Derived.Test.YtlekfhnlhdmekaaGreatDoorCTextWordy4
import Derived.Test.YtlekfhnlhdmekaaGreatDoorCTextWordy5
import Derived.Test.YtlekfhnlhdmekaaGreatDoorCTextWordy3
import Derived.Shelf.Strings.FieldsAny
import Derived.Lib.Join
import Derived.Lib.TrimByte

-- Written by a program of this session (mp.py over the kit's print.py), out of the translation.
namespace Go.Proofs.YtlekfhnlhdmekaaGreatDoor.T
set_option linter.unusedSimpArgs false
open Go.RowKit Go.Proofs.YtlekfhnlhdmekaaGreatDoorW.PrintWords Go.Proofs.YtlekfhnlhdmekaaGreatDoorW.PrintLast Go.Proofs.YtlekfhnlhdmekaaGreatDoorW.PrintMore
attribute [local go_sem] max2_int min2_int max_two min_two max_three min_three max_four min_four   -- for this text's walks alone
set_option linter.unusedVariables false
set_option linter.unusedSimpArgs false

/-! ### qanatlaw02_TextWordy: function 12 -/
mutual
def qanatlaw02_TextWordy.j0 : Nat → ByteArray → Int → Int → Bool → Bool → Option (Bool)
  | 0, _, _, _, _, _ => none
  | k + 1, x0, x1, x2, x7, x55 => if x55 = true then (some false) else ((text_Subword.f x0 (wrap64 ((wrap64 (x1)) + 1)) (wrap64 (x2))).bind fun bt837 => ((text_DelWord.f x0 (wrap64 ((wrap64 (x1)) + 1)) (wrap64 (x2))).bind fun bt839 => ((text_Words.f x0).bind fun bt841 => ((text_Words.f bt837.1).bind fun bt843 => ((text_Words.f bt839.1).bind fun bt845 => (if bt837.2 = 0 then (if bt839.2 = 0 then (if bt841.2 = 0 then (if bt843.2 = 0 then (if bt845.2 = 0 then (if (wrap64 (bt843.1 + bt845.1)) = bt841.1 then (qanatlaw02_TextWordy.j1 k x0 x7 (wrap64 ((wrap64 (x1)) + 1)) bt837.1 bt839.1 (decide (bt843.1 > (wrap64 (x2))))) else (qanatlaw02_TextWordy.j1 k x0 x7 (wrap64 ((wrap64 (x1)) + 1)) bt837.1 bt839.1 true)) else (qanatlaw02_TextWordy.j1 k x0 x7 (wrap64 ((wrap64 (x1)) + 1)) bt837.1 bt839.1 true)) else (qanatlaw02_TextWordy.j1 k x0 x7 (wrap64 ((wrap64 (x1)) + 1)) bt837.1 bt839.1 true)) else (qanatlaw02_TextWordy.j1 k x0 x7 (wrap64 ((wrap64 (x1)) + 1)) bt837.1 bt839.1 true)) else (qanatlaw02_TextWordy.j1 k x0 x7 (wrap64 ((wrap64 (x1)) + 1)) bt837.1 bt839.1 true)) else (qanatlaw02_TextWordy.j1 k x0 x7 (wrap64 ((wrap64 (x1)) + 1)) bt837.1 bt839.1 true)))))))
def qanatlaw02_TextWordy.j1 : Nat → ByteArray → Bool → Int → ByteArray → ByteArray → Bool → Option (Bool)
  | 0, _, _, _, _, _, _ => none
  | k + 1, x0, x7, x12, x13, x14, x120 => if x120 = true then (some false) else (if x13.toList = ([] : List UInt8) then (if x7 = true then (some (x14.toList == x0.toList)) else (some false)) else ((text_WordPos.f k x13 x0 x12).bind fun bt847 => ((text_Word.f x0 x12).bind fun bt849 => ((text_Word.f x13 1).bind fun bt851 => (if x7 = true then (if bt847.2 = 0 then (if bt847.1 = x12 then (if bt849.2 = 0 then (if bt851.2 = 0 then (some (bt849.1.toList == bt851.1.toList)) else (some false)) else (some false)) else (some false)) else (some false)) else (some false))))))
end
def qanatlaw02_TextWordy.f (k : Nat) (a0 : ByteArray) (a1 : Int) (a2 : Int) : Option (Bool) := (qanatlaw02_head.f k).bind fun t830 => ((text_Valid.f a0).bind fun t831 => (if t831 = true then ((text_Space.f a0 1 32).bind fun bt832 => ((text_Space.f bt832.1 1 32).bind fun bt834 => (if bt832.2 = 0 then (if bt834.2 = 0 then (if bt832.1.toList = bt834.1.toList then ((qanatlaw02_same.f k bt832.1 a0).bind fun t836 => (qanatlaw02_TextWordy.j0 k a0 a1 a2 t830 (!t836))) else (qanatlaw02_TextWordy.j0 k a0 a1 a2 t830 true)) else (qanatlaw02_TextWordy.j0 k a0 a1 a2 t830 true)) else (qanatlaw02_TextWordy.j0 k a0 a1 a2 t830 true)))) else (some t830)))
theorem qanatlaw02_TextWordy.mono_l : ∀ k, (∀ y0 y1 y2 y3 y4, LeO (qanatlaw02_TextWordy.j0 k y0 y1 y2 y3 y4) (qanatlaw02_TextWordy.j0 (k + 1) y0 y1 y2 y3 y4)) ∧ (∀ y0 y1 y2 y3 y4 y5, LeO (qanatlaw02_TextWordy.j1 k y0 y1 y2 y3 y4 y5) (qanatlaw02_TextWordy.j1 (k + 1) y0 y1 y2 y3 y4 y5))
  | 0 => ⟨fun _ _ _ _ _ r h => by simp [qanatlaw02_TextWordy.j0] at h, fun _ _ _ _ _ _ r h => by simp [qanatlaw02_TextWordy.j1] at h⟩
  | k + 1 => by
    obtain ⟨ih0, ih1⟩ := qanatlaw02_TextWordy.mono_l k
    refine ⟨?_, ?_⟩
    · intro y0 y1 y2 y3 y4
      unfold qanatlaw02_TextWordy.j0
      repeat' first
      | (with_reducible exact ih0 _ _ _ _ _)
      | (with_reducible exact ih1 _ _ _ _ _ _)
      | (with_reducible exact qanatlaw02_head.mono _)
      | (with_reducible exact qanatlaw02_same.mono _ _ _)
      | (with_reducible exact text_WordPos.mono _ _ _ _)
      | (with_reducible exact LeO.refl _)
      | (with_reducible exact LeO.none _)
      | (with_reducible refine LeO.ite ?_ ?_)
      | (with_reducible refine LeO.bind ?_ (fun _ => ?_))
      | exact ih0 _ _ _ _ _
      | exact ih1 _ _ _ _ _ _
      | exact qanatlaw02_head.mono _
      | exact qanatlaw02_same.mono _ _ _
      | exact text_WordPos.mono _ _ _ _
      | exact LeO.none _
      | refine LeO.ite ?_ ?_
      | refine LeO.bind ?_ (fun _ => ?_)
    · intro y0 y1 y2 y3 y4 y5
      unfold qanatlaw02_TextWordy.j1
      repeat' first
      | (with_reducible exact ih0 _ _ _ _ _)
      | (with_reducible exact ih1 _ _ _ _ _ _)
      | (with_reducible exact qanatlaw02_head.mono _)
      | (with_reducible exact qanatlaw02_same.mono _ _ _)
      | (with_reducible exact text_WordPos.mono _ _ _ _)
      | (with_reducible exact LeO.refl _)
      | (with_reducible exact LeO.none _)
      | (with_reducible refine LeO.ite ?_ ?_)
      | (with_reducible refine LeO.bind ?_ (fun _ => ?_))
      | exact ih0 _ _ _ _ _
      | exact ih1 _ _ _ _ _ _
      | exact qanatlaw02_head.mono _
      | exact qanatlaw02_same.mono _ _ _
      | exact text_WordPos.mono _ _ _ _
      | exact LeO.none _
      | refine LeO.ite ?_ ?_
      | refine LeO.bind ?_ (fun _ => ?_)
theorem qanatlaw02_TextWordy.mono : ∀ a0 a1 a2 k, LeO (qanatlaw02_TextWordy.f k a0 a1 a2) (qanatlaw02_TextWordy.f (k + 1) a0 a1 a2) := by
  intro a0 a1 a2 k
  obtain ⟨ih0, ih1⟩ := qanatlaw02_TextWordy.mono_l k
  unfold qanatlaw02_TextWordy.f
  repeat' first
      | (with_reducible exact ih0 _ _ _ _ _)
      | (with_reducible exact ih1 _ _ _ _ _ _)
      | (with_reducible exact qanatlaw02_head.mono _)
      | (with_reducible exact qanatlaw02_same.mono _ _ _)
      | (with_reducible exact text_WordPos.mono _ _ _ _)
      | (with_reducible exact LeO.refl _)
      | (with_reducible exact LeO.none _)
      | (with_reducible refine LeO.ite ?_ ?_)
      | (with_reducible refine LeO.bind ?_ (fun _ => ?_))
      | exact ih0 _ _ _ _ _
      | exact ih1 _ _ _ _ _ _
      | exact qanatlaw02_head.mono _
      | exact qanatlaw02_same.mono _ _ _
      | exact text_WordPos.mono _ _ _ _
      | exact LeO.none _
      | refine LeO.ite ?_ ?_
      | refine LeO.bind ?_ (fun _ => ?_)
set_option maxHeartbeats 8000000 in
set_option maxRecDepth 100000 in
theorem qanatlaw02_TextWordy.calls (k : Nat) (a0 : ByteArray) (a1 : Int) (a2 : Int) (r : Bool) (w : World) (hT : TabOK w) (h : qanatlaw02_TextWordy.f k a0 a1 a2 = some r) :
    Calls Tryz.prog 12 #[.string a0, .int .u8 a1, .int .u8 a2] w fun e w' => e = .returned (.bool r) ∧ Below w.heap.size w w' := by
  have HB := Aside0.mk (Below.refl w.heap.size w)
  have H : ((qanatlaw02_head.f k).bind fun t830 => ((text_Valid.f a0).bind fun t831 => (if t831 = true then ((text_Space.f a0 1 32).bind fun bt832 => ((text_Space.f bt832.1 1 32).bind fun bt834 => (if bt832.2 = 0 then (if bt834.2 = 0 then (if bt832.1.toList = bt834.1.toList then ((qanatlaw02_same.f k bt832.1 a0).bind fun t836 => (qanatlaw02_TextWordy.j0 k a0 a1 a2 t830 (!t836))) else (qanatlaw02_TextWordy.j0 k a0 a1 a2 t830 true)) else (qanatlaw02_TextWordy.j0 k a0 a1 a2 t830 true)) else (qanatlaw02_TextWordy.j0 k a0 a1 a2 t830 true)))) else (some t830)))) = some r := h
  clear h
  replace H := Option.bind_eq_some_iff.mp H
  obtain ⟨t830, A40, H⟩ := H
  replace H : ((text_Valid.f a0).bind fun t831 => (if t831 = true then ((text_Space.f a0 1 32).bind fun bt832 => ((text_Space.f bt832.1 1 32).bind fun bt834 => (if bt832.2 = 0 then (if bt834.2 = 0 then (if bt832.1.toList = bt834.1.toList then ((qanatlaw02_same.f k bt832.1 a0).bind fun t836 => (qanatlaw02_TextWordy.j0 k a0 a1 a2 t830 (!t836))) else (qanatlaw02_TextWordy.j0 k a0 a1 a2 t830 true)) else (qanatlaw02_TextWordy.j0 k a0 a1 a2 t830 true)) else (qanatlaw02_TextWordy.j0 k a0 a1 a2 t830 true)))) else (some t830))) = some r := H
  have A4 := Aside0.mk A40
  clear A40
  replace H := Option.bind_eq_some_iff.mp H
  obtain ⟨t831, A50, H⟩ := H
  replace H : (if t831 = true then ((text_Space.f a0 1 32).bind fun bt832 => ((text_Space.f bt832.1 1 32).bind fun bt834 => (if bt832.2 = 0 then (if bt834.2 = 0 then (if bt832.1.toList = bt834.1.toList then ((qanatlaw02_same.f k bt832.1 a0).bind fun t836 => (qanatlaw02_TextWordy.j0 k a0 a1 a2 t830 (!t836))) else (qanatlaw02_TextWordy.j0 k a0 a1 a2 t830 true)) else (qanatlaw02_TextWordy.j0 k a0 a1 a2 t830 true)) else (qanatlaw02_TextWordy.j0 k a0 a1 a2 t830 true)))) else (some t830)) = some r := H
  have A5 := Aside0.mk A50
  clear A50
  by_cases c6 : t831 = true
  · subst c6
    have H1 : ((text_Space.f a0 1 32).bind fun bt832 => ((text_Space.f bt832.1 1 32).bind fun bt834 => (if bt832.2 = 0 then (if bt834.2 = 0 then (if bt832.1.toList = bt834.1.toList then ((qanatlaw02_same.f k bt832.1 a0).bind fun t836 => (qanatlaw02_TextWordy.j0 k a0 a1 a2 t830 (!t836))) else (qanatlaw02_TextWordy.j0 k a0 a1 a2 t830 true)) else (qanatlaw02_TextWordy.j0 k a0 a1 a2 t830 true)) else (qanatlaw02_TextWordy.j0 k a0 a1 a2 t830 true)))) = some r := by rw [if_pos rfl] at H; exact H
    clear H
    have H := H1
    clear H1
    replace H := Option.bind_eq_some_iff.mp H
    obtain ⟨⟨t832, t833⟩, A70, H⟩ := H
    replace H : ((text_Space.f t832 1 32).bind fun bt834 => (if t833 = 0 then (if bt834.2 = 0 then (if t832.toList = bt834.1.toList then ((qanatlaw02_same.f k t832 a0).bind fun t836 => (qanatlaw02_TextWordy.j0 k a0 a1 a2 t830 (!t836))) else (qanatlaw02_TextWordy.j0 k a0 a1 a2 t830 true)) else (qanatlaw02_TextWordy.j0 k a0 a1 a2 t830 true)) else (qanatlaw02_TextWordy.j0 k a0 a1 a2 t830 true))) = some r := H
    have A7 := Aside0.mk A70
    clear A70
    replace H := Option.bind_eq_some_iff.mp H
    obtain ⟨⟨t834, t835⟩, A80, H⟩ := H
    replace H : (if t833 = 0 then (if t835 = 0 then (if t832.toList = t834.toList then ((qanatlaw02_same.f k t832 a0).bind fun t836 => (qanatlaw02_TextWordy.j0 k a0 a1 a2 t830 (!t836))) else (qanatlaw02_TextWordy.j0 k a0 a1 a2 t830 true)) else (qanatlaw02_TextWordy.j0 k a0 a1 a2 t830 true)) else (qanatlaw02_TextWordy.j0 k a0 a1 a2 t830 true)) = some r := H
    have A8 := Aside0.mk A80
    clear A80
    have HC9 := Aside0.mk H
    clear H
    go_enter Tryz.func12, Tryz.ntmps12
    go_upto_region 6 with (first | ((with_reducible refine gate_callee (f := 15) rfl ?_); refine goesL_ (some 24) rfl rfl Tryz.func15 (by kernel_rfl) rfl #[] rfl (by (try simp only [List.map_toArray, List.map_cons, List.map_nil]); first | done | rfl | (simp only [List.length_drop, List.length_take]; rfl)) ?_; (with_reducible refine (qanatlaw02_head.calls k  t830 _ (TabOK.of_below hT (by repeat (first | (with_reducible first | exact HB.out | apply below_alloc | apply pw_below_drewN | apply below_drew1) | exact HB.out))) A4.out).mono ?_); rintro e w10 ⟨rfl, hb⟩; refine ⟨_, rfl, ?_⟩; have n0_ := Aside0.mk (below_step (by repeat (first | (with_reducible first | exact HB.out | apply below_alloc | apply pw_below_drewN | apply below_drew1) | exact HB.out)) hb); clear HB; have HB := n0_; clear n0_; (try clear hb); (try clear hb2); (try clear hk); (try clear hi)) | ((with_reducible refine gate_callee (f := 65) rfl ?_); refine goesL_ (some 26) rfl rfl Tryz.func65 (by kernel_rfl) rfl #[.string a0] rfl (by (try simp only [List.map_toArray, List.map_cons, List.map_nil]); first | done | rfl | (simp only [List.length_drop, List.length_take]; rfl)) ?_; (with_reducible refine (text_Valid.calls a0 true _ A5.out).mono ?_); rintro e w11 ⟨rfl, hb⟩; refine ⟨_, rfl, ?_⟩; have n0_ := Aside0.mk (below_step (by repeat (first | (with_reducible first | exact HB.out | apply below_alloc | apply pw_below_drewN | apply below_drew1) | exact HB.out)) hb); clear HB; have HB := n0_; clear n0_; (try clear hb); (try clear hb2); (try clear hk); (try clear hi)) | ((with_reducible refine gate_callee (f := 70) rfl ?_); refine goesL_ (some 31) rfl rfl Tryz.func70 (by kernel_rfl) rfl #[.string a0, .int .i64 1, .int .u8 32] rfl (by (try simp only [List.map_toArray, List.map_cons, List.map_nil]); first | done | rfl | (simp only [List.length_drop, List.length_take]; rfl)) ?_; (with_reducible refine (text_Space.calls a0 1 32 t832 t833 _ (TabOK.of_below hT (by repeat (first | (with_reducible first | exact HB.out | apply below_alloc | apply pw_below_drewN | apply below_drew1) | exact HB.out))) A7.out).mono ?_); rintro e w12 ⟨rfl, hb⟩; refine ⟨_, rfl, ?_⟩; have n0_ := Aside0.mk (below_step (by repeat (first | (with_reducible first | exact HB.out | apply below_alloc | apply pw_below_drewN | apply below_drew1) | exact HB.out)) hb); clear HB; have HB := n0_; clear n0_; (try clear hb); (try clear hb2); (try clear hk); (try clear hi)) | ((with_reducible refine gate_callee (f := 70) rfl ?_); refine goesL_ (some 36) rfl rfl Tryz.func70 (by kernel_rfl) rfl #[.string t832, .int .i64 1, .int .u8 32] rfl (by (try simp only [List.map_toArray, List.map_cons, List.map_nil]); first | done | rfl | (simp only [List.length_drop, List.length_take]; rfl)) ?_; (with_reducible refine (text_Space.calls t832 1 32 t834 t835 _ (TabOK.of_below hT (by repeat (first | (with_reducible first | exact HB.out | apply below_alloc | apply pw_below_drewN | apply below_drew1) | exact HB.out))) A8.out).mono ?_); rintro e w13 ⟨rfl, hb⟩; refine ⟨_, rfl, ?_⟩; have n0_ := Aside0.mk (below_step (by repeat (first | (with_reducible first | exact HB.out | apply below_alloc | apply pw_below_drewN | apply below_drew1) | exact HB.out)) hb); clear HB; have HB := n0_; clear n0_; (try clear hb); (try clear hb2); (try clear hk); (try clear hi)))
    (try simp only [Act.put, List.setIfInBounds_toArray, List.set_cons_zero, List.set_cons_succ])
    go_cut [55] (fun v55 wc => ∃ (kq : Nat) (x55_8 : Bool), v55 = .bool x55_8 ∧ Aside0 (qanatlaw02_TextWordy.j0 kq a0 a1 a2 t830 x55_8 = some r) ∧ Aside0 (kq ≤ k) ∧ Aside0 (Below w.heap.size w wc))
    case first =>
      have H := HC9.out
      clear HC9
      by_cases c14 : t833 = 0
      · rw [if_pos c14] at H
        have c14b0 : (t833 == 0) = true := beq_iff_eq.mpr c14
        have c14b1 : (t833 != 0) = false := bne_eq_false_iff_eq.mpr c14
        clear c14
        (first | rw [c14b0] | (simp only [i64_w, i32_w]; rw [c14b0]) | skip)
        by_cases c15 : t835 = 0
        · rw [if_pos c15] at H
          have c15b0 : (t835 == 0) = true := beq_iff_eq.mpr c15
          have c15b1 : (t835 != 0) = false := bne_eq_false_iff_eq.mpr c15
          clear c15
          by_cases c16 : t832.toList = t834.toList
          · rw [if_pos c16] at H
            have c16b0 : (t832.toList == t834.toList) = true := beq_iff_eq.mpr c16
            have c16b1 : (t832.toList != t834.toList) = false := bne_eq_false_iff_eq.mpr c16
            clear c16
            replace H := Option.bind_eq_some_iff.mp H
            obtain ⟨t836, A170, H⟩ := H
            replace H : (qanatlaw02_TextWordy.j0 k a0 a1 a2 t830 (!t836)) = some r := H
            have A17 := Aside0.mk A170
            clear A170
            have H' := Aside0.mk H
            clear H
            go_wp2_with (first | (go_at_call 74; (with_reducible refine (qanatlaw02_same.calls k t832 a0 t836 _ A17.out).mono ?_); rintro e w18 ⟨rfl, hb⟩; have n0_ := Aside0.mk (below_step (by repeat (first | (with_reducible first | exact HB.out | apply below_alloc | apply pw_below_drewN | apply below_drew1) | exact HB.out)) hb); clear HB; have HB := n0_; clear n0_; (try clear hb); (try clear hb2); (try clear hk); (try clear hi)))
            go_meet
            case rel => exact ⟨_, (!t836), (by first | rfl | (simp; done) | (simp [*]; done)), H', ⟨by first | omega | exact Nat.le_refl _⟩, ⟨by repeat (first | (with_reducible first | exact HB.out | apply below_alloc | apply pw_below_drewN | apply below_drew1) | exact HB.out)⟩⟩
          · rw [if_neg c16] at H
            have c16b0 : (t832.toList == t834.toList) = false := beq_eq_false_iff_ne.mpr c16
            have c16b1 : (t832.toList != t834.toList) = true := bne_iff_ne.mpr c16
            have H' := Aside0.mk H
            clear H
            go_wp2
            go_meet
            case rel => exact ⟨_, (true), (by first | rfl | (simp; done) | (simp [*]; done)), H', ⟨by first | omega | exact Nat.le_refl _⟩, ⟨by repeat (first | (with_reducible first | exact HB.out | apply below_alloc | apply pw_below_drewN | apply below_drew1) | exact HB.out)⟩⟩
        · rw [if_neg c15] at H
          have c15b0 : (t835 == 0) = false := beq_eq_false_iff_ne.mpr c15
          have c15b1 : (t835 != 0) = true := bne_iff_ne.mpr c15
          have H' := Aside0.mk H
          clear H
          go_wp2
          go_meet
          case rel => exact ⟨_, (true), (by first | rfl | (simp; done) | (simp [*]; done)), H', ⟨by first | omega | exact Nat.le_refl _⟩, ⟨by repeat (first | (with_reducible first | exact HB.out | apply below_alloc | apply pw_below_drewN | apply below_drew1) | exact HB.out)⟩⟩
      · rw [if_neg c14] at H
        have c14b0 : (t833 == 0) = false := beq_eq_false_iff_ne.mpr c14
        have c14b1 : (t833 != 0) = true := bne_iff_ne.mpr c14
        (first | rw [c14b0] | (simp only [i64_w, i32_w]; rw [c14b0]) | skip)
        have H' := Aside0.mk H
        clear H
        go_wp2
        go_meet
        case rel => exact ⟨_, (true), (by first | rfl | (simp; done) | (simp [*]; done)), H', ⟨by first | omega | exact Nat.le_refl _⟩, ⟨by repeat (first | (with_reducible first | exact HB.out | apply below_alloc | apply pw_below_drewN | apply below_drew1) | exact HB.out)⟩⟩
    case rest =>
      clear HC9
      try clear c1
      try clear p2
      try clear c6
      try clear c7
      try clear c12
      try clear c14
      try clear c14b0
      try clear c14b1
      try clear c15
      try clear c15b0
      try clear c15b1
      try clear c16
      try clear c16b0
      try clear c16b1
      obtain ⟨kq, x55_8, rfl, HA, HJ8, HB⟩ := hcut
      cases kq with
      | zero => exact absurd HA.out (by simp [qanatlaw02_TextWordy.j0])
      | succ kj8 =>
        have H := HA.out
        clear HA
        simp only [qanatlaw02_TextWordy.j0] at H
        by_cases c19 : x55_8 = true
        · subst c19
          have H1 : (some false) = some r := by rw [if_pos rfl] at H; exact H
          clear H
          have H := H1
          clear H1
          obtain rfl := Option.some.inj H
          go_wp2
          go_ret
          exact ⟨by first | rfl | (simp [errW_none, errW_some] <;> rfl) | (simp [*, errW_none, errW_some] <;> rfl), by repeat (first | (with_reducible first | exact HB.out | apply below_alloc | apply pw_below_drewN | apply below_drew1) | exact HB.out)⟩
        · replace c19 := Bool.eq_false_iff.mpr c19
          subst c19
          have H1 : ((text_Subword.f a0 (wrap64 ((wrap64 (a1)) + 1)) (wrap64 (a2))).bind fun bt837 => ((text_DelWord.f a0 (wrap64 ((wrap64 (a1)) + 1)) (wrap64 (a2))).bind fun bt839 => ((text_Words.f a0).bind fun bt841 => ((text_Words.f bt837.1).bind fun bt843 => ((text_Words.f bt839.1).bind fun bt845 => (if bt837.2 = 0 then (if bt839.2 = 0 then (if bt841.2 = 0 then (if bt843.2 = 0 then (if bt845.2 = 0 then (if (wrap64 (bt843.1 + bt845.1)) = bt841.1 then (qanatlaw02_TextWordy.j1 kj8 a0 t830 (wrap64 ((wrap64 (a1)) + 1)) bt837.1 bt839.1 (decide (bt843.1 > (wrap64 (a2))))) else (qanatlaw02_TextWordy.j1 kj8 a0 t830 (wrap64 ((wrap64 (a1)) + 1)) bt837.1 bt839.1 true)) else (qanatlaw02_TextWordy.j1 kj8 a0 t830 (wrap64 ((wrap64 (a1)) + 1)) bt837.1 bt839.1 true)) else (qanatlaw02_TextWordy.j1 kj8 a0 t830 (wrap64 ((wrap64 (a1)) + 1)) bt837.1 bt839.1 true)) else (qanatlaw02_TextWordy.j1 kj8 a0 t830 (wrap64 ((wrap64 (a1)) + 1)) bt837.1 bt839.1 true)) else (qanatlaw02_TextWordy.j1 kj8 a0 t830 (wrap64 ((wrap64 (a1)) + 1)) bt837.1 bt839.1 true)) else (qanatlaw02_TextWordy.j1 kj8 a0 t830 (wrap64 ((wrap64 (a1)) + 1)) bt837.1 bt839.1 true))))))) = some r := by rw [if_neg (show ¬ (false = true) by decide)] at H; exact H
          clear H
          have H := H1
          clear H1
          replace H := Option.bind_eq_some_iff.mp H
          obtain ⟨⟨t837, t838⟩, A200, H⟩ := H
          replace H : ((text_DelWord.f a0 (wrap64 ((wrap64 (a1)) + 1)) (wrap64 (a2))).bind fun bt839 => ((text_Words.f a0).bind fun bt841 => ((text_Words.f t837).bind fun bt843 => ((text_Words.f bt839.1).bind fun bt845 => (if t838 = 0 then (if bt839.2 = 0 then (if bt841.2 = 0 then (if bt843.2 = 0 then (if bt845.2 = 0 then (if (wrap64 (bt843.1 + bt845.1)) = bt841.1 then (qanatlaw02_TextWordy.j1 kj8 a0 t830 (wrap64 ((wrap64 (a1)) + 1)) t837 bt839.1 (decide (bt843.1 > (wrap64 (a2))))) else (qanatlaw02_TextWordy.j1 kj8 a0 t830 (wrap64 ((wrap64 (a1)) + 1)) t837 bt839.1 true)) else (qanatlaw02_TextWordy.j1 kj8 a0 t830 (wrap64 ((wrap64 (a1)) + 1)) t837 bt839.1 true)) else (qanatlaw02_TextWordy.j1 kj8 a0 t830 (wrap64 ((wrap64 (a1)) + 1)) t837 bt839.1 true)) else (qanatlaw02_TextWordy.j1 kj8 a0 t830 (wrap64 ((wrap64 (a1)) + 1)) t837 bt839.1 true)) else (qanatlaw02_TextWordy.j1 kj8 a0 t830 (wrap64 ((wrap64 (a1)) + 1)) t837 bt839.1 true)) else (qanatlaw02_TextWordy.j1 kj8 a0 t830 (wrap64 ((wrap64 (a1)) + 1)) t837 bt839.1 true)))))) = some r := H
          have A20 := Aside0.mk A200
          clear A200
          replace H := Option.bind_eq_some_iff.mp H
          obtain ⟨⟨t839, t840⟩, A210, H⟩ := H
          replace H : ((text_Words.f a0).bind fun bt841 => ((text_Words.f t837).bind fun bt843 => ((text_Words.f t839).bind fun bt845 => (if t838 = 0 then (if t840 = 0 then (if bt841.2 = 0 then (if bt843.2 = 0 then (if bt845.2 = 0 then (if (wrap64 (bt843.1 + bt845.1)) = bt841.1 then (qanatlaw02_TextWordy.j1 kj8 a0 t830 (wrap64 ((wrap64 (a1)) + 1)) t837 t839 (decide (bt843.1 > (wrap64 (a2))))) else (qanatlaw02_TextWordy.j1 kj8 a0 t830 (wrap64 ((wrap64 (a1)) + 1)) t837 t839 true)) else (qanatlaw02_TextWordy.j1 kj8 a0 t830 (wrap64 ((wrap64 (a1)) + 1)) t837 t839 true)) else (qanatlaw02_TextWordy.j1 kj8 a0 t830 (wrap64 ((wrap64 (a1)) + 1)) t837 t839 true)) else (qanatlaw02_TextWordy.j1 kj8 a0 t830 (wrap64 ((wrap64 (a1)) + 1)) t837 t839 true)) else (qanatlaw02_TextWordy.j1 kj8 a0 t830 (wrap64 ((wrap64 (a1)) + 1)) t837 t839 true)) else (qanatlaw02_TextWordy.j1 kj8 a0 t830 (wrap64 ((wrap64 (a1)) + 1)) t837 t839 true))))) = some r := H
          have A21 := Aside0.mk A210
          clear A210
          replace H := Option.bind_eq_some_iff.mp H
          obtain ⟨⟨t841, t842⟩, A220, H⟩ := H
          replace H : ((text_Words.f t837).bind fun bt843 => ((text_Words.f t839).bind fun bt845 => (if t838 = 0 then (if t840 = 0 then (if t842 = 0 then (if bt843.2 = 0 then (if bt845.2 = 0 then (if (wrap64 (bt843.1 + bt845.1)) = t841 then (qanatlaw02_TextWordy.j1 kj8 a0 t830 (wrap64 ((wrap64 (a1)) + 1)) t837 t839 (decide (bt843.1 > (wrap64 (a2))))) else (qanatlaw02_TextWordy.j1 kj8 a0 t830 (wrap64 ((wrap64 (a1)) + 1)) t837 t839 true)) else (qanatlaw02_TextWordy.j1 kj8 a0 t830 (wrap64 ((wrap64 (a1)) + 1)) t837 t839 true)) else (qanatlaw02_TextWordy.j1 kj8 a0 t830 (wrap64 ((wrap64 (a1)) + 1)) t837 t839 true)) else (qanatlaw02_TextWordy.j1 kj8 a0 t830 (wrap64 ((wrap64 (a1)) + 1)) t837 t839 true)) else (qanatlaw02_TextWordy.j1 kj8 a0 t830 (wrap64 ((wrap64 (a1)) + 1)) t837 t839 true)) else (qanatlaw02_TextWordy.j1 kj8 a0 t830 (wrap64 ((wrap64 (a1)) + 1)) t837 t839 true)))) = some r := H
          have A22 := Aside0.mk A220
          clear A220
          replace H := Option.bind_eq_some_iff.mp H
          obtain ⟨⟨t843, t844⟩, A230, H⟩ := H
          replace H : ((text_Words.f t839).bind fun bt845 => (if t838 = 0 then (if t840 = 0 then (if t842 = 0 then (if t844 = 0 then (if bt845.2 = 0 then (if (wrap64 (t843 + bt845.1)) = t841 then (qanatlaw02_TextWordy.j1 kj8 a0 t830 (wrap64 ((wrap64 (a1)) + 1)) t837 t839 (decide (t843 > (wrap64 (a2))))) else (qanatlaw02_TextWordy.j1 kj8 a0 t830 (wrap64 ((wrap64 (a1)) + 1)) t837 t839 true)) else (qanatlaw02_TextWordy.j1 kj8 a0 t830 (wrap64 ((wrap64 (a1)) + 1)) t837 t839 true)) else (qanatlaw02_TextWordy.j1 kj8 a0 t830 (wrap64 ((wrap64 (a1)) + 1)) t837 t839 true)) else (qanatlaw02_TextWordy.j1 kj8 a0 t830 (wrap64 ((wrap64 (a1)) + 1)) t837 t839 true)) else (qanatlaw02_TextWordy.j1 kj8 a0 t830 (wrap64 ((wrap64 (a1)) + 1)) t837 t839 true)) else (qanatlaw02_TextWordy.j1 kj8 a0 t830 (wrap64 ((wrap64 (a1)) + 1)) t837 t839 true))) = some r := H
          have A23 := Aside0.mk A230
          clear A230
          replace H := Option.bind_eq_some_iff.mp H
          obtain ⟨⟨t845, t846⟩, A240, H⟩ := H
          replace H : (if t838 = 0 then (if t840 = 0 then (if t842 = 0 then (if t844 = 0 then (if t846 = 0 then (if (wrap64 (t843 + t845)) = t841 then (qanatlaw02_TextWordy.j1 kj8 a0 t830 (wrap64 ((wrap64 (a1)) + 1)) t837 t839 (decide (t843 > (wrap64 (a2))))) else (qanatlaw02_TextWordy.j1 kj8 a0 t830 (wrap64 ((wrap64 (a1)) + 1)) t837 t839 true)) else (qanatlaw02_TextWordy.j1 kj8 a0 t830 (wrap64 ((wrap64 (a1)) + 1)) t837 t839 true)) else (qanatlaw02_TextWordy.j1 kj8 a0 t830 (wrap64 ((wrap64 (a1)) + 1)) t837 t839 true)) else (qanatlaw02_TextWordy.j1 kj8 a0 t830 (wrap64 ((wrap64 (a1)) + 1)) t837 t839 true)) else (qanatlaw02_TextWordy.j1 kj8 a0 t830 (wrap64 ((wrap64 (a1)) + 1)) t837 t839 true)) else (qanatlaw02_TextWordy.j1 kj8 a0 t830 (wrap64 ((wrap64 (a1)) + 1)) t837 t839 true)) = some r := H
          have A24 := Aside0.mk A240
          clear A240
          have HC25 := Aside0.mk H
          clear H
          go_upto_region 14 with (first | ((with_reducible refine gate_callee (f := 41) rfl ?_); refine goesL_ (some 64) rfl rfl Tryz.func41 (by kernel_rfl) rfl #[.string a0, .int .i64 (wrap64 ((wrap64 (a1)) + 1)), .int .i64 (wrap64 (a2))] rfl (by (try simp only [List.map_toArray, List.map_cons, List.map_nil]); first | done | rfl | (simp only [List.length_drop, List.length_take]; rfl)) ?_; (with_reducible refine (text_Subword.calls a0 (wrap64 ((wrap64 (a1)) + 1)) (wrap64 (a2)) t837 t838 _ A20.out).mono ?_); rintro e w26 ⟨rfl, hb⟩; refine ⟨_, rfl, ?_⟩; have n0_ := Aside0.mk (below_step (by repeat (first | (with_reducible first | exact HB.out | apply below_alloc | apply pw_below_drewN | apply below_drew1) | exact HB.out)) hb); clear HB; have HB := n0_; clear n0_; (try clear hb); (try clear hb2); (try clear hk); (try clear hi)) | ((with_reducible refine gate_callee (f := 42) rfl ?_); refine goesL_ (some 72) rfl rfl Tryz.func42 (by kernel_rfl) rfl #[.string a0, .int .i64 (wrap64 ((wrap64 (a1)) + 1)), .int .i64 (wrap64 (a2))] rfl (by (try simp only [List.map_toArray, List.map_cons, List.map_nil]); first | done | rfl | (simp only [List.length_drop, List.length_take]; rfl)) ?_; (with_reducible refine (text_DelWord.calls a0 (wrap64 ((wrap64 (a1)) + 1)) (wrap64 (a2)) t839 t840 _ A21.out).mono ?_); rintro e w27 ⟨rfl, hb⟩; refine ⟨_, rfl, ?_⟩; have n0_ := Aside0.mk (below_step (by repeat (first | (with_reducible first | exact HB.out | apply below_alloc | apply pw_below_drewN | apply below_drew1) | exact HB.out)) hb); clear HB; have HB := n0_; clear n0_; (try clear hb); (try clear hb2); (try clear hk); (try clear hi)) | ((with_reducible refine gate_callee (f := 37) rfl ?_); refine goesL_ (some 77) rfl rfl Tryz.func37 (by kernel_rfl) rfl #[.string a0] rfl (by (try simp only [List.map_toArray, List.map_cons, List.map_nil]); first | done | rfl | (simp only [List.length_drop, List.length_take]; rfl)) ?_; (with_reducible refine (text_Words.calls a0 t841 t842 _ A22.out).mono ?_); rintro e w28 ⟨rfl, hb⟩; refine ⟨_, rfl, ?_⟩; have n0_ := Aside0.mk (below_step (by repeat (first | (with_reducible first | exact HB.out | apply below_alloc | apply pw_below_drewN | apply below_drew1) | exact HB.out)) hb); clear HB; have HB := n0_; clear n0_; (try clear hb); (try clear hb2); (try clear hk); (try clear hi)) | ((with_reducible refine gate_callee (f := 37) rfl ?_); refine goesL_ (some 82) rfl rfl Tryz.func37 (by kernel_rfl) rfl #[.string t837] rfl (by (try simp only [List.map_toArray, List.map_cons, List.map_nil]); first | done | rfl | (simp only [List.length_drop, List.length_take]; rfl)) ?_; (with_reducible refine (text_Words.calls t837 t843 t844 _ A23.out).mono ?_); rintro e w29 ⟨rfl, hb⟩; refine ⟨_, rfl, ?_⟩; have n0_ := Aside0.mk (below_step (by repeat (first | (with_reducible first | exact HB.out | apply below_alloc | apply pw_below_drewN | apply below_drew1) | exact HB.out)) hb); clear HB; have HB := n0_; clear n0_; (try clear hb); (try clear hb2); (try clear hk); (try clear hi)) | ((with_reducible refine gate_callee (f := 37) rfl ?_); refine goesL_ (some 87) rfl rfl Tryz.func37 (by kernel_rfl) rfl #[.string t839] rfl (by (try simp only [List.map_toArray, List.map_cons, List.map_nil]); first | done | rfl | (simp only [List.length_drop, List.length_take]; rfl)) ?_; (with_reducible refine (text_Words.calls t839 t845 t846 _ A24.out).mono ?_); rintro e w30 ⟨rfl, hb⟩; refine ⟨_, rfl, ?_⟩; have n0_ := Aside0.mk (below_step (by repeat (first | (with_reducible first | exact HB.out | apply below_alloc | apply pw_below_drewN | apply below_drew1) | exact HB.out)) hb); clear HB; have HB := n0_; clear n0_; (try clear hb); (try clear hb2); (try clear hk); (try clear hi)))
          (try simp only [Act.put, List.setIfInBounds_toArray, List.set_cons_zero, List.set_cons_succ])
          go_cut [120] (fun v120 wc => ∃ (kq : Nat) (x120_24 : Bool), v120 = .bool x120_24 ∧ Aside0 (qanatlaw02_TextWordy.j1 kq a0 t830 (wrap64 ((wrap64 (a1)) + 1)) t837 t839 x120_24 = some r) ∧ Aside0 (kq ≤ kj8) ∧ Aside0 (Below w.heap.size w wc))
          case first =>
            have H := HC25.out
            clear HC25
            by_cases c31 : t838 = 0
            · rw [if_pos c31] at H
              have c31b0 : (t838 == 0) = true := beq_iff_eq.mpr c31
              have c31b1 : (t838 != 0) = false := bne_eq_false_iff_eq.mpr c31
              clear c31
              (first | rw [c31b0] | (simp only [i64_w, i32_w]; rw [c31b0]) | skip)
              by_cases c32 : t840 = 0
              · rw [if_pos c32] at H
                have c32b0 : (t840 == 0) = true := beq_iff_eq.mpr c32
                have c32b1 : (t840 != 0) = false := bne_eq_false_iff_eq.mpr c32
                clear c32
                by_cases c33 : t842 = 0
                · rw [if_pos c33] at H
                  have c33b0 : (t842 == 0) = true := beq_iff_eq.mpr c33
                  have c33b1 : (t842 != 0) = false := bne_eq_false_iff_eq.mpr c33
                  clear c33
                  by_cases c34 : t844 = 0
                  · rw [if_pos c34] at H
                    have c34b0 : (t844 == 0) = true := beq_iff_eq.mpr c34
                    have c34b1 : (t844 != 0) = false := bne_eq_false_iff_eq.mpr c34
                    clear c34
                    by_cases c35 : t846 = 0
                    · rw [if_pos c35] at H
                      have c35b0 : (t846 == 0) = true := beq_iff_eq.mpr c35
                      have c35b1 : (t846 != 0) = false := bne_eq_false_iff_eq.mpr c35
                      clear c35
                      by_cases c36 : (wrap64 (t843 + t845)) = t841
                      · rw [if_pos c36] at H
                        have c36b0 : ((wrap64 (t843 + t845)) == t841) = true := beq_iff_eq.mpr c36
                        have c36b1 : ((wrap64 (t843 + t845)) != t841) = false := bne_eq_false_iff_eq.mpr c36
                        clear c36
                        have H' := Aside0.mk H
                        clear H
                        go_wp2
                        go_meet
                        case rel => exact ⟨_, (decide (t843 > (wrap64 (a2)))), (by first | rfl | (simp; done) | (simp [*]; done)), H', ⟨by have := HJ8.out; first | omega | exact Nat.le_refl _⟩, ⟨by repeat (first | (with_reducible first | exact HB.out | apply below_alloc | apply pw_below_drewN | apply below_drew1) | exact HB.out)⟩⟩
                      · rw [if_neg c36] at H
                        have c36b0 : ((wrap64 (t843 + t845)) == t841) = false := beq_eq_false_iff_ne.mpr c36
                        have c36b1 : ((wrap64 (t843 + t845)) != t841) = true := bne_iff_ne.mpr c36
                        have H' := Aside0.mk H
                        clear H
                        go_wp2
                        go_meet
                        case rel => exact ⟨_, (true), (by first | rfl | (simp; done) | (simp [*]; done)), H', ⟨by have := HJ8.out; first | omega | exact Nat.le_refl _⟩, ⟨by repeat (first | (with_reducible first | exact HB.out | apply below_alloc | apply pw_below_drewN | apply below_drew1) | exact HB.out)⟩⟩
                    · rw [if_neg c35] at H
                      have c35b0 : (t846 == 0) = false := beq_eq_false_iff_ne.mpr c35
                      have c35b1 : (t846 != 0) = true := bne_iff_ne.mpr c35
                      have H' := Aside0.mk H
                      clear H
                      go_wp2
                      go_meet
                      case rel => exact ⟨_, (true), (by first | rfl | (simp; done) | (simp [*]; done)), H', ⟨by have := HJ8.out; first | omega | exact Nat.le_refl _⟩, ⟨by repeat (first | (with_reducible first | exact HB.out | apply below_alloc | apply pw_below_drewN | apply below_drew1) | exact HB.out)⟩⟩
                  · rw [if_neg c34] at H
                    have c34b0 : (t844 == 0) = false := beq_eq_false_iff_ne.mpr c34
                    have c34b1 : (t844 != 0) = true := bne_iff_ne.mpr c34
                    have H' := Aside0.mk H
                    clear H
                    go_wp2
                    go_meet
                    case rel => exact ⟨_, (true), (by first | rfl | (simp; done) | (simp [*]; done)), H', ⟨by have := HJ8.out; first | omega | exact Nat.le_refl _⟩, ⟨by repeat (first | (with_reducible first | exact HB.out | apply below_alloc | apply pw_below_drewN | apply below_drew1) | exact HB.out)⟩⟩
                · rw [if_neg c33] at H
                  have c33b0 : (t842 == 0) = false := beq_eq_false_iff_ne.mpr c33
                  have c33b1 : (t842 != 0) = true := bne_iff_ne.mpr c33
                  have H' := Aside0.mk H
                  clear H
                  go_wp2
                  go_meet
                  case rel => exact ⟨_, (true), (by first | rfl | (simp; done) | (simp [*]; done)), H', ⟨by have := HJ8.out; first | omega | exact Nat.le_refl _⟩, ⟨by repeat (first | (with_reducible first | exact HB.out | apply below_alloc | apply pw_below_drewN | apply below_drew1) | exact HB.out)⟩⟩
              · rw [if_neg c32] at H
                have c32b0 : (t840 == 0) = false := beq_eq_false_iff_ne.mpr c32
                have c32b1 : (t840 != 0) = true := bne_iff_ne.mpr c32
                have H' := Aside0.mk H
                clear H
                go_wp2
                go_meet
                case rel => exact ⟨_, (true), (by first | rfl | (simp; done) | (simp [*]; done)), H', ⟨by have := HJ8.out; first | omega | exact Nat.le_refl _⟩, ⟨by repeat (first | (with_reducible first | exact HB.out | apply below_alloc | apply pw_below_drewN | apply below_drew1) | exact HB.out)⟩⟩
            · rw [if_neg c31] at H
              have c31b0 : (t838 == 0) = false := beq_eq_false_iff_ne.mpr c31
              have c31b1 : (t838 != 0) = true := bne_iff_ne.mpr c31
              (first | rw [c31b0] | (simp only [i64_w, i32_w]; rw [c31b0]) | skip)
              have H' := Aside0.mk H
              clear H
              go_wp2
              go_meet
              case rel => exact ⟨_, (true), (by first | rfl | (simp; done) | (simp [*]; done)), H', ⟨by have := HJ8.out; first | omega | exact Nat.le_refl _⟩, ⟨by repeat (first | (with_reducible first | exact HB.out | apply below_alloc | apply pw_below_drewN | apply below_drew1) | exact HB.out)⟩⟩
          case rest =>
            clear HC25
            try clear c1
            try clear p2
            try clear c3
            try clear c4
            try clear c6
            try clear p6
            try clear c7
            try clear c12
            try clear c14
            try clear c14b0
            try clear c14b1
            try clear c15
            try clear c15b0
            try clear c15b1
            try clear c16
            try clear c16b0
            try clear c16b1
            try clear c19
            try clear c31
            try clear c31b0
            try clear c31b1
            try clear c32
            try clear c32b0
            try clear c32b1
            try clear c33
            try clear c33b0
            try clear c33b1
            try clear c34
            try clear c34b0
            try clear c34b1
            try clear c35
            try clear c35b0
            try clear c35b1
            try clear c36
            try clear c36b0
            try clear c36b1
            try clear p2
            obtain ⟨kq, x120_24, rfl, HA, HJ24, HB⟩ := hcut
            cases kq with
            | zero => exact absurd HA.out (by simp [qanatlaw02_TextWordy.j1])
            | succ kj24 =>
              have H := HA.out
              clear HA
              simp only [qanatlaw02_TextWordy.j1] at H
              by_cases c37 : x120_24 = true
              · subst c37
                have H1 : (some false) = some r := by rw [if_pos rfl] at H; exact H
                clear H
                have H := H1
                clear H1
                obtain rfl := Option.some.inj H
                go_wp2
                go_ret
                exact ⟨by first | rfl | (simp [errW_none, errW_some] <;> rfl) | (simp [*, errW_none, errW_some] <;> rfl), by repeat (first | (with_reducible first | exact HB.out | apply below_alloc | apply pw_below_drewN | apply below_drew1) | exact HB.out)⟩
              · replace c37 := Bool.eq_false_iff.mpr c37
                subst c37
                have H1 : (if t837.toList = ([] : List UInt8) then (if t830 = true then (some (t839.toList == a0.toList)) else (some false)) else ((text_WordPos.f kj24 t837 a0 (wrap64 ((wrap64 (a1)) + 1))).bind fun bt847 => ((text_Word.f a0 (wrap64 ((wrap64 (a1)) + 1))).bind fun bt849 => ((text_Word.f t837 1).bind fun bt851 => (if t830 = true then (if bt847.2 = 0 then (if bt847.1 = (wrap64 ((wrap64 (a1)) + 1)) then (if bt849.2 = 0 then (if bt851.2 = 0 then (some (bt849.1.toList == bt851.1.toList)) else (some false)) else (some false)) else (some false)) else (some false)) else (some false)))))) = some r := by rw [if_neg (show ¬ (false = true) by decide)] at H; exact H
                clear H
                have H := H1
                clear H1
                by_cases c38 : t837.toList = ([] : List UInt8)
                · rw [if_pos c38] at H
                  have c38b0 : (t837.toList == ([] : List UInt8)) = true := beq_iff_eq.mpr c38
                  have c38b1 : (t837.toList != ([] : List UInt8)) = false := bne_eq_false_iff_eq.mpr c38
                  clear c38
                  by_cases c39 : t830 = true
                  · subst c39
                    have H1 : (some (t839.toList == a0.toList)) = some r := by rw [if_pos rfl] at H; exact H
                    clear H
                    have H := H1
                    clear H1
                    obtain rfl := Option.some.inj H
                    go_wp2
                    go_ret
                    exact ⟨by first | rfl | (simp [errW_none, errW_some] <;> rfl) | (simp [*, errW_none, errW_some] <;> rfl), by repeat (first | (with_reducible first | exact HB.out | apply below_alloc | apply pw_below_drewN | apply below_drew1) | exact HB.out)⟩
                  · replace c39 := Bool.eq_false_iff.mpr c39
                    subst c39
                    have H1 : (some false) = some r := by rw [if_neg (show ¬ (false = true) by decide)] at H; exact H
                    clear H
                    have H := H1
                    clear H1
                    obtain rfl := Option.some.inj H
                    go_wp2
                    go_ret
                    exact ⟨by first | rfl | (simp [errW_none, errW_some] <;> rfl) | (simp [*, errW_none, errW_some] <;> rfl), by repeat (first | (with_reducible first | exact HB.out | apply below_alloc | apply pw_below_drewN | apply below_drew1) | exact HB.out)⟩
                · rw [if_neg c38] at H
                  have c38b0 : (t837.toList == ([] : List UInt8)) = false := beq_eq_false_iff_ne.mpr c38
                  have c38b1 : (t837.toList != ([] : List UInt8)) = true := bne_iff_ne.mpr c38
                  replace H := Option.bind_eq_some_iff.mp H
                  obtain ⟨⟨t847, t848⟩, A400, H⟩ := H
                  replace H : ((text_Word.f a0 (wrap64 ((wrap64 (a1)) + 1))).bind fun bt849 => ((text_Word.f t837 1).bind fun bt851 => (if t830 = true then (if t848 = 0 then (if t847 = (wrap64 ((wrap64 (a1)) + 1)) then (if bt849.2 = 0 then (if bt851.2 = 0 then (some (bt849.1.toList == bt851.1.toList)) else (some false)) else (some false)) else (some false)) else (some false)) else (some false)))) = some r := H
                  have A40 := Aside0.mk A400
                  clear A400
                  replace H := Option.bind_eq_some_iff.mp H
                  obtain ⟨⟨t849, t850⟩, A410, H⟩ := H
                  replace H : ((text_Word.f t837 1).bind fun bt851 => (if t830 = true then (if t848 = 0 then (if t847 = (wrap64 ((wrap64 (a1)) + 1)) then (if t850 = 0 then (if bt851.2 = 0 then (some (t849.toList == bt851.1.toList)) else (some false)) else (some false)) else (some false)) else (some false)) else (some false))) = some r := H
                  have A41 := Aside0.mk A410
                  clear A410
                  replace H := Option.bind_eq_some_iff.mp H
                  obtain ⟨⟨t851, t852⟩, A420, H⟩ := H
                  replace H : (if t830 = true then (if t848 = 0 then (if t847 = (wrap64 ((wrap64 (a1)) + 1)) then (if t850 = 0 then (if t852 = 0 then (some (t849.toList == t851.toList)) else (some false)) else (some false)) else (some false)) else (some false)) else (some false)) = some r := H
                  have A42 := Aside0.mk A420
                  clear A420
                  by_cases c43 : t830 = true
                  · subst c43
                    have H1 : (if t848 = 0 then (if t847 = (wrap64 ((wrap64 (a1)) + 1)) then (if t850 = 0 then (if t852 = 0 then (some (t849.toList == t851.toList)) else (some false)) else (some false)) else (some false)) else (some false)) = some r := by rw [if_pos rfl] at H; exact H
                    clear H
                    have H := H1
                    clear H1
                    by_cases c44 : t848 = 0
                    · rw [if_pos c44] at H
                      have c44b0 : (t848 == 0) = true := beq_iff_eq.mpr c44
                      have c44b1 : (t848 != 0) = false := bne_eq_false_iff_eq.mpr c44
                      clear c44
                      by_cases c45 : t847 = (wrap64 ((wrap64 (a1)) + 1))
                      · rw [if_pos c45] at H
                        have c45b0 : (t847 == (wrap64 ((wrap64 (a1)) + 1))) = true := beq_iff_eq.mpr c45
                        have c45b1 : (t847 != (wrap64 ((wrap64 (a1)) + 1))) = false := bne_eq_false_iff_eq.mpr c45
                        clear c45
                        by_cases c46 : t850 = 0
                        · rw [if_pos c46] at H
                          have c46b0 : (t850 == 0) = true := beq_iff_eq.mpr c46
                          have c46b1 : (t850 != 0) = false := bne_eq_false_iff_eq.mpr c46
                          clear c46
                          by_cases c47 : t852 = 0
                          · rw [if_pos c47] at H
                            have c47b0 : (t852 == 0) = true := beq_iff_eq.mpr c47
                            have c47b1 : (t852 != 0) = false := bne_eq_false_iff_eq.mpr c47
                            clear c47
                            obtain rfl := Option.some.inj H
                            go_wp2_with (first | ((with_reducible refine gate_callee (f := 71) rfl ?_); refine goesL_ (some 133) rfl rfl Tryz.func71 (by kernel_rfl) rfl #[.string t837, .string a0, .int .i64 (wrap64 ((wrap64 (a1)) + 1))] rfl (by (try simp only [List.map_toArray, List.map_cons, List.map_nil]); first | done | rfl | (simp only [List.length_drop, List.length_take]; rfl)) ?_; (with_reducible refine (text_WordPos.calls kj24 t837 a0 (wrap64 ((wrap64 (a1)) + 1)) t847 t848 _ (TabOK.of_below hT (by repeat (first | (with_reducible first | exact HB.out | apply below_alloc | apply pw_below_drewN | apply below_drew1) | exact HB.out))) A40.out).mono ?_); rintro e w48 ⟨rfl, hb⟩; refine ⟨_, rfl, ?_⟩; have n0_ := Aside0.mk (below_step (by repeat (first | (with_reducible first | exact HB.out | apply below_alloc | apply pw_below_drewN | apply below_drew1) | exact HB.out)) hb); clear HB; have HB := n0_; clear n0_; (try clear hb); (try clear hb2); (try clear hk); (try clear hi)) | ((with_reducible refine gate_callee (f := 38) rfl ?_); refine goesL_ (some 139) rfl rfl Tryz.func38 (by kernel_rfl) rfl #[.string a0, .int .i64 (wrap64 ((wrap64 (a1)) + 1))] rfl (by (try simp only [List.map_toArray, List.map_cons, List.map_nil]); first | done | rfl | (simp only [List.length_drop, List.length_take]; rfl)) ?_; (with_reducible refine (text_Word.calls a0 (wrap64 ((wrap64 (a1)) + 1)) t849 t850 _ A41.out).mono ?_); rintro e w49 ⟨rfl, hb⟩; refine ⟨_, rfl, ?_⟩; have n0_ := Aside0.mk (below_step (by repeat (first | (with_reducible first | exact HB.out | apply below_alloc | apply pw_below_drewN | apply below_drew1) | exact HB.out)) hb); clear HB; have HB := n0_; clear n0_; (try clear hb); (try clear hb2); (try clear hk); (try clear hi)) | ((with_reducible refine gate_callee (f := 38) rfl ?_); refine goesL_ (some 144) rfl rfl Tryz.func38 (by kernel_rfl) rfl #[.string t837, .int .i64 1] rfl (by (try simp only [List.map_toArray, List.map_cons, List.map_nil]); first | done | rfl | (simp only [List.length_drop, List.length_take]; rfl)) ?_; (with_reducible refine (text_Word.calls t837 1 t851 t852 _ A42.out).mono ?_); rintro e w50 ⟨rfl, hb⟩; refine ⟨_, rfl, ?_⟩; have n0_ := Aside0.mk (below_step (by repeat (first | (with_reducible first | exact HB.out | apply below_alloc | apply pw_below_drewN | apply below_drew1) | exact HB.out)) hb); clear HB; have HB := n0_; clear n0_; (try clear hb); (try clear hb2); (try clear hk); (try clear hi)))
                            go_ret
                            exact ⟨by first | rfl | (simp [errW_none, errW_some] <;> rfl) | (simp [*, errW_none, errW_some] <;> rfl), by repeat (first | (with_reducible first | exact HB.out | apply below_alloc | apply pw_below_drewN | apply below_drew1) | exact HB.out)⟩
                          · rw [if_neg c47] at H
                            have c47b0 : (t852 == 0) = false := beq_eq_false_iff_ne.mpr c47
                            have c47b1 : (t852 != 0) = true := bne_iff_ne.mpr c47
                            obtain rfl := Option.some.inj H
                            go_wp2_with (first | ((with_reducible refine gate_callee (f := 71) rfl ?_); refine goesL_ (some 133) rfl rfl Tryz.func71 (by kernel_rfl) rfl #[.string t837, .string a0, .int .i64 (wrap64 ((wrap64 (a1)) + 1))] rfl (by (try simp only [List.map_toArray, List.map_cons, List.map_nil]); first | done | rfl | (simp only [List.length_drop, List.length_take]; rfl)) ?_; (with_reducible refine (text_WordPos.calls kj24 t837 a0 (wrap64 ((wrap64 (a1)) + 1)) t847 t848 _ (TabOK.of_below hT (by repeat (first | (with_reducible first | exact HB.out | apply below_alloc | apply pw_below_drewN | apply below_drew1) | exact HB.out))) A40.out).mono ?_); rintro e w51 ⟨rfl, hb⟩; refine ⟨_, rfl, ?_⟩; have n0_ := Aside0.mk (below_step (by repeat (first | (with_reducible first | exact HB.out | apply below_alloc | apply pw_below_drewN | apply below_drew1) | exact HB.out)) hb); clear HB; have HB := n0_; clear n0_; (try clear hb); (try clear hb2); (try clear hk); (try clear hi)) | ((with_reducible refine gate_callee (f := 38) rfl ?_); refine goesL_ (some 139) rfl rfl Tryz.func38 (by kernel_rfl) rfl #[.string a0, .int .i64 (wrap64 ((wrap64 (a1)) + 1))] rfl (by (try simp only [List.map_toArray, List.map_cons, List.map_nil]); first | done | rfl | (simp only [List.length_drop, List.length_take]; rfl)) ?_; (with_reducible refine (text_Word.calls a0 (wrap64 ((wrap64 (a1)) + 1)) t849 t850 _ A41.out).mono ?_); rintro e w52 ⟨rfl, hb⟩; refine ⟨_, rfl, ?_⟩; have n0_ := Aside0.mk (below_step (by repeat (first | (with_reducible first | exact HB.out | apply below_alloc | apply pw_below_drewN | apply below_drew1) | exact HB.out)) hb); clear HB; have HB := n0_; clear n0_; (try clear hb); (try clear hb2); (try clear hk); (try clear hi)) | ((with_reducible refine gate_callee (f := 38) rfl ?_); refine goesL_ (some 144) rfl rfl Tryz.func38 (by kernel_rfl) rfl #[.string t837, .int .i64 1] rfl (by (try simp only [List.map_toArray, List.map_cons, List.map_nil]); first | done | rfl | (simp only [List.length_drop, List.length_take]; rfl)) ?_; (with_reducible refine (text_Word.calls t837 1 t851 t852 _ A42.out).mono ?_); rintro e w53 ⟨rfl, hb⟩; refine ⟨_, rfl, ?_⟩; have n0_ := Aside0.mk (below_step (by repeat (first | (with_reducible first | exact HB.out | apply below_alloc | apply pw_below_drewN | apply below_drew1) | exact HB.out)) hb); clear HB; have HB := n0_; clear n0_; (try clear hb); (try clear hb2); (try clear hk); (try clear hi)))
                            go_ret
                            exact ⟨by first | rfl | (simp [errW_none, errW_some] <;> rfl) | (simp [*, errW_none, errW_some] <;> rfl), by repeat (first | (with_reducible first | exact HB.out | apply below_alloc | apply pw_below_drewN | apply below_drew1) | exact HB.out)⟩
                        · rw [if_neg c46] at H
                          have c46b0 : (t850 == 0) = false := beq_eq_false_iff_ne.mpr c46
                          have c46b1 : (t850 != 0) = true := bne_iff_ne.mpr c46
                          obtain rfl := Option.some.inj H
                          go_wp2_with (first | ((with_reducible refine gate_callee (f := 71) rfl ?_); refine goesL_ (some 133) rfl rfl Tryz.func71 (by kernel_rfl) rfl #[.string t837, .string a0, .int .i64 (wrap64 ((wrap64 (a1)) + 1))] rfl (by (try simp only [List.map_toArray, List.map_cons, List.map_nil]); first | done | rfl | (simp only [List.length_drop, List.length_take]; rfl)) ?_; (with_reducible refine (text_WordPos.calls kj24 t837 a0 (wrap64 ((wrap64 (a1)) + 1)) t847 t848 _ (TabOK.of_below hT (by repeat (first | (with_reducible first | exact HB.out | apply below_alloc | apply pw_below_drewN | apply below_drew1) | exact HB.out))) A40.out).mono ?_); rintro e w54 ⟨rfl, hb⟩; refine ⟨_, rfl, ?_⟩; have n0_ := Aside0.mk (below_step (by repeat (first | (with_reducible first | exact HB.out | apply below_alloc | apply pw_below_drewN | apply below_drew1) | exact HB.out)) hb); clear HB; have HB := n0_; clear n0_; (try clear hb); (try clear hb2); (try clear hk); (try clear hi)) | ((with_reducible refine gate_callee (f := 38) rfl ?_); refine goesL_ (some 139) rfl rfl Tryz.func38 (by kernel_rfl) rfl #[.string a0, .int .i64 (wrap64 ((wrap64 (a1)) + 1))] rfl (by (try simp only [List.map_toArray, List.map_cons, List.map_nil]); first | done | rfl | (simp only [List.length_drop, List.length_take]; rfl)) ?_; (with_reducible refine (text_Word.calls a0 (wrap64 ((wrap64 (a1)) + 1)) t849 t850 _ A41.out).mono ?_); rintro e w55 ⟨rfl, hb⟩; refine ⟨_, rfl, ?_⟩; have n0_ := Aside0.mk (below_step (by repeat (first | (with_reducible first | exact HB.out | apply below_alloc | apply pw_below_drewN | apply below_drew1) | exact HB.out)) hb); clear HB; have HB := n0_; clear n0_; (try clear hb); (try clear hb2); (try clear hk); (try clear hi)) | ((with_reducible refine gate_callee (f := 38) rfl ?_); refine goesL_ (some 144) rfl rfl Tryz.func38 (by kernel_rfl) rfl #[.string t837, .int .i64 1] rfl (by (try simp only [List.map_toArray, List.map_cons, List.map_nil]); first | done | rfl | (simp only [List.length_drop, List.length_take]; rfl)) ?_; (with_reducible refine (text_Word.calls t837 1 t851 t852 _ A42.out).mono ?_); rintro e w56 ⟨rfl, hb⟩; refine ⟨_, rfl, ?_⟩; have n0_ := Aside0.mk (below_step (by repeat (first | (with_reducible first | exact HB.out | apply below_alloc | apply pw_below_drewN | apply below_drew1) | exact HB.out)) hb); clear HB; have HB := n0_; clear n0_; (try clear hb); (try clear hb2); (try clear hk); (try clear hi)))
                          go_ret
                          exact ⟨by first | rfl | (simp [errW_none, errW_some] <;> rfl) | (simp [*, errW_none, errW_some] <;> rfl), by repeat (first | (with_reducible first | exact HB.out | apply below_alloc | apply pw_below_drewN | apply below_drew1) | exact HB.out)⟩
                      · rw [if_neg c45] at H
                        have c45b0 : (t847 == (wrap64 ((wrap64 (a1)) + 1))) = false := beq_eq_false_iff_ne.mpr c45
                        have c45b1 : (t847 != (wrap64 ((wrap64 (a1)) + 1))) = true := bne_iff_ne.mpr c45
                        obtain rfl := Option.some.inj H
                        go_wp2_with (first | ((with_reducible refine gate_callee (f := 71) rfl ?_); refine goesL_ (some 133) rfl rfl Tryz.func71 (by kernel_rfl) rfl #[.string t837, .string a0, .int .i64 (wrap64 ((wrap64 (a1)) + 1))] rfl (by (try simp only [List.map_toArray, List.map_cons, List.map_nil]); first | done | rfl | (simp only [List.length_drop, List.length_take]; rfl)) ?_; (with_reducible refine (text_WordPos.calls kj24 t837 a0 (wrap64 ((wrap64 (a1)) + 1)) t847 t848 _ (TabOK.of_below hT (by repeat (first | (with_reducible first | exact HB.out | apply below_alloc | apply pw_below_drewN | apply below_drew1) | exact HB.out))) A40.out).mono ?_); rintro e w57 ⟨rfl, hb⟩; refine ⟨_, rfl, ?_⟩; have n0_ := Aside0.mk (below_step (by repeat (first | (with_reducible first | exact HB.out | apply below_alloc | apply pw_below_drewN | apply below_drew1) | exact HB.out)) hb); clear HB; have HB := n0_; clear n0_; (try clear hb); (try clear hb2); (try clear hk); (try clear hi)) | ((with_reducible refine gate_callee (f := 38) rfl ?_); refine goesL_ (some 139) rfl rfl Tryz.func38 (by kernel_rfl) rfl #[.string a0, .int .i64 (wrap64 ((wrap64 (a1)) + 1))] rfl (by (try simp only [List.map_toArray, List.map_cons, List.map_nil]); first | done | rfl | (simp only [List.length_drop, List.length_take]; rfl)) ?_; (with_reducible refine (text_Word.calls a0 (wrap64 ((wrap64 (a1)) + 1)) t849 t850 _ A41.out).mono ?_); rintro e w58 ⟨rfl, hb⟩; refine ⟨_, rfl, ?_⟩; have n0_ := Aside0.mk (below_step (by repeat (first | (with_reducible first | exact HB.out | apply below_alloc | apply pw_below_drewN | apply below_drew1) | exact HB.out)) hb); clear HB; have HB := n0_; clear n0_; (try clear hb); (try clear hb2); (try clear hk); (try clear hi)) | ((with_reducible refine gate_callee (f := 38) rfl ?_); refine goesL_ (some 144) rfl rfl Tryz.func38 (by kernel_rfl) rfl #[.string t837, .int .i64 1] rfl (by (try simp only [List.map_toArray, List.map_cons, List.map_nil]); first | done | rfl | (simp only [List.length_drop, List.length_take]; rfl)) ?_; (with_reducible refine (text_Word.calls t837 1 t851 t852 _ A42.out).mono ?_); rintro e w59 ⟨rfl, hb⟩; refine ⟨_, rfl, ?_⟩; have n0_ := Aside0.mk (below_step (by repeat (first | (with_reducible first | exact HB.out | apply below_alloc | apply pw_below_drewN | apply below_drew1) | exact HB.out)) hb); clear HB; have HB := n0_; clear n0_; (try clear hb); (try clear hb2); (try clear hk); (try clear hi)))
                        go_ret
                        exact ⟨by first | rfl | (simp [errW_none, errW_some] <;> rfl) | (simp [*, errW_none, errW_some] <;> rfl), by repeat (first | (with_reducible first | exact HB.out | apply below_alloc | apply pw_below_drewN | apply below_drew1) | exact HB.out)⟩
                    · rw [if_neg c44] at H
                      have c44b0 : (t848 == 0) = false := beq_eq_false_iff_ne.mpr c44
                      have c44b1 : (t848 != 0) = true := bne_iff_ne.mpr c44
                      obtain rfl := Option.some.inj H
                      go_wp2_with (first | ((with_reducible refine gate_callee (f := 71) rfl ?_); refine goesL_ (some 133) rfl rfl Tryz.func71 (by kernel_rfl) rfl #[.string t837, .string a0, .int .i64 (wrap64 ((wrap64 (a1)) + 1))] rfl (by (try simp only [List.map_toArray, List.map_cons, List.map_nil]); first | done | rfl | (simp only [List.length_drop, List.length_take]; rfl)) ?_; (with_reducible refine (text_WordPos.calls kj24 t837 a0 (wrap64 ((wrap64 (a1)) + 1)) t847 t848 _ (TabOK.of_below hT (by repeat (first | (with_reducible first | exact HB.out | apply below_alloc | apply pw_below_drewN | apply below_drew1) | exact HB.out))) A40.out).mono ?_); rintro e w60 ⟨rfl, hb⟩; refine ⟨_, rfl, ?_⟩; have n0_ := Aside0.mk (below_step (by repeat (first | (with_reducible first | exact HB.out | apply below_alloc | apply pw_below_drewN | apply below_drew1) | exact HB.out)) hb); clear HB; have HB := n0_; clear n0_; (try clear hb); (try clear hb2); (try clear hk); (try clear hi)) | ((with_reducible refine gate_callee (f := 38) rfl ?_); refine goesL_ (some 139) rfl rfl Tryz.func38 (by kernel_rfl) rfl #[.string a0, .int .i64 (wrap64 ((wrap64 (a1)) + 1))] rfl (by (try simp only [List.map_toArray, List.map_cons, List.map_nil]); first | done | rfl | (simp only [List.length_drop, List.length_take]; rfl)) ?_; (with_reducible refine (text_Word.calls a0 (wrap64 ((wrap64 (a1)) + 1)) t849 t850 _ A41.out).mono ?_); rintro e w61 ⟨rfl, hb⟩; refine ⟨_, rfl, ?_⟩; have n0_ := Aside0.mk (below_step (by repeat (first | (with_reducible first | exact HB.out | apply below_alloc | apply pw_below_drewN | apply below_drew1) | exact HB.out)) hb); clear HB; have HB := n0_; clear n0_; (try clear hb); (try clear hb2); (try clear hk); (try clear hi)) | ((with_reducible refine gate_callee (f := 38) rfl ?_); refine goesL_ (some 144) rfl rfl Tryz.func38 (by kernel_rfl) rfl #[.string t837, .int .i64 1] rfl (by (try simp only [List.map_toArray, List.map_cons, List.map_nil]); first | done | rfl | (simp only [List.length_drop, List.length_take]; rfl)) ?_; (with_reducible refine (text_Word.calls t837 1 t851 t852 _ A42.out).mono ?_); rintro e w62 ⟨rfl, hb⟩; refine ⟨_, rfl, ?_⟩; have n0_ := Aside0.mk (below_step (by repeat (first | (with_reducible first | exact HB.out | apply below_alloc | apply pw_below_drewN | apply below_drew1) | exact HB.out)) hb); clear HB; have HB := n0_; clear n0_; (try clear hb); (try clear hb2); (try clear hk); (try clear hi)))
                      go_ret
                      exact ⟨by first | rfl | (simp [errW_none, errW_some] <;> rfl) | (simp [*, errW_none, errW_some] <;> rfl), by repeat (first | (with_reducible first | exact HB.out | apply below_alloc | apply pw_below_drewN | apply below_drew1) | exact HB.out)⟩
                  · replace c43 := Bool.eq_false_iff.mpr c43
                    subst c43
                    have H1 : (some false) = some r := by rw [if_neg (show ¬ (false = true) by decide)] at H; exact H
                    clear H
                    have H := H1
                    clear H1
                    obtain rfl := Option.some.inj H
                    go_wp2_with (first | ((with_reducible refine gate_callee (f := 71) rfl ?_); refine goesL_ (some 133) rfl rfl Tryz.func71 (by kernel_rfl) rfl #[.string t837, .string a0, .int .i64 (wrap64 ((wrap64 (a1)) + 1))] rfl (by (try simp only [List.map_toArray, List.map_cons, List.map_nil]); first | done | rfl | (simp only [List.length_drop, List.length_take]; rfl)) ?_; (with_reducible refine (text_WordPos.calls kj24 t837 a0 (wrap64 ((wrap64 (a1)) + 1)) t847 t848 _ (TabOK.of_below hT (by repeat (first | (with_reducible first | exact HB.out | apply below_alloc | apply pw_below_drewN | apply below_drew1) | exact HB.out))) A40.out).mono ?_); rintro e w63 ⟨rfl, hb⟩; refine ⟨_, rfl, ?_⟩; have n0_ := Aside0.mk (below_step (by repeat (first | (with_reducible first | exact HB.out | apply below_alloc | apply pw_below_drewN | apply below_drew1) | exact HB.out)) hb); clear HB; have HB := n0_; clear n0_; (try clear hb); (try clear hb2); (try clear hk); (try clear hi)) | ((with_reducible refine gate_callee (f := 38) rfl ?_); refine goesL_ (some 139) rfl rfl Tryz.func38 (by kernel_rfl) rfl #[.string a0, .int .i64 (wrap64 ((wrap64 (a1)) + 1))] rfl (by (try simp only [List.map_toArray, List.map_cons, List.map_nil]); first | done | rfl | (simp only [List.length_drop, List.length_take]; rfl)) ?_; (with_reducible refine (text_Word.calls a0 (wrap64 ((wrap64 (a1)) + 1)) t849 t850 _ A41.out).mono ?_); rintro e w64 ⟨rfl, hb⟩; refine ⟨_, rfl, ?_⟩; have n0_ := Aside0.mk (below_step (by repeat (first | (with_reducible first | exact HB.out | apply below_alloc | apply pw_below_drewN | apply below_drew1) | exact HB.out)) hb); clear HB; have HB := n0_; clear n0_; (try clear hb); (try clear hb2); (try clear hk); (try clear hi)) | ((with_reducible refine gate_callee (f := 38) rfl ?_); refine goesL_ (some 144) rfl rfl Tryz.func38 (by kernel_rfl) rfl #[.string t837, .int .i64 1] rfl (by (try simp only [List.map_toArray, List.map_cons, List.map_nil]); first | done | rfl | (simp only [List.length_drop, List.length_take]; rfl)) ?_; (with_reducible refine (text_Word.calls t837 1 t851 t852 _ A42.out).mono ?_); rintro e w65 ⟨rfl, hb⟩; refine ⟨_, rfl, ?_⟩; have n0_ := Aside0.mk (below_step (by repeat (first | (with_reducible first | exact HB.out | apply below_alloc | apply pw_below_drewN | apply below_drew1) | exact HB.out)) hb); clear HB; have HB := n0_; clear n0_; (try clear hb); (try clear hb2); (try clear hk); (try clear hi)))
                    go_ret
                    exact ⟨by first | rfl | (simp [errW_none, errW_some] <;> rfl) | (simp [*, errW_none, errW_some] <;> rfl), by repeat (first | (with_reducible first | exact HB.out | apply below_alloc | apply pw_below_drewN | apply below_drew1) | exact HB.out)⟩
  · replace c6 := Bool.eq_false_iff.mpr c6
    subst c6
    have H1 : (some t830) = some r := by rw [if_neg (show ¬ (false = true) by decide)] at H; exact H
    clear H
    have H := H1
    clear H1
    obtain rfl := Option.some.inj H
    go_enter Tryz.func12, Tryz.ntmps12
    go_wp2_with (first | ((with_reducible refine gate_callee (f := 15) rfl ?_); refine goesL_ (some 24) rfl rfl Tryz.func15 (by kernel_rfl) rfl #[] rfl (by (try simp only [List.map_toArray, List.map_cons, List.map_nil]); first | done | rfl | (simp only [List.length_drop, List.length_take]; rfl)) ?_; (with_reducible refine (qanatlaw02_head.calls k  t830 _ (TabOK.of_below hT (by repeat (first | (with_reducible first | exact HB.out | apply below_alloc | apply pw_below_drewN | apply below_drew1) | exact HB.out))) A4.out).mono ?_); rintro e w66 ⟨rfl, hb⟩; refine ⟨_, rfl, ?_⟩; have n0_ := Aside0.mk (below_step (by repeat (first | (with_reducible first | exact HB.out | apply below_alloc | apply pw_below_drewN | apply below_drew1) | exact HB.out)) hb); clear HB; have HB := n0_; clear n0_; (try clear hb); (try clear hb2); (try clear hk); (try clear hi)) | ((with_reducible refine gate_callee (f := 65) rfl ?_); refine goesL_ (some 26) rfl rfl Tryz.func65 (by kernel_rfl) rfl #[.string a0] rfl (by (try simp only [List.map_toArray, List.map_cons, List.map_nil]); first | done | rfl | (simp only [List.length_drop, List.length_take]; rfl)) ?_; (with_reducible refine (text_Valid.calls a0 false _ A5.out).mono ?_); rintro e w67 ⟨rfl, hb⟩; refine ⟨_, rfl, ?_⟩; have n0_ := Aside0.mk (below_step (by repeat (first | (with_reducible first | exact HB.out | apply below_alloc | apply pw_below_drewN | apply below_drew1) | exact HB.out)) hb); clear HB; have HB := n0_; clear n0_; (try clear hb); (try clear hb2); (try clear hk); (try clear hi)))
    go_ret
    exact ⟨by first | rfl | (simp [errW_none, errW_some] <;> rfl) | (simp [*, errW_none, errW_some] <;> rfl), by repeat (first | (with_reducible first | exact HB.out | apply below_alloc | apply pw_below_drewN | apply below_drew1) | exact HB.out)⟩

/-- THE ONE PURE STATEMENT of qanatlaw02_TextWordy: yours. -/
def qanatlaw02_TextWordy.Pure : Prop := ∀ (a0 : ByteArray) (a1 : Int) (a2 : Int), a0.size ≤ 140737488351232 → (Lit.int .u8 a1).wf = true → (Lit.int .u8 a2).wf = true → ∃ k, qanatlaw02_TextWordy.f k a0 a1 a2 = some true
theorem qanatlaw02_TextWordy.walk (P : qanatlaw02_TextWordy.Pure) (a0 : ByteArray) (a1 : Int) (a2 : Int) (w : World) (hT : TabOK w) (w0 : a0.size ≤ 140737488351232) (w1 : (Lit.int .u8 a1).wf = true) (w2 : (Lit.int .u8 a2).wf = true) :
    Calls Tryz.prog 12 #[.string a0, .int .u8 a1, .int .u8 a2] w fun e w' => e = .returned (.bool true) ∧ Below w.heap.size w w' := by
  obtain ⟨k, h⟩ := P a0 a1 a2 w0 w1 w2
  refine (qanatlaw02_TextWordy.calls k a0 a1 a2 true w hT h).mono ?_
  rintro e w' ⟨rfl, hd⟩
  exact ⟨rfl, hd⟩

end Go.Proofs.YtlekfhnlhdmekaaGreatDoor.T

/- The words of a list of bytes, parted by blanks: plain laws. -/
namespace Go.Proofs.YtlekfhnlhdmekaaGreatDoor.T
set_option linter.unusedSimpArgs false
set_option linter.unusedVariables false
open Go

/-- The words of l; what cur holds has been read of the first one. -/
def fw : List UInt8 → List UInt8 → List (List UInt8)
  | cur, [] => if cur = [] then [] else [cur]
  | cur, b :: t => if b = 32 then (if cur = [] then [] else [cur]) ++ fw [] t else fw (cur ++ [b]) t
theorem fw_blank (t : List UInt8) : fw [] (32 :: t) = fw [] t := by simp [fw]
theorem fw_sep : ∀ (u cur v : List UInt8), fw cur (u ++ 32 :: v) = fw cur u ++ fw [] v
  | [], cur, v => by simp [fw]
  | b :: u, cur, v => by
    simp only [List.cons_append, fw]
    by_cases h : b = 32
    · rw [if_pos h, if_pos h, fw_sep u [] v, List.append_assoc]
    · rw [if_neg h, if_neg h, fw_sep u _ v]
theorem fw_word : ∀ (u cur : List UInt8), (∀ b ∈ u, b ≠ 32) → fw cur u = if cur ++ u = [] then [] else [cur ++ u]
  | [], cur, _ => by simp [fw]
  | b :: u, cur, h => by
    simp only [fw]
    rw [if_neg (h b (List.mem_cons_self)), fw_word u _ (fun x hx => h x (List.mem_cons_of_mem _ hx))]
    simp
/-- v is empty or begins with a blank. -/
def Stops (v : List UInt8) : Prop := v = [] ∨ ∃ t, v = 32 :: t
/-- u is empty or ends with a blank. -/
def Starts (u : List UInt8) : Prop := u = [] ∨ ∃ t, u = t ++ [32]
theorem fw_stops (u v : List UInt8) (h : Stops v) : fw [] (u ++ v) = fw [] u ++ fw [] v := by
  rcases h with rfl | ⟨t, rfl⟩
  · simp [fw]
  · rw [fw_sep, fw_blank]
theorem fw_starts (u v : List UInt8) (h : Starts u) : fw [] (u ++ v) = fw [] u ++ fw [] v := by
  rcases h with rfl | ⟨t, rfl⟩
  · simp [fw]
  · have h1 : fw [] (t ++ [32]) = fw [] t := by rw [fw_sep]; simp [fw]
    rw [h1, List.append_assoc, List.singleton_append, fw_sep]
theorem fw_one (w v : List UInt8) (hw : w ≠ []) (h : ∀ b ∈ w, b ≠ 32) (hv : Stops v) : fw [] (w ++ v) = w :: fw [] v := by
  rw [fw_stops w v hv, fw_word w [] h]
  simp [hw]
theorem fw_mem : ∀ (u cur : List UInt8), (∀ b ∈ cur, b ≠ 32) → ∀ w ∈ fw cur u, w ≠ [] ∧ ∀ b ∈ w, b ≠ 32
  | [], cur, hc, w, hw => by
    simp only [fw] at hw
    split at hw
    · cases hw
    · rw [List.mem_singleton.1 hw]; exact ⟨by assumption, hc⟩
  | b :: u, cur, hc, w, hw => by
    simp only [fw] at hw
    split at hw
    · rcases List.mem_append.1 hw with hw | hw
      · split at hw
        · cases hw
        · rw [List.mem_singleton.1 hw]; exact ⟨by assumption, hc⟩
      · exact fw_mem u [] (fun _ h => by cases h) w hw
    · next hb => exact fw_mem u _ (fun x hx => by
        rcases List.mem_append.1 hx with hx | hx
        · exact hc x hx
        · rw [List.mem_singleton.1 hx]; exact hb) w hw
theorem fw_bytes : ∀ (u cur w : List UInt8), w ∈ fw cur u → ∀ b ∈ w, b ∈ cur ∨ b ∈ u
  | [], cur, w, hw, b, hb => by
    simp only [fw] at hw
    split at hw
    · cases hw
    · rw [List.mem_singleton.1 hw] at hb; exact .inl hb
  | x :: u, cur, w, hw, b, hb => by
    simp only [fw] at hw
    split at hw
    · rcases List.mem_append.1 hw with hw | hw
      · split at hw
        · cases hw
        · rw [List.mem_singleton.1 hw] at hb; exact .inl hb
      · rcases fw_bytes u [] w hw b hb with h | h
        · cases h
        · exact .inr (List.mem_cons_of_mem _ h)
    · rcases fw_bytes u _ w hw b hb with h | h
      · rcases List.mem_append.1 h with h | h
        · exact .inl h
        · rw [List.mem_singleton.1 h]; exact .inr List.mem_cons_self
      · exact .inr (List.mem_cons_of_mem _ h)
/-- Words, joined by blanks, are these words. -/
theorem fw_tail : ∀ (L : List (List UInt8)), (∀ w ∈ L, w ≠ [] ∧ ∀ b ∈ w, b ≠ 32) → fw [] (Lib.joinTail [32] L) = L ∧ Stops (Lib.joinTail [32] L)
  | [], _ => by simp [Lib.joinTail, fw, Stops]
  | w :: L, h => by
    have ih := fw_tail L (fun x hx => h x (List.mem_cons_of_mem _ hx))
    have hw := h w List.mem_cons_self
    have e : Lib.joinTail [32] (w :: L) = 32 :: (w ++ Lib.joinTail [32] L) := by simp [Lib.joinTail]
    rw [e, fw_blank, fw_one w _ hw.1 hw.2 ih.2, ih.1]
    exact ⟨rfl, .inr ⟨_, rfl⟩⟩
theorem fw_join (L : List (List UInt8)) (h : ∀ w ∈ L, w ≠ [] ∧ ∀ b ∈ w, b ≠ 32) : fw [] (Lib.join L [32]) = L := by
  cases L with
  | nil => simp [Lib.join_nil, fw]
  | cons w L =>
    have ih := fw_tail L (fun x hx => h x (List.mem_cons_of_mem _ hx))
    have hw := h w List.mem_cons_self
    rw [Lib.join_cons, fw_one w _ hw.1 hw.2 ih.2, ih.1]
/-- The words, each with one byte behind it, are not longer than the list with one byte more. -/
theorem fw_len : ∀ (u cur : List UInt8), Lib.lens (fw cur u) + (fw cur u).length ≤ cur.length + u.length + 1
  | [], cur => by
    simp only [fw]
    split
    · simp [Lib.lens]
    · simp [Lib.lens]
  | b :: u, cur => by
    simp only [fw]
    split
    · have ih := fw_len u []
      split
      · simp [Lib.lens] at ih ⊢; omega
      · simp [Lib.lens] at ih ⊢; omega
    · have ih := fw_len u (cur ++ [b])
      simp at ih ⊢; omega
theorem join_len (L : List (List UInt8)) : (Lib.join L [32]).length + 1 ≤ Lib.lens L + L.length ∨ L = [] := by
  cases L with
  | nil => exact .inr rfl
  | cons w L => left; rw [Lib.join_length]; simp; omega
theorem fw_join_len (u : List UInt8) : (Lib.join (fw [] u) [32]).length ≤ u.length := by
  have h := fw_len u []
  rcases join_len (fw [] u) with h1 | h1
  · simp at h; omega
  · rw [h1]; simp [Lib.join_nil]
theorem join_bytes (L : List (List UInt8)) (b : UInt8) (hb : b ∈ Lib.join L [32]) : b = 32 ∨ ∃ w ∈ L, b ∈ w := by
  have ht : ∀ (L : List (List UInt8)), b ∈ Lib.joinTail [32] L → b = 32 ∨ ∃ w ∈ L, b ∈ w := by
    intro L
    induction L with
    | nil => intro h; simp [Lib.joinTail] at h
    | cons w L ih =>
      intro h
      have e : Lib.joinTail [32] (w :: L) = 32 :: (w ++ Lib.joinTail [32] L) := by simp [Lib.joinTail]
      rw [e] at h
      rcases List.mem_cons.1 h with h | h
      · exact .inl h
      · rcases List.mem_append.1 h with h | h
        · exact .inr ⟨w, List.mem_cons_self, h⟩
        · rcases ih h with h | ⟨x, hx, h⟩
          · exact .inl h
          · exact .inr ⟨x, List.mem_cons_of_mem _ hx, h⟩
  cases L with
  | nil => simp [Lib.join_nil] at hb
  | cons w L =>
    rw [Lib.join_cons] at hb
    rcases List.mem_append.1 hb with h | h
    · exact .inr ⟨w, List.mem_cons_self, h⟩
    · rcases ht L h with h | ⟨x, hx, h⟩
      · exact .inl h
      · exact .inr ⟨x, List.mem_cons_of_mem _ hx, h⟩
theorem fw_trim : ∀ (u : List UInt8), fw [] (Lib.trimLeftB u 32) = fw [] u
  | [] => rfl
  | b :: u => by
    unfold Lib.trimLeftB
    rw [List.dropWhile_cons]
    by_cases h : b = 32
    · subst h
      rw [if_pos (by rfl), fw_blank]
      exact fw_trim u
    · rw [if_neg (by simpa using h)]
/-- On printable bytes it is the library's. -/
theorem fields_fw : ∀ (u cur : List UInt8), (∀ b ∈ u, 32 ≤ b.toNat ∧ b.toNat ≤ 126) → Lib.fieldsGo cur u = fw cur u
  | [], cur, _ => by
    simp only [Lib.fieldsGo, fw]
    cases cur <;> simp
  | b :: u, cur, h => by
    have hb := h b List.mem_cons_self
    have hu := fun x hx => h x (List.mem_cons_of_mem _ hx)
    simp only [Lib.fieldsGo, fw]
    by_cases e : b = 32
    · subst e
      rw [if_pos (by decide), if_pos rfl, fields_fw u [] hu]
      cases cur <;> simp
    · have hs : Lib.isSp b = false := by
        cases hs : Lib.isSp b with
        | false => rfl
        | true =>
          exfalso
          simp only [Lib.isSp, Bool.or_eq_true, beq_iff_eq] at hs
          rcases hs with ((((rfl | rfl) | rfl) | rfl) | rfl) | rfl <;> first | exact absurd hb.1 (by decide) | exact e rfl
      rw [hs, if_neg (by decide), if_neg e, fields_fw u _ hu]
theorem fieldsD_fw (u : List UInt8) (h : ∀ b ∈ u, 32 ≤ b.toNat ∧ b.toNat ≤ 126) : Lib.fieldsD u = fw [] u := by
  rw [Lib.fieldsD_ascii u (fun b hb => by have := h b hb; omega)]
  exact fields_fw u [] h
end Go.Proofs.YtlekfhnlhdmekaaGreatDoor.T

/- The reference's Valid and out: the walks (written by mp.py over the kit's print.py), and what they compute. -/
namespace Go.Proofs.YtlekfhnlhdmekaaGreatDoor.TP
set_option linter.unusedSimpArgs false
open Go.RowKit Go.Proofs.YtlekfhnlhdmekaaGreatDoorW.PrintWords Go.Proofs.YtlekfhnlhdmekaaGreatDoorW.PrintLast Go.Proofs.YtlekfhnlhdmekaaGreatDoorW.PrintMore Go.Proofs.YtlekfhnlhdmekaaGreatDoor.T
attribute [local go_sem] max2_int min2_int max_two min_two max_three min_three max_four min_four
set_option linter.unusedVariables false
set_option linter.unusedSimpArgs false

/-! ### qanatref02_Pad: function 98 -/
def qanatref02_Pad.f (a0 : Int) : Option (Bool) := if a0 ≥ 32 then (some (decide (a0 ≤ 126))) else (some false)
set_option maxHeartbeats 8000000 in
set_option maxRecDepth 100000 in
theorem qanatref02_Pad.calls (a0 : Int) (r : Bool) (w : World) (h : qanatref02_Pad.f a0 = some r) :
    Calls Tryz.prog 98 #[.int .u8 a0] w fun e w' => e = .returned (.bool r) ∧ Drawn0 w w' := by
  have H : (if a0 ≥ 32 then (some (decide (a0 ≤ 126))) else (some false)) = some r := h
  clear h
  by_cases c2 : a0 ≥ 32
  · rw [if_pos c2] at H
    have c2b0 : decide (32 ≤ a0) = true := decide_eq_true c2
    clear c2
    obtain rfl := Option.some.inj H
    go_enter Tryz.func98, Tryz.ntmps98
    go_wp2
    go_ret
    exact ⟨by first | rfl | (simp; done) | (simp [*]; done), by repeat (first | exact Drawn0.refl _ | apply Drawn0.step)⟩
  · rw [if_neg c2] at H
    have c2b0 : decide (32 ≤ a0) = false := decide_eq_false c2
    clear c2
    obtain rfl := Option.some.inj H
    go_enter Tryz.func98, Tryz.ntmps98
    go_wp2
    go_ret
    exact ⟨by first | rfl | (simp; done) | (simp [*]; done), by repeat (first | exact Drawn0.refl _ | apply Drawn0.step)⟩

/-! ### qanatref02_Valid: function 89 -/
def qanatref02_Valid.l0 : Nat → ByteArray → Int → Option (Bool)
  | 0, _, _ => none
  | k + 1, x0, x3 => if x3 < (x0.size : Int) then (if 0 ≤ x3 then ((qanatref02_Pad.f (bt x0 x3)).bind fun t186 => (if t186 = true then (qanatref02_Valid.l0 k x0 (wrap64 (x3 + 1))) else (some false))) else (none)) else (some true)
def qanatref02_Valid.f (k : Nat) (a0 : ByteArray) : Option (Bool) := if (a0.size : Int) > 1000 then (some false) else (qanatref02_Valid.l0 k a0 0)
theorem qanatref02_Valid.mono_l : ∀ k, (∀ y0 y1, LeO (qanatref02_Valid.l0 k y0 y1) (qanatref02_Valid.l0 (k + 1) y0 y1))
  | 0 => fun _ _ r h => by simp [qanatref02_Valid.l0] at h
  | k + 1 => by
    have ih0 := qanatref02_Valid.mono_l k
    · intro y0 y1
      unfold qanatref02_Valid.l0
      repeat' first
      | (with_reducible exact ih0 _ _)
      | (with_reducible exact LeO.refl _)
      | (with_reducible exact LeO.none _)
      | (with_reducible refine LeO.ite ?_ ?_)
      | (with_reducible refine LeO.bind ?_ (fun _ => ?_))
      | exact ih0 _ _
      | exact LeO.none _
      | refine LeO.ite ?_ ?_
      | refine LeO.bind ?_ (fun _ => ?_)
theorem qanatref02_Valid.mono : ∀ a0 k, LeO (qanatref02_Valid.f k a0) (qanatref02_Valid.f (k + 1) a0) := by
  intro a0 k
  have ih0 := qanatref02_Valid.mono_l k
  unfold qanatref02_Valid.f
  repeat' first
      | (with_reducible exact ih0 _ _)
      | (with_reducible exact LeO.refl _)
      | (with_reducible exact LeO.none _)
      | (with_reducible refine LeO.ite ?_ ?_)
      | (with_reducible refine LeO.bind ?_ (fun _ => ?_))
      | exact ih0 _ _
      | exact LeO.none _
      | refine LeO.ite ?_ ?_
      | refine LeO.bind ?_ (fun _ => ?_)
set_option maxHeartbeats 8000000 in
set_option maxRecDepth 100000 in
theorem qanatref02_Valid.calls (k : Nat) (a0 : ByteArray) (r : Bool) (w : World) (h : qanatref02_Valid.f k a0 = some r) :
    Calls Tryz.prog 89 #[.string a0] w fun e w' => e = .returned (.bool r) ∧ Drawn0 w w' := by
  have H : (if (a0.size : Int) > 1000 then (some false) else (qanatref02_Valid.l0 k a0 0)) = some r := h
  clear h
  by_cases c2 : (a0.size : Int) > 1000
  · rw [if_pos c2] at H
    have c2b0 : decide (1000 < (a0.size : Int)) = true := decide_eq_true c2
    have c2b1 : decide (1000 < a0.size) = true := decide_eq_true (by omega)
    clear c2
    obtain rfl := Option.some.inj H
    go_enter Tryz.func89, Tryz.ntmps89
    go_wp2
    go_ret
    exact ⟨by first | rfl | (simp; done) | (simp [*]; done), by repeat (first | exact Drawn0.refl _ | apply Drawn0.step)⟩
  · rw [if_neg c2] at H
    have c2b0 : decide (1000 < (a0.size : Int)) = false := decide_eq_false c2
    have c2b1 : decide (1000 < a0.size) = false := decide_eq_false (by omega)
    clear c2
    have H' := Aside0.mk H
    clear H
    go_enter Tryz.func89, Tryz.ntmps89
    go_wp2
    go_loopg [3] k (fun kq v3 w' => ∃ (x3_1 : Int), v3 = .int .i64 x3_1 ∧ Aside0 (qanatref02_Valid.l0 kq a0 x3_1 = some r) ∧ Aside0 (kq ≤ k) ∧ Drawn0 w w')
    case atStart => exact ⟨(0), (by first | rfl | (simp; done) | (simp [*]; done)), H', ⟨Nat.le_refl _⟩, by repeat (first | exact Drawn0.refl _ | apply Drawn0.step)⟩
    case round =>
      clear H'
      try clear c2
      try clear c2b0
      try clear c2b1
      try clear p2
      obtain ⟨x3_1, rfl, HA, HK1, ⟨m1, rfl⟩⟩ := hrel
      cases gk with
      | zero => exact absurd HA.out (by simp [qanatref02_Valid.l0])
      | succ k1 =>
        have H := HA.out
        clear HA
        simp only [qanatref02_Valid.l0] at H
        by_cases c3 : x3_1 < (a0.size : Int)
        · rw [if_pos c3] at H
          have c3b0 : decide (x3_1 < (a0.size : Int)) = true := decide_eq_true c3
          clear c3
          by_cases c4 : 0 ≤ x3_1
          · rw [if_pos c4] at H
            have c4b0 : decide (0 ≤ x3_1) = true := decide_eq_true c4
            clear c4
            replace H := Option.bind_eq_some_iff.mp H
            obtain ⟨t186, A60, H⟩ := H
            replace H : (if t186 = true then (qanatref02_Valid.l0 k1 a0 (wrap64 (x3_1 + 1))) else (some false)) = some r := H
            have A6 := Aside0.mk A60
            clear A60
            by_cases c7 : t186 = true
            · subst c7
              have H1 : (qanatref02_Valid.l0 k1 a0 (wrap64 (x3_1 + 1))) = some r := by rw [if_pos rfl] at H; exact H
              clear H
              have H := H1
              clear H1
              have H' := Aside0.mk H
              clear H
              have p5 : 0 ≤ (x3_1 : Int) := of_decide_eq_true (by first | (with_reducible assumption) | assumption)
              have q5 : x3_1 < (a0.size : Int) := of_decide_eq_true (by first | (with_reducible assumption) | assumption)
              have hx5 := bt_at a0 x3_1
              replace p5 := eq_true p5
              replace q5 := eq_true q5
              go_wp2_with (first | ((with_reducible refine gate_callee (f := 98) rfl ?_); refine goesL_ (some 16) rfl rfl Tryz.func98 (by kernel_rfl) rfl #[.int .u8 (bt a0 x3_1)] rfl (by (try simp only [List.map_toArray, List.map_cons, List.map_nil]); first | done | rfl | (simp only [List.length_drop, List.length_take]; rfl)) ?_; (with_reducible refine (qanatref02_Pad.calls (bt a0 x3_1) true _ A6.out).mono ?_); rintro e w' ⟨rfl, ⟨nd, rfl⟩⟩; refine ⟨_, rfl, ?_⟩))
              go_roundg k1
              case measure => have := HK1.out; omega
              case rel => exact ⟨(wrap64 (x3_1 + 1)), (by first | rfl | (simp; done) | (simp [*]; done)), H', ⟨by have := HK1.out; omega⟩, by repeat (first | exact Drawn0.refl _ | apply Drawn0.step)⟩
            · replace c7 := Bool.eq_false_iff.mpr c7
              subst c7
              have H1 : (some false) = some r := by rw [if_neg (show ¬ (false = true) by decide)] at H; exact H
              clear H
              have H := H1
              clear H1
              obtain rfl := Option.some.inj H
              have p5 : 0 ≤ (x3_1 : Int) := of_decide_eq_true (by first | (with_reducible assumption) | assumption)
              have q5 : x3_1 < (a0.size : Int) := of_decide_eq_true (by first | (with_reducible assumption) | assumption)
              have hx5 := bt_at a0 x3_1
              replace p5 := eq_true p5
              replace q5 := eq_true q5
              go_wp2_with (first | ((with_reducible refine gate_callee (f := 98) rfl ?_); refine goesL_ (some 16) rfl rfl Tryz.func98 (by kernel_rfl) rfl #[.int .u8 (bt a0 x3_1)] rfl (by (try simp only [List.map_toArray, List.map_cons, List.map_nil]); first | done | rfl | (simp only [List.length_drop, List.length_take]; rfl)) ?_; (with_reducible refine (qanatref02_Pad.calls (bt a0 x3_1) false _ A6.out).mono ?_); rintro e w' ⟨rfl, ⟨nd, rfl⟩⟩; refine ⟨_, rfl, ?_⟩))
              go_ret
              exact ⟨by first | rfl | (simp; done) | (simp [*]; done), by repeat (first | exact Drawn0.refl _ | apply Drawn0.step)⟩
          · rw [if_neg c4] at H
            exact absurd H (by simp)
        · rw [if_neg c3] at H
          have c3b0 : decide (x3_1 < (a0.size : Int)) = false := decide_eq_false c3
          clear c3
          obtain rfl := Option.some.inj H
          go_wp2
          go_ret
          exact ⟨by first | rfl | (simp; done) | (simp [*]; done), by repeat (first | exact Drawn0.refl _ | apply Drawn0.step)⟩

/-! ### qanatref02_out: function 90 -/
def qanatref02_out.l0 : Nat → List Int → Int → Option (ByteArray × Int)
  | 0, _, _ => none
  | k + 1, x0, x3 => if x3 < (x0.length : Int) then (if 0 ≤ x3 then ((qanatref02_Pad.f (rd x0 x3)).bind fun t189 => (if t189 = true then (qanatref02_out.l0 k x0 (wrap64 (x3 + 1))) else (some ((⟨#[]⟩ : ByteArray), 8)))) else (none)) else (some (strOfNums x0, 0))
def qanatref02_out.f (k : Nat) (l0 : List Int) : Option (ByteArray × Int) := if (l0.length : Int) > 1000 then (some ((⟨#[]⟩ : ByteArray), 3)) else (qanatref02_out.l0 k l0 0)
theorem qanatref02_out.mono_l : ∀ k, (∀ y0 y1, LeO (qanatref02_out.l0 k y0 y1) (qanatref02_out.l0 (k + 1) y0 y1))
  | 0 => fun _ _ r h => by simp [qanatref02_out.l0] at h
  | k + 1 => by
    have ih0 := qanatref02_out.mono_l k
    · intro y0 y1
      unfold qanatref02_out.l0
      repeat' first
      | (with_reducible exact ih0 _ _)
      | (with_reducible exact LeO.refl _)
      | (with_reducible exact LeO.none _)
      | (with_reducible refine LeO.ite ?_ ?_)
      | (with_reducible refine LeO.bind ?_ (fun _ => ?_))
      | exact ih0 _ _
      | exact LeO.none _
      | refine LeO.ite ?_ ?_
      | refine LeO.bind ?_ (fun _ => ?_)
theorem qanatref02_out.mono : ∀ a0 k, LeO (qanatref02_out.f k a0) (qanatref02_out.f (k + 1) a0) := by
  intro a0 k
  have ih0 := qanatref02_out.mono_l k
  unfold qanatref02_out.f
  repeat' first
      | (with_reducible exact ih0 _ _)
      | (with_reducible exact LeO.refl _)
      | (with_reducible exact LeO.none _)
      | (with_reducible refine LeO.ite ?_ ?_)
      | (with_reducible refine LeO.bind ?_ (fun _ => ?_))
      | exact ih0 _ _
      | exact LeO.none _
      | refine LeO.ite ?_ ?_
      | refine LeO.bind ?_ (fun _ => ?_)
set_option maxHeartbeats 8000000 in
set_option maxRecDepth 100000 in
theorem qanatref02_out.calls (k : Nat) (A0 : Option Addr) (c0 : Nat) (l0 : List Int) (r1 : ByteArray) (r2 : Int) (w : World) (hr0 : Kd.C (Kd.int .u8) w A0 l0.length l0) (hc0 : l0.length ≤ c0) (h : qanatref02_out.f k l0 = some (r1, r2)) :
    Calls Tryz.prog 90 #[.slice A0 l0.length c0] w fun e w' => e = .returned (.agg #[.string r1, .int .i64 r2]) ∧ Below w.heap.size w w' := by
  have hu29 := Tryz.underlying29
  have HR0 := Aside0.mk hr0
  have HC0 := Aside0.mk hc0
  clear hr0 hc0
  have HB := Aside0.mk (Below.refl w.heap.size w)
  have H : (if (l0.length : Int) > 1000 then (some ((⟨#[]⟩ : ByteArray), 3)) else (qanatref02_out.l0 k l0 0)) = some (r1, r2) := h
  clear h
  by_cases c2 : (l0.length : Int) > 1000
  · rw [if_pos c2] at H
    have c2b0 : decide (1000 < (l0.length : Int)) = true := decide_eq_true c2
    have c2b1 : decide (1000 < l0.length) = true := decide_eq_true (by omega)
    clear c2
    simp only [Option.some.injEq, Prod.mk.injEq] at H
    obtain ⟨rfl, rfl⟩ := H
    go_enter Tryz.func90, Tryz.ntmps90
    go_wp2_with (first | ((with_reducible refine gate_dst (N := 2) rfl ?_); refine box_event ?hg (N := 2) ?hd (cs := #[.string (⟨#[]⟩ : ByteArray), .int .i64 0]) (t := 29) ?hr ?_; (case hd => rfl); (case hg => rfl); (case hr => first | (go_simp; done) | (go_simp; rfl)); intro gb187 hg w3 hbox hb; have n0_ := Aside0.mk (below_step (by repeat (first | (with_reducible first | exact HB.out | apply below_alloc | apply pw_below_drewN | apply below_drew1) | exact HB.out)) hb); have n1_ := Aside0.mk (hbox); have n2_ := Aside0.mk ((by rw [hg]; exact (below_size (by repeat (first | (with_reducible first | exact HB.out | apply below_alloc | apply pw_below_drewN | apply below_drew1) | exact HB.out))) : w.heap.size ≤ gb187)); have n3_ := Aside0.mk ((by rw [hg]; exact (below_size (by repeat (first | (with_reducible first | exact HB.out | apply below_alloc | apply pw_below_drewN | apply below_drew1) | exact HB.out))) : w.heap.size ≤ gb187)); clear HB; have HB := n0_; have BK187 := n1_; have GW187 := n2_; have GE187 := n3_; clear n0_ n1_ n2_ n3_; clear hb hbox hg; have hcz4_0 : w3.cell? ⟨gb187, 0, none⟩ = some (.string (⟨#[]⟩ : ByteArray)) := (blk_cell BK187.out 0).trans rfl; have hcz4_1 : w3.cell? ⟨gb187, 1, none⟩ = some (.int .i64 0) := (blk_cell BK187.out 1).trans rfl; have hfz4_0 := blk_frozen BK187.out 0; have hfz4_1 := blk_frozen BK187.out 1))
    refine bodyPost_ret (results_cell_row rfl _ _ gb187 29 #[.string (⟨#[]⟩ : ByteArray), .int .i64 3] (0, 0) _ rfl (by (with_reducible repeat (first | refine blk_drewN ?_ _ | refine blk_drew ?_ | refine blk_alloc ?_ _)); refine blk_put (cs := #[.string (⟨#[]⟩ : ByteArray), .int .i64 0]) ?_ 1 _ rfl; (with_reducible repeat (first | refine blk_drewN ?_ _ | refine blk_drew ?_ | refine blk_alloc ?_ _)); refine blk_put (cs := #[.string (⟨#[]⟩ : ByteArray), .int .i64 0]) ?_ 0 _ rfl; (with_reducible repeat (first | refine blk_drewN ?_ _ | refine blk_drew ?_ | refine blk_alloc ?_ _)); exact BK187.out) Tryz.underlying29 rfl (by kernel_rfl)) rfl ?_
    exact ⟨by first | rfl | (simp [errW_none, errW_some] <;> rfl) | (simp [*, errW_none, errW_some] <;> rfl), by repeat (first | (with_reducible first | exact HB.out | apply below_alloc | apply pw_below_drewN | apply below_drew1 | refine below_set ?_ GE187.out) | exact HB.out)⟩
  · rw [if_neg c2] at H
    have c2b0 : decide (1000 < (l0.length : Int)) = false := decide_eq_false c2
    have c2b1 : decide (1000 < l0.length) = false := decide_eq_false (by omega)
    clear c2
    have H' := Aside0.mk H
    clear H
    go_enter Tryz.func90, Tryz.ntmps90
    go_wp2_with (first | ((with_reducible refine gate_dst (N := 2) rfl ?_); refine box_event ?hg (N := 2) ?hd (cs := #[.string (⟨#[]⟩ : ByteArray), .int .i64 0]) (t := 29) ?hr ?_; (case hd => rfl); (case hg => rfl); (case hr => first | (go_simp; done) | (go_simp; rfl)); intro gb187 hg w5 hbox hb; have n0_ := Aside0.mk (below_step (by repeat (first | (with_reducible first | exact HB.out | apply below_alloc | apply pw_below_drewN | apply below_drew1) | exact HB.out)) hb); have n1_ := Aside0.mk (hbox); have n2_ := Aside0.mk ((by rw [hg]; exact (below_size (by repeat (first | (with_reducible first | exact HB.out | apply below_alloc | apply pw_below_drewN | apply below_drew1) | exact HB.out))) : w.heap.size ≤ gb187)); have n3_ := Aside0.mk ((by rw [hg]; exact (below_size (by repeat (first | (with_reducible first | exact HB.out | apply below_alloc | apply pw_below_drewN | apply below_drew1) | exact HB.out))) : w.heap.size ≤ gb187)); clear HB; have HB := n0_; have BK187 := n1_; have GW187 := n2_; have GE187 := n3_; clear n0_ n1_ n2_ n3_; clear hb hbox hg))
    go_loopg [3] k (fun kq v3 w' => ∃ (x3_1 : Int) (x188000_1 : ByteArray) (x188001_1 : Int), v3 = .int .i64 x3_1 ∧ Aside0 (qanatref02_out.l0 kq l0 x3_1 = some (r1, r2)) ∧ Aside0 (kq ≤ k) ∧ Aside0 (w'.heap[gb187]? = some (.cells #[.string x188000_1, .int .i64 x188001_1] 29 (0, 0))) ∧ Aside0 (Below w.heap.size w w'))
    case atStart => exact ⟨(0), ((⟨#[]⟩ : ByteArray)), (0), (by first | rfl | (simp; done) | (simp [*]; done)), H', ⟨Nat.le_refl _⟩, ⟨by (with_reducible repeat (first | refine blk_drewN ?_ _ | refine blk_drew ?_ | refine blk_alloc ?_ _)); exact BK187.out⟩, ⟨by repeat (first | (with_reducible first | exact HB.out | apply below_alloc | apply pw_below_drewN | apply below_drew1 | refine below_set ?_ GE187.out) | exact HB.out)⟩⟩
    case round =>
      clear H'
      try clear c2
      try clear c2b0
      try clear c2b1
      try clear p2
      try clear hcz4_0
      try clear hcz4_1
      try clear hfz4_0
      try clear hfz4_1
      obtain ⟨x3_1, x188000_1, x188001_1, rfl, HA, HK1, BK187, HB⟩ := hrel
      cases gk with
      | zero => exact absurd HA.out (by simp [qanatref02_out.l0])
      | succ k1 =>
        have H := HA.out
        clear HA
        simp only [qanatref02_out.l0] at H
        by_cases c6 : x3_1 < (l0.length : Int)
        · rw [if_pos c6] at H
          have c6b0 : decide (x3_1 < (l0.length : Int)) = true := decide_eq_true c6
          clear c6
          by_cases c7 : 0 ≤ x3_1
          · rw [if_pos c7] at H
            have c7b0 : decide (0 ≤ x3_1) = true := decide_eq_true c7
            clear c7
            replace H := Option.bind_eq_some_iff.mp H
            obtain ⟨t189, A80, H⟩ := H
            replace H : (if t189 = true then (qanatref02_out.l0 k1 l0 (wrap64 (x3_1 + 1))) else (some ((⟨#[]⟩ : ByteArray), 8))) = some (r1, r2) := H
            have A8 := Aside0.mk A80
            clear A80
            by_cases c9 : t189 = true
            · subst c9
              have H1 : (qanatref02_out.l0 k1 l0 (wrap64 (x3_1 + 1))) = some (r1, r2) := by rw [if_pos rfl] at H; exact H
              clear H
              have H := H1
              clear H1
              have H' := Aside0.mk H
              clear H
              have p188 : 0 ≤ (x3_1 : Int) := of_decide_eq_true (by first | (with_reducible assumption) | assumption)
              have q188 : x3_1 < (l0.length : Int) := of_decide_eq_true (by first | (with_reducible assumption) | assumption)
              obtain ⟨ad188, e188, hx188_0⟩ := Kd.at_int HR0.out x3_1 p188 q188
              cases e188
              replace hx188_0 := (HB.out.cell (World.block_lt_of_cell? w _ hx188_0)).trans hx188_0
              replace p188 := eq_true p188
              replace q188 := eq_true q188
              go_wp2_with (first | ((with_reducible refine gate_callee (f := 98) rfl ?_); refine goesL_ (some 18) rfl rfl Tryz.func98 (by kernel_rfl) rfl #[.int .u8 (rd l0 x3_1)] rfl (by (try simp only [List.map_toArray, List.map_cons, List.map_nil]); first | done | rfl | (simp only [List.length_drop, List.length_take]; rfl)) ?_; (with_reducible refine (qanatref02_Pad.calls (rd l0 x3_1) true _ A8.out).mono ?_); rintro e w' ⟨rfl, ⟨nd, rfl⟩⟩; refine ⟨_, rfl, ?_⟩))
              go_roundg k1
              case measure => have := HK1.out; omega
              case rel => exact ⟨(wrap64 (x3_1 + 1)), (x188000_1), (x188001_1), (by first | rfl | (simp; done) | (simp [*]; done)), H', ⟨by have := HK1.out; omega⟩, ⟨by (with_reducible repeat (first | refine blk_drewN ?_ _ | refine blk_drew ?_ | refine blk_alloc ?_ _)); exact BK187.out⟩, ⟨by repeat (first | (with_reducible first | exact HB.out | apply below_alloc | apply pw_below_drewN | apply below_drew1 | refine below_set ?_ GE187.out) | exact HB.out)⟩⟩
            · replace c9 := Bool.eq_false_iff.mpr c9
              subst c9
              have H1 : (some ((⟨#[]⟩ : ByteArray), 8)) = some (r1, r2) := by rw [if_neg (show ¬ (false = true) by decide)] at H; exact H
              clear H
              have H := H1
              clear H1
              simp only [Option.some.injEq, Prod.mk.injEq] at H
              obtain ⟨rfl, rfl⟩ := H
              have p188 : 0 ≤ (x3_1 : Int) := of_decide_eq_true (by first | (with_reducible assumption) | assumption)
              have q188 : x3_1 < (l0.length : Int) := of_decide_eq_true (by first | (with_reducible assumption) | assumption)
              obtain ⟨ad188, e188, hx188_0⟩ := Kd.at_int HR0.out x3_1 p188 q188
              cases e188
              replace hx188_0 := (HB.out.cell (World.block_lt_of_cell? w _ hx188_0)).trans hx188_0
              replace p188 := eq_true p188
              replace q188 := eq_true q188
              go_wp2_with (first | ((with_reducible refine gate_callee (f := 98) rfl ?_); refine goesL_ (some 18) rfl rfl Tryz.func98 (by kernel_rfl) rfl #[.int .u8 (rd l0 x3_1)] rfl (by (try simp only [List.map_toArray, List.map_cons, List.map_nil]); first | done | rfl | (simp only [List.length_drop, List.length_take]; rfl)) ?_; (with_reducible refine (qanatref02_Pad.calls (rd l0 x3_1) false _ A8.out).mono ?_); rintro e w' ⟨rfl, ⟨nd, rfl⟩⟩; refine ⟨_, rfl, ?_⟩; (try (rw [drewN_self wr]; generalize hq_ : World.drewN wr _ = wr; have n0_ : Aside0 (wr.heap[gb187]? = some (.cells #[.string x188000_1, .int .i64 x188001_1] 29 (0, 0))) := ⟨by rw [← hq_]; exact (by (with_reducible repeat (first | refine blk_drewN ?_ _ | refine blk_drew ?_ | refine blk_alloc ?_ _)); exact BK187.out)⟩; have n1_ : Aside0 (Below w.heap.size w wr) := ⟨by rw [← hq_]; exact (by repeat (first | (with_reducible first | exact HB.out | apply below_alloc | apply pw_below_drewN | apply below_drew1 | refine below_set ?_ GE187.out) | exact HB.out))⟩; clear BK187 HB hq_; have BK187 := n0_; have HB := n1_; clear n0_ n1_)); have hcz10_0 : wr.cell? ⟨gb187, 0, none⟩ = some (.string x188000_1) := (blk_cell BK187.out 0).trans rfl; have hcz10_1 : wr.cell? ⟨gb187, 1, none⟩ = some (.int .i64 x188001_1) := (blk_cell BK187.out 1).trans rfl; have hfz10_0 := blk_frozen BK187.out 0; have hfz10_1 := blk_frozen BK187.out 1))
              refine bodyPost_ret (results_cell_row rfl _ _ gb187 29 #[.string (⟨#[]⟩ : ByteArray), .int .i64 8] (0, 0) _ rfl (by (with_reducible repeat (first | refine blk_drewN ?_ _ | refine blk_drew ?_ | refine blk_alloc ?_ _)); refine blk_put (cs := #[.string (⟨#[]⟩ : ByteArray), .int .i64 x188001_1]) ?_ 1 _ rfl; (with_reducible repeat (first | refine blk_drewN ?_ _ | refine blk_drew ?_ | refine blk_alloc ?_ _)); refine blk_put (cs := #[.string x188000_1, .int .i64 x188001_1]) ?_ 0 _ rfl; (with_reducible repeat (first | refine blk_drewN ?_ _ | refine blk_drew ?_ | refine blk_alloc ?_ _)); exact BK187.out) Tryz.underlying29 rfl (by kernel_rfl)) rfl ?_
              exact ⟨by first | rfl | (simp [errW_none, errW_some] <;> rfl) | (simp [*, errW_none, errW_some] <;> rfl), by repeat (first | (with_reducible first | exact HB.out | apply below_alloc | apply pw_below_drewN | apply below_drew1 | refine below_set ?_ GE187.out) | exact HB.out)⟩
          · rw [if_neg c7] at H
            exact absurd H (by simp)
        · rw [if_neg c6] at H
          have c6b0 : decide (x3_1 < (l0.length : Int)) = false := decide_eq_false c6
          clear c6
          simp only [Option.some.injEq, Prod.mk.injEq] at H
          obtain ⟨rfl, rfl⟩ := H
          have hcv11 := Kd.C_string (P := Tryz.prog) (A := A0) (c := c0) Tryz.underlying83 Tryz.underlying5 Tryz.underlying9 (Kd.C_below HR0.out HB.out)
          have hcz12_0 : wr.cell? ⟨gb187, 0, none⟩ = some (.string x188000_1) := (blk_cell BK187.out 0).trans rfl
          have hcz12_1 : wr.cell? ⟨gb187, 1, none⟩ = some (.int .i64 x188001_1) := (blk_cell BK187.out 1).trans rfl
          have hfz12_0 := blk_frozen BK187.out 0
          have hfz12_1 := blk_frozen BK187.out 1
          go_wp2
          refine bodyPost_ret (results_cell_row rfl _ _ gb187 29 #[.string (strOfNums l0), .int .i64 0] (0, 0) _ rfl (by (with_reducible repeat (first | refine blk_drewN ?_ _ | refine blk_drew ?_ | refine blk_alloc ?_ _)); refine blk_put (cs := #[.string (strOfNums l0), .int .i64 x188001_1]) ?_ 1 _ rfl; (with_reducible repeat (first | refine blk_drewN ?_ _ | refine blk_drew ?_ | refine blk_alloc ?_ _)); refine blk_put (cs := #[.string x188000_1, .int .i64 x188001_1]) ?_ 0 _ rfl; (with_reducible repeat (first | refine blk_drewN ?_ _ | refine blk_drew ?_ | refine blk_alloc ?_ _)); exact BK187.out) Tryz.underlying29 rfl (by kernel_rfl)) rfl ?_
          exact ⟨by first | rfl | (simp [errW_none, errW_some] <;> rfl) | (simp [*, errW_none, errW_some] <;> rfl), by repeat (first | (with_reducible first | exact HB.out | apply below_alloc | apply pw_below_drewN | apply below_drew1 | refine below_set ?_ GE187.out) | exact HB.out)⟩

end Go.Proofs.YtlekfhnlhdmekaaGreatDoor.TP
namespace Go.Proofs.YtlekfhnlhdmekaaGreatDoor.T
set_option linter.unusedSimpArgs false
set_option linter.unusedVariables false
open Go.RowKit Go.Proofs.YtlekfhnlhdmekaaGreatDoorW.PrintWords Go.Proofs.YtlekfhnlhdmekaaGreatDoorW.PrintLast Go.Proofs.YtlekfhnlhdmekaaGreatDoorW.PrintMore

theorem pad_good (b : Int) : TP.qanatref02_Pad.f b = some (goodI b) := by
  unfold TP.qanatref02_Pad.f goodI
  by_cases h : b ≥ 32
  · rw [if_pos h]; simp [show (32 : Int) ≤ b from h]
  · rw [if_neg h]; simp [show ¬ (32 : Int) ≤ b from h]
theorem wrap64_id (x : Int) (h0 : -9223372036854775808 ≤ x) (h1 : x ≤ 9223372036854775807) : wrap64 x = x := by unfold wrap64; omega
theorem rd_nat (xs : List Int) (i : Nat) (hi : i < xs.length) : rd xs (i : Int) = xs[i] := by
  simp [rd, List.getD_eq_getElem?_getD, List.getElem?_eq_getElem hi]
theorem bt_nat (s : ByteArray) (i : Nat) (hi : i < (bytesOf s).length) : bt s (i : Int) = (bytesOf s)[i] := by
  rw [← rd_bytesOf, rd_nat]
theorem refValid_l0 (s : ByteArray) (hs : s.size ≤ 1000) : ∀ (k i : Nat), s.size - i < k → i ≤ s.size → TP.qanatref02_Valid.l0 k s i = some (((bytesOf s).drop i).all goodI)
  | 0, i, h, _ => absurd h (by omega)
  | k + 1, i, h, hi => by
    rw [TP.qanatref02_Valid.l0]
    by_cases hlt : i < s.size
    · have hl : i < (bytesOf s).length := by rw [bytesOf_length]; exact hlt
      rw [if_pos (by omega), if_pos (by omega), pad_good, bt_nat s i hl, List.drop_eq_getElem_cons hl]
      simp only [Option.bind_some, List.all_cons]
      by_cases hg : goodI (bytesOf s)[i] = true
      · rw [if_pos hg, hg, wrap64_id _ (by omega) (by omega)]
        have := refValid_l0 s hs k (i + 1) (by omega) (by omega)
        simpa using this
      · rw [if_neg hg]; simp at hg; simp [hg]
    · have hl : (bytesOf s).length ≤ i := by rw [bytesOf_length]; omega
      rw [if_neg (by omega), List.drop_eq_nil_of_le hl]
      rfl
theorem refOut_l0 (l : List Int) (hs : l.length ≤ 1000) : ∀ (k i : Nat), l.length - i < k → i ≤ l.length → TP.qanatref02_out.l0 k l i = some (if (l.drop i).all goodI = true then (strOfNums l, 0) else (⟨#[]⟩, 8))
  | 0, i, h, _ => absurd h (by omega)
  | k + 1, i, h, hi => by
    rw [TP.qanatref02_out.l0]
    by_cases hlt : i < l.length
    · rw [if_pos (by omega), if_pos (by omega), pad_good, rd_nat l i hlt, List.drop_eq_getElem_cons hlt]
      simp only [Option.bind_some]
      by_cases hg : goodI l[i] = true
      · have := refOut_l0 l hs k (i + 1) (by omega) (by omega)
        rw [if_pos hg, wrap64_id _ (by omega) (by omega), show ((i : Int) + 1) = ((i + 1 : Nat) : Int) by omega, this]
        simp only [List.all_cons, hg, Bool.true_and]
      · rw [if_neg hg, if_neg (fun hh => hg (by rw [List.all_cons, Bool.and_eq_true] at hh; exact hh.1))]
    · rw [if_neg (by omega), List.drop_eq_nil_of_le (by omega)]
      rfl
def qanatref02_Pad.f (a0 : Int) : Option Bool := some (goodI a0)
theorem qanatref02_Pad.calls (a0 : Int) (r : Bool) (w : World) (h : qanatref02_Pad.f a0 = some r) :
    Calls Tryz.prog 98 #[.int .u8 a0] w fun e w' => e = .returned (.bool r) ∧ Drawn0 w w' :=
  TP.qanatref02_Pad.calls a0 r w (by rw [pad_good]; exact h)
def qanatref02_Valid.f (a0 : ByteArray) : Option Bool := some (vld a0)
theorem qanatref02_Valid.calls (a0 : ByteArray) (r : Bool) (w : World) (h : qanatref02_Valid.f a0 = some r) :
    Calls Tryz.prog 89 #[.string a0] w fun e w' => e = .returned (.bool r) ∧ Drawn0 w w' := by
  obtain rfl := Option.some.inj h
  refine TP.qanatref02_Valid.calls 1002 a0 _ w ?_
  unfold TP.qanatref02_Valid.f vld
  by_cases hs : a0.size ≤ 1000
  · rw [if_neg (by omega)]
    have := refValid_l0 a0 hs 1002 0 (by omega) (by omega)
    simp only [List.drop_zero] at this
    rw [show ((0 : Nat) : Int) = 0 from rfl] at this
    rw [this]; simp [hs]
  · rw [if_pos (by omega)]; simp [hs]
def qanatref02_out.f (l0 : List Int) : Option (ByteArray × Int) := some (if l0.length > 1000 then (⟨#[]⟩, 3) else if l0.all goodI = true then (strOfNums l0, 0) else (⟨#[]⟩, 8))
theorem qanatref02_out.calls (A0 : Option Addr) (c0 : Nat) (l0 : List Int) (r1 : ByteArray) (r2 : Int) (w : World) (hr0 : Kd.C (Kd.int .u8) w A0 l0.length l0) (hc0 : l0.length ≤ c0) (h : qanatref02_out.f l0 = some (r1, r2)) :
    Calls Tryz.prog 90 #[.slice A0 l0.length c0] w fun e w' => e = .returned (.agg #[.string r1, .int .i64 r2]) ∧ Below w.heap.size w w' := by
  refine TP.qanatref02_out.calls 1002 A0 c0 l0 r1 r2 w hr0 hc0 ?_
  rw [← h]
  unfold TP.qanatref02_out.f qanatref02_out.f
  by_cases hs : l0.length ≤ 1000
  · rw [if_neg (by omega), if_neg (by omega)]
    have := refOut_l0 l0 hs 1002 0 (by omega) (by omega)
    simp only [List.drop_zero] at this
    exact this
  · rw [if_pos (by omega), if_pos (by omega)]
end Go.Proofs.YtlekfhnlhdmekaaGreatDoor.T

/- The examples that each law checks first are as they should be. And the reference's out is made. -/
namespace Go.Proofs.YtlekfhnlhdmekaaGreatDoor.T
set_option linter.unusedSimpArgs false
set_option linter.unusedVariables false
open Go.RowKit Go.Proofs.YtlekfhnlhdmekaaGreatDoorW.PrintWords Go.Proofs.YtlekfhnlhdmekaaGreatDoorW.PrintLast Go.Proofs.YtlekfhnlhdmekaaGreatDoorW.PrintMore
theorem head_60 : qanatlaw02_head.f 60 = some true := by kernel_rfl
theorem head_ok : ∀ d, qanatlaw02_head.f (60 + d) = some true
  | 0 => head_60
  | d + 1 => qanatlaw02_head.mono (60 + d) _ (head_ok d)
theorem strOfNums_size (L : List Int) : (strOfNums L).size = L.length := by
  rw [← data_length]
  simp [strOfNums]
theorem bytesOf_str (L : List Int) (h : ∀ x ∈ L, 0 ≤ x ∧ x < 256) : bytesOf (strOfNums L) = L := by
  unfold bytesOf strOfNums
  simp only [List.map_map]
  conv => rhs; rw [← List.map_id L]
  apply List.map_congr_left
  intro x hx
  obtain ⟨h0, h1⟩ := h x hx
  simp only [Function.comp_apply, id_eq, UInt8.toNat_ofNat']
  omega
theorem strOfNums_bytes (s : ByteArray) : strOfNums (bytesOf s) = s := by
  have e : ((bytesOf s).map fun n : Int => UInt8.ofNat n.toNat) = s.data.toList := by
    unfold bytesOf
    rw [List.map_map]
    conv => rhs; rw [← List.map_id s.data.toList]
    apply List.map_congr_left
    intro x hx
    simp
  unfold strOfNums
  rw [e]
theorem made_eq (s : ByteArray) : text_made.f s = some (if s.size > 1000 then (⟨#[]⟩, 3) else if vld s = true then (s, 0) else (⟨#[]⟩, 8)) := by
  unfold text_made.f text_Valid.f
  by_cases h : s.size > 1000
  · rw [if_pos (by omega), if_pos h]
  · rw [if_neg (by omega), if_neg h]
    simp only [Option.bind_some]
    split <;> rfl
theorem made_out (L : List Int) (h : ∀ x ∈ L, 0 ≤ x ∧ x < 256) : text_made.f (strOfNums L) = qanatref02_out.f L := by
  rw [made_eq, qanatref02_out.f, strOfNums_size]
  by_cases hl : L.length > 1000
  · rw [if_pos hl, if_pos hl]
  · rw [if_neg hl, if_neg hl]
    have e : vld (strOfNums L) = L.all goodI := by
      unfold vld
      rw [strOfNums_size, bytesOf_str L h, decide_eq_true (show L.length ≤ 1000 by omega), Bool.true_and]
    rw [e]
theorem u8_rng (z : Int) : 0 ≤ IntKind.u8.wrap z ∧ IntKind.u8.wrap z < 256 := by
  simp only [IntKind.wrap, IntKind.bits, IntKind.signed]
  simp
  omega
end Go.Proofs.YtlekfhnlhdmekaaGreatDoor.T

/- Where the words of a string stand: what the program and the reference find, and plain laws. -/
namespace Go.Proofs.YtlekfhnlhdmekaaGreatDoor.T
set_option linter.unusedSimpArgs false
set_option linter.unusedVariables false
open Go.RowKit Go.Proofs.YtlekfhnlhdmekaaGreatDoorW.PrintWords Go.Proofs.YtlekfhnlhdmekaaGreatDoorW.PrintLast Go.Proofs.YtlekfhnlhdmekaaGreatDoorW.PrintMore

def cv (x : S105) : S113 := ⟨x.f0, x.f1⟩
theorem wds_end (s : ByteArray) (i : Nat) (h : ¬ i < s.size) : wds s i = [] := by rw [wds, dif_neg h]
theorem wds_blank (s : ByteArray) (i : Nat) (h : i < s.size) (hb : bt s (i : Int) = 32) : wds s i = wds s (i + 1) := by rw [wds, dif_pos h, dif_pos hb]
theorem wds_word (s : ByteArray) (i : Nat) (h : i < s.size) (hb : bt s (i : Int) ≠ 32) : wds s i = ⟨(i : Int), (wend s i : Int)⟩ :: wds s (wend s i) := by rw [wds, dif_pos h, dif_neg hb]
theorem wend_stop (s : ByteArray) (i : Nat) (h : ¬ (i < s.size ∧ bt s (i : Int) ≠ 32)) : wend s i = i := by
  rw [wend]
  by_cases hi : i < s.size
  · rw [dif_pos hi, if_pos (Classical.byContradiction fun hb => h ⟨hi, hb⟩)]
  · rw [dif_neg hi]
theorem wend_next (s : ByteArray) (i : Nat) (h : i < s.size) (hb : bt s (i : Int) ≠ 32) : wend s i = wend s (i + 1) := by rw [wend, dif_pos h, if_neg hb]

theorem spans_ind (s : ByteArray) (hs : s.size ≤ 1200) : ∀ (d i : Nat), i ≤ s.size → s.size - i = d →
    (∀ (k : Nat) (L : List S113), 3 * d + 2 ≤ k → L.length + k < 8796093022208 → qanatref02_Spans.l0 k s L (i : Int) = some (L ++ (wds s i).map cv)) ∧
    (∀ (k : Nat) (L : List S113) (st : Int), 3 * d + 3 ≤ k → L.length + k < 8796093022208 → qanatref02_Spans.l1 k s L (i : Int) st = some (L ++ ⟨st, (wend s i : Int)⟩ :: (wds s (wend s i)).map cv))
  | d, i, hi, hd => by
    have A : ∀ (k : Nat) (L : List S113), 3 * d + 2 ≤ k → L.length + k < 8796093022208 → qanatref02_Spans.l0 k s L (i : Int) = some (L ++ (wds s i).map cv) := by
      intro k L hk hL
      obtain ⟨k, rfl⟩ : ∃ k', k = k' + 1 := ⟨k - 1, by omega⟩
      rw [qanatref02_Spans.l0]
      by_cases hlt : i < s.size
      · rw [if_pos (by omega), if_pos (by omega)]
        have IH := spans_ind s hs (d - 1) (i + 1) (by omega) (by omega)
        by_cases hb : bt s (i : Int) = 32
        · rw [if_pos hb, wrap64_id _ (by omega) (by omega), wds_blank s i hlt hb]
          have := IH.1 k L (by omega) (by omega)
          simpa using this
        · rw [if_neg hb]
          obtain ⟨k, rfl⟩ : ∃ k', k = k' + 1 := ⟨k - 1, by omega⟩
          rw [qanatref02_Spans.l1, if_pos (by omega), if_pos (by omega), if_neg hb, wrap64_id _ (by omega) (by omega), wds_word s i hlt hb, wend_next s i hlt hb]
          have := IH.2 k L (i : Int) (by omega) (by omega)
          rw [show ((i : Int) + 1) = ((i + 1 : Nat) : Int) by omega, this]
          simp [cv]
      · rw [if_neg (by omega), wds_end s i hlt]
        simp
    refine ⟨A, fun k L st hk hL => ?_⟩
    obtain ⟨k, rfl⟩ : ∃ k', k = k' + 1 := ⟨k - 1, by omega⟩
    rw [qanatref02_Spans.l1]
    by_cases hlt : i < s.size
    · rw [if_pos (by omega), if_pos (by omega)]
      by_cases hb : bt s (i : Int) = 32
      · rw [if_pos hb, if_pos (by omega), A k _ (by omega) (by simp; omega), wend_stop s i (fun h => h.2 hb)]
        simp
      · rw [if_neg hb, wrap64_id _ (by omega) (by omega), wend_next s i hlt hb]
        have IH := spans_ind s hs (d - 1) (i + 1) (by omega) (by omega)
        have := IH.2 k L st (by omega) (by omega)
        rw [show ((i : Int) + 1) = ((i + 1 : Nat) : Int) by omega, this]
    · rw [if_neg (by omega), if_pos (by omega), A k _ (by omega) (by simp; omega), wend_stop s i (fun h => hlt h.1)]
      simp
  termination_by d => d
  decreasing_by all_goals omega
theorem spans_eq (s : ByteArray) (hs : s.size ≤ 1200) (k : Nat) (hk : 3602 ≤ k) (hk2 : k ≤ 100000) : qanatref02_Spans.f k s = some ((wds s 0).map cv) := by
  unfold qanatref02_Spans.f
  have := (spans_ind s hs s.size 0 (by omega) (by omega)).1 k [] (by omega) (by simp; omega)
  simpa using this
theorem wds_mem (s : ByteArray) (i : Nat) (hi : i ≤ s.size) : ∀ x ∈ wds s i, (i : Int) ≤ x.f0 ∧ x.f0 < x.f1 ∧ x.f1 ≤ s.size := by
  by_cases h : i < s.size
  · by_cases hb : bt s (i : Int) = 32
    · rw [wds_blank s i h hb]
      intro x hx
      have := wds_mem s (i + 1) (by omega) x hx
      omega
    · rw [wds_word s i h hb]
      intro x hx
      have h1 := wend_gt s i h hb
      have h2 := wend_le s i hi
      rcases List.mem_cons.1 hx with rfl | hx
      · exact ⟨Int.le_refl _, by simp only; omega, by simp only; omega⟩
      · have := wds_mem s (wend s i) h2 x hx
        omega
  · rw [wds_end s i h]
    intro x hx; cases hx
termination_by s.size - i
theorem wds_pair (s : ByteArray) (i : Nat) (hi : i ≤ s.size) : (wds s i).Pairwise (fun a b => a.f1 ≤ b.f0) := by
  by_cases h : i < s.size
  · by_cases hb : bt s (i : Int) = 32
    · rw [wds_blank s i h hb]
      exact wds_pair s (i + 1) (by omega)
    · rw [wds_word s i h hb]
      have h1 := wend_gt s i h hb
      have h2 := wend_le s i hi
      refine List.pairwise_cons.2 ⟨fun x hx => ?_, wds_pair s (wend s i) h2⟩
      have := wds_mem s (wend s i) h2 x hx
      simp; omega
  · rw [wds_end s i h]
    exact List.Pairwise.nil
termination_by s.size - i
theorem rd_mem (l : List S105) (i : Int) (h0 : 0 ≤ i) (h1 : i < l.length) : rd_T105 l i ∈ l := by
  have h : i.toNat < l.length := by omega
  unfold rd_T105
  rw [List.getD_eq_getElem?_getD, List.getElem?_eq_getElem h]
  exact List.getElem_mem h
theorem rd_cv (l : List S105) (i : Int) (h0 : 0 ≤ i) (h1 : i < l.length) : rd_T113 (l.map cv) i = cv (rd_T105 l i) := by
  have h : i.toNat < l.length := by omega
  unfold rd_T113 rd_T105
  rw [List.getD_eq_getElem?_getD, List.getD_eq_getElem?_getD, List.getElem?_map, List.getElem?_eq_getElem h]
  rfl
theorem rd_ok (s : ByteArray) (i : Int) (h0 : 0 ≤ i) (h1 : i < (wds s 0).length) : 0 ≤ (rd_T105 (wds s 0) i).f0 ∧ (rd_T105 (wds s 0) i).f0 < (rd_T105 (wds s 0) i).f1 ∧ (rd_T105 (wds s 0) i).f1 ≤ s.size :=
  wds_mem s 0 (by omega) _ (rd_mem _ i h0 h1)
theorem rd_le (s : ByteArray) (i j : Int) (h0 : 0 ≤ i) (hij : i ≤ j) (h1 : j < (wds s 0).length) : (rd_T105 (wds s 0) i).f0 < (rd_T105 (wds s 0) j).f1 := by
  by_cases e : i = j
  · subst e; exact (rd_ok s i h0 h1).2.1
  · have a := rd_ok s i h0 (by omega)
    have b := rd_ok s j (by omega) h1
    have p := List.pairwise_iff_getElem.1 (wds_pair s 0 (by omega)) i.toNat j.toNat (by omega) (by omega) (by omega)
    have e1 : rd_T105 (wds s 0) i = (wds s 0)[i.toNat]'(by omega) := by
      unfold rd_T105
      rw [List.getD_eq_getElem?_getD, List.getElem?_eq_getElem (by omega)]; rfl
    have e2 : rd_T105 (wds s 0) j = (wds s 0)[j.toNat]'(by omega) := by
      unfold rd_T105
      rw [List.getD_eq_getElem?_getD, List.getElem?_eq_getElem (by omega)]; rfl
    rw [← e1, ← e2] at p
    omega
theorem len_le (s : ByteArray) : (wds s 0).length ≤ s.size := wds_length s 0

theorem first3 (b c d : Prop) [Decidable b] [Decidable c] [Decidable d] : text_first.f [if b then 0 else 1, if c then 0 else 1, if d then 0 else 1] = some (if b ∧ c ∧ d then 0 else 1) := by
  by_cases h1 : b <;> by_cases h2 : c <;> by_cases h3 : d <;> simp [h1, h2, h3] <;> rfl
theorem first2' (b c : Prop) [Decidable b] [Decidable c] : text_first.f [if b then 0 else 1, if c then 0 else 1] = some (if b ∧ c then 0 else 1) := by
  by_cases h1 : b <;> by_cases h2 : c <;> simp [h1, h2] <;> rfl
theorem words_f (s : ByteArray) (hs : s.size ≤ 1200) : text_words.f s = some (wds s 0) := by
  unfold text_words.f
  rw [if_pos (by omega)]
theorem valid1 (s : ByteArray) : text_valid.f [s] = some (if vld s = true then 0 else 1) := by
  unfold text_valid.f
  by_cases h : vld s = true <;> simp [h]
theorem least1 (n x : Int) : text_least.f n [x] = some (if n ≤ x then 0 else 1) := by
  unfold text_least.f
  by_cases h : n ≤ x <;> simp [h]
theorem nth_eq (s : ByteArray) (n : Int) (hs : s.size ≤ 1200) (hn : n ≤ 9223372036854775807) : text_nth.f s n =
    some (if vld s = true ∧ 1 ≤ n then (if n > ((wds s 0).length : Int) then (0, 0, 0) else ((rd_T105 (wds s 0) (n - 1)).f0, (rd_T105 (wds s 0) (n - 1)).f1, 0)) else (0, 0, 1)) := by
  unfold text_nth.f
  simp only [valid1, least1, Option.bind_some, first2']
  by_cases h : vld s = true ∧ 1 ≤ n
  · rw [if_pos h, if_pos rfl, if_pos h, words_f s hs]
    simp only [Option.bind_some]
    have := len_le s
    by_cases hl : n > ((wds s 0).length : Int)
    · rw [if_pos hl, if_pos hl]
    · rw [if_neg hl, if_neg hl, wrap64_id _ (by omega) (by omega), if_pos (by omega), if_pos (by omega)]
  · rw [if_neg h, if_neg (by decide), if_neg h]
theorem empty_ex (s : ByteArray) : s.extract (0 : Int).toNat (0 : Int).toNat = ⟨#[]⟩ := by
  apply ByteArray.ext
  simp
theorem nth_err (s : ByteArray) (n : Int) (hs : s.size ≤ 1200) (hn : n ≤ 9223372036854775807) (h : ¬ (vld s = true ∧ 1 ≤ n)) : text_nth.f s n = some (0, 0, 1) := by rw [nth_eq s n hs hn, if_neg h]
theorem nth_out (s : ByteArray) (n : Int) (hs : s.size ≤ 1200) (hn : n ≤ 9223372036854775807) (h : vld s = true ∧ 1 ≤ n) (hl : n > ((wds s 0).length : Int)) : text_nth.f s n = some (0, 0, 0) := by rw [nth_eq s n hs hn, if_pos h, if_pos hl]
theorem nth_in (s : ByteArray) (n : Int) (hs : s.size ≤ 1200) (hn : n ≤ 9223372036854775807) (h : vld s = true ∧ 1 ≤ n) (hl : ¬ n > ((wds s 0).length : Int)) : text_nth.f s n = some ((rd_T105 (wds s 0) (n - 1)).f0, (rd_T105 (wds s 0) (n - 1)).f1, 0) := by rw [nth_eq s n hs hn, if_pos h, if_neg hl]
theorem whole1_no (s : ByteArray) (n : Int) (hv : vld s = true) (h : ¬ (vld s = true ∧ 1 ≤ n)) : decide (1 ≤ n) = false := decide_eq_false (fun h1 => h ⟨hv, h1⟩)
theorem spanLast_rng (len : Nat) (n m : Int) (h1 : 1 ≤ n) (hl : n ≤ len) (hm : m = -1 ∨ 1 ≤ m) : n ≤ spanLast len n m ∧ spanLast len n m ≤ len := by
  unfold spanLast
  split
  · omega
  · split <;> split <;> omega
theorem span_eq (s : ByteArray) (n m : Int) (hs : s.size ≤ 1200) (h1 : 1 ≤ n) (hm : -1 ≤ m) : text_span.f s n m =
    some (if m = 0 ∨ ((wds s 0).length : Int) < n then (0, 0) else ((rd_T105 (wds s 0) (n - 1)).f0, (rd_T105 (wds s 0) (spanLast (wds s 0).length n m - 1)).f1)) := by
  have := len_le s
  unfold text_span.f
  rw [words_f s hs]
  simp only [Option.bind_some]
  have c : 1 ≤ n ∧ -1 ≤ m ∧ (wds s 0).length ≤ 100000 := ⟨h1, hm, by omega⟩
  rw [if_pos c]
  split <;> rfl
theorem drop_list (s : ByteArray) (j : Nat) : (s.extract j s.size).data.toList = s.data.toList.drop j := by
  rw [ByteArray.data_extract, Array.toList_extract]
  have e : s.size = s.data.toList.length := (data_length s).symm
  rw [e]
  simp
  apply List.take_of_length_le
  rw [List.length_drop]
  omega
theorem ba_ext {a b : ByteArray} (h : a.data.toList = b.data.toList) : a = b := by
  apply ByteArray.ext
  exact Array.toList_inj.1 h
theorem trim_skip (s : ByteArray) (j : Nat) (hj : j < s.size) (hb : bt s (j : Int) = 32) : Lib.trimLeftB (s.extract j s.size).data.toList 32 = Lib.trimLeftB (s.extract (j + 1) s.size).data.toList 32 := by
  have hl : j < s.data.toList.length := by rw [data_length]; exact hj
  rw [drop_list, drop_list, List.drop_eq_getElem_cons hl]
  unfold Lib.trimLeftB
  have hx : s.data.toList[j] = 32 := by
    rw [bt_getD s j hj] at hb
    simp [bytesOf, List.getD_eq_getElem?_getD, List.getElem?_eq_getElem hl] at hb
    apply UInt8.toNat_inj.1
    have h2 : (s.data[j].toNat : Int) = 32 := by simpa using hb
    have h3 : s.data[j].toNat = 32 := by omega
    simpa using h3
  rw [List.dropWhile_cons, if_pos (by rw [hx]; rfl)]
theorem trim_stop (s : ByteArray) (j : Nat) (h : ¬ (j < s.size ∧ bt s (j : Int) = 32)) : (⟨(Lib.trimLeftB (s.extract j s.size).data.toList 32).toArray⟩ : ByteArray) = s.extract j s.size := by
  apply ba_ext
  simp only
  rw [drop_list]
  unfold Lib.trimLeftB
  by_cases hj : j < s.size
  · have hl : j < s.data.toList.length := by rw [data_length]; exact hj
    rw [List.drop_eq_getElem_cons hl, List.dropWhile_cons, if_neg]
    intro hx
    apply h
    refine ⟨hj, ?_⟩
    have hx : s.data.toList[j] = 32 := by simpa using hx
    rw [bt_getD s j hj]
    simp [bytesOf, List.getD_eq_getElem?_getD, List.getElem?_eq_getElem hl, hx]
  · rw [List.drop_eq_nil_of_le (by rw [data_length]; omega)]
    rfl
theorem i64_of_wf {x : Int} (h : (Lit.int .i64 x).wf = true) : x ≤ 9223372036854775807 := by
  simp [Lit.wf, IntKind.min, IntKind.max, IntKind.bits, IntKind.signed] at h
  omega
end Go.Proofs.YtlekfhnlhdmekaaGreatDoor.T

/- Where the words of a string stand, and the words themselves. -/
namespace Go.Proofs.YtlekfhnlhdmekaaGreatDoor.T
set_option linter.unusedSimpArgs false
set_option linter.unusedVariables false
open Go.RowKit Go.Proofs.YtlekfhnlhdmekaaGreatDoorW.PrintWords Go.Proofs.YtlekfhnlhdmekaaGreatDoorW.PrintLast Go.Proofs.YtlekfhnlhdmekaaGreatDoorW.PrintMore
/-- The bytes of a string. -/
def by8 (s : ByteArray) : List UInt8 := s.data.toList
theorem by8_length (s : ByteArray) : (by8 s).length = s.size := data_length s
theorem by8_drop (s : ByteArray) (i : Nat) (hi : i < s.size) : ∃ b : UInt8, (by8 s).drop i = b :: (by8 s).drop (i + 1) ∧ bt s (i : Int) = (b.toNat : Int) := by
  have hl : i < (by8 s).length := by rw [by8_length]; exact hi
  refine ⟨(by8 s)[i], List.drop_eq_getElem_cons hl, ?_⟩
  rw [bt_getD s i hi]
  have hl' : i < s.data.toList.length := hl
  simp [bytesOf, by8, List.getD_eq_getElem?_getD, List.getElem?_eq_getElem hl']
theorem b32 (b : UInt8) : b = 32 ↔ (b.toNat : Int) = 32 := by
  constructor
  · rintro rfl; rfl
  · intro h; apply UInt8.toNat_inj.1; have : (32 : UInt8).toNat = 32 := rfl; omega
theorem wend_all (s : ByteArray) (i : Nat) (hi : i ≤ s.size) : ∀ b ∈ ((by8 s).drop i).take (wend s i - i), b ≠ 32 := by
  by_cases h : i < s.size ∧ bt s (i : Int) ≠ 32
  · obtain ⟨b, hb, hv⟩ := by8_drop s i h.1
    have hg := wend_gt s i h.1 h.2
    rw [hb, show wend s i - i = (wend s i - (i + 1)) + 1 by omega, List.take_succ_cons]
    intro x hx
    rcases List.mem_cons.1 hx with rfl | hx
    · intro e; rw [b32, ← hv] at e; exact h.2 e
    · rw [wend_next s i h.1 h.2] at hx
      exact wend_all s (i + 1) (by omega) x hx
  · rw [wend_stop s i h]
    simp
termination_by s.size - i
theorem wend_at (s : ByteArray) (i : Nat) (hi : i ≤ s.size) : Stops ((by8 s).drop (wend s i)) := by
  by_cases h : i < s.size ∧ bt s (i : Int) ≠ 32
  · rw [wend_next s i h.1 h.2]
    exact wend_at s (i + 1) (by omega)
  · rw [wend_stop s i h]
    by_cases hlt : i < s.size
    · obtain ⟨b, hb, hv⟩ := by8_drop s i hlt
      have : bt s (i : Int) = 32 := Classical.byContradiction fun hn => h ⟨hlt, hn⟩
      rw [hb, (b32 b).2 (by rw [← hv]; exact this)]
      exact .inr ⟨_, rfl⟩
    · rw [List.drop_eq_nil_of_le (by rw [by8_length]; omega)]
      exact .inl rfl
termination_by s.size - i
/-- A word. -/
def wt (s : ByteArray) (x : S105) : List UInt8 := ((by8 s).drop x.f0.toNat).take (x.f1.toNat - x.f0.toNat)
theorem part_drop (l : List UInt8) (i e : Nat) (h : i ≤ e) : l.drop i = (l.drop i).take (e - i) ++ l.drop e := by
  have := List.take_append_drop (e - i) (l.drop i)
  rw [List.drop_drop, show i + (e - i) = e by omega] at this
  exact this.symm
theorem wd_ne (s : ByteArray) (i : Nat) (h : i < s.size) (hb : bt s (i : Int) ≠ 32) : ((by8 s).drop i).take (wend s i - i) ≠ [] := by
  obtain ⟨b, h1, hv⟩ := by8_drop s i h
  have hg := wend_gt s i h hb
  rw [h1, show wend s i - i = (wend s i - (i + 1)) + 1 by omega, List.take_succ_cons]
  simp
theorem wd_drop (s : ByteArray) (i : Nat) (hi : i ≤ s.size) : fw [] ((by8 s).drop i) = (wds s i).map (wt s) := by
  by_cases h : i < s.size
  · by_cases hb : bt s (i : Int) = 32
    · obtain ⟨b, h1, hv⟩ := by8_drop s i h
      rw [wds_blank s i h hb, h1, (b32 b).2 (by rw [← hv]; exact hb), fw_blank]
      exact wd_drop s (i + 1) (by omega)
    · have h1 := wend_gt s i h hb
      have h2 := wend_le s i hi
      rw [wds_word s i h hb, part_drop (by8 s) i (wend s i) (by omega), fw_one _ _ (wd_ne s i h hb) (wend_all s i hi) (wend_at s i hi), wd_drop s (wend s i) h2]
      simp [wt]
  · rw [wds_end s i h, List.drop_eq_nil_of_le (by rw [by8_length]; omega)]
    rfl
termination_by s.size - i
theorem wds_at (s : ByteArray) (i k : Nat) (hi : i ≤ s.size) (x : S105) (hx : (wds s i)[k]? = some x) : (i : Int) ≤ x.f0 ∧ x.f0 < x.f1 ∧ x.f1 ≤ s.size :=
  wds_mem s i hi x (List.mem_of_getElem? hx)
theorem starts_app (u v : List UInt8) (h : Starts v) (hv : v ≠ []) : Starts (u ++ v) := by
  rcases h with rfl | ⟨t, rfl⟩
  · exact absurd rfl hv
  · exact .inr ⟨u ++ t, by rw [List.append_assoc]⟩
theorem wd_pre (s : ByteArray) (i : Nat) (hi : i ≤ s.size) : ∀ (k : Nat) (x : S105), (wds s i)[k]? = some x →
    fw [] (((by8 s).drop i).take (x.f0.toNat - i)) = ((wds s i).map (wt s)).take k ∧ Starts (((by8 s).drop i).take (x.f0.toNat - i)) := by
  intro k x hx
  by_cases h : i < s.size
  · by_cases hb : bt s (i : Int) = 32
    · obtain ⟨b, h1, hv⟩ := by8_drop s i h
      rw [wds_blank s i h hb] at hx ⊢
      have hr := wds_at s (i + 1) k (by omega) x hx
      have ih := wd_pre s (i + 1) (by omega) k x hx
      rw [h1, (b32 b).2 (by rw [← hv]; exact hb), show x.f0.toNat - i = (x.f0.toNat - (i + 1)) + 1 by omega, List.take_succ_cons, fw_blank]
      refine ⟨ih.1, ?_⟩
      by_cases hn : ((by8 s).drop (i + 1)).take (x.f0.toNat - (i + 1)) = []
      · rw [hn]; exact .inr ⟨[], rfl⟩
      · exact starts_app [32] _ ih.2 hn
    · have h1 := wend_gt s i h hb
      have h2 := wend_le s i hi
      rw [wds_word s i h hb] at hx ⊢
      cases k with
      | zero =>
        have : x = ⟨(i : Int), (wend s i : Int)⟩ := by simpa using hx.symm
        subst this
        simp [fw, Starts]
      | succ k =>
        have hx : (wds s (wend s i))[k]? = some x := by simpa using hx
        have hr := wds_at s (wend s i) k h2 x hx
        have ih := wd_pre s (wend s i) h2 k x hx
        have hst := wend_at s i hi
        have hlt : wend s i < x.f0.toNat := by
          rcases Nat.lt_or_ge (wend s i) x.f0.toNat with h' | h'
          · exact h'
          · exfalso
            have he : wend s i < s.size := by omega
            obtain ⟨b, h3, hv⟩ := by8_drop s (wend s i) he
            rcases hst with h4 | ⟨t, h4⟩
            · rw [h3] at h4; cases h4
            · rw [h3] at h4
              have hb2 : bt s (wend s i : Int) = 32 := by rw [hv]; exact (b32 b).1 (by injection h4)
              rw [wds_blank s _ he hb2] at hx
              have := wds_at s (wend s i + 1) k (by omega) x hx
              omega
        have e1 : ((by8 s).drop i).take (x.f0.toNat - i) = ((by8 s).drop i).take (wend s i - i) ++ ((by8 s).drop (wend s i)).take (x.f0.toNat - wend s i) := by
          have hlen : (((by8 s).drop i).take (wend s i - i)).length = wend s i - i := by
            rw [List.length_take, List.length_drop, by8_length]; omega
          conv => lhs; rw [part_drop (by8 s) i (wend s i) (by omega)]
          rw [List.take_append, hlen, List.take_of_length_le (by omega), show x.f0.toNat - i - (wend s i - i) = x.f0.toNat - wend s i by omega]
        have hne : ((by8 s).drop (wend s i)).take (x.f0.toNat - wend s i) ≠ [] := by
          intro e
          have := congrArg List.length e
          rw [List.length_take, List.length_drop, by8_length] at this
          simp at this; omega
        have hst2 : Stops (((by8 s).drop (wend s i)).take (x.f0.toNat - wend s i)) := by
          rcases hst with h4 | ⟨t, h4⟩
          · rw [h4]; simp [Stops]
          · rw [h4, show x.f0.toNat - wend s i = (x.f0.toNat - wend s i - 1) + 1 by omega, List.take_succ_cons]
            exact .inr ⟨_, rfl⟩
        rw [e1, fw_one _ _ (wd_ne s i h hb) (wend_all s i hi) hst2, ih.1]
        refine ⟨?_, starts_app _ _ ih.2 hne⟩
        simp [wt]
  · rw [wds_end s i h] at hx
    simp at hx
termination_by s.size - i
theorem wd_post (s : ByteArray) (i : Nat) (hi : i ≤ s.size) : ∀ (k : Nat) (x : S105), (wds s i)[k]? = some x →
    fw [] ((by8 s).drop x.f1.toNat) = ((wds s i).map (wt s)).drop (k + 1) ∧ Stops ((by8 s).drop x.f1.toNat) := by
  intro k x hx
  by_cases h : i < s.size
  · by_cases hb : bt s (i : Int) = 32
    · rw [wds_blank s i h hb] at hx ⊢
      exact wd_post s (i + 1) (by omega) k x hx
    · have h1 := wend_gt s i h hb
      have h2 := wend_le s i hi
      rw [wds_word s i h hb] at hx ⊢
      cases k with
      | zero =>
        have : x = ⟨(i : Int), (wend s i : Int)⟩ := by simpa using hx.symm
        subst this
        simp only [Int.toNat_natCast]
        exact ⟨by rw [wd_drop s (wend s i) h2]; simp, wend_at s i hi⟩
      | succ k =>
        have hx : (wds s (wend s i))[k]? = some x := by simpa using hx
        have ih := wd_post s (wend s i) h2 k x hx
        rw [ih.1]
        exact ⟨by simp, ih.2⟩
  · rw [wds_end s i h] at hx
    simp at hx
termination_by s.size - i
end Go.Proofs.YtlekfhnlhdmekaaGreatDoor.T

-- Written by a program of this session (mp.py over the kit's print.py), out of the translation.
namespace Go.Proofs.YtlekfhnlhdmekaaGreatDoor.T
set_option linter.unusedSimpArgs false
open Go.RowKit Go.Proofs.YtlekfhnlhdmekaaGreatDoorW.PrintWords Go.Proofs.YtlekfhnlhdmekaaGreatDoorW.PrintLast Go.Proofs.YtlekfhnlhdmekaaGreatDoorW.PrintMore
attribute [local go_sem] max2_int min2_int max_two min_two max_three min_three max_four min_four   -- for this text's walks alone
set_option linter.unusedVariables false
set_option linter.unusedSimpArgs false

/-! ### qanatref02_whole: function 102 -/
def qanatref02_whole.f (a0 : Int) (a1 : Int) (a2 : Bool) : Option (Bool) := if a0 ≥ a1 then (some true) else (if a2 = true then (some (a0 == (-1))) else (some false))
set_option maxHeartbeats 8000000 in
set_option maxRecDepth 100000 in
theorem qanatref02_whole.calls (a0 : Int) (a1 : Int) (a2 : Bool) (r : Bool) (w : World) (h : qanatref02_whole.f a0 a1 a2 = some r) :
    Calls Tryz.prog 102 #[.int .i64 a0, .int .i64 a1, .bool a2] w fun e w' => e = .returned (.bool r) ∧ Drawn0 w w' := by
  have H : (if a0 ≥ a1 then (some true) else (if a2 = true then (some (a0 == (-1))) else (some false))) = some r := h
  clear h
  by_cases c4 : a0 ≥ a1
  · rw [if_pos c4] at H
    have c4b0 : decide (a1 ≤ a0) = true := decide_eq_true c4
    clear c4
    obtain rfl := Option.some.inj H
    go_enter Tryz.func102, Tryz.ntmps102
    go_wp2
    go_ret
    exact ⟨by first | rfl | (simp; done) | (simp [*]; done), by repeat (first | exact Drawn0.refl _ | apply Drawn0.step)⟩
  · rw [if_neg c4] at H
    have c4b0 : decide (a1 ≤ a0) = false := decide_eq_false c4
    clear c4
    by_cases c5 : a2 = true
    · subst c5
      have H1 : (some (a0 == (-1))) = some r := by rw [if_pos rfl] at H; exact H
      clear H
      have H := H1
      clear H1
      obtain rfl := Option.some.inj H
      go_enter Tryz.func102, Tryz.ntmps102
      go_wp2
      go_ret
      exact ⟨by first | rfl | (simp; done) | (simp [*]; done), by repeat (first | exact Drawn0.refl _ | apply Drawn0.step)⟩
    · replace c5 := Bool.eq_false_iff.mpr c5
      subst c5
      have H1 : (some false) = some r := by rw [if_neg (show ¬ (false = true) by decide)] at H; exact H
      clear H
      have H := H1
      clear H1
      obtain rfl := Option.some.inj H
      go_enter Tryz.func102, Tryz.ntmps102
      go_wp2
      go_ret
      exact ⟨by first | rfl | (simp; done) | (simp [*]; done), by repeat (first | exact Drawn0.refl _ | apply Drawn0.step)⟩

end Go.Proofs.YtlekfhnlhdmekaaGreatDoor.T

-- Written by a program of this session (mp.py over the kit's print.py), out of the translation.
namespace Go.Proofs.YtlekfhnlhdmekaaGreatDoor.T
set_option linter.unusedSimpArgs false
open Go.RowKit Go.Proofs.YtlekfhnlhdmekaaGreatDoorW.PrintWords Go.Proofs.YtlekfhnlhdmekaaGreatDoorW.PrintLast Go.Proofs.YtlekfhnlhdmekaaGreatDoorW.PrintMore
attribute [local go_sem] max2_int min2_int max_two min_two max_three min_three max_four min_four   -- for this text's walks alone
set_option linter.unusedVariables false
set_option linter.unusedSimpArgs false

/-! ### qanatlaw02_num: function 34 -/
def qanatlaw02_num.f (a0 : Int) (a1 : Int) (a2_0 : Int) (a2_1 : Int) : Option (Bool) := if a0 = a2_0 then (some (a1 == a2_1)) else (some false)
set_option maxHeartbeats 8000000 in
set_option maxRecDepth 100000 in
theorem qanatlaw02_num.calls (a0 : Int) (a1 : Int) (a2_0 : Int) (a2_1 : Int) (r : Bool) (w : World) (h : qanatlaw02_num.f a0 a1 a2_0 a2_1 = some r) :
    Calls Tryz.prog 34 #[.int .i64 a0, .int .i64 a1, .agg #[.int .i64 a2_0, .int .i64 a2_1]] w fun e w' => e = .returned (.bool r) ∧ Below w.heap.size w w' := by
  have hu49 := Tryz.underlying49
  have HB := Aside0.mk (Below.refl w.heap.size w)
  have H : (if a0 = a2_0 then (some (a1 == a2_1)) else (some false)) = some r := h
  clear h
  by_cases c4 : a0 = a2_0
  · rw [if_pos c4] at H
    have c4b0 : (a0 == a2_0) = true := beq_iff_eq.mpr c4
    have c4b1 : (a0 != a2_0) = false := bne_eq_false_iff_eq.mpr c4
    clear c4
    obtain rfl := Option.some.inj H
    go_enter Tryz.func34, Tryz.ntmps34
    go_wp2_with (first | ((with_reducible refine gate_dst (N := 5) rfl ?_); refine box_event ?hg (N := 5) ?hd (cs := #[.int .i64 a2_0, .int .i64 a2_1]) (t := 49) ?hr ?_; (case hd => rfl); (case hg => rfl); (case hr => first | (go_simp; done) | (go_simp; rfl)); intro gb277 hg w5 hbox hb; have n0_ := Aside0.mk (below_step (by repeat (first | (with_reducible first | exact HB.out | apply below_alloc | apply pw_below_drewN | apply below_drew1) | exact HB.out)) hb); have n1_ := Aside0.mk (hbox); have n2_ := Aside0.mk ((by rw [hg]; exact (below_size (by repeat (first | (with_reducible first | exact HB.out | apply below_alloc | apply pw_below_drewN | apply below_drew1) | exact HB.out))) : w.heap.size ≤ gb277)); have n3_ := Aside0.mk ((by rw [hg]; exact (below_size (by repeat (first | (with_reducible first | exact HB.out | apply below_alloc | apply pw_below_drewN | apply below_drew1) | exact HB.out))) : w.heap.size ≤ gb277)); clear HB; have HB := n0_; have BK277 := n1_; have GW277 := n2_; have GE277 := n3_; clear n0_ n1_ n2_ n3_; clear hb hbox hg; have hcz6_0 : w5.cell? ⟨gb277, 0, none⟩ = some (.int .i64 a2_0) := (blk_cell BK277.out 0).trans rfl; have hcz6_1 : w5.cell? ⟨gb277, 1, none⟩ = some (.int .i64 a2_1) := (blk_cell BK277.out 1).trans rfl; have hfz6_0 := blk_frozen BK277.out 0; have hfz6_1 := blk_frozen BK277.out 1))
    go_ret
    exact ⟨by first | rfl | (simp [errW_none, errW_some] <;> rfl) | (simp [*, errW_none, errW_some] <;> rfl), by repeat (first | (with_reducible first | exact HB.out | apply below_alloc | apply pw_below_drewN | apply below_drew1 | refine below_set ?_ GE277.out) | exact HB.out)⟩
  · rw [if_neg c4] at H
    have c4b0 : (a0 == a2_0) = false := beq_eq_false_iff_ne.mpr c4
    have c4b1 : (a0 != a2_0) = true := bne_iff_ne.mpr c4
    obtain rfl := Option.some.inj H
    go_enter Tryz.func34, Tryz.ntmps34
    go_wp2_with (first | ((with_reducible refine gate_dst (N := 5) rfl ?_); refine box_event ?hg (N := 5) ?hd (cs := #[.int .i64 a2_0, .int .i64 a2_1]) (t := 49) ?hr ?_; (case hd => rfl); (case hg => rfl); (case hr => first | (go_simp; done) | (go_simp; rfl)); intro gb277 hg w7 hbox hb; have n0_ := Aside0.mk (below_step (by repeat (first | (with_reducible first | exact HB.out | apply below_alloc | apply pw_below_drewN | apply below_drew1) | exact HB.out)) hb); have n1_ := Aside0.mk (hbox); have n2_ := Aside0.mk ((by rw [hg]; exact (below_size (by repeat (first | (with_reducible first | exact HB.out | apply below_alloc | apply pw_below_drewN | apply below_drew1) | exact HB.out))) : w.heap.size ≤ gb277)); have n3_ := Aside0.mk ((by rw [hg]; exact (below_size (by repeat (first | (with_reducible first | exact HB.out | apply below_alloc | apply pw_below_drewN | apply below_drew1) | exact HB.out))) : w.heap.size ≤ gb277)); clear HB; have HB := n0_; have BK277 := n1_; have GW277 := n2_; have GE277 := n3_; clear n0_ n1_ n2_ n3_; clear hb hbox hg; have hcz8_0 : w7.cell? ⟨gb277, 0, none⟩ = some (.int .i64 a2_0) := (blk_cell BK277.out 0).trans rfl; have hcz8_1 : w7.cell? ⟨gb277, 1, none⟩ = some (.int .i64 a2_1) := (blk_cell BK277.out 1).trans rfl; have hfz8_0 := blk_frozen BK277.out 0; have hfz8_1 := blk_frozen BK277.out 1))
    go_ret
    exact ⟨by first | rfl | (simp [errW_none, errW_some] <;> rfl) | (simp [*, errW_none, errW_some] <;> rfl), by repeat (first | (with_reducible first | exact HB.out | apply below_alloc | apply pw_below_drewN | apply below_drew1 | refine below_set ?_ GE277.out) | exact HB.out)⟩

end Go.Proofs.YtlekfhnlhdmekaaGreatDoor.T

-- Written by a program of this session (mp.py over the kit's print.py), out of the translation.
namespace Go.Proofs.YtlekfhnlhdmekaaGreatDoor.T
set_option linter.unusedSimpArgs false
open Go.RowKit Go.Proofs.YtlekfhnlhdmekaaGreatDoorW.PrintWords Go.Proofs.YtlekfhnlhdmekaaGreatDoorW.PrintLast Go.Proofs.YtlekfhnlhdmekaaGreatDoorW.PrintMore
attribute [local go_sem] max2_int min2_int max_two min_two max_three min_three max_four min_four   -- for this text's walks alone
set_option linter.unusedVariables false
set_option linter.unusedSimpArgs false

/-! ### qanatlaw02_str: function 20 -/
def qanatlaw02_str.f (a0 : ByteArray) (a1 : Int) (a2_0 : ByteArray) (a2_1 : Int) : Option (Bool) := if a0.toList = a2_0.toList then (some (a1 == a2_1)) else (some false)
set_option maxHeartbeats 8000000 in
set_option maxRecDepth 100000 in
theorem qanatlaw02_str.calls (a0 : ByteArray) (a1 : Int) (a2_0 : ByteArray) (a2_1 : Int) (r : Bool) (w : World) (h : qanatlaw02_str.f a0 a1 a2_0 a2_1 = some r) :
    Calls Tryz.prog 20 #[.string a0, .int .i64 a1, .agg #[.string a2_0, .int .i64 a2_1]] w fun e w' => e = .returned (.bool r) ∧ Below w.heap.size w w' := by
  have hu29 := Tryz.underlying29
  have HB := Aside0.mk (Below.refl w.heap.size w)
  have H : (if a0.toList = a2_0.toList then (some (a1 == a2_1)) else (some false)) = some r := h
  clear h
  by_cases c4 : a0.toList = a2_0.toList
  · rw [if_pos c4] at H
    have c4b0 : (a0.toList == a2_0.toList) = true := beq_iff_eq.mpr c4
    have c4b1 : (a0.toList != a2_0.toList) = false := bne_eq_false_iff_eq.mpr c4
    clear c4
    obtain rfl := Option.some.inj H
    go_enter Tryz.func20, Tryz.ntmps20
    go_wp2_with (first | ((with_reducible refine gate_dst (N := 5) rfl ?_); refine box_event ?hg (N := 5) ?hd (cs := #[.string a2_0, .int .i64 a2_1]) (t := 29) ?hr ?_; (case hd => rfl); (case hg => rfl); (case hr => first | (go_simp; done) | (go_simp; rfl)); intro gb185 hg w5 hbox hb; have n0_ := Aside0.mk (below_step (by repeat (first | (with_reducible first | exact HB.out | apply below_alloc | apply pw_below_drewN | apply below_drew1) | exact HB.out)) hb); have n1_ := Aside0.mk (hbox); have n2_ := Aside0.mk ((by rw [hg]; exact (below_size (by repeat (first | (with_reducible first | exact HB.out | apply below_alloc | apply pw_below_drewN | apply below_drew1) | exact HB.out))) : w.heap.size ≤ gb185)); have n3_ := Aside0.mk ((by rw [hg]; exact (below_size (by repeat (first | (with_reducible first | exact HB.out | apply below_alloc | apply pw_below_drewN | apply below_drew1) | exact HB.out))) : w.heap.size ≤ gb185)); clear HB; have HB := n0_; have BK185 := n1_; have GW185 := n2_; have GE185 := n3_; clear n0_ n1_ n2_ n3_; clear hb hbox hg; have hcz6_0 : w5.cell? ⟨gb185, 0, none⟩ = some (.string a2_0) := (blk_cell BK185.out 0).trans rfl; have hcz6_1 : w5.cell? ⟨gb185, 1, none⟩ = some (.int .i64 a2_1) := (blk_cell BK185.out 1).trans rfl; have hfz6_0 := blk_frozen BK185.out 0; have hfz6_1 := blk_frozen BK185.out 1))
    go_ret
    exact ⟨by first | rfl | (simp [errW_none, errW_some] <;> rfl) | (simp [*, errW_none, errW_some] <;> rfl), by repeat (first | (with_reducible first | exact HB.out | apply below_alloc | apply pw_below_drewN | apply below_drew1 | refine below_set ?_ GE185.out) | exact HB.out)⟩
  · rw [if_neg c4] at H
    have c4b0 : (a0.toList == a2_0.toList) = false := beq_eq_false_iff_ne.mpr c4
    have c4b1 : (a0.toList != a2_0.toList) = true := bne_iff_ne.mpr c4
    obtain rfl := Option.some.inj H
    go_enter Tryz.func20, Tryz.ntmps20
    go_wp2_with (first | ((with_reducible refine gate_dst (N := 5) rfl ?_); refine box_event ?hg (N := 5) ?hd (cs := #[.string a2_0, .int .i64 a2_1]) (t := 29) ?hr ?_; (case hd => rfl); (case hg => rfl); (case hr => first | (go_simp; done) | (go_simp; rfl)); intro gb185 hg w7 hbox hb; have n0_ := Aside0.mk (below_step (by repeat (first | (with_reducible first | exact HB.out | apply below_alloc | apply pw_below_drewN | apply below_drew1) | exact HB.out)) hb); have n1_ := Aside0.mk (hbox); have n2_ := Aside0.mk ((by rw [hg]; exact (below_size (by repeat (first | (with_reducible first | exact HB.out | apply below_alloc | apply pw_below_drewN | apply below_drew1) | exact HB.out))) : w.heap.size ≤ gb185)); have n3_ := Aside0.mk ((by rw [hg]; exact (below_size (by repeat (first | (with_reducible first | exact HB.out | apply below_alloc | apply pw_below_drewN | apply below_drew1) | exact HB.out))) : w.heap.size ≤ gb185)); clear HB; have HB := n0_; have BK185 := n1_; have GW185 := n2_; have GE185 := n3_; clear n0_ n1_ n2_ n3_; clear hb hbox hg; have hcz8_0 : w7.cell? ⟨gb185, 0, none⟩ = some (.string a2_0) := (blk_cell BK185.out 0).trans rfl; have hcz8_1 : w7.cell? ⟨gb185, 1, none⟩ = some (.int .i64 a2_1) := (blk_cell BK185.out 1).trans rfl; have hfz8_0 := blk_frozen BK185.out 0; have hfz8_1 := blk_frozen BK185.out 1))
    go_ret
    exact ⟨by first | rfl | (simp [errW_none, errW_some] <;> rfl) | (simp [*, errW_none, errW_some] <;> rfl), by repeat (first | (with_reducible first | exact HB.out | apply below_alloc | apply pw_below_drewN | apply below_drew1 | refine below_set ?_ GE185.out) | exact HB.out)⟩

end Go.Proofs.YtlekfhnlhdmekaaGreatDoor.T

/- Small laws that the pure laws share. -/
namespace Go.Proofs.YtlekfhnlhdmekaaGreatDoor.T
set_option linter.unusedSimpArgs false
set_option linter.unusedVariables false
open Go.RowKit Go.Proofs.YtlekfhnlhdmekaaGreatDoorW.PrintWords Go.Proofs.YtlekfhnlhdmekaaGreatDoorW.PrintLast Go.Proofs.YtlekfhnlhdmekaaGreatDoorW.PrintMore
namespace B
theorem str_eq (s : ByteArray) (e : Int) : qanatlaw02_str.f s e s e = some true := by
  unfold qanatlaw02_str.f
  rw [if_pos rfl]
  simp
theorem num_eq (n e : Int) : qanatlaw02_num.f n e n e = some true := by
  unfold qanatlaw02_num.f
  rw [if_pos rfl]
  simp
theorem i64 {x : Int} (h : (Lit.int .i64 x).wf = true) : -9223372036854775808 ≤ x ∧ x ≤ 9223372036854775807 := by
  simp [Lit.wf, IntKind.min, IntKind.max, IntKind.bits, IntKind.signed] at h
  omega
theorem size {s : ByteArray} (h : vld s = true) : s.size ≤ 1000 := by
  simp [vld] at h; exact h.1
theorem all {s : ByteArray} (h : vld s = true) : ∀ x ∈ bytesOf s, goodI x = true := by
  simp only [vld, Bool.and_eq_true, List.all_eq_true] at h
  exact h.2
theorem mk {s : ByteArray} (h1 : s.size ≤ 1000) (h2 : ∀ x ∈ bytesOf s, goodI x = true) : vld s = true := by
  simp only [vld, Bool.and_eq_true, List.all_eq_true, decide_eq_true_eq]
  exact ⟨h1, h2⟩
theorem good (x : Int) : goodI x = true ↔ 32 ≤ x ∧ x ≤ 126 := by simp [goodI]
theorem valid1 (s : ByteArray) : text_valid.f [s] = some (if vld s = true then 0 else 1) := by
  unfold text_valid.f
  by_cases h : vld s = true <;> simp [h]
theorem valid2 (s t : ByteArray) : text_valid.f [s, t] = some (if vld s = true ∧ vld t = true then 0 else 1) := by
  unfold text_valid.f
  by_cases h : vld s = true <;> by_cases h' : vld t = true <;> simp [h, h']
theorem valid3 (s t u : ByteArray) : text_valid.f [s, t, u] = some (if vld s = true ∧ vld t = true ∧ vld u = true then 0 else 1) := by
  unfold text_valid.f
  by_cases h : vld s = true <;> by_cases h' : vld t = true <;> by_cases h'' : vld u = true <;> simp [h, h', h'']
theorem pads1 (p : Int) : text_pads.f [p] = some (if goodI p = true then 0 else 1) := by
  unfold text_pads.f
  by_cases h : goodI p = true <;> simp [h]
theorem least1 (n x : Int) : text_least.f n [x] = some (if n ≤ x then 0 else 1) := by
  unfold text_least.f
  by_cases h : n ≤ x <;> simp [h]
theorem first2 (b c : Prop) [Decidable b] [Decidable c] : text_first.f [if b then 0 else 1, if c then 0 else 1] = some (if b ∧ c then 0 else 1) := by
  by_cases h1 : b <;> by_cases h2 : c <;> simp [h1, h2] <;> rfl
theorem first3 (b c d : Prop) [Decidable b] [Decidable c] [Decidable d] : text_first.f [if b then 0 else 1, if c then 0 else 1, if d then 0 else 1] = some (if b ∧ c ∧ d then 0 else 1) := by
  by_cases h1 : b <;> by_cases h2 : c <;> by_cases h3 : d <;> simp [h1, h2, h3] <;> rfl
theorem first4 (b c d e : Prop) [Decidable b] [Decidable c] [Decidable d] [Decidable e] : text_first.f [if b then 0 else 1, if c then 0 else 1, if d then 0 else 1, if e then 0 else 1] = some (if b ∧ c ∧ d ∧ e then 0 else 1) := by
  by_cases h1 : b <;> by_cases h2 : c <;> by_cases h3 : d <;> by_cases h4 : e <;> simp [h1, h2, h3, h4] <;> rfl
theorem whole (n lo : Int) : qanatref02_whole.f n lo false = some (decide (lo ≤ n)) := by
  unfold qanatref02_whole.f
  by_cases h : lo ≤ n
  · rw [if_pos (by omega)]; simp [h]
  · rw [if_neg (by omega)]; simp [h]
theorem wholeM (n : Int) : qanatref02_whole.f n 0 true = some (decide (-1 ≤ n)) := by
  unfold qanatref02_whole.f
  by_cases h : 0 ≤ n
  · rw [if_pos (by omega)]; simp; omega
  · rw [if_neg (by omega), if_pos rfl]
    by_cases e : n = -1
    · subst e; rfl
    · rw [show (n == -1) = false from beq_eq_false_iff_ne.mpr e, show decide (-1 ≤ n) = false from decide_eq_false (by omega)]
theorem toL (s : ByteArray) : s.toList = s.data.toList := Lib.toList_data s
theorem ext {a b : ByteArray} (h : a.data.toList = b.data.toList) : a = b := by
  apply ByteArray.ext
  exact Array.toList_inj.1 h
theorem sz (s : ByteArray) : s.size = s.data.toList.length := (data_length s).symm
theorem extract (s : ByteArray) (i j : Nat) : (s.extract i j).data.toList = (s.data.toList.drop i).take (j - i) := by
  rw [ByteArray.data_extract, Array.toList_extract, List.extract_eq_take_drop]
theorem append (a b : ByteArray) : (a ++ b).data.toList = a.data.toList ++ b.data.toList := by
  rw [ByteArray.data_append, Array.toList_append]
theorem vldA {a b : ByteArray} (ha : ∀ x ∈ bytesOf a, goodI x = true) (hb : ∀ x ∈ bytesOf b, goodI x = true) (h : (a ++ b).size ≤ 1000) : vld (a ++ b) = true := by
  refine mk h (fun x hx => ?_)
  unfold bytesOf at hx
  rw [append, List.map_append] at hx
  exact (List.mem_append.1 hx).elim (ha x) (hb x)
theorem vldE {a : ByteArray} (i j : Nat) (h : vld a = true) : vld (a.extract i j) = true := by
  refine mk ?_ (fun x hx => ?_)
  · have := size h; rw [ByteArray.size_extract]; omega
  · refine all h x ?_
    unfold bytesOf at hx ⊢
    rw [extract] at hx
    obtain ⟨b, hb, rfl⟩ := List.mem_map.1 hx
    exact List.mem_map.2 ⟨b, List.mem_of_mem_drop (List.mem_of_mem_take hb), rfl⟩
theorem made (s : ByteArray) (h : vld s = true) : text_made.f s = some (s, 0) := by
  rw [made_eq, if_neg (by have := size h; omega), if_pos h]
end B
end Go.Proofs.YtlekfhnlhdmekaaGreatDoor.T

-- Written by a program of this session (mp.py over the kit's print.py), out of the translation.
namespace Go.Proofs.YtlekfhnlhdmekaaGreatDoor.T
set_option linter.unusedSimpArgs false
open Go.RowKit Go.Proofs.YtlekfhnlhdmekaaGreatDoorW.PrintWords Go.Proofs.YtlekfhnlhdmekaaGreatDoorW.PrintLast Go.Proofs.YtlekfhnlhdmekaaGreatDoorW.PrintMore
attribute [local go_sem] max2_int min2_int max_two min_two max_three min_three max_four min_four   -- for this text's walks alone
set_option linter.unusedVariables false
set_option linter.unusedSimpArgs false

/-! ### text_fit: function 99 -/
def text_fit.f (a0 : ByteArray) (a1 : Int) (a2 : Int) : Option (ByteArray) := if a1 ≤ (a0.size : Int) then (if 0 ≤ a1 then (some (a0.extract 0 (a1 : Int).toNat)) else (none)) else ((text_many.f (strOfNums (([a2] : List Int))) (wrap64 (a1 - (a0.size : Int)))).bind fun t258 => (if a0.size + t258.size ≤ 9223372036854775807 then (some (a0 ++ t258)) else (none)))
set_option maxHeartbeats 8000000 in
set_option maxRecDepth 100000 in
theorem text_fit.calls (a0 : ByteArray) (a1 : Int) (a2 : Int) (r : ByteArray) (w : World) (h : text_fit.f a0 a1 a2 = some r) :
    Calls Tryz.prog 99 #[.string a0, .int .i64 a1, .int .u8 a2] w fun e w' => e = .returned (.string r) ∧ Below w.heap.size w w' := by
  have HB := Aside0.mk (Below.refl w.heap.size w)
  have H : (if a1 ≤ (a0.size : Int) then (if 0 ≤ a1 then (some (a0.extract 0 (a1 : Int).toNat)) else (none)) else ((text_many.f (strOfNums (([a2] : List Int))) (wrap64 (a1 - (a0.size : Int)))).bind fun t258 => (if a0.size + t258.size ≤ 9223372036854775807 then (some (a0 ++ t258)) else (none)))) = some r := h
  clear h
  by_cases c4 : a1 ≤ (a0.size : Int)
  · rw [if_pos c4] at H
    have c4b0 : decide (a1 ≤ (a0.size : Int)) = true := decide_eq_true c4
    clear c4
    by_cases c5 : 0 ≤ a1
    · rw [if_pos c5] at H
      have c5b0 := eq_true c5
      have c5b1 : decide (0 ≤ a1) = true := decide_eq_true c5
      clear c5
      have c6b0 := eq_true (of_decide_eq_true (by first | (with_reducible assumption) | assumption) : a1 ≤ (a0.size : Int))
      obtain rfl := Option.some.inj H
      go_enter Tryz.func99, Tryz.ntmps99
      go_wp2
      go_ret
      exact ⟨by first | rfl | (simp [errW_none, errW_some] <;> rfl) | (simp [*, errW_none, errW_some] <;> rfl), by repeat (first | (with_reducible first | exact HB.out | apply below_alloc | apply pw_below_drewN | apply below_drew1) | exact HB.out)⟩
    · rw [if_neg c5] at H
      exact absurd H (by simp)
  · rw [if_neg c4] at H
    have c4b0 : decide (a1 ≤ (a0.size : Int)) = false := decide_eq_false c4
    clear c4
    obtain ⟨y255, hy255⟩ : ∃ y_ : List Int, y_ = (([a2] : List Int)) := ⟨_, rfl⟩
    replace H : ((text_many.f (strOfNums y255) (wrap64 (a1 - (a0.size : Int)))).bind fun t258 => (if a0.size + t258.size ≤ 9223372036854775807 then (some (a0 ++ t258)) else (none))) = some r := by first | (rw [hy255]; with_reducible exact H) | (have H2_ := (Option.bind_some _ _).symm.trans H; rw [hy255]; with_reducible exact H2_) | (have H2_ := (Option.bind_some _ _).symm.trans H; with_reducible exact H2_) | with_reducible exact H | (rw [hy255]; exact H) | exact H
    have Ny255 := Aside0.mk hy255
    clear hy255
    replace H := Option.bind_eq_some_iff.mp H
    obtain ⟨t258, A70, H⟩ := H
    replace H : (if a0.size + t258.size ≤ 9223372036854775807 then (some (a0 ++ t258)) else (none)) = some r := H
    have A7 := Aside0.mk A70
    clear A70
    by_cases c8 : a0.size + t258.size ≤ 9223372036854775807
    · rw [if_pos c8] at H
      have c8b0 := eq_true c8
      have c8b1 : decide (a0.size + t258.size ≤ 9223372036854775807) = true := decide_eq_true c8
      try have c8b2 : (9223372036854775807 < a0.size + t258.size) = False := eq_false (Nat.not_lt.2 c8)
      obtain rfl := Option.some.inj H
      go_enter Tryz.func99, Tryz.ntmps99
      go_wp2_with (first | ((with_reducible refine gate_dst (N := 16) rfl ?_); refine Kd.R_lit (Kd.int .u8) _ 5 ?hg (N := 16) ?hd (xs := ([a2] : List Int)) (inner := [.int .u8 a2]) (ok := fun _ => True) (okp := fun _ => True) ?hr ?hp (fun _ hk => hk) trivial (Below.refl _ _) (Nat.le_refl _) (by simp) ?_; (case hd => rfl); (case hg => rfl); (case hr => first | (go_simp; done) | (go_simp; rfl)); (case hp => exact (Reps.one (show Kd.M (Kd.int .u8) _ _ _ a2 [.int .u8 a2] from rfl) (Reps.none _ _))); intro v256 w9 ho10 hb hg_ hnew_; clear hg_ hnew_; (first | rw [← Ny255.out] at ho10 | (simp only [Int.reduceToNat] at ho10; rw [← Ny255.out] at ho10)); have n0_ := Aside0.mk (Kd.R_lower ho10 (below_size (by repeat (first | (with_reducible first | exact HB.out | apply below_alloc | apply pw_below_drewN | apply below_drew1) | exact HB.out)))); have n1_ := Aside0.mk (below_step (by repeat (first | (with_reducible first | exact HB.out | apply below_alloc | apply pw_below_drewN | apply below_drew1) | exact HB.out)) hb); clear HB; have HO257 := n0_; have HB := n1_; clear n0_ n1_; clear hb ho10; have hcv11 := own_string (P := Tryz.prog) Tryz.underlying83 Tryz.underlying5 Tryz.underlying9 (Kd.own_of_R HO257.out)) | ((with_reducible refine gate_callee (f := 126) rfl ?_); refine goesL_ (some 22) rfl rfl Tryz.func126 (by kernel_rfl) rfl #[.string (strOfNums y255), .int .i64 (wrap64 (a1 - (a0.size : Int)))] rfl (by (try simp only [List.map_toArray, List.map_cons, List.map_nil]); first | done | rfl | (simp only [List.length_drop, List.length_take]; rfl)) ?_; (with_reducible refine (text_many.calls (strOfNums y255) (wrap64 (a1 - (a0.size : Int))) t258 _ A7.out).mono ?_); rintro e w12 ⟨rfl, hb⟩; refine ⟨_, rfl, ?_⟩; have n0_ := Aside0.mk (Kd.R_below (by (with_reducible repeat (first | apply Kd.R_alloc | apply Kd.R_drewN | apply Kd.R_drew)); exact HO257.out) hb); have n1_ := Aside0.mk (below_step (by repeat (first | (with_reducible first | exact HB.out | apply below_alloc | apply pw_below_drewN | apply below_drew1) | exact HB.out)) hb); clear HO257; clear HB; have HO257 := n0_; have HB := n1_; clear n0_ n1_; (try clear hb); (try clear hb2); (try clear hk); (try clear hi)))
      go_ret
      exact ⟨by first | rfl | (simp [errW_none, errW_some] <;> rfl) | (simp [*, errW_none, errW_some] <;> rfl), by repeat (first | (with_reducible first | exact HB.out | apply below_alloc | apply pw_below_drewN | apply below_drew1) | exact HB.out)⟩
    · rw [if_neg c8] at H
      exact absurd H (by simp)

end Go.Proofs.YtlekfhnlhdmekaaGreatDoor.T

/- What text.fit makes of a valid string: its beginning, or the string and pads. -/
namespace Go.Proofs.YtlekfhnlhdmekaaGreatDoor.T
set_option linter.unusedSimpArgs false
set_option linter.unusedVariables false
open Go.RowKit Go.Proofs.YtlekfhnlhdmekaaGreatDoorW.PrintWords Go.Proofs.YtlekfhnlhdmekaaGreatDoorW.PrintLast Go.Proofs.YtlekfhnlhdmekaaGreatDoorW.PrintMore
theorem repeat_one (b : UInt8) : ∀ n, Lib.repeatL [b] n = List.replicate n b
  | 0 => rfl
  | n + 1 => by rw [Lib.repeatL, repeat_one b n]; rfl
theorem many_one (p : Int) (m : Nat) (hm : m ≤ 1000) : text_many.f (strOfNums [p]) (m : Int) = some ⟨(List.replicate m (UInt8.ofNat p.toNat)).toArray⟩ := by
  have hs : (strOfNums [p]).size = 1 := by rw [strOfNums_size]; rfl
  unfold text_many.f
  rw [if_neg (by omega), hs]
  rw [if_neg (by simp; omega)]
  unfold strings_Repeat.f
  have c : 0 ≤ (m : Int) ∧ (strOfNums [p]).size * (m : Int).toNat ≤ 100000 ∧ (m : Int) ≤ 100000 := by rw [hs]; simp; omega
  rw [if_pos c]
  simp only [Int.toNat_natCast]
  rw [show (strOfNums [p]).data.toList = [UInt8.ofNat p.toNat] by simp [strOfNums], repeat_one]
theorem fit_short (s : ByteArray) (n p : Int) (h0 : 0 ≤ n) (h1 : n ≤ s.size) : text_fit.f s n p = some (s.extract 0 n.toNat) := by
  unfold text_fit.f
  rw [if_pos h1, if_pos h0]
theorem fit_long (s : ByteArray) (m : Nat) (p : Int) (hs : s.size ≤ 1000) (h1 : s.size < m) (h2 : m - s.size ≤ 1000) :
    text_fit.f s (m : Int) p = some (s ++ ⟨(List.replicate (m - s.size) (UInt8.ofNat p.toNat)).toArray⟩) := by
  unfold text_fit.f
  rw [if_neg (by omega)]
  have e : wrap64 ((m : Int) - (s.size : Int)) = ((m - s.size : Nat) : Int) := by unfold wrap64; omega
  rw [e, many_one p (m - s.size) h2]
  simp only [Option.bind_some]
  have hz : (⟨(List.replicate (m - s.size) (UInt8.ofNat p.toNat)).toArray⟩ : ByteArray).size = m - s.size := by
    rw [← data_length]; simp
  rw [if_pos (by rw [hz]; omega)]
end Go.Proofs.YtlekfhnlhdmekaaGreatDoor.T

/- The law TextWordy: words, joined, cut out and struck. -/
namespace Go.Proofs.YtlekfhnlhdmekaaGreatDoor.T
set_option linter.unusedSimpArgs false
set_option linter.unusedVariables false
set_option linter.unusedSectionVars false
open Go.RowKit Go.Proofs.YtlekfhnlhdmekaaGreatDoorW.PrintWords Go.Proofs.YtlekfhnlhdmekaaGreatDoorW.PrintLast Go.Proofs.YtlekfhnlhdmekaaGreatDoorW.PrintMore
namespace Wy
/-- The words of a string. -/
def ws (s : ByteArray) : List (List UInt8) := fw [] (by8 s)
def ba (l : List UInt8) : ByteArray := ⟨l.toArray⟩
theorem by_ba (l : List UInt8) : by8 (ba l) = l := rfl
theorem ba_by (s : ByteArray) : ba (by8 s) = s := B.ext rfl
theorem ws_wds (s : ByteArray) : ws s = (wds s 0).map (wt s) := by
  have := wd_drop s 0 (Nat.zero_le _)
  simpa [ws] using this
theorem ws_len (s : ByteArray) : (ws s).length = (wds s 0).length := by rw [ws_wds, List.length_map]
theorem print {s : ByteArray} (h : vld s = true) : ∀ b ∈ by8 s, 32 ≤ b.toNat ∧ b.toNat ≤ 126 := by
  intro b hb
  have := (B.good _).1 (B.all h (b.toNat : Int) (by unfold bytesOf; exact List.mem_map.2 ⟨b, hb, rfl⟩))
  omega
theorem vld_of {s : ByteArray} (h1 : s.size ≤ 1000) (h2 : ∀ b ∈ by8 s, 32 ≤ b.toNat ∧ b.toNat ≤ 126) : vld s = true := by
  refine B.mk h1 (fun x hx => ?_)
  unfold bytesOf at hx
  obtain ⟨b, hb, rfl⟩ := List.mem_map.1 hx
  rw [B.good]
  have := h2 b hb
  omega
theorem in_eq (s : ByteArray) (h : vld s = true) : text_in.f s = some ((ws s).map ba) := by
  unfold text_in.f
  have := B.size h
  rw [if_pos (by omega), show Lib.fieldsD s.data.toList = ws s from fieldsD_fw _ (print h)]
  rfl
theorem map_ba (L : List (List UInt8)) : (L.map ba).map (·.data.toList) = L := by
  rw [List.map_map]
  conv => rhs; rw [← List.map_id L]
  exact List.map_congr_left (fun x _ => rfl)
/-- Words with blanks between them. -/
def jn (s : ByteArray) : ByteArray := ba (Lib.join (ws s) [32])
theorem jn_size (s : ByteArray) : (jn s).size ≤ s.size := by
  rw [← by8_length, ← by8_length]
  exact fw_join_len (by8 s)
theorem ws_mem (s : ByteArray) : ∀ w ∈ ws s, w ≠ [] ∧ ∀ b ∈ w, b ≠ 32 := fw_mem _ [] (fun _ h => by cases h)
theorem jn_vld (s : ByteArray) (h : vld s = true) : vld (jn s) = true := by
  refine vld_of (by have := jn_size s; have := B.size h; omega) (fun b hb => ?_)
  rcases join_bytes (ws s) b hb with rfl | ⟨w, hw, hb2⟩
  · decide
  · rcases fw_bytes _ [] w hw b hb2 with h2 | h2
    · cases h2
    · exact print h b h2
theorem ws_jn (s : ByteArray) : ws (jn s) = ws s := fw_join (ws s) (ws_mem s)
theorem jn_jn (s : ByteArray) : jn (jn s) = jn s := by unfold jn; rw [show ws (ba (Lib.join (ws s) [32])) = ws s from ws_jn s]
theorem space_eq (s : ByteArray) (h : vld s = true) : text_Space.f s 1 32 = some (jn s, 0) := by
  unfold text_Space.f
  have hz := B.size h
  simp only [B.valid1, B.pads1, B.least1, Option.bind_some, B.first3]
  have c : vld s = true ∧ goodI 32 = true ∧ (0 : Int) ≤ 1 := ⟨h, by decide, by decide⟩
  rw [if_pos c, if_pos rfl, in_eq s h]
  simp only [Option.bind_some, List.length_map]
  have hlen : (ws s).length ≤ 1000 := by rw [ws_len]; have := len_le s; omega
  by_cases h2 : ((ws s).length : Int) < 2
  · rw [if_pos h2]
    have e : Lib.join (ws s) [] = Lib.join (ws s) [32] := by
      have hl : (ws s).length < 2 := by omega
      match hw : ws s, hl with
      | [], _ => rfl
      | [x], _ => rw [Lib.join_one, Lib.join_one]
    unfold strings_Join.f
    rw [map_ba, show (⟨#[]⟩ : ByteArray).data.toList = [] from rfl, e]
    have hj := jn_size s
    have hjl : (Lib.join (ws s) [32]).length = (jn s).size := by rw [← by8_length]; rfl
    rw [if_pos ⟨by rw [List.length_map]; omega, by omega⟩]
    rfl
  · rw [if_neg h2, show (1 : Int) = ((1 : Nat) : Int) from rfl, many_one 32 1 (by omega)]
    simp only [Option.bind_some]
    unfold strings_Join.f
    rw [map_ba, show (⟨(List.replicate 1 (UInt8.ofNat (32 : Int).toNat)).toArray⟩ : ByteArray).data.toList = [32] from rfl]
    have hj := jn_size s
    have hjl : (Lib.join (ws s) [32]).length = (jn s).size := by rw [← by8_length]; rfl
    rw [if_pos ⟨by rw [List.length_map]; omega, by omega⟩]
    simp only [Option.bind_some]
    rw [show (⟨(Lib.join (ws s) [32]).toArray⟩ : ByteArray) = jn s from rfl, B.made _ (jn_vld s h)]
    rfl
theorem rd_get (s : ByteArray) (j : Nat) (hj : j < (wds s 0).length) : (wds s 0)[j]? = some (rd_T105 (wds s 0) (j : Int)) := by
  unfold rd_T105
  rw [Int.toNat_natCast, List.getD_eq_getElem?_getD, List.getElem?_eq_getElem hj]
  rfl
theorem ws_get (s : ByteArray) (j : Nat) (hj : j < (wds s 0).length) : (ws s)[j]? = some (wt s (rd_T105 (wds s 0) (j : Int))) := by
  rw [ws_wds, List.getElem?_map, rd_get s j hj]; rfl
theorem wt_ext (s : ByteArray) (x : S105) (h : x.f1 ≤ s.size) : (s.extract x.f0.toNat x.f1.toNat).toList = wt s x := by
  rw [B.toL, B.extract]; rfl
theorem same_l0 (a s : ByteArray) (ha : a.size ≤ 1200) (hs : s.size ≤ 1200) (he : ws a = ws s) : ∀ (d j k : Nat), (wds a 0).length - j = d → d < k → j ≤ (wds a 0).length → qanatlaw02_same.l0 k a s ((wds a 0).map cv) ((wds s 0).map cv) (j : Int) = some true
  | d, j, 0, _, h, _ => absurd h (by omega)
  | d, j, k + 1, hd, hk, hj => by
    have hl : (wds a 0).length = (wds s 0).length := by rw [← ws_len, ← ws_len, he]
    have hla := len_le a
    rw [qanatlaw02_same.l0]
    simp only [List.length_map]
    by_cases hlt : j < (wds a 0).length
    · have q1 := rd_ok a (j : Int) (by omega) (by omega)
      have q2 := rd_ok s (j : Int) (by omega) (by omega)
      have e : wt a (rd_T105 (wds a 0) (j : Int)) = wt s (rd_T105 (wds s 0) (j : Int)) := by
        have h1 := ws_get a j hlt
        have h2 := ws_get s j (by omega)
        rw [he, h2] at h1
        exact (Option.some.inj h1).symm
      rw [rd_cv _ _ (by omega) (by omega), rd_cv _ _ (by omega) (by omega)]
      have e1 : (a.extract (cv (rd_T105 (wds a 0) (j : Int))).f0.toNat (cv (rd_T105 (wds a 0) (j : Int))).f1.toNat).toList = (s.extract (cv (rd_T105 (wds s 0) (j : Int))).f0.toNat (cv (rd_T105 (wds s 0) (j : Int))).f1.toNat).toList := by
        show (a.extract (rd_T105 (wds a 0) (j : Int)).f0.toNat (rd_T105 (wds a 0) (j : Int)).f1.toNat).toList = (s.extract (rd_T105 (wds s 0) (j : Int)).f0.toNat (rd_T105 (wds s 0) (j : Int)).f1.toNat).toList
        rw [wt_ext a _ q1.2.2, wt_ext s _ q2.2.2, e]
      rw [if_pos (by omega), if_pos (by omega), if_pos (show 0 ≤ (cv (rd_T105 (wds a 0) (j : Int))).f0 from q1.1), if_pos (show (cv (rd_T105 (wds a 0) (j : Int))).f0 ≤ (cv (rd_T105 (wds a 0) (j : Int))).f1 from by have := q1.2.1; simp only [cv]; omega), if_pos (show (cv (rd_T105 (wds a 0) (j : Int))).f1 ≤ (a.size : Int) from q1.2.2), if_pos (by omega), if_pos (show 0 ≤ (cv (rd_T105 (wds s 0) (j : Int))).f0 from q2.1), if_pos (show (cv (rd_T105 (wds s 0) (j : Int))).f0 ≤ (cv (rd_T105 (wds s 0) (j : Int))).f1 from by have := q2.2.1; simp only [cv]; omega), if_pos (show (cv (rd_T105 (wds s 0) (j : Int))).f1 ≤ (s.size : Int) from q2.2.2), if_pos e1,
        wrap64_id _ (by omega) (by omega), show ((j : Int) + 1) = ((j + 1 : Nat) : Int) by omega]
      exact same_l0 a s ha hs he (d - 1) (j + 1) k (by omega) (by omega) (by omega)
    · rw [if_neg (by omega)]
theorem same_eq (a s : ByteArray) (ha : a.size ≤ 1200) (hs : s.size ≤ 1200) (he : ws a = ws s) (k : Nat) (hk : 3700 ≤ k) (hk2 : k ≤ 100000) : qanatlaw02_same.f k a s = some true := by
  unfold qanatlaw02_same.f
  rw [spans_eq a ha k (by omega) hk2, spans_eq s hs k (by omega) hk2]
  simp only [Option.bind_some, List.length_map]
  have hl : (wds a 0).length = (wds s 0).length := by rw [← ws_len, ← ws_len, he]
  rw [if_pos (by omega)]
  have := len_le a
  exact same_l0 a s ha hs he (wds a 0).length 0 k (by omega) (by omega) (by omega)
theorem words_eq (s : ByteArray) (h : vld s = true) : text_Words.f s = some (((ws s).length : Int), 0) := by
  unfold text_Words.f
  have := B.size h
  simp only [valid1, Option.bind_some, if_pos h, if_true, words_f s (by omega), ws_len]
/-! Words cut out and struck. -/
theorem take_eq {α : Type} {u v w : List α} (h : u ++ v = w) (n : Nat) (hn : u.length = n) : u = w.take n := by
  subst h; subst hn; simp
section
variable (s : ByteArray) (n g : Nat) (hn : n ≤ g) (hg : g < (wds s 0).length)
/-- From where, and to where the words from the n-th to the g-th stand. -/
def fr (s : ByteArray) (n : Nat) : Nat := (rd_T105 (wds s 0) (n : Int)).f0.toNat
def tt (s : ByteArray) (g : Nat) : Nat := (rd_T105 (wds s 0) (g : Int)).f1.toNat
include hn hg
theorem fr_to : fr s n < tt s g ∧ tt s g ≤ s.size := by
  have a := rd_ok s (n : Int) (by omega) (by omega)
  have b := rd_ok s (g : Int) (by omega) (by omega)
  have c := rd_le s (n : Int) (g : Int) (by omega) (by omega) (by omega)
  unfold fr tt
  omega
theorem pre_ws : fw [] ((by8 s).take (fr s n)) = (ws s).take n ∧ Starts ((by8 s).take (fr s n)) := by
  have := wd_pre s 0 (Nat.zero_le _) n _ (rd_get s n (by omega))
  rw [ws_wds]
  simpa [fr] using this
theorem from_ws : fw [] ((by8 s).drop (fr s n)) = (ws s).drop n := by
  have h := pre_ws s n g hn hg
  have e := fw_starts ((by8 s).take (fr s n)) ((by8 s).drop (fr s n)) h.2
  rw [List.take_append_drop, h.1] at e
  have e2 : (ws s).take n ++ (ws s).drop n = (ws s).take n ++ fw [] ((by8 s).drop (fr s n)) := by rw [List.take_append_drop]; exact e
  exact (List.append_cancel_left e2).symm
theorem post_ws : fw [] ((by8 s).drop (tt s g)) = (ws s).drop (g + 1) ∧ Stops ((by8 s).drop (tt s g)) := by
  have := wd_post s 0 (Nat.zero_le _) g _ (rd_get s g hg)
  rw [ws_wds]
  simpa [tt] using this
theorem mid_ws : fw [] (((by8 s).drop (fr s n)).take (tt s g - fr s n)) = ((ws s).drop n).take (g + 1 - n) := by
  have h1 := fr_to s n g hn hg
  have h2 := post_ws s n g hn hg
  have e := part_drop (by8 s) (fr s n) (tt s g) (by omega)
  have e2 := from_ws s n g hn hg
  rw [e, fw_stops _ _ h2.2, h2.1] at e2
  refine take_eq e2 _ ?_
  have := congrArg List.length e2
  rw [List.length_append, List.length_drop, List.length_drop, ws_len] at this
  omega
end
/-- The words from the n-th to the g-th, and the string without them. -/
def sub (s : ByteArray) (n g : Nat) : ByteArray := s.extract (fr s n) (tt s g)
def cutw (s : ByteArray) (n g : Nat) : ByteArray := s.extract 0 (fr s n) ++ ba (Lib.trimLeftB ((by8 s).drop (tt s g)) 32)
theorem sub_by (s : ByteArray) (n g : Nat) : by8 (sub s n g) = ((by8 s).drop (fr s n)).take (tt s g - fr s n) := B.extract s _ _
theorem cutw_by (s : ByteArray) (n g : Nat) : by8 (cutw s n g) = (by8 s).take (fr s n) ++ Lib.trimLeftB ((by8 s).drop (tt s g)) 32 := by
  unfold cutw by8
  rw [B.append, B.extract]
  rfl
theorem trim_le (l : List UInt8) : (Lib.trimLeftB l 32).length ≤ l.length := (List.dropWhile_suffix _).length_le
theorem trim_mem (l : List UInt8) (b : UInt8) (h : b ∈ Lib.trimLeftB l 32) : b ∈ l := (List.dropWhile_suffix _).mem h
theorem sub_vld (s : ByteArray) (n g : Nat) (h : vld s = true) : vld (sub s n g) = true := B.vldE _ _ h
theorem cutw_size (s : ByteArray) (n g : Nat) (hn : n ≤ g) (hg : g < (wds s 0).length) : (cutw s n g).size ≤ s.size := by
  have h1 := fr_to s n g hn hg
  rw [← by8_length, cutw_by, List.length_append, List.length_take]
  have := trim_le ((by8 s).drop (tt s g))
  rw [List.length_drop] at this
  rw [by8_length] at *
  omega
theorem cutw_vld (s : ByteArray) (n g : Nat) (hn : n ≤ g) (hg : g < (wds s 0).length) (h : vld s = true) : vld (cutw s n g) = true := by
  refine vld_of (by have := cutw_size s n g hn hg; have := B.size h; omega) (fun b hb => ?_)
  rw [cutw_by] at hb
  rcases List.mem_append.1 hb with hb | hb
  · exact print h b (List.mem_of_mem_take hb)
  · exact print h b (List.mem_of_mem_drop (trim_mem _ b hb))
theorem sub_ws (s : ByteArray) (n g : Nat) (hn : n ≤ g) (hg : g < (wds s 0).length) : ws (sub s n g) = ((ws s).drop n).take (g + 1 - n) := by
  unfold ws
  rw [sub_by]
  exact mid_ws s n g hn hg
theorem cutw_ws (s : ByteArray) (n g : Nat) (hn : n ≤ g) (hg : g < (wds s 0).length) : ws (cutw s n g) = (ws s).take n ++ (ws s).drop (g + 1) := by
  have h := pre_ws s n g hn hg
  unfold ws at *
  rw [cutw_by, fw_starts _ _ h.2, h.1, fw_trim, (post_ws s n g hn hg).1]
  rfl
theorem last_eq (len n m : Nat) (hm : 0 < m) : spanLast len ((n : Int) + 1) (m : Int) = ((if n + m < len then n + m else len : Nat) : Int) := by
  unfold spanLast
  rw [if_neg (by omega)]
  by_cases h : n + m < len
  · rw [if_pos h]; split <;> split <;> omega
  · rw [if_neg h]; split <;> split <;> omega
theorem subword_eq (s : ByteArray) (n m : Nat) (h : vld s = true) (hm : m < 256) : text_Subword.f s ((n : Int) + 1) (m : Int) = some (if m = 0 ∨ (wds s 0).length ≤ n then ⟨#[]⟩ else sub s n ((if n + m < (wds s 0).length then n + m else (wds s 0).length) - 1), 0) := by
  unfold text_Subword.f
  have hz := B.size h
  simp only [valid1, least1, Option.bind_some, first3]
  have c : vld s = true ∧ (1 : Int) ≤ (n : Int) + 1 ∧ (-1 : Int) ≤ (m : Int) := ⟨h, by omega, by omega⟩
  rw [if_pos c, if_pos rfl, span_eq s _ _ (by omega) (by omega) (by omega)]
  simp only [Option.bind_some]
  by_cases hc : m = 0 ∨ (wds s 0).length ≤ n
  · rw [if_pos (show ((m : Int) = 0 ∨ ((wds s 0).length : Int) < (n : Int) + 1) by omega), if_pos hc]
    simp only
    rw [if_pos (by omega), if_pos (by omega), if_pos (by omega), empty_ex]
  · rw [if_neg (show ¬ ((m : Int) = 0 ∨ ((wds s 0).length : Int) < (n : Int) + 1) by omega), if_neg hc, last_eq _ n m (by omega)]
    obtain ⟨g, hg⟩ : ∃ g : Nat, (if n + m < (wds s 0).length then n + m else (wds s 0).length) = g + 1 := ⟨(if n + m < (wds s 0).length then n + m else (wds s 0).length) - 1, by split <;> omega⟩
    rw [hg, show (n : Int) + 1 - 1 = (n : Int) by omega, show ((g + 1 : Nat) : Int) - 1 = (g : Int) by omega]
    have hgl : g < (wds s 0).length := by split at hg <;> omega
    have hng : n ≤ g := by split at hg <;> omega
    have q1 := rd_ok s (n : Int) (by omega) (by omega)
    have q2 := rd_ok s (g : Int) (by omega) (by omega)
    have q3 := rd_le s (n : Int) (g : Int) (by omega) (by omega) (by omega)
    simp only
    rw [if_pos q1.1, if_pos (by omega), if_pos q2.2.2]
    rfl
theorem delword_eq (s : ByteArray) (n m : Nat) (h : vld s = true) (hm : m < 256) : text_DelWord.f s ((n : Int) + 1) (m : Int) = some (if m = 0 ∨ (wds s 0).length ≤ n then s else cutw s n ((if n + m < (wds s 0).length then n + m else (wds s 0).length) - 1), 0) := by
  unfold text_DelWord.f
  have hz := B.size h
  simp only [valid1, least1, Option.bind_some, first3]
  have c : vld s = true ∧ (1 : Int) ≤ (n : Int) + 1 ∧ (-1 : Int) ≤ (m : Int) := ⟨h, by omega, by omega⟩
  rw [if_pos c, if_pos rfl, span_eq s _ _ (by omega) (by omega) (by omega)]
  simp only [Option.bind_some]
  by_cases hc : m = 0 ∨ (wds s 0).length ≤ n
  · rw [if_pos (show ((m : Int) = 0 ∨ ((wds s 0).length : Int) < (n : Int) + 1) by omega), if_pos hc]
    simp
  · rw [if_neg (show ¬ ((m : Int) = 0 ∨ ((wds s 0).length : Int) < (n : Int) + 1) by omega), if_neg hc, last_eq _ n m (by omega)]
    obtain ⟨g, hg⟩ : ∃ g : Nat, (if n + m < (wds s 0).length then n + m else (wds s 0).length) = g + 1 := ⟨(if n + m < (wds s 0).length then n + m else (wds s 0).length) - 1, by split <;> omega⟩
    rw [hg, show (n : Int) + 1 - 1 = (n : Int) by omega, show ((g + 1 : Nat) : Int) - 1 = (g : Int) by omega]
    have hgl : g < (wds s 0).length := by split at hg <;> omega
    have hng : n ≤ g := by split at hg <;> omega
    have q1 := rd_ok s (n : Int) (by omega) (by omega)
    have q2 := rd_ok s (g : Int) (by omega) (by omega)
    have q3 := rd_le s (n : Int) (g : Int) (by omega) (by omega) (by omega)
    have hT : strings_TrimLeft.f (s.extract (tt s g) s.size) (⟨#[32]⟩ : ByteArray) = some (ba (Lib.trimLeftB ((by8 s).drop (tt s g)) 32)) := by
      show (if (32 : UInt8).toNat < 128 then some (⟨(Lib.trimLeftB (s.extract (tt s g) s.size).data.toList 32).toArray⟩ : ByteArray) else none) = _
      rw [if_pos (by decide), drop_list]
      rfl
    have hcs := cutw_size s n g hng hgl
    simp only
    rw [if_neg (by omega), if_pos q1.1, if_pos (by omega), if_pos (by omega), if_pos q2.2.2]
    rw [show (rd_T105 (wds s 0) (g : Int)).f1.toNat = tt s g from rfl, hT]
    simp only [Option.bind_some]
    rw [show (rd_T105 (wds s 0) (n : Int)).f0.toNat = fr s n from rfl, if_pos (by rw [← ByteArray.size_append]; show (cutw s n g).size ≤ _; omega)]
    rfl
theorem word_eq (s : ByteArray) (n : Nat) (h : vld s = true) (hn : n < (wds s 0).length) (hn2 : n < 1000) : ∃ w, text_Word.f s ((n : Int) + 1) = some (w, 0) ∧ (ws s)[n]? = some w.toList := by
  unfold text_Word.f
  have hz := B.size h
  rw [nth_in s _ (by omega) (by omega) ⟨h, by omega⟩ (by omega), show (n : Int) + 1 - 1 = (n : Int) by omega]
  have q1 := rd_ok s (n : Int) (by omega) (by omega)
  simp only [Option.bind_some, if_true]
  rw [if_pos q1.1, if_pos (by omega), if_pos q1.2.2]
  exact ⟨_, rfl, by rw [ws_get s n hn, wt_ext s _ q1.2.2]⟩
theorem eq_l0 (q : List ByteArray) (hq : q.length ≤ 2000) : ∀ (d j k : Nat), q.length - j = d → d < k → j ≤ q.length → slices_Equal_string_string.l0 k q q (q.length : Int) (j : Int) = some true
  | d, j, 0, _, h, _ => absurd h (by omega)
  | d, j, k + 1, hd, hk, hj => by
    rw [slices_Equal_string_string.l0]
    by_cases hlt : j < q.length
    · rw [if_pos (by omega), if_pos (by omega), if_pos (by omega), if_pos (by omega), if_pos rfl, wrap64_id _ (by omega) (by omega), show ((j : Int) + 1) = ((j + 1 : Nat) : Int) by omega]
      exact eq_l0 q hq (d - 1) (j + 1) k (by omega) (by omega) (by omega)
    · rw [if_neg (by omega)]
theorem eq_self (q : List ByteArray) (hq : q.length ≤ 2000) (k : Nat) (hk : 2001 ≤ k) : slices_Equal_string_string.f k q q = some true := by
  unfold slices_Equal_string_string.f
  rw [if_pos rfl]
  exact eq_l0 q hq q.length 0 k (by omega) (by omega) (by omega)
theorem wordpos_eq (s x : ByteArray) (n c : Nat) (hs : vld s = true) (hx : vld x = true) (hw : ws x = ((ws s).drop n).take c) (hc : 0 < c) (hl : n + c ≤ (ws s).length) (k : Nat) (hk : 2100 ≤ k) : text_WordPos.f k x s ((n : Int) + 1) = some ((n : Int) + 1, 0) := by
  unfold text_WordPos.f
  have hz := B.size hs
  have hlen : (ws s).length ≤ 1000 := by rw [ws_len]; have := len_le s; omega
  simp only [B.valid2, B.least1, Option.bind_some, B.first2]
  have cc : (vld x = true ∧ vld s = true) ∧ (1 : Int) ≤ (n : Int) + 1 := ⟨⟨hx, hs⟩, by omega⟩
  have lx : (ws x).length = c := by rw [hw, List.length_take, List.length_drop]; omega
  rw [if_pos cc, if_pos rfl, in_eq x hx, in_eq s hs]
  simp only [Option.bind_some, List.length_map]
  rw [if_neg (by omega), wrap64_id _ (by omega) (by omega), show (n : Int) + 1 - 1 = (n : Int) by omega]
  obtain ⟨k, rfl⟩ : ∃ k', k = k' + 1 := ⟨k - 1, by omega⟩
  have e : (((ws s).map ba).take (n + c)).drop n = (ws x).map ba := by
    rw [hw, ← List.map_take, ← List.map_drop, List.drop_take, show n + c - n = c by omega]
  rw [text_WordPos.l0]
  simp only [List.length_map, lx]
  rw [wrap64_id (((ws s).length : Int) - (c : Int)) (by omega) (by omega), wrap64_id ((n : Int) + (c : Int)) (by omega) (by omega), wrap64_id ((n : Int) + 1) (by omega) (by omega), if_pos (by omega), if_pos (by omega), if_pos (by omega), if_pos (by omega),
    show ((n : Int) + (c : Int)) = ((n + c : Nat) : Int) by omega]
  simp only [Int.toNat_natCast]
  rw [e, eq_self _ (by rw [List.length_map]; omega) k (by omega)]
  simp only [Option.bind_some, if_true]
theorem empty_list (x : ByteArray) (h : 0 < x.size) : ¬ x.toList = [] := by
  intro e
  have : x.size = 0 := by rw [B.sz, ← B.toL, e]; rfl
  omega
theorem j1e (s : ByteArray) (n : Int) (k : Nat) : qanatlaw02_TextWordy.j1 (k + 1) s true n (⟨#[]⟩ : ByteArray) s false = some true := by
  have he : (⟨#[]⟩ : ByteArray).toList = [] := by rw [B.toL]
  rw [qanatlaw02_TextWordy.j1, if_neg (by decide), if_pos he, if_pos rfl]
  simp
theorem j1w (s : ByteArray) (n g : Nat) (hv : vld s = true) (hn : n < 256) (hng : n ≤ g) (hgl : g < (wds s 0).length) (k : Nat) (hk : 2200 ≤ k) : qanatlaw02_TextWordy.j1 (k + 1) s true ((n : Int) + 1) (sub s n g) (cutw s n g) false = some true := by
  have hz := B.size hv
  have hle := len_le s
  have wl := ws_len s
  have h1 := fr_to s n g hng hgl
  have hxs : 0 < (sub s n g).size := by unfold sub; rw [ByteArray.size_extract]; omega
  have l1 : (ws (sub s n g)).length = g + 1 - n := by rw [sub_ws s n g hng hgl, List.length_take, List.length_drop]; omega
  obtain ⟨w, hw1, hw2⟩ := word_eq s n hv (by omega) (by omega)
  obtain ⟨v, hv1, hv2⟩ := word_eq (sub s n g) 0 (sub_vld s n g hv) (by rw [← ws_len, l1]; omega) (by omega)
  have e : w.toList = v.toList := by
    rw [sub_ws s n g hng hgl, List.getElem?_take, if_pos (by omega), List.getElem?_drop, Nat.add_zero, hw2] at hv2
    exact Option.some.inj hv2
  have hv1' : text_Word.f (sub s n g) 1 = some (v, 0) := hv1
  have hp := wordpos_eq s (sub s n g) n (g + 1 - n) hv (sub_vld s n g hv) (sub_ws s n g hng hgl) (by omega) (by omega) k (by omega)
  rw [qanatlaw02_TextWordy.j1, if_neg (by decide), if_neg (empty_list _ hxs), hp, hw1, hv1']
  simp [e]
theorem ve : vld (⟨#[]⟩ : ByteArray) = true := by decide
theorem vs : ((ws (⟨#[]⟩ : ByteArray)).length : Int) = 0 := by rfl
theorem hve : text_Words.f (⟨#[]⟩ : ByteArray) = some (0, 0) := by rw [words_eq _ ve, vs]
theorem j0_of (s x y : ByteArray) (n m : Nat) (a b c : Int) (hn : n < 256) (hm : m < 256) (k : Nat) (h1 : text_Subword.f s ((n : Int) + 1) (m : Int) = some (x, 0)) (h2 : text_DelWord.f s ((n : Int) + 1) (m : Int) = some (y, 0))
    (h3 : text_Words.f s = some (a, 0)) (h4 : text_Words.f x = some (b, 0)) (h5 : text_Words.f y = some (c, 0)) (hs : wrap64 (b + c) = a) (hb : decide (b > (m : Int)) = false) :
    qanatlaw02_TextWordy.j0 (k + 1) s (n : Int) (m : Int) true false = qanatlaw02_TextWordy.j1 k s true ((n : Int) + 1) x y false := by
  rw [qanatlaw02_TextWordy.j0, if_neg (by decide), wrap64_id (n : Int) (by omega) (by omega), wrap64_id (m : Int) (by omega) (by omega), wrap64_id ((n : Int) + 1) (by omega) (by omega), h1, h2, h3]
  simp only [Option.bind_some]
  rw [h4, h5]
  simp only [Option.bind_some, if_true, hs, hb]
theorem j0 (s : ByteArray) (n m : Nat) (hv : vld s = true) (hn : n < 256) (hm : m < 256) (k : Nat) (hk : 2200 ≤ k) : qanatlaw02_TextWordy.j0 (k + 2) s (n : Int) (m : Int) true false = some true := by
  have hz := B.size hv
  have hle := len_le s
  have wl := ws_len s
  have H1 := subword_eq s n m hv hm
  have H2 := delword_eq s n m hv hm
  by_cases hc : m = 0 ∨ (wds s 0).length ≤ n
  · rw [if_pos hc] at H1 H2
    have e1 : wrap64 (0 + ((ws s).length : Int)) = ((ws s).length : Int) := by rw [wrap64_id _ (by omega) (by omega)]; omega
    rw [j0_of s ⟨#[]⟩ s n m _ 0 _ hn hm (k + 1) H1 H2 (words_eq s hv) hve (words_eq s hv) e1 (decide_eq_false (by omega))]
    exact j1e s _ k
  · obtain ⟨g, hg⟩ : ∃ g : Nat, (if n + m < (wds s 0).length then n + m else (wds s 0).length) = g + 1 := ⟨(if n + m < (wds s 0).length then n + m else (wds s 0).length) - 1, by split <;> omega⟩
    have hgl : g < (wds s 0).length := by split at hg <;> omega
    have hng : n ≤ g := by split at hg <;> omega
    have hgm : g + 1 ≤ n + m := by split at hg <;> omega
    have l1 : (ws (sub s n g)).length = g + 1 - n := by rw [sub_ws s n g hng hgl, List.length_take, List.length_drop]; omega
    have l2 : (ws (cutw s n g)).length = n + ((wds s 0).length - (g + 1)) := by rw [cutw_ws s n g hng hgl, List.length_append, List.length_take, List.length_drop]; omega
    rw [if_neg hc, hg, Nat.add_sub_cancel] at H1 H2
    have H3 := words_eq s hv
    have H4 := words_eq _ (sub_vld s n g hv)
    have H5 := words_eq _ (cutw_vld s n g hng hgl hv)
    rw [wl] at H3
    rw [l1] at H4
    rw [l2] at H5
    have HGL := Aside0.mk hgl
    clear l1 l2 wl
    generalize hq : (wds s 0).length = q at hgl hle hg hc H3 H5
    have e1 : wrap64 (((g + 1 - n : Nat) : Int) + ((n + (q - (g + 1)) : Nat) : Int)) = (q : Int) := by rw [wrap64_id _ (by omega) (by omega)]; omega
    have hd : decide (((g + 1 - n : Nat) : Int) > (m : Int)) = false := decide_eq_false (by omega)
    rw [j0_of s (sub s n g) (cutw s n g) n m _ _ _ hn hm (k + 1) H1 H2 H3 H4 H5 e1 hd]
    exact j1w s n g hv hn hng HGL.out k hk
end Wy
theorem wordy_pure : qanatlaw02_TextWordy.Pure := by
  intro s n m _ w1 w2
  obtain ⟨n0, n1⟩ := u8_of_wf w1
  obtain ⟨m0, m1⟩ := u8_of_wf w2
  obtain ⟨n, rfl⟩ := Int.eq_ofNat_of_zero_le n0
  obtain ⟨m, rfl⟩ := Int.eq_ofNat_of_zero_le m0
  refine ⟨60 + 3940, ?_⟩
  unfold qanatlaw02_TextWordy.f text_Valid.f
  rw [head_ok 3940]
  simp only [Option.bind_some]
  by_cases hv : vld s = true
  · have hz := B.size hv
    have hj := Wy.jn_size s
    rw [if_pos hv, Wy.space_eq s hv]
    simp only [Option.bind_some]
    rw [Wy.space_eq _ (Wy.jn_vld s hv), Wy.jn_jn]
    simp only [Option.bind_some, if_true]
    rw [Wy.same_eq (Wy.jn s) s (by omega) (by omega) (Wy.ws_jn s) (60 + 3940) (by omega) (by omega)]
    simp only [Option.bind_some, Bool.not_true]
    exact Wy.j0 s n m hv (by omega) (by omega) 3998 (by omega)
  · rw [if_neg hv]
end Go.Proofs.YtlekfhnlhdmekaaGreatDoor.T
