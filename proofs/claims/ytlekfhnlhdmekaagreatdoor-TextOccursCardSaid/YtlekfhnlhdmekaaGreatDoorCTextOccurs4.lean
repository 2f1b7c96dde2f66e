/- Part 4 of the proof of TextOccurs: the functions that it calls return what their plain descriptions say. -/
import Derived.Test.YtlekfhnlhdmekaaGreatDoorCTextOccurs2
import Derived.Test.YtlekfhnlhdmekaaGreatDoorCTextOccurs3
import Derived.Lib.Hide
import Derived.WalkSpells
import Derived.Lib.Strings
import Derived.Deep.LoopGhost
import Derived.RangeFuncNested
import Derived.RangeFuncLeaves
import Derived.Test.YtlekfhnlhdmekaaGreatDoorCTextOccurs1
import Derived.Stop.RegionWithIn
import Derived.Shelf.RegionOpen
import Derived.StillTailTactics

-- Written by a program of this session (mp.py over the kit's print.py), out of the translation.
namespace Go.Proofs.YtlekfhnlhdmekaaGreatDoor.T
set_option linter.unusedSimpArgs false
open Go.RowKit Go.Proofs.YtlekfhnlhdmekaaGreatDoorW.PrintWords Go.Proofs.YtlekfhnlhdmekaaGreatDoorW.PrintLast Go.Proofs.YtlekfhnlhdmekaaGreatDoorW.PrintMore
attribute [local go_sem] max2_int min2_int max_two min_two max_three min_three max_four min_four   -- for this text's walks alone
set_option linter.unusedVariables false
set_option linter.unusedSimpArgs false

/-! ### qanatlaw02_head: function 15 -/
def qanatlaw02_head.f (k : Nat)  : Option (Bool) := (text_Center.f (⟨#[97, 98, 99]⟩ : ByteArray) 8 45).bind fun bt171 => ((text_DelWord.f (⟨#[78, 111, 119, 32, 105, 115, 32, 116, 104, 101, 32, 32, 116, 105, 109, 101]⟩ : ByteArray) 2 2).bind fun bt173 => ((text_LastPos.f k (⟨#[32]⟩ : ByteArray) (⟨#[97, 98, 99, 32, 100, 101, 102, 32, 103, 104, 105]⟩ : ByteArray) 7).bind fun bt175 => ((text_Translate.f (⟨#[97, 98, 99, 100, 101, 102]⟩ : ByteArray) (⟨#[49, 50]⟩ : ByteArray) (⟨#[101, 99]⟩ : ByteArray) 46).bind fun bt177 => ((text_BitXor.f (⟨#[65]⟩ : ByteArray) (⟨#[65]⟩ : ByteArray) (-1)).bind fun bt179 => ((text_X2C.f k (⟨#[54, 49, 54, 50]⟩ : ByteArray)).bind fun bt181 => (if bt171.2 = 0 then (if bt171.1.toList = ([45, 45, 97, 98, 99, 45, 45, 45] : List UInt8) then (if bt173.2 = 0 then (if bt173.1.toList = ([78, 111, 119, 32, 116, 105, 109, 101] : List UInt8) then (if bt175.2 = 0 then (if bt175.1 = 4 then (if bt177.2 = 0 then (if bt177.1.toList = ([97, 98, 50, 100, 49, 102] : List UInt8) then (if bt179.2 = 8 then (if bt181.2 = 0 then (if bt181.1.toList = ([97, 98] : List UInt8) then ((text_Valid.f (⟨#[97]⟩ : ByteArray)).bind fun t183 => (if t183 = true then ((text_Valid.f (⟨#[10]⟩ : ByteArray)).bind fun t184 => (some (!t184))) else (some false))) else (some false)) else (some false)) else (some false)) else (some false)) else (some false)) else (some false)) else (some false)) else (some false)) else (some false)) else (some false)) else (some false)))))))
theorem qanatlaw02_head.mono : ∀ k, LeO (qanatlaw02_head.f k ) (qanatlaw02_head.f (k + 1) ) := by
  intro  k
  unfold qanatlaw02_head.f
  repeat' first
      | (with_reducible exact text_LastPos.mono _ _ _ _)
      | (with_reducible exact text_X2C.mono _ _)
      | (with_reducible exact LeO.refl _)
      | (with_reducible exact LeO.none _)
      | (with_reducible refine LeO.ite ?_ ?_)
      | (with_reducible refine LeO.bind ?_ (fun _ => ?_))
      | exact text_LastPos.mono _ _ _ _
      | exact text_X2C.mono _ _
      | exact LeO.none _
      | refine LeO.ite ?_ ?_
      | refine LeO.bind ?_ (fun _ => ?_)
set_option maxHeartbeats 8000000 in
set_option maxRecDepth 100000 in
theorem qanatlaw02_head.calls (k : Nat)  (r : Bool) (w : World) (hT : TabOK w) (h : qanatlaw02_head.f k  = some r) :
    Calls Tryz.prog 15 #[] w fun e w' => e = .returned (.bool r) ∧ Below w.heap.size w w' := by
  have HB := Aside0.mk (Below.refl w.heap.size w)
  have H : ((text_Center.f (⟨#[97, 98, 99]⟩ : ByteArray) 8 45).bind fun bt171 => ((text_DelWord.f (⟨#[78, 111, 119, 32, 105, 115, 32, 116, 104, 101, 32, 32, 116, 105, 109, 101]⟩ : ByteArray) 2 2).bind fun bt173 => ((text_LastPos.f k (⟨#[32]⟩ : ByteArray) (⟨#[97, 98, 99, 32, 100, 101, 102, 32, 103, 104, 105]⟩ : ByteArray) 7).bind fun bt175 => ((text_Translate.f (⟨#[97, 98, 99, 100, 101, 102]⟩ : ByteArray) (⟨#[49, 50]⟩ : ByteArray) (⟨#[101, 99]⟩ : ByteArray) 46).bind fun bt177 => ((text_BitXor.f (⟨#[65]⟩ : ByteArray) (⟨#[65]⟩ : ByteArray) (-1)).bind fun bt179 => ((text_X2C.f k (⟨#[54, 49, 54, 50]⟩ : ByteArray)).bind fun bt181 => (if bt171.2 = 0 then (if bt171.1.toList = ([45, 45, 97, 98, 99, 45, 45, 45] : List UInt8) then (if bt173.2 = 0 then (if bt173.1.toList = ([78, 111, 119, 32, 116, 105, 109, 101] : List UInt8) then (if bt175.2 = 0 then (if bt175.1 = 4 then (if bt177.2 = 0 then (if bt177.1.toList = ([97, 98, 50, 100, 49, 102] : List UInt8) then (if bt179.2 = 8 then (if bt181.2 = 0 then (if bt181.1.toList = ([97, 98] : List UInt8) then ((text_Valid.f (⟨#[97]⟩ : ByteArray)).bind fun t183 => (if t183 = true then ((text_Valid.f (⟨#[10]⟩ : ByteArray)).bind fun t184 => (some (!t184))) else (some false))) else (some false)) else (some false)) else (some false)) else (some false)) else (some false)) else (some false)) else (some false)) else (some false)) else (some false)) else (some false)) else (some false)))))))) = some r := h
  clear h
  replace H := Option.bind_eq_some_iff.mp H
  obtain ⟨⟨t171, t172⟩, A10, H⟩ := H
  replace H : ((text_DelWord.f (⟨#[78, 111, 119, 32, 105, 115, 32, 116, 104, 101, 32, 32, 116, 105, 109, 101]⟩ : ByteArray) 2 2).bind fun bt173 => ((text_LastPos.f k (⟨#[32]⟩ : ByteArray) (⟨#[97, 98, 99, 32, 100, 101, 102, 32, 103, 104, 105]⟩ : ByteArray) 7).bind fun bt175 => ((text_Translate.f (⟨#[97, 98, 99, 100, 101, 102]⟩ : ByteArray) (⟨#[49, 50]⟩ : ByteArray) (⟨#[101, 99]⟩ : ByteArray) 46).bind fun bt177 => ((text_BitXor.f (⟨#[65]⟩ : ByteArray) (⟨#[65]⟩ : ByteArray) (-1)).bind fun bt179 => ((text_X2C.f k (⟨#[54, 49, 54, 50]⟩ : ByteArray)).bind fun bt181 => (if t172 = 0 then (if t171.toList = ([45, 45, 97, 98, 99, 45, 45, 45] : List UInt8) then (if bt173.2 = 0 then (if bt173.1.toList = ([78, 111, 119, 32, 116, 105, 109, 101] : List UInt8) then (if bt175.2 = 0 then (if bt175.1 = 4 then (if bt177.2 = 0 then (if bt177.1.toList = ([97, 98, 50, 100, 49, 102] : List UInt8) then (if bt179.2 = 8 then (if bt181.2 = 0 then (if bt181.1.toList = ([97, 98] : List UInt8) then ((text_Valid.f (⟨#[97]⟩ : ByteArray)).bind fun t183 => (if t183 = true then ((text_Valid.f (⟨#[10]⟩ : ByteArray)).bind fun t184 => (some (!t184))) else (some false))) else (some false)) else (some false)) else (some false)) else (some false)) else (some false)) else (some false)) else (some false)) else (some false)) else (some false)) else (some false)) else (some false))))))) = some r := H
  have A1 := Aside0.mk A10
  clear A10
  replace H := Option.bind_eq_some_iff.mp H
  obtain ⟨⟨t173, t174⟩, A20, H⟩ := H
  replace H : ((text_LastPos.f k (⟨#[32]⟩ : ByteArray) (⟨#[97, 98, 99, 32, 100, 101, 102, 32, 103, 104, 105]⟩ : ByteArray) 7).bind fun bt175 => ((text_Translate.f (⟨#[97, 98, 99, 100, 101, 102]⟩ : ByteArray) (⟨#[49, 50]⟩ : ByteArray) (⟨#[101, 99]⟩ : ByteArray) 46).bind fun bt177 => ((text_BitXor.f (⟨#[65]⟩ : ByteArray) (⟨#[65]⟩ : ByteArray) (-1)).bind fun bt179 => ((text_X2C.f k (⟨#[54, 49, 54, 50]⟩ : ByteArray)).bind fun bt181 => (if t172 = 0 then (if t171.toList = ([45, 45, 97, 98, 99, 45, 45, 45] : List UInt8) then (if t174 = 0 then (if t173.toList = ([78, 111, 119, 32, 116, 105, 109, 101] : List UInt8) then (if bt175.2 = 0 then (if bt175.1 = 4 then (if bt177.2 = 0 then (if bt177.1.toList = ([97, 98, 50, 100, 49, 102] : List UInt8) then (if bt179.2 = 8 then (if bt181.2 = 0 then (if bt181.1.toList = ([97, 98] : List UInt8) then ((text_Valid.f (⟨#[97]⟩ : ByteArray)).bind fun t183 => (if t183 = true then ((text_Valid.f (⟨#[10]⟩ : ByteArray)).bind fun t184 => (some (!t184))) else (some false))) else (some false)) else (some false)) else (some false)) else (some false)) else (some false)) else (some false)) else (some false)) else (some false)) else (some false)) else (some false)) else (some false)))))) = some r := H
  have A2 := Aside0.mk A20
  clear A20
  replace H := Option.bind_eq_some_iff.mp H
  obtain ⟨⟨t175, t176⟩, A30, H⟩ := H
  replace H : ((text_Translate.f (⟨#[97, 98, 99, 100, 101, 102]⟩ : ByteArray) (⟨#[49, 50]⟩ : ByteArray) (⟨#[101, 99]⟩ : ByteArray) 46).bind fun bt177 => ((text_BitXor.f (⟨#[65]⟩ : ByteArray) (⟨#[65]⟩ : ByteArray) (-1)).bind fun bt179 => ((text_X2C.f k (⟨#[54, 49, 54, 50]⟩ : ByteArray)).bind fun bt181 => (if t172 = 0 then (if t171.toList = ([45, 45, 97, 98, 99, 45, 45, 45] : List UInt8) then (if t174 = 0 then (if t173.toList = ([78, 111, 119, 32, 116, 105, 109, 101] : List UInt8) then (if t176 = 0 then (if t175 = 4 then (if bt177.2 = 0 then (if bt177.1.toList = ([97, 98, 50, 100, 49, 102] : List UInt8) then (if bt179.2 = 8 then (if bt181.2 = 0 then (if bt181.1.toList = ([97, 98] : List UInt8) then ((text_Valid.f (⟨#[97]⟩ : ByteArray)).bind fun t183 => (if t183 = true then ((text_Valid.f (⟨#[10]⟩ : ByteArray)).bind fun t184 => (some (!t184))) else (some false))) else (some false)) else (some false)) else (some false)) else (some false)) else (some false)) else (some false)) else (some false)) else (some false)) else (some false)) else (some false)) else (some false))))) = some r := H
  have A3 := Aside0.mk A30
  clear A30
  replace H := Option.bind_eq_some_iff.mp H
  obtain ⟨⟨t177, t178⟩, A40, H⟩ := H
  replace H : ((text_BitXor.f (⟨#[65]⟩ : ByteArray) (⟨#[65]⟩ : ByteArray) (-1)).bind fun bt179 => ((text_X2C.f k (⟨#[54, 49, 54, 50]⟩ : ByteArray)).bind fun bt181 => (if t172 = 0 then (if t171.toList = ([45, 45, 97, 98, 99, 45, 45, 45] : List UInt8) then (if t174 = 0 then (if t173.toList = ([78, 111, 119, 32, 116, 105, 109, 101] : List UInt8) then (if t176 = 0 then (if t175 = 4 then (if t178 = 0 then (if t177.toList = ([97, 98, 50, 100, 49, 102] : List UInt8) then (if bt179.2 = 8 then (if bt181.2 = 0 then (if bt181.1.toList = ([97, 98] : List UInt8) then ((text_Valid.f (⟨#[97]⟩ : ByteArray)).bind fun t183 => (if t183 = true then ((text_Valid.f (⟨#[10]⟩ : ByteArray)).bind fun t184 => (some (!t184))) else (some false))) else (some false)) else (some false)) else (some false)) else (some false)) else (some false)) else (some false)) else (some false)) else (some false)) else (some false)) else (some false)) else (some false)))) = some r := H
  have A4 := Aside0.mk A40
  clear A40
  replace H := Option.bind_eq_some_iff.mp H
  obtain ⟨⟨t179, t180⟩, A50, H⟩ := H
  replace H : ((text_X2C.f k (⟨#[54, 49, 54, 50]⟩ : ByteArray)).bind fun bt181 => (if t172 = 0 then (if t171.toList = ([45, 45, 97, 98, 99, 45, 45, 45] : List UInt8) then (if t174 = 0 then (if t173.toList = ([78, 111, 119, 32, 116, 105, 109, 101] : List UInt8) then (if t176 = 0 then (if t175 = 4 then (if t178 = 0 then (if t177.toList = ([97, 98, 50, 100, 49, 102] : List UInt8) then (if t180 = 8 then (if bt181.2 = 0 then (if bt181.1.toList = ([97, 98] : List UInt8) then ((text_Valid.f (⟨#[97]⟩ : ByteArray)).bind fun t183 => (if t183 = true then ((text_Valid.f (⟨#[10]⟩ : ByteArray)).bind fun t184 => (some (!t184))) else (some false))) else (some false)) else (some false)) else (some false)) else (some false)) else (some false)) else (some false)) else (some false)) else (some false)) else (some false)) else (some false)) else (some false))) = some r := H
  have A5 := Aside0.mk A50
  clear A50
  replace H := Option.bind_eq_some_iff.mp H
  obtain ⟨⟨t181, t182⟩, A60, H⟩ := H
  replace H : (if t172 = 0 then (if t171.toList = ([45, 45, 97, 98, 99, 45, 45, 45] : List UInt8) then (if t174 = 0 then (if t173.toList = ([78, 111, 119, 32, 116, 105, 109, 101] : List UInt8) then (if t176 = 0 then (if t175 = 4 then (if t178 = 0 then (if t177.toList = ([97, 98, 50, 100, 49, 102] : List UInt8) then (if t180 = 8 then (if t182 = 0 then (if t181.toList = ([97, 98] : List UInt8) then ((text_Valid.f (⟨#[97]⟩ : ByteArray)).bind fun t183 => (if t183 = true then ((text_Valid.f (⟨#[10]⟩ : ByteArray)).bind fun t184 => (some (!t184))) else (some false))) else (some false)) else (some false)) else (some false)) else (some false)) else (some false)) else (some false)) else (some false)) else (some false)) else (some false)) else (some false)) else (some false)) = some r := H
  have A6 := Aside0.mk A60
  clear A60
  by_cases c7 : t172 = 0
  · rw [if_pos c7] at H
    have c7b0 : (t172 == 0) = true := beq_iff_eq.mpr c7
    have c7b1 : (t172 != 0) = false := bne_eq_false_iff_eq.mpr c7
    clear c7
    by_cases c8 : t171.toList = ([45, 45, 97, 98, 99, 45, 45, 45] : List UInt8)
    · rw [if_pos c8] at H
      have c8b0 : (t171.toList == ([45, 45, 97, 98, 99, 45, 45, 45] : List UInt8)) = true := beq_iff_eq.mpr c8
      have c8b1 : (t171.toList != ([45, 45, 97, 98, 99, 45, 45, 45] : List UInt8)) = false := bne_eq_false_iff_eq.mpr c8
      clear c8
      by_cases c9 : t174 = 0
      · rw [if_pos c9] at H
        have c9b0 : (t174 == 0) = true := beq_iff_eq.mpr c9
        have c9b1 : (t174 != 0) = false := bne_eq_false_iff_eq.mpr c9
        clear c9
        by_cases c10 : t173.toList = ([78, 111, 119, 32, 116, 105, 109, 101] : List UInt8)
        · rw [if_pos c10] at H
          have c10b0 : (t173.toList == ([78, 111, 119, 32, 116, 105, 109, 101] : List UInt8)) = true := beq_iff_eq.mpr c10
          have c10b1 : (t173.toList != ([78, 111, 119, 32, 116, 105, 109, 101] : List UInt8)) = false := bne_eq_false_iff_eq.mpr c10
          clear c10
          by_cases c11 : t176 = 0
          · rw [if_pos c11] at H
            have c11b0 : (t176 == 0) = true := beq_iff_eq.mpr c11
            have c11b1 : (t176 != 0) = false := bne_eq_false_iff_eq.mpr c11
            clear c11
            by_cases c12 : t175 = 4
            · rw [if_pos c12] at H
              have c12b0 : (t175 == 4) = true := beq_iff_eq.mpr c12
              have c12b1 : (t175 != 4) = false := bne_eq_false_iff_eq.mpr c12
              clear c12
              by_cases c13 : t178 = 0
              · rw [if_pos c13] at H
                have c13b0 : (t178 == 0) = true := beq_iff_eq.mpr c13
                have c13b1 : (t178 != 0) = false := bne_eq_false_iff_eq.mpr c13
                clear c13
                by_cases c14 : t177.toList = ([97, 98, 50, 100, 49, 102] : List UInt8)
                · rw [if_pos c14] at H
                  have c14b0 : (t177.toList == ([97, 98, 50, 100, 49, 102] : List UInt8)) = true := beq_iff_eq.mpr c14
                  have c14b1 : (t177.toList != ([97, 98, 50, 100, 49, 102] : List UInt8)) = false := bne_eq_false_iff_eq.mpr c14
                  clear c14
                  by_cases c15 : t180 = 8
                  · rw [if_pos c15] at H
                    have c15b0 : (t180 == 8) = true := beq_iff_eq.mpr c15
                    have c15b1 : (t180 != 8) = false := bne_eq_false_iff_eq.mpr c15
                    clear c15
                    by_cases c16 : t182 = 0
                    · rw [if_pos c16] at H
                      have c16b0 : (t182 == 0) = true := beq_iff_eq.mpr c16
                      have c16b1 : (t182 != 0) = false := bne_eq_false_iff_eq.mpr c16
                      clear c16
                      by_cases c17 : t181.toList = ([97, 98] : List UInt8)
                      · rw [if_pos c17] at H
                        have c17b0 : (t181.toList == ([97, 98] : List UInt8)) = true := beq_iff_eq.mpr c17
                        have c17b1 : (t181.toList != ([97, 98] : List UInt8)) = false := bne_eq_false_iff_eq.mpr c17
                        clear c17
                        replace H := Option.bind_eq_some_iff.mp H
                        obtain ⟨t183, A180, H⟩ := H
                        replace H : (if t183 = true then ((text_Valid.f (⟨#[10]⟩ : ByteArray)).bind fun t184 => (some (!t184))) else (some false)) = some r := H
                        have A18 := Aside0.mk A180
                        clear A180
                        by_cases c19 : t183 = true
                        · subst c19
                          have H1 : ((text_Valid.f (⟨#[10]⟩ : ByteArray)).bind fun t184 => (some (!t184))) = some r := by rw [if_pos rfl] at H; exact H
                          clear H
                          have H := H1
                          clear H1
                          replace H := Option.bind_eq_some_iff.mp H
                          obtain ⟨t184, A200, H⟩ := H
                          replace H : (some (!t184)) = some r := H
                          have A20 := Aside0.mk A200
                          clear A200
                          obtain rfl := Option.some.inj H
                          go_enter Tryz.func15, Tryz.ntmps15
                          go_wp2_with (first | ((with_reducible refine gate_callee (f := 84) rfl ?_); refine goesL_ (some 15) rfl rfl Tryz.func84 (by kernel_rfl) rfl #[.string (⟨#[97, 98, 99]⟩ : ByteArray), .int .i64 8, .int .u8 45] rfl (by (try simp only [List.map_toArray, List.map_cons, List.map_nil]); first | done | rfl | (simp only [List.length_drop, List.length_take]; rfl)) ?_; (with_reducible refine (text_Center.calls (⟨#[97, 98, 99]⟩ : ByteArray) 8 45 t171 t172 _ A1.out).mono ?_); rintro e w21 ⟨rfl, hb⟩; refine ⟨_, rfl, ?_⟩; have n0_ := Aside0.mk (below_step (by repeat (first | (with_reducible first | exact HB.out | apply below_alloc | apply pw_below_drewN | apply below_drew1) | exact HB.out)) hb); clear HB; have HB := n0_; clear n0_; (try clear hb); (try clear hb2); (try clear hk); (try clear hi)) | ((with_reducible refine gate_callee (f := 42) rfl ?_); refine goesL_ (some 19) rfl rfl Tryz.func42 (by kernel_rfl) rfl #[.string (⟨#[78, 111, 119, 32, 105, 115, 32, 116, 104, 101, 32, 32, 116, 105, 109, 101]⟩ : ByteArray), .int .i64 2, .int .i64 2] rfl (by (try simp only [List.map_toArray, List.map_cons, List.map_nil]); first | done | rfl | (simp only [List.length_drop, List.length_take]; rfl)) ?_; (with_reducible refine (text_DelWord.calls (⟨#[78, 111, 119, 32, 105, 115, 32, 116, 104, 101, 32, 32, 116, 105, 109, 101]⟩ : ByteArray) 2 2 t173 t174 _ A2.out).mono ?_); rintro e w22 ⟨rfl, hb⟩; refine ⟨_, rfl, ?_⟩; have n0_ := Aside0.mk (below_step (by repeat (first | (with_reducible first | exact HB.out | apply below_alloc | apply pw_below_drewN | apply below_drew1) | exact HB.out)) hb); clear HB; have HB := n0_; clear n0_; (try clear hb); (try clear hb2); (try clear hk); (try clear hi)) | ((with_reducible refine gate_callee (f := 58) rfl ?_); refine goesL_ (some 23) rfl rfl Tryz.func58 (by kernel_rfl) rfl #[.string (⟨#[32]⟩ : ByteArray), .string (⟨#[97, 98, 99, 32, 100, 101, 102, 32, 103, 104, 105]⟩ : ByteArray), .int .i64 7] rfl (by (try simp only [List.map_toArray, List.map_cons, List.map_nil]); first | done | rfl | (simp only [List.length_drop, List.length_take]; rfl)) ?_; (with_reducible refine (text_LastPos.calls k (⟨#[32]⟩ : ByteArray) (⟨#[97, 98, 99, 32, 100, 101, 102, 32, 103, 104, 105]⟩ : ByteArray) 7 t175 t176 _ A3.out).mono ?_); rintro e w23 ⟨rfl, hb⟩; refine ⟨_, rfl, ?_⟩; have n0_ := Aside0.mk (below_step (by repeat (first | (with_reducible first | exact HB.out | apply below_alloc | apply pw_below_drewN | apply below_drew1) | exact HB.out)) hb); clear HB; have HB := n0_; clear n0_; (try clear hb); (try clear hb2); (try clear hk); (try clear hi)) | ((with_reducible refine gate_callee (f := 24) rfl ?_); refine goesL_ (some 27) rfl rfl Tryz.func24 (by kernel_rfl) rfl #[.string (⟨#[97, 98, 99, 100, 101, 102]⟩ : ByteArray), .string (⟨#[49, 50]⟩ : ByteArray), .string (⟨#[101, 99]⟩ : ByteArray), .int .u8 46] rfl (by (try simp only [List.map_toArray, List.map_cons, List.map_nil]); first | done | rfl | (simp only [List.length_drop, List.length_take]; rfl)) ?_; (with_reducible refine (text_Translate.calls (⟨#[97, 98, 99, 100, 101, 102]⟩ : ByteArray) (⟨#[49, 50]⟩ : ByteArray) (⟨#[101, 99]⟩ : ByteArray) 46 t177 t178 _ A4.out).mono ?_); rintro e w24 ⟨rfl, hb⟩; refine ⟨_, rfl, ?_⟩; have n0_ := Aside0.mk (below_step (by repeat (first | (with_reducible first | exact HB.out | apply below_alloc | apply pw_below_drewN | apply below_drew1) | exact HB.out)) hb); clear HB; have HB := n0_; clear n0_; (try clear hb); (try clear hb2); (try clear hk); (try clear hi)) | ((with_reducible refine gate_callee (f := 19) rfl ?_); refine goesL_ (some 31) rfl rfl Tryz.func19 (by kernel_rfl) rfl #[.string (⟨#[65]⟩ : ByteArray), .string (⟨#[65]⟩ : ByteArray), .int .i64 (-1)] rfl (by (try simp only [List.map_toArray, List.map_cons, List.map_nil]); first | done | rfl | (simp only [List.length_drop, List.length_take]; rfl)) ?_; (with_reducible refine (text_BitXor.calls (⟨#[65]⟩ : ByteArray) (⟨#[65]⟩ : ByteArray) (-1) t179 t180 _ A5.out).mono ?_); rintro e w25 ⟨rfl, hb⟩; refine ⟨_, rfl, ?_⟩; have n0_ := Aside0.mk (below_step (by repeat (first | (with_reducible first | exact HB.out | apply below_alloc | apply pw_below_drewN | apply below_drew1) | exact HB.out)) hb); clear HB; have HB := n0_; clear n0_; (try clear hb); (try clear hb2); (try clear hk); (try clear hi)) | ((with_reducible refine gate_callee (f := 76) rfl ?_); refine goesL_ (some 35) rfl rfl Tryz.func76 (by kernel_rfl) rfl #[.string (⟨#[54, 49, 54, 50]⟩ : ByteArray)] rfl (by (try simp only [List.map_toArray, List.map_cons, List.map_nil]); first | done | rfl | (simp only [List.length_drop, List.length_take]; rfl)) ?_; (with_reducible refine (text_X2C.calls k (⟨#[54, 49, 54, 50]⟩ : ByteArray) t181 t182 _ (TabOK.of_below hT (by repeat (first | (with_reducible first | exact HB.out | apply below_alloc | apply pw_below_drewN | apply below_drew1) | exact HB.out))) A6.out).mono ?_); rintro e w26 ⟨rfl, hb⟩; refine ⟨_, rfl, ?_⟩; have n0_ := Aside0.mk (below_step (by repeat (first | (with_reducible first | exact HB.out | apply below_alloc | apply pw_below_drewN | apply below_drew1) | exact HB.out)) hb); clear HB; have HB := n0_; clear n0_; (try clear hb); (try clear hb2); (try clear hk); (try clear hi)) | (go_at_call 65; (with_reducible refine (text_Valid.calls (⟨#[97]⟩ : ByteArray) true _ A18.out).mono ?_); rintro e w27 ⟨rfl, hb⟩; have n0_ := Aside0.mk (below_step (by repeat (first | (with_reducible first | exact HB.out | apply below_alloc | apply pw_below_drewN | apply below_drew1) | exact HB.out)) hb); clear HB; have HB := n0_; clear n0_; (try clear hb); (try clear hb2); (try clear hk); (try clear hi)) | (go_at_call 65; (with_reducible refine (text_Valid.calls (⟨#[10]⟩ : ByteArray) t184 _ A20.out).mono ?_); rintro e w28 ⟨rfl, hb⟩; have n0_ := Aside0.mk (below_step (by repeat (first | (with_reducible first | exact HB.out | apply below_alloc | apply pw_below_drewN | apply below_drew1) | exact HB.out)) hb); clear HB; have HB := n0_; clear n0_; (try clear hb); (try clear hb2); (try clear hk); (try clear hi)))
                          go_ret
                          exact ⟨by first | rfl | (simp [errW_none, errW_some] <;> rfl) | (simp [*, errW_none, errW_some] <;> rfl), by repeat (first | (with_reducible first | exact HB.out | apply below_alloc | apply pw_below_drewN | apply below_drew1) | exact HB.out)⟩
                        · replace c19 := Bool.eq_false_iff.mpr c19
                          subst c19
                          have H1 : (some false) = some r := by rw [if_neg (show ¬ (false = true) by decide)] at H; exact H
                          clear H
                          have H := H1
                          clear H1
                          obtain rfl := Option.some.inj H
                          go_enter Tryz.func15, Tryz.ntmps15
                          go_wp2_with (first | ((with_reducible refine gate_callee (f := 84) rfl ?_); refine goesL_ (some 15) rfl rfl Tryz.func84 (by kernel_rfl) rfl #[.string (⟨#[97, 98, 99]⟩ : ByteArray), .int .i64 8, .int .u8 45] rfl (by (try simp only [List.map_toArray, List.map_cons, List.map_nil]); first | done | rfl | (simp only [List.length_drop, List.length_take]; rfl)) ?_; (with_reducible refine (text_Center.calls (⟨#[97, 98, 99]⟩ : ByteArray) 8 45 t171 t172 _ A1.out).mono ?_); rintro e w29 ⟨rfl, hb⟩; refine ⟨_, rfl, ?_⟩; have n0_ := Aside0.mk (below_step (by repeat (first | (with_reducible first | exact HB.out | apply below_alloc | apply pw_below_drewN | apply below_drew1) | exact HB.out)) hb); clear HB; have HB := n0_; clear n0_; (try clear hb); (try clear hb2); (try clear hk); (try clear hi)) | ((with_reducible refine gate_callee (f := 42) rfl ?_); refine goesL_ (some 19) rfl rfl Tryz.func42 (by kernel_rfl) rfl #[.string (⟨#[78, 111, 119, 32, 105, 115, 32, 116, 104, 101, 32, 32, 116, 105, 109, 101]⟩ : ByteArray), .int .i64 2, .int .i64 2] rfl (by (try simp only [List.map_toArray, List.map_cons, List.map_nil]); first | done | rfl | (simp only [List.length_drop, List.length_take]; rfl)) ?_; (with_reducible refine (text_DelWord.calls (⟨#[78, 111, 119, 32, 105, 115, 32, 116, 104, 101, 32, 32, 116, 105, 109, 101]⟩ : ByteArray) 2 2 t173 t174 _ A2.out).mono ?_); rintro e w30 ⟨rfl, hb⟩; refine ⟨_, rfl, ?_⟩; have n0_ := Aside0.mk (below_step (by repeat (first | (with_reducible first | exact HB.out | apply below_alloc | apply pw_below_drewN | apply below_drew1) | exact HB.out)) hb); clear HB; have HB := n0_; clear n0_; (try clear hb); (try clear hb2); (try clear hk); (try clear hi)) | ((with_reducible refine gate_callee (f := 58) rfl ?_); refine goesL_ (some 23) rfl rfl Tryz.func58 (by kernel_rfl) rfl #[.string (⟨#[32]⟩ : ByteArray), .string (⟨#[97, 98, 99, 32, 100, 101, 102, 32, 103, 104, 105]⟩ : ByteArray), .int .i64 7] rfl (by (try simp only [List.map_toArray, List.map_cons, List.map_nil]); first | done | rfl | (simp only [List.length_drop, List.length_take]; rfl)) ?_; (with_reducible refine (text_LastPos.calls k (⟨#[32]⟩ : ByteArray) (⟨#[97, 98, 99, 32, 100, 101, 102, 32, 103, 104, 105]⟩ : ByteArray) 7 t175 t176 _ A3.out).mono ?_); rintro e w31 ⟨rfl, hb⟩; refine ⟨_, rfl, ?_⟩; have n0_ := Aside0.mk (below_step (by repeat (first | (with_reducible first | exact HB.out | apply below_alloc | apply pw_below_drewN | apply below_drew1) | exact HB.out)) hb); clear HB; have HB := n0_; clear n0_; (try clear hb); (try clear hb2); (try clear hk); (try clear hi)) | ((with_reducible refine gate_callee (f := 24) rfl ?_); refine goesL_ (some 27) rfl rfl Tryz.func24 (by kernel_rfl) rfl #[.string (⟨#[97, 98, 99, 100, 101, 102]⟩ : ByteArray), .string (⟨#[49, 50]⟩ : ByteArray), .string (⟨#[101, 99]⟩ : ByteArray), .int .u8 46] rfl (by (try simp only [List.map_toArray, List.map_cons, List.map_nil]); first | done | rfl | (simp only [List.length_drop, List.length_take]; rfl)) ?_; (with_reducible refine (text_Translate.calls (⟨#[97, 98, 99, 100, 101, 102]⟩ : ByteArray) (⟨#[49, 50]⟩ : ByteArray) (⟨#[101, 99]⟩ : ByteArray) 46 t177 t178 _ A4.out).mono ?_); rintro e w32 ⟨rfl, hb⟩; refine ⟨_, rfl, ?_⟩; have n0_ := Aside0.mk (below_step (by repeat (first | (with_reducible first | exact HB.out | apply below_alloc | apply pw_below_drewN | apply below_drew1) | exact HB.out)) hb); clear HB; have HB := n0_; clear n0_; (try clear hb); (try clear hb2); (try clear hk); (try clear hi)) | ((with_reducible refine gate_callee (f := 19) rfl ?_); refine goesL_ (some 31) rfl rfl Tryz.func19 (by kernel_rfl) rfl #[.string (⟨#[65]⟩ : ByteArray), .string (⟨#[65]⟩ : ByteArray), .int .i64 (-1)] rfl (by (try simp only [List.map_toArray, List.map_cons, List.map_nil]); first | done | rfl | (simp only [List.length_drop, List.length_take]; rfl)) ?_; (with_reducible refine (text_BitXor.calls (⟨#[65]⟩ : ByteArray) (⟨#[65]⟩ : ByteArray) (-1) t179 t180 _ A5.out).mono ?_); rintro e w33 ⟨rfl, hb⟩; refine ⟨_, rfl, ?_⟩; have n0_ := Aside0.mk (below_step (by repeat (first | (with_reducible first | exact HB.out | apply below_alloc | apply pw_below_drewN | apply below_drew1) | exact HB.out)) hb); clear HB; have HB := n0_; clear n0_; (try clear hb); (try clear hb2); (try clear hk); (try clear hi)) | ((with_reducible refine gate_callee (f := 76) rfl ?_); refine goesL_ (some 35) rfl rfl Tryz.func76 (by kernel_rfl) rfl #[.string (⟨#[54, 49, 54, 50]⟩ : ByteArray)] rfl (by (try simp only [List.map_toArray, List.map_cons, List.map_nil]); first | done | rfl | (simp only [List.length_drop, List.length_take]; rfl)) ?_; (with_reducible refine (text_X2C.calls k (⟨#[54, 49, 54, 50]⟩ : ByteArray) t181 t182 _ (TabOK.of_below hT (by repeat (first | (with_reducible first | exact HB.out | apply below_alloc | apply pw_below_drewN | apply below_drew1) | exact HB.out))) A6.out).mono ?_); rintro e w34 ⟨rfl, hb⟩; refine ⟨_, rfl, ?_⟩; have n0_ := Aside0.mk (below_step (by repeat (first | (with_reducible first | exact HB.out | apply below_alloc | apply pw_below_drewN | apply below_drew1) | exact HB.out)) hb); clear HB; have HB := n0_; clear n0_; (try clear hb); (try clear hb2); (try clear hk); (try clear hi)) | (go_at_call 65; (with_reducible refine (text_Valid.calls (⟨#[97]⟩ : ByteArray) false _ A18.out).mono ?_); rintro e w35 ⟨rfl, hb⟩; have n0_ := Aside0.mk (below_step (by repeat (first | (with_reducible first | exact HB.out | apply below_alloc | apply pw_below_drewN | apply below_drew1) | exact HB.out)) hb); clear HB; have HB := n0_; clear n0_; (try clear hb); (try clear hb2); (try clear hk); (try clear hi)))
                          go_ret
                          exact ⟨by first | rfl | (simp [errW_none, errW_some] <;> rfl) | (simp [*, errW_none, errW_some] <;> rfl), by repeat (first | (with_reducible first | exact HB.out | apply below_alloc | apply pw_below_drewN | apply below_drew1) | exact HB.out)⟩
                      · rw [if_neg c17] at H
                        have c17b0 : (t181.toList == ([97, 98] : List UInt8)) = false := beq_eq_false_iff_ne.mpr c17
                        have c17b1 : (t181.toList != ([97, 98] : List UInt8)) = true := bne_iff_ne.mpr c17
                        obtain rfl := Option.some.inj H
                        go_enter Tryz.func15, Tryz.ntmps15
                        go_wp2_with (first | ((with_reducible refine gate_callee (f := 84) rfl ?_); refine goesL_ (some 15) rfl rfl Tryz.func84 (by kernel_rfl) rfl #[.string (⟨#[97, 98, 99]⟩ : ByteArray), .int .i64 8, .int .u8 45] rfl (by (try simp only [List.map_toArray, List.map_cons, List.map_nil]); first | done | rfl | (simp only [List.length_drop, List.length_take]; rfl)) ?_; (with_reducible refine (text_Center.calls (⟨#[97, 98, 99]⟩ : ByteArray) 8 45 t171 t172 _ A1.out).mono ?_); rintro e w36 ⟨rfl, hb⟩; refine ⟨_, rfl, ?_⟩; have n0_ := Aside0.mk (below_step (by repeat (first | (with_reducible first | exact HB.out | apply below_alloc | apply pw_below_drewN | apply below_drew1) | exact HB.out)) hb); clear HB; have HB := n0_; clear n0_; (try clear hb); (try clear hb2); (try clear hk); (try clear hi)) | ((with_reducible refine gate_callee (f := 42) rfl ?_); refine goesL_ (some 19) rfl rfl Tryz.func42 (by kernel_rfl) rfl #[.string (⟨#[78, 111, 119, 32, 105, 115, 32, 116, 104, 101, 32, 32, 116, 105, 109, 101]⟩ : ByteArray), .int .i64 2, .int .i64 2] rfl (by (try simp only [List.map_toArray, List.map_cons, List.map_nil]); first | done | rfl | (simp only [List.length_drop, List.length_take]; rfl)) ?_; (with_reducible refine (text_DelWord.calls (⟨#[78, 111, 119, 32, 105, 115, 32, 116, 104, 101, 32, 32, 116, 105, 109, 101]⟩ : ByteArray) 2 2 t173 t174 _ A2.out).mono ?_); rintro e w37 ⟨rfl, hb⟩; refine ⟨_, rfl, ?_⟩; have n0_ := Aside0.mk (below_step (by repeat (first | (with_reducible first | exact HB.out | apply below_alloc | apply pw_below_drewN | apply below_drew1) | exact HB.out)) hb); clear HB; have HB := n0_; clear n0_; (try clear hb); (try clear hb2); (try clear hk); (try clear hi)) | ((with_reducible refine gate_callee (f := 58) rfl ?_); refine goesL_ (some 23) rfl rfl Tryz.func58 (by kernel_rfl) rfl #[.string (⟨#[32]⟩ : ByteArray), .string (⟨#[97, 98, 99, 32, 100, 101, 102, 32, 103, 104, 105]⟩ : ByteArray), .int .i64 7] rfl (by (try simp only [List.map_toArray, List.map_cons, List.map_nil]); first | done | rfl | (simp only [List.length_drop, List.length_take]; rfl)) ?_; (with_reducible refine (text_LastPos.calls k (⟨#[32]⟩ : ByteArray) (⟨#[97, 98, 99, 32, 100, 101, 102, 32, 103, 104, 105]⟩ : ByteArray) 7 t175 t176 _ A3.out).mono ?_); rintro e w38 ⟨rfl, hb⟩; refine ⟨_, rfl, ?_⟩; have n0_ := Aside0.mk (below_step (by repeat (first | (with_reducible first | exact HB.out | apply below_alloc | apply pw_below_drewN | apply below_drew1) | exact HB.out)) hb); clear HB; have HB := n0_; clear n0_; (try clear hb); (try clear hb2); (try clear hk); (try clear hi)) | ((with_reducible refine gate_callee (f := 24) rfl ?_); refine goesL_ (some 27) rfl rfl Tryz.func24 (by kernel_rfl) rfl #[.string (⟨#[97, 98, 99, 100, 101, 102]⟩ : ByteArray), .string (⟨#[49, 50]⟩ : ByteArray), .string (⟨#[101, 99]⟩ : ByteArray), .int .u8 46] rfl (by (try simp only [List.map_toArray, List.map_cons, List.map_nil]); first | done | rfl | (simp only [List.length_drop, List.length_take]; rfl)) ?_; (with_reducible refine (text_Translate.calls (⟨#[97, 98, 99, 100, 101, 102]⟩ : ByteArray) (⟨#[49, 50]⟩ : ByteArray) (⟨#[101, 99]⟩ : ByteArray) 46 t177 t178 _ A4.out).mono ?_); rintro e w39 ⟨rfl, hb⟩; refine ⟨_, rfl, ?_⟩; have n0_ := Aside0.mk (below_step (by repeat (first | (with_reducible first | exact HB.out | apply below_alloc | apply pw_below_drewN | apply below_drew1) | exact HB.out)) hb); clear HB; have HB := n0_; clear n0_; (try clear hb); (try clear hb2); (try clear hk); (try clear hi)) | ((with_reducible refine gate_callee (f := 19) rfl ?_); refine goesL_ (some 31) rfl rfl Tryz.func19 (by kernel_rfl) rfl #[.string (⟨#[65]⟩ : ByteArray), .string (⟨#[65]⟩ : ByteArray), .int .i64 (-1)] rfl (by (try simp only [List.map_toArray, List.map_cons, List.map_nil]); first | done | rfl | (simp only [List.length_drop, List.length_take]; rfl)) ?_; (with_reducible refine (text_BitXor.calls (⟨#[65]⟩ : ByteArray) (⟨#[65]⟩ : ByteArray) (-1) t179 t180 _ A5.out).mono ?_); rintro e w40 ⟨rfl, hb⟩; refine ⟨_, rfl, ?_⟩; have n0_ := Aside0.mk (below_step (by repeat (first | (with_reducible first | exact HB.out | apply below_alloc | apply pw_below_drewN | apply below_drew1) | exact HB.out)) hb); clear HB; have HB := n0_; clear n0_; (try clear hb); (try clear hb2); (try clear hk); (try clear hi)) | ((with_reducible refine gate_callee (f := 76) rfl ?_); refine goesL_ (some 35) rfl rfl Tryz.func76 (by kernel_rfl) rfl #[.string (⟨#[54, 49, 54, 50]⟩ : ByteArray)] rfl (by (try simp only [List.map_toArray, List.map_cons, List.map_nil]); first | done | rfl | (simp only [List.length_drop, List.length_take]; rfl)) ?_; (with_reducible refine (text_X2C.calls k (⟨#[54, 49, 54, 50]⟩ : ByteArray) t181 t182 _ (TabOK.of_below hT (by repeat (first | (with_reducible first | exact HB.out | apply below_alloc | apply pw_below_drewN | apply below_drew1) | exact HB.out))) A6.out).mono ?_); rintro e w41 ⟨rfl, hb⟩; refine ⟨_, rfl, ?_⟩; have n0_ := Aside0.mk (below_step (by repeat (first | (with_reducible first | exact HB.out | apply below_alloc | apply pw_below_drewN | apply below_drew1) | exact HB.out)) hb); clear HB; have HB := n0_; clear n0_; (try clear hb); (try clear hb2); (try clear hk); (try clear hi)))
                        go_ret
                        exact ⟨by first | rfl | (simp [errW_none, errW_some] <;> rfl) | (simp [*, errW_none, errW_some] <;> rfl), by repeat (first | (with_reducible first | exact HB.out | apply below_alloc | apply pw_below_drewN | apply below_drew1) | exact HB.out)⟩
                    · rw [if_neg c16] at H
                      have c16b0 : (t182 == 0) = false := beq_eq_false_iff_ne.mpr c16
                      have c16b1 : (t182 != 0) = true := bne_iff_ne.mpr c16
                      obtain rfl := Option.some.inj H
                      go_enter Tryz.func15, Tryz.ntmps15
                      go_wp2_with (first | ((with_reducible refine gate_callee (f := 84) rfl ?_); refine goesL_ (some 15) rfl rfl Tryz.func84 (by kernel_rfl) rfl #[.string (⟨#[97, 98, 99]⟩ : ByteArray), .int .i64 8, .int .u8 45] rfl (by (try simp only [List.map_toArray, List.map_cons, List.map_nil]); first | done | rfl | (simp only [List.length_drop, List.length_take]; rfl)) ?_; (with_reducible refine (text_Center.calls (⟨#[97, 98, 99]⟩ : ByteArray) 8 45 t171 t172 _ A1.out).mono ?_); rintro e w42 ⟨rfl, hb⟩; refine ⟨_, rfl, ?_⟩; have n0_ := Aside0.mk (below_step (by repeat (first | (with_reducible first | exact HB.out | apply below_alloc | apply pw_below_drewN | apply below_drew1) | exact HB.out)) hb); clear HB; have HB := n0_; clear n0_; (try clear hb); (try clear hb2); (try clear hk); (try clear hi)) | ((with_reducible refine gate_callee (f := 42) rfl ?_); refine goesL_ (some 19) rfl rfl Tryz.func42 (by kernel_rfl) rfl #[.string (⟨#[78, 111, 119, 32, 105, 115, 32, 116, 104, 101, 32, 32, 116, 105, 109, 101]⟩ : ByteArray), .int .i64 2, .int .i64 2] rfl (by (try simp only [List.map_toArray, List.map_cons, List.map_nil]); first | done | rfl | (simp only [List.length_drop, List.length_take]; rfl)) ?_; (with_reducible refine (text_DelWord.calls (⟨#[78, 111, 119, 32, 105, 115, 32, 116, 104, 101, 32, 32, 116, 105, 109, 101]⟩ : ByteArray) 2 2 t173 t174 _ A2.out).mono ?_); rintro e w43 ⟨rfl, hb⟩; refine ⟨_, rfl, ?_⟩; have n0_ := Aside0.mk (below_step (by repeat (first | (with_reducible first | exact HB.out | apply below_alloc | apply pw_below_drewN | apply below_drew1) | exact HB.out)) hb); clear HB; have HB := n0_; clear n0_; (try clear hb); (try clear hb2); (try clear hk); (try clear hi)) | ((with_reducible refine gate_callee (f := 58) rfl ?_); refine goesL_ (some 23) rfl rfl Tryz.func58 (by kernel_rfl) rfl #[.string (⟨#[32]⟩ : ByteArray), .string (⟨#[97, 98, 99, 32, 100, 101, 102, 32, 103, 104, 105]⟩ : ByteArray), .int .i64 7] rfl (by (try simp only [List.map_toArray, List.map_cons, List.map_nil]); first | done | rfl | (simp only [List.length_drop, List.length_take]; rfl)) ?_; (with_reducible refine (text_LastPos.calls k (⟨#[32]⟩ : ByteArray) (⟨#[97, 98, 99, 32, 100, 101, 102, 32, 103, 104, 105]⟩ : ByteArray) 7 t175 t176 _ A3.out).mono ?_); rintro e w44 ⟨rfl, hb⟩; refine ⟨_, rfl, ?_⟩; have n0_ := Aside0.mk (below_step (by repeat (first | (with_reducible first | exact HB.out | apply below_alloc | apply pw_below_drewN | apply below_drew1) | exact HB.out)) hb); clear HB; have HB := n0_; clear n0_; (try clear hb); (try clear hb2); (try clear hk); (try clear hi)) | ((with_reducible refine gate_callee (f := 24) rfl ?_); refine goesL_ (some 27) rfl rfl Tryz.func24 (by kernel_rfl) rfl #[.string (⟨#[97, 98, 99, 100, 101, 102]⟩ : ByteArray), .string (⟨#[49, 50]⟩ : ByteArray), .string (⟨#[101, 99]⟩ : ByteArray), .int .u8 46] rfl (by (try simp only [List.map_toArray, List.map_cons, List.map_nil]); first | done | rfl | (simp only [List.length_drop, List.length_take]; rfl)) ?_; (with_reducible refine (text_Translate.calls (⟨#[97, 98, 99, 100, 101, 102]⟩ : ByteArray) (⟨#[49, 50]⟩ : ByteArray) (⟨#[101, 99]⟩ : ByteArray) 46 t177 t178 _ A4.out).mono ?_); rintro e w45 ⟨rfl, hb⟩; refine ⟨_, rfl, ?_⟩; have n0_ := Aside0.mk (below_step (by repeat (first | (with_reducible first | exact HB.out | apply below_alloc | apply pw_below_drewN | apply below_drew1) | exact HB.out)) hb); clear HB; have HB := n0_; clear n0_; (try clear hb); (try clear hb2); (try clear hk); (try clear hi)) | ((with_reducible refine gate_callee (f := 19) rfl ?_); refine goesL_ (some 31) rfl rfl Tryz.func19 (by kernel_rfl) rfl #[.string (⟨#[65]⟩ : ByteArray), .string (⟨#[65]⟩ : ByteArray), .int .i64 (-1)] rfl (by (try simp only [List.map_toArray, List.map_cons, List.map_nil]); first | done | rfl | (simp only [List.length_drop, List.length_take]; rfl)) ?_; (with_reducible refine (text_BitXor.calls (⟨#[65]⟩ : ByteArray) (⟨#[65]⟩ : ByteArray) (-1) t179 t180 _ A5.out).mono ?_); rintro e w46 ⟨rfl, hb⟩; refine ⟨_, rfl, ?_⟩; have n0_ := Aside0.mk (below_step (by repeat (first | (with_reducible first | exact HB.out | apply below_alloc | apply pw_below_drewN | apply below_drew1) | exact HB.out)) hb); clear HB; have HB := n0_; clear n0_; (try clear hb); (try clear hb2); (try clear hk); (try clear hi)) | ((with_reducible refine gate_callee (f := 76) rfl ?_); refine goesL_ (some 35) rfl rfl Tryz.func76 (by kernel_rfl) rfl #[.string (⟨#[54, 49, 54, 50]⟩ : ByteArray)] rfl (by (try simp only [List.map_toArray, List.map_cons, List.map_nil]); first | done | rfl | (simp only [List.length_drop, List.length_take]; rfl)) ?_; (with_reducible refine (text_X2C.calls k (⟨#[54, 49, 54, 50]⟩ : ByteArray) t181 t182 _ (TabOK.of_below hT (by repeat (first | (with_reducible first | exact HB.out | apply below_alloc | apply pw_below_drewN | apply below_drew1) | exact HB.out))) A6.out).mono ?_); rintro e w47 ⟨rfl, hb⟩; refine ⟨_, rfl, ?_⟩; have n0_ := Aside0.mk (below_step (by repeat (first | (with_reducible first | exact HB.out | apply below_alloc | apply pw_below_drewN | apply below_drew1) | exact HB.out)) hb); clear HB; have HB := n0_; clear n0_; (try clear hb); (try clear hb2); (try clear hk); (try clear hi)))
                      go_ret
                      exact ⟨by first | rfl | (simp [errW_none, errW_some] <;> rfl) | (simp [*, errW_none, errW_some] <;> rfl), by repeat (first | (with_reducible first | exact HB.out | apply below_alloc | apply pw_below_drewN | apply below_drew1) | exact HB.out)⟩
                  · rw [if_neg c15] at H
                    have c15b0 : (t180 == 8) = false := beq_eq_false_iff_ne.mpr c15
                    have c15b1 : (t180 != 8) = true := bne_iff_ne.mpr c15
                    obtain rfl := Option.some.inj H
                    go_enter Tryz.func15, Tryz.ntmps15
                    go_wp2_with (first | ((with_reducible refine gate_callee (f := 84) rfl ?_); refine goesL_ (some 15) rfl rfl Tryz.func84 (by kernel_rfl) rfl #[.string (⟨#[97, 98, 99]⟩ : ByteArray), .int .i64 8, .int .u8 45] rfl (by (try simp only [List.map_toArray, List.map_cons, List.map_nil]); first | done | rfl | (simp only [List.length_drop, List.length_take]; rfl)) ?_; (with_reducible refine (text_Center.calls (⟨#[97, 98, 99]⟩ : ByteArray) 8 45 t171 t172 _ A1.out).mono ?_); rintro e w48 ⟨rfl, hb⟩; refine ⟨_, rfl, ?_⟩; have n0_ := Aside0.mk (below_step (by repeat (first | (with_reducible first | exact HB.out | apply below_alloc | apply pw_below_drewN | apply below_drew1) | exact HB.out)) hb); clear HB; have HB := n0_; clear n0_; (try clear hb); (try clear hb2); (try clear hk); (try clear hi)) | ((with_reducible refine gate_callee (f := 42) rfl ?_); refine goesL_ (some 19) rfl rfl Tryz.func42 (by kernel_rfl) rfl #[.string (⟨#[78, 111, 119, 32, 105, 115, 32, 116, 104, 101, 32, 32, 116, 105, 109, 101]⟩ : ByteArray), .int .i64 2, .int .i64 2] rfl (by (try simp only [List.map_toArray, List.map_cons, List.map_nil]); first | done | rfl | (simp only [List.length_drop, List.length_take]; rfl)) ?_; (with_reducible refine (text_DelWord.calls (⟨#[78, 111, 119, 32, 105, 115, 32, 116, 104, 101, 32, 32, 116, 105, 109, 101]⟩ : ByteArray) 2 2 t173 t174 _ A2.out).mono ?_); rintro e w49 ⟨rfl, hb⟩; refine ⟨_, rfl, ?_⟩; have n0_ := Aside0.mk (below_step (by repeat (first | (with_reducible first | exact HB.out | apply below_alloc | apply pw_below_drewN | apply below_drew1) | exact HB.out)) hb); clear HB; have HB := n0_; clear n0_; (try clear hb); (try clear hb2); (try clear hk); (try clear hi)) | ((with_reducible refine gate_callee (f := 58) rfl ?_); refine goesL_ (some 23) rfl rfl Tryz.func58 (by kernel_rfl) rfl #[.string (⟨#[32]⟩ : ByteArray), .string (⟨#[97, 98, 99, 32, 100, 101, 102, 32, 103, 104, 105]⟩ : ByteArray), .int .i64 7] rfl (by (try simp only [List.map_toArray, List.map_cons, List.map_nil]); first | done | rfl | (simp only [List.length_drop, List.length_take]; rfl)) ?_; (with_reducible refine (text_LastPos.calls k (⟨#[32]⟩ : ByteArray) (⟨#[97, 98, 99, 32, 100, 101, 102, 32, 103, 104, 105]⟩ : ByteArray) 7 t175 t176 _ A3.out).mono ?_); rintro e w50 ⟨rfl, hb⟩; refine ⟨_, rfl, ?_⟩; have n0_ := Aside0.mk (below_step (by repeat (first | (with_reducible first | exact HB.out | apply below_alloc | apply pw_below_drewN | apply below_drew1) | exact HB.out)) hb); clear HB; have HB := n0_; clear n0_; (try clear hb); (try clear hb2); (try clear hk); (try clear hi)) | ((with_reducible refine gate_callee (f := 24) rfl ?_); refine goesL_ (some 27) rfl rfl Tryz.func24 (by kernel_rfl) rfl #[.string (⟨#[97, 98, 99, 100, 101, 102]⟩ : ByteArray), .string (⟨#[49, 50]⟩ : ByteArray), .string (⟨#[101, 99]⟩ : ByteArray), .int .u8 46] rfl (by (try simp only [List.map_toArray, List.map_cons, List.map_nil]); first | done | rfl | (simp only [List.length_drop, List.length_take]; rfl)) ?_; (with_reducible refine (text_Translate.calls (⟨#[97, 98, 99, 100, 101, 102]⟩ : ByteArray) (⟨#[49, 50]⟩ : ByteArray) (⟨#[101, 99]⟩ : ByteArray) 46 t177 t178 _ A4.out).mono ?_); rintro e w51 ⟨rfl, hb⟩; refine ⟨_, rfl, ?_⟩; have n0_ := Aside0.mk (below_step (by repeat (first | (with_reducible first | exact HB.out | apply below_alloc | apply pw_below_drewN | apply below_drew1) | exact HB.out)) hb); clear HB; have HB := n0_; clear n0_; (try clear hb); (try clear hb2); (try clear hk); (try clear hi)) | ((with_reducible refine gate_callee (f := 19) rfl ?_); refine goesL_ (some 31) rfl rfl Tryz.func19 (by kernel_rfl) rfl #[.string (⟨#[65]⟩ : ByteArray), .string (⟨#[65]⟩ : ByteArray), .int .i64 (-1)] rfl (by (try simp only [List.map_toArray, List.map_cons, List.map_nil]); first | done | rfl | (simp only [List.length_drop, List.length_take]; rfl)) ?_; (with_reducible refine (text_BitXor.calls (⟨#[65]⟩ : ByteArray) (⟨#[65]⟩ : ByteArray) (-1) t179 t180 _ A5.out).mono ?_); rintro e w52 ⟨rfl, hb⟩; refine ⟨_, rfl, ?_⟩; have n0_ := Aside0.mk (below_step (by repeat (first | (with_reducible first | exact HB.out | apply below_alloc | apply pw_below_drewN | apply below_drew1) | exact HB.out)) hb); clear HB; have HB := n0_; clear n0_; (try clear hb); (try clear hb2); (try clear hk); (try clear hi)) | ((with_reducible refine gate_callee (f := 76) rfl ?_); refine goesL_ (some 35) rfl rfl Tryz.func76 (by kernel_rfl) rfl #[.string (⟨#[54, 49, 54, 50]⟩ : ByteArray)] rfl (by (try simp only [List.map_toArray, List.map_cons, List.map_nil]); first | done | rfl | (simp only [List.length_drop, List.length_take]; rfl)) ?_; (with_reducible refine (text_X2C.calls k (⟨#[54, 49, 54, 50]⟩ : ByteArray) t181 t182 _ (TabOK.of_below hT (by repeat (first | (with_reducible first | exact HB.out | apply below_alloc | apply pw_below_drewN | apply below_drew1) | exact HB.out))) A6.out).mono ?_); rintro e w53 ⟨rfl, hb⟩; refine ⟨_, rfl, ?_⟩; have n0_ := Aside0.mk (below_step (by repeat (first | (with_reducible first | exact HB.out | apply below_alloc | apply pw_below_drewN | apply below_drew1) | exact HB.out)) hb); clear HB; have HB := n0_; clear n0_; (try clear hb); (try clear hb2); (try clear hk); (try clear hi)))
                    go_ret
                    exact ⟨by first | rfl | (simp [errW_none, errW_some] <;> rfl) | (simp [*, errW_none, errW_some] <;> rfl), by repeat (first | (with_reducible first | exact HB.out | apply below_alloc | apply pw_below_drewN | apply below_drew1) | exact HB.out)⟩
                · rw [if_neg c14] at H
                  have c14b0 : (t177.toList == ([97, 98, 50, 100, 49, 102] : List UInt8)) = false := beq_eq_false_iff_ne.mpr c14
                  have c14b1 : (t177.toList != ([97, 98, 50, 100, 49, 102] : List UInt8)) = true := bne_iff_ne.mpr c14
                  obtain rfl := Option.some.inj H
                  go_enter Tryz.func15, Tryz.ntmps15
                  go_wp2_with (first | ((with_reducible refine gate_callee (f := 84) rfl ?_); refine goesL_ (some 15) rfl rfl Tryz.func84 (by kernel_rfl) rfl #[.string (⟨#[97, 98, 99]⟩ : ByteArray), .int .i64 8, .int .u8 45] rfl (by (try simp only [List.map_toArray, List.map_cons, List.map_nil]); first | done | rfl | (simp only [List.length_drop, List.length_take]; rfl)) ?_; (with_reducible refine (text_Center.calls (⟨#[97, 98, 99]⟩ : ByteArray) 8 45 t171 t172 _ A1.out).mono ?_); rintro e w54 ⟨rfl, hb⟩; refine ⟨_, rfl, ?_⟩; have n0_ := Aside0.mk (below_step (by repeat (first | (with_reducible first | exact HB.out | apply below_alloc | apply pw_below_drewN | apply below_drew1) | exact HB.out)) hb); clear HB; have HB := n0_; clear n0_; (try clear hb); (try clear hb2); (try clear hk); (try clear hi)) | ((with_reducible refine gate_callee (f := 42) rfl ?_); refine goesL_ (some 19) rfl rfl Tryz.func42 (by kernel_rfl) rfl #[.string (⟨#[78, 111, 119, 32, 105, 115, 32, 116, 104, 101, 32, 32, 116, 105, 109, 101]⟩ : ByteArray), .int .i64 2, .int .i64 2] rfl (by (try simp only [List.map_toArray, List.map_cons, List.map_nil]); first | done | rfl | (simp only [List.length_drop, List.length_take]; rfl)) ?_; (with_reducible refine (text_DelWord.calls (⟨#[78, 111, 119, 32, 105, 115, 32, 116, 104, 101, 32, 32, 116, 105, 109, 101]⟩ : ByteArray) 2 2 t173 t174 _ A2.out).mono ?_); rintro e w55 ⟨rfl, hb⟩; refine ⟨_, rfl, ?_⟩; have n0_ := Aside0.mk (below_step (by repeat (first | (with_reducible first | exact HB.out | apply below_alloc | apply pw_below_drewN | apply below_drew1) | exact HB.out)) hb); clear HB; have HB := n0_; clear n0_; (try clear hb); (try clear hb2); (try clear hk); (try clear hi)) | ((with_reducible refine gate_callee (f := 58) rfl ?_); refine goesL_ (some 23) rfl rfl Tryz.func58 (by kernel_rfl) rfl #[.string (⟨#[32]⟩ : ByteArray), .string (⟨#[97, 98, 99, 32, 100, 101, 102, 32, 103, 104, 105]⟩ : ByteArray), .int .i64 7] rfl (by (try simp only [List.map_toArray, List.map_cons, List.map_nil]); first | done | rfl | (simp only [List.length_drop, List.length_take]; rfl)) ?_; (with_reducible refine (text_LastPos.calls k (⟨#[32]⟩ : ByteArray) (⟨#[97, 98, 99, 32, 100, 101, 102, 32, 103, 104, 105]⟩ : ByteArray) 7 t175 t176 _ A3.out).mono ?_); rintro e w56 ⟨rfl, hb⟩; refine ⟨_, rfl, ?_⟩; have n0_ := Aside0.mk (below_step (by repeat (first | (with_reducible first | exact HB.out | apply below_alloc | apply pw_below_drewN | apply below_drew1) | exact HB.out)) hb); clear HB; have HB := n0_; clear n0_; (try clear hb); (try clear hb2); (try clear hk); (try clear hi)) | ((with_reducible refine gate_callee (f := 24) rfl ?_); refine goesL_ (some 27) rfl rfl Tryz.func24 (by kernel_rfl) rfl #[.string (⟨#[97, 98, 99, 100, 101, 102]⟩ : ByteArray), .string (⟨#[49, 50]⟩ : ByteArray), .string (⟨#[101, 99]⟩ : ByteArray), .int .u8 46] rfl (by (try simp only [List.map_toArray, List.map_cons, List.map_nil]); first | done | rfl | (simp only [List.length_drop, List.length_take]; rfl)) ?_; (with_reducible refine (text_Translate.calls (⟨#[97, 98, 99, 100, 101, 102]⟩ : ByteArray) (⟨#[49, 50]⟩ : ByteArray) (⟨#[101, 99]⟩ : ByteArray) 46 t177 t178 _ A4.out).mono ?_); rintro e w57 ⟨rfl, hb⟩; refine ⟨_, rfl, ?_⟩; have n0_ := Aside0.mk (below_step (by repeat (first | (with_reducible first | exact HB.out | apply below_alloc | apply pw_below_drewN | apply below_drew1) | exact HB.out)) hb); clear HB; have HB := n0_; clear n0_; (try clear hb); (try clear hb2); (try clear hk); (try clear hi)) | ((with_reducible refine gate_callee (f := 19) rfl ?_); refine goesL_ (some 31) rfl rfl Tryz.func19 (by kernel_rfl) rfl #[.string (⟨#[65]⟩ : ByteArray), .string (⟨#[65]⟩ : ByteArray), .int .i64 (-1)] rfl (by (try simp only [List.map_toArray, List.map_cons, List.map_nil]); first | done | rfl | (simp only [List.length_drop, List.length_take]; rfl)) ?_; (with_reducible refine (text_BitXor.calls (⟨#[65]⟩ : ByteArray) (⟨#[65]⟩ : ByteArray) (-1) t179 t180 _ A5.out).mono ?_); rintro e w58 ⟨rfl, hb⟩; refine ⟨_, rfl, ?_⟩; have n0_ := Aside0.mk (below_step (by repeat (first | (with_reducible first | exact HB.out | apply below_alloc | apply pw_below_drewN | apply below_drew1) | exact HB.out)) hb); clear HB; have HB := n0_; clear n0_; (try clear hb); (try clear hb2); (try clear hk); (try clear hi)) | ((with_reducible refine gate_callee (f := 76) rfl ?_); refine goesL_ (some 35) rfl rfl Tryz.func76 (by kernel_rfl) rfl #[.string (⟨#[54, 49, 54, 50]⟩ : ByteArray)] rfl (by (try simp only [List.map_toArray, List.map_cons, List.map_nil]); first | done | rfl | (simp only [List.length_drop, List.length_take]; rfl)) ?_; (with_reducible refine (text_X2C.calls k (⟨#[54, 49, 54, 50]⟩ : ByteArray) t181 t182 _ (TabOK.of_below hT (by repeat (first | (with_reducible first | exact HB.out | apply below_alloc | apply pw_below_drewN | apply below_drew1) | exact HB.out))) A6.out).mono ?_); rintro e w59 ⟨rfl, hb⟩; refine ⟨_, rfl, ?_⟩; have n0_ := Aside0.mk (below_step (by repeat (first | (with_reducible first | exact HB.out | apply below_alloc | apply pw_below_drewN | apply below_drew1) | exact HB.out)) hb); clear HB; have HB := n0_; clear n0_; (try clear hb); (try clear hb2); (try clear hk); (try clear hi)))
                  go_ret
                  exact ⟨by first | rfl | (simp [errW_none, errW_some] <;> rfl) | (simp [*, errW_none, errW_some] <;> rfl), by repeat (first | (with_reducible first | exact HB.out | apply below_alloc | apply pw_below_drewN | apply below_drew1) | exact HB.out)⟩
              · rw [if_neg c13] at H
                have c13b0 : (t178 == 0) = false := beq_eq_false_iff_ne.mpr c13
                have c13b1 : (t178 != 0) = true := bne_iff_ne.mpr c13
                obtain rfl := Option.some.inj H
                go_enter Tryz.func15, Tryz.ntmps15
                go_wp2_with (first | ((with_reducible refine gate_callee (f := 84) rfl ?_); refine goesL_ (some 15) rfl rfl Tryz.func84 (by kernel_rfl) rfl #[.string (⟨#[97, 98, 99]⟩ : ByteArray), .int .i64 8, .int .u8 45] rfl (by (try simp only [List.map_toArray, List.map_cons, List.map_nil]); first | done | rfl | (simp only [List.length_drop, List.length_take]; rfl)) ?_; (with_reducible refine (text_Center.calls (⟨#[97, 98, 99]⟩ : ByteArray) 8 45 t171 t172 _ A1.out).mono ?_); rintro e w60 ⟨rfl, hb⟩; refine ⟨_, rfl, ?_⟩; have n0_ := Aside0.mk (below_step (by repeat (first | (with_reducible first | exact HB.out | apply below_alloc | apply pw_below_drewN | apply below_drew1) | exact HB.out)) hb); clear HB; have HB := n0_; clear n0_; (try clear hb); (try clear hb2); (try clear hk); (try clear hi)) | ((with_reducible refine gate_callee (f := 42) rfl ?_); refine goesL_ (some 19) rfl rfl Tryz.func42 (by kernel_rfl) rfl #[.string (⟨#[78, 111, 119, 32, 105, 115, 32, 116, 104, 101, 32, 32, 116, 105, 109, 101]⟩ : ByteArray), .int .i64 2, .int .i64 2] rfl (by (try simp only [List.map_toArray, List.map_cons, List.map_nil]); first | done | rfl | (simp only [List.length_drop, List.length_take]; rfl)) ?_; (with_reducible refine (text_DelWord.calls (⟨#[78, 111, 119, 32, 105, 115, 32, 116, 104, 101, 32, 32, 116, 105, 109, 101]⟩ : ByteArray) 2 2 t173 t174 _ A2.out).mono ?_); rintro e w61 ⟨rfl, hb⟩; refine ⟨_, rfl, ?_⟩; have n0_ := Aside0.mk (below_step (by repeat (first | (with_reducible first | exact HB.out | apply below_alloc | apply pw_below_drewN | apply below_drew1) | exact HB.out)) hb); clear HB; have HB := n0_; clear n0_; (try clear hb); (try clear hb2); (try clear hk); (try clear hi)) | ((with_reducible refine gate_callee (f := 58) rfl ?_); refine goesL_ (some 23) rfl rfl Tryz.func58 (by kernel_rfl) rfl #[.string (⟨#[32]⟩ : ByteArray), .string (⟨#[97, 98, 99, 32, 100, 101, 102, 32, 103, 104, 105]⟩ : ByteArray), .int .i64 7] rfl (by (try simp only [List.map_toArray, List.map_cons, List.map_nil]); first | done | rfl | (simp only [List.length_drop, List.length_take]; rfl)) ?_; (with_reducible refine (text_LastPos.calls k (⟨#[32]⟩ : ByteArray) (⟨#[97, 98, 99, 32, 100, 101, 102, 32, 103, 104, 105]⟩ : ByteArray) 7 t175 t176 _ A3.out).mono ?_); rintro e w62 ⟨rfl, hb⟩; refine ⟨_, rfl, ?_⟩; have n0_ := Aside0.mk (below_step (by repeat (first | (with_reducible first | exact HB.out | apply below_alloc | apply pw_below_drewN | apply below_drew1) | exact HB.out)) hb); clear HB; have HB := n0_; clear n0_; (try clear hb); (try clear hb2); (try clear hk); (try clear hi)) | ((with_reducible refine gate_callee (f := 24) rfl ?_); refine goesL_ (some 27) rfl rfl Tryz.func24 (by kernel_rfl) rfl #[.string (⟨#[97, 98, 99, 100, 101, 102]⟩ : ByteArray), .string (⟨#[49, 50]⟩ : ByteArray), .string (⟨#[101, 99]⟩ : ByteArray), .int .u8 46] rfl (by (try simp only [List.map_toArray, List.map_cons, List.map_nil]); first | done | rfl | (simp only [List.length_drop, List.length_take]; rfl)) ?_; (with_reducible refine (text_Translate.calls (⟨#[97, 98, 99, 100, 101, 102]⟩ : ByteArray) (⟨#[49, 50]⟩ : ByteArray) (⟨#[101, 99]⟩ : ByteArray) 46 t177 t178 _ A4.out).mono ?_); rintro e w63 ⟨rfl, hb⟩; refine ⟨_, rfl, ?_⟩; have n0_ := Aside0.mk (below_step (by repeat (first | (with_reducible first | exact HB.out | apply below_alloc | apply pw_below_drewN | apply below_drew1) | exact HB.out)) hb); clear HB; have HB := n0_; clear n0_; (try clear hb); (try clear hb2); (try clear hk); (try clear hi)) | ((with_reducible refine gate_callee (f := 19) rfl ?_); refine goesL_ (some 31) rfl rfl Tryz.func19 (by kernel_rfl) rfl #[.string (⟨#[65]⟩ : ByteArray), .string (⟨#[65]⟩ : ByteArray), .int .i64 (-1)] rfl (by (try simp only [List.map_toArray, List.map_cons, List.map_nil]); first | done | rfl | (simp only [List.length_drop, List.length_take]; rfl)) ?_; (with_reducible refine (text_BitXor.calls (⟨#[65]⟩ : ByteArray) (⟨#[65]⟩ : ByteArray) (-1) t179 t180 _ A5.out).mono ?_); rintro e w64 ⟨rfl, hb⟩; refine ⟨_, rfl, ?_⟩; have n0_ := Aside0.mk (below_step (by repeat (first | (with_reducible first | exact HB.out | apply below_alloc | apply pw_below_drewN | apply below_drew1) | exact HB.out)) hb); clear HB; have HB := n0_; clear n0_; (try clear hb); (try clear hb2); (try clear hk); (try clear hi)) | ((with_reducible refine gate_callee (f := 76) rfl ?_); refine goesL_ (some 35) rfl rfl Tryz.func76 (by kernel_rfl) rfl #[.string (⟨#[54, 49, 54, 50]⟩ : ByteArray)] rfl (by (try simp only [List.map_toArray, List.map_cons, List.map_nil]); first | done | rfl | (simp only [List.length_drop, List.length_take]; rfl)) ?_; (with_reducible refine (text_X2C.calls k (⟨#[54, 49, 54, 50]⟩ : ByteArray) t181 t182 _ (TabOK.of_below hT (by repeat (first | (with_reducible first | exact HB.out | apply below_alloc | apply pw_below_drewN | apply below_drew1) | exact HB.out))) A6.out).mono ?_); rintro e w65 ⟨rfl, hb⟩; refine ⟨_, rfl, ?_⟩; have n0_ := Aside0.mk (below_step (by repeat (first | (with_reducible first | exact HB.out | apply below_alloc | apply pw_below_drewN | apply below_drew1) | exact HB.out)) hb); clear HB; have HB := n0_; clear n0_; (try clear hb); (try clear hb2); (try clear hk); (try clear hi)))
                go_ret
                exact ⟨by first | rfl | (simp [errW_none, errW_some] <;> rfl) | (simp [*, errW_none, errW_some] <;> rfl), by repeat (first | (with_reducible first | exact HB.out | apply below_alloc | apply pw_below_drewN | apply below_drew1) | exact HB.out)⟩
            · rw [if_neg c12] at H
              have c12b0 : (t175 == 4) = false := beq_eq_false_iff_ne.mpr c12
              have c12b1 : (t175 != 4) = true := bne_iff_ne.mpr c12
              obtain rfl := Option.some.inj H
              go_enter Tryz.func15, Tryz.ntmps15
              go_wp2_with (first | ((with_reducible refine gate_callee (f := 84) rfl ?_); refine goesL_ (some 15) rfl rfl Tryz.func84 (by kernel_rfl) rfl #[.string (⟨#[97, 98, 99]⟩ : ByteArray), .int .i64 8, .int .u8 45] rfl (by (try simp only [List.map_toArray, List.map_cons, List.map_nil]); first | done | rfl | (simp only [List.length_drop, List.length_take]; rfl)) ?_; (with_reducible refine (text_Center.calls (⟨#[97, 98, 99]⟩ : ByteArray) 8 45 t171 t172 _ A1.out).mono ?_); rintro e w66 ⟨rfl, hb⟩; refine ⟨_, rfl, ?_⟩; have n0_ := Aside0.mk (below_step (by repeat (first | (with_reducible first | exact HB.out | apply below_alloc | apply pw_below_drewN | apply below_drew1) | exact HB.out)) hb); clear HB; have HB := n0_; clear n0_; (try clear hb); (try clear hb2); (try clear hk); (try clear hi)) | ((with_reducible refine gate_callee (f := 42) rfl ?_); refine goesL_ (some 19) rfl rfl Tryz.func42 (by kernel_rfl) rfl #[.string (⟨#[78, 111, 119, 32, 105, 115, 32, 116, 104, 101, 32, 32, 116, 105, 109, 101]⟩ : ByteArray), .int .i64 2, .int .i64 2] rfl (by (try simp only [List.map_toArray, List.map_cons, List.map_nil]); first | done | rfl | (simp only [List.length_drop, List.length_take]; rfl)) ?_; (with_reducible refine (text_DelWord.calls (⟨#[78, 111, 119, 32, 105, 115, 32, 116, 104, 101, 32, 32, 116, 105, 109, 101]⟩ : ByteArray) 2 2 t173 t174 _ A2.out).mono ?_); rintro e w67 ⟨rfl, hb⟩; refine ⟨_, rfl, ?_⟩; have n0_ := Aside0.mk (below_step (by repeat (first | (with_reducible first | exact HB.out | apply below_alloc | apply pw_below_drewN | apply below_drew1) | exact HB.out)) hb); clear HB; have HB := n0_; clear n0_; (try clear hb); (try clear hb2); (try clear hk); (try clear hi)) | ((with_reducible refine gate_callee (f := 58) rfl ?_); refine goesL_ (some 23) rfl rfl Tryz.func58 (by kernel_rfl) rfl #[.string (⟨#[32]⟩ : ByteArray), .string (⟨#[97, 98, 99, 32, 100, 101, 102, 32, 103, 104, 105]⟩ : ByteArray), .int .i64 7] rfl (by (try simp only [List.map_toArray, List.map_cons, List.map_nil]); first | done | rfl | (simp only [List.length_drop, List.length_take]; rfl)) ?_; (with_reducible refine (text_LastPos.calls k (⟨#[32]⟩ : ByteArray) (⟨#[97, 98, 99, 32, 100, 101, 102, 32, 103, 104, 105]⟩ : ByteArray) 7 t175 t176 _ A3.out).mono ?_); rintro e w68 ⟨rfl, hb⟩; refine ⟨_, rfl, ?_⟩; have n0_ := Aside0.mk (below_step (by repeat (first | (with_reducible first | exact HB.out | apply below_alloc | apply pw_below_drewN | apply below_drew1) | exact HB.out)) hb); clear HB; have HB := n0_; clear n0_; (try clear hb); (try clear hb2); (try clear hk); (try clear hi)) | ((with_reducible refine gate_callee (f := 24) rfl ?_); refine goesL_ (some 27) rfl rfl Tryz.func24 (by kernel_rfl) rfl #[.string (⟨#[97, 98, 99, 100, 101, 102]⟩ : ByteArray), .string (⟨#[49, 50]⟩ : ByteArray), .string (⟨#[101, 99]⟩ : ByteArray), .int .u8 46] rfl (by (try simp only [List.map_toArray, List.map_cons, List.map_nil]); first | done | rfl | (simp only [List.length_drop, List.length_take]; rfl)) ?_; (with_reducible refine (text_Translate.calls (⟨#[97, 98, 99, 100, 101, 102]⟩ : ByteArray) (⟨#[49, 50]⟩ : ByteArray) (⟨#[101, 99]⟩ : ByteArray) 46 t177 t178 _ A4.out).mono ?_); rintro e w69 ⟨rfl, hb⟩; refine ⟨_, rfl, ?_⟩; have n0_ := Aside0.mk (below_step (by repeat (first | (with_reducible first | exact HB.out | apply below_alloc | apply pw_below_drewN | apply below_drew1) | exact HB.out)) hb); clear HB; have HB := n0_; clear n0_; (try clear hb); (try clear hb2); (try clear hk); (try clear hi)) | ((with_reducible refine gate_callee (f := 19) rfl ?_); refine goesL_ (some 31) rfl rfl Tryz.func19 (by kernel_rfl) rfl #[.string (⟨#[65]⟩ : ByteArray), .string (⟨#[65]⟩ : ByteArray), .int .i64 (-1)] rfl (by (try simp only [List.map_toArray, List.map_cons, List.map_nil]); first | done | rfl | (simp only [List.length_drop, List.length_take]; rfl)) ?_; (with_reducible refine (text_BitXor.calls (⟨#[65]⟩ : ByteArray) (⟨#[65]⟩ : ByteArray) (-1) t179 t180 _ A5.out).mono ?_); rintro e w70 ⟨rfl, hb⟩; refine ⟨_, rfl, ?_⟩; have n0_ := Aside0.mk (below_step (by repeat (first | (with_reducible first | exact HB.out | apply below_alloc | apply pw_below_drewN | apply below_drew1) | exact HB.out)) hb); clear HB; have HB := n0_; clear n0_; (try clear hb); (try clear hb2); (try clear hk); (try clear hi)) | ((with_reducible refine gate_callee (f := 76) rfl ?_); refine goesL_ (some 35) rfl rfl Tryz.func76 (by kernel_rfl) rfl #[.string (⟨#[54, 49, 54, 50]⟩ : ByteArray)] rfl (by (try simp only [List.map_toArray, List.map_cons, List.map_nil]); first | done | rfl | (simp only [List.length_drop, List.length_take]; rfl)) ?_; (with_reducible refine (text_X2C.calls k (⟨#[54, 49, 54, 50]⟩ : ByteArray) t181 t182 _ (TabOK.of_below hT (by repeat (first | (with_reducible first | exact HB.out | apply below_alloc | apply pw_below_drewN | apply below_drew1) | exact HB.out))) A6.out).mono ?_); rintro e w71 ⟨rfl, hb⟩; refine ⟨_, rfl, ?_⟩; have n0_ := Aside0.mk (below_step (by repeat (first | (with_reducible first | exact HB.out | apply below_alloc | apply pw_below_drewN | apply below_drew1) | exact HB.out)) hb); clear HB; have HB := n0_; clear n0_; (try clear hb); (try clear hb2); (try clear hk); (try clear hi)))
              go_ret
              exact ⟨by first | rfl | (simp [errW_none, errW_some] <;> rfl) | (simp [*, errW_none, errW_some] <;> rfl), by repeat (first | (with_reducible first | exact HB.out | apply below_alloc | apply pw_below_drewN | apply below_drew1) | exact HB.out)⟩
          · rw [if_neg c11] at H
            have c11b0 : (t176 == 0) = false := beq_eq_false_iff_ne.mpr c11
            have c11b1 : (t176 != 0) = true := bne_iff_ne.mpr c11
            obtain rfl := Option.some.inj H
            go_enter Tryz.func15, Tryz.ntmps15
            go_wp2_with (first | ((with_reducible refine gate_callee (f := 84) rfl ?_); refine goesL_ (some 15) rfl rfl Tryz.func84 (by kernel_rfl) rfl #[.string (⟨#[97, 98, 99]⟩ : ByteArray), .int .i64 8, .int .u8 45] rfl (by (try simp only [List.map_toArray, List.map_cons, List.map_nil]); first | done | rfl | (simp only [List.length_drop, List.length_take]; rfl)) ?_; (with_reducible refine (text_Center.calls (⟨#[97, 98, 99]⟩ : ByteArray) 8 45 t171 t172 _ A1.out).mono ?_); rintro e w72 ⟨rfl, hb⟩; refine ⟨_, rfl, ?_⟩; have n0_ := Aside0.mk (below_step (by repeat (first | (with_reducible first | exact HB.out | apply below_alloc | apply pw_below_drewN | apply below_drew1) | exact HB.out)) hb); clear HB; have HB := n0_; clear n0_; (try clear hb); (try clear hb2); (try clear hk); (try clear hi)) | ((with_reducible refine gate_callee (f := 42) rfl ?_); refine goesL_ (some 19) rfl rfl Tryz.func42 (by kernel_rfl) rfl #[.string (⟨#[78, 111, 119, 32, 105, 115, 32, 116, 104, 101, 32, 32, 116, 105, 109, 101]⟩ : ByteArray), .int .i64 2, .int .i64 2] rfl (by (try simp only [List.map_toArray, List.map_cons, List.map_nil]); first | done | rfl | (simp only [List.length_drop, List.length_take]; rfl)) ?_; (with_reducible refine (text_DelWord.calls (⟨#[78, 111, 119, 32, 105, 115, 32, 116, 104, 101, 32, 32, 116, 105, 109, 101]⟩ : ByteArray) 2 2 t173 t174 _ A2.out).mono ?_); rintro e w73 ⟨rfl, hb⟩; refine ⟨_, rfl, ?_⟩; have n0_ := Aside0.mk (below_step (by repeat (first | (with_reducible first | exact HB.out | apply below_alloc | apply pw_below_drewN | apply below_drew1) | exact HB.out)) hb); clear HB; have HB := n0_; clear n0_; (try clear hb); (try clear hb2); (try clear hk); (try clear hi)) | ((with_reducible refine gate_callee (f := 58) rfl ?_); refine goesL_ (some 23) rfl rfl Tryz.func58 (by kernel_rfl) rfl #[.string (⟨#[32]⟩ : ByteArray), .string (⟨#[97, 98, 99, 32, 100, 101, 102, 32, 103, 104, 105]⟩ : ByteArray), .int .i64 7] rfl (by (try simp only [List.map_toArray, List.map_cons, List.map_nil]); first | done | rfl | (simp only [List.length_drop, List.length_take]; rfl)) ?_; (with_reducible refine (text_LastPos.calls k (⟨#[32]⟩ : ByteArray) (⟨#[97, 98, 99, 32, 100, 101, 102, 32, 103, 104, 105]⟩ : ByteArray) 7 t175 t176 _ A3.out).mono ?_); rintro e w74 ⟨rfl, hb⟩; refine ⟨_, rfl, ?_⟩; have n0_ := Aside0.mk (below_step (by repeat (first | (with_reducible first | exact HB.out | apply below_alloc | apply pw_below_drewN | apply below_drew1) | exact HB.out)) hb); clear HB; have HB := n0_; clear n0_; (try clear hb); (try clear hb2); (try clear hk); (try clear hi)) | ((with_reducible refine gate_callee (f := 24) rfl ?_); refine goesL_ (some 27) rfl rfl Tryz.func24 (by kernel_rfl) rfl #[.string (⟨#[97, 98, 99, 100, 101, 102]⟩ : ByteArray), .string (⟨#[49, 50]⟩ : ByteArray), .string (⟨#[101, 99]⟩ : ByteArray), .int .u8 46] rfl (by (try simp only [List.map_toArray, List.map_cons, List.map_nil]); first | done | rfl | (simp only [List.length_drop, List.length_take]; rfl)) ?_; (with_reducible refine (text_Translate.calls (⟨#[97, 98, 99, 100, 101, 102]⟩ : ByteArray) (⟨#[49, 50]⟩ : ByteArray) (⟨#[101, 99]⟩ : ByteArray) 46 t177 t178 _ A4.out).mono ?_); rintro e w75 ⟨rfl, hb⟩; refine ⟨_, rfl, ?_⟩; have n0_ := Aside0.mk (below_step (by repeat (first | (with_reducible first | exact HB.out | apply below_alloc | apply pw_below_drewN | apply below_drew1) | exact HB.out)) hb); clear HB; have HB := n0_; clear n0_; (try clear hb); (try clear hb2); (try clear hk); (try clear hi)) | ((with_reducible refine gate_callee (f := 19) rfl ?_); refine goesL_ (some 31) rfl rfl Tryz.func19 (by kernel_rfl) rfl #[.string (⟨#[65]⟩ : ByteArray), .string (⟨#[65]⟩ : ByteArray), .int .i64 (-1)] rfl (by (try simp only [List.map_toArray, List.map_cons, List.map_nil]); first | done | rfl | (simp only [List.length_drop, List.length_take]; rfl)) ?_; (with_reducible refine (text_BitXor.calls (⟨#[65]⟩ : ByteArray) (⟨#[65]⟩ : ByteArray) (-1) t179 t180 _ A5.out).mono ?_); rintro e w76 ⟨rfl, hb⟩; refine ⟨_, rfl, ?_⟩; have n0_ := Aside0.mk (below_step (by repeat (first | (with_reducible first | exact HB.out | apply below_alloc | apply pw_below_drewN | apply below_drew1) | exact HB.out)) hb); clear HB; have HB := n0_; clear n0_; (try clear hb); (try clear hb2); (try clear hk); (try clear hi)) | ((with_reducible refine gate_callee (f := 76) rfl ?_); refine goesL_ (some 35) rfl rfl Tryz.func76 (by kernel_rfl) rfl #[.string (⟨#[54, 49, 54, 50]⟩ : ByteArray)] rfl (by (try simp only [List.map_toArray, List.map_cons, List.map_nil]); first | done | rfl | (simp only [List.length_drop, List.length_take]; rfl)) ?_; (with_reducible refine (text_X2C.calls k (⟨#[54, 49, 54, 50]⟩ : ByteArray) t181 t182 _ (TabOK.of_below hT (by repeat (first | (with_reducible first | exact HB.out | apply below_alloc | apply pw_below_drewN | apply below_drew1) | exact HB.out))) A6.out).mono ?_); rintro e w77 ⟨rfl, hb⟩; refine ⟨_, rfl, ?_⟩; have n0_ := Aside0.mk (below_step (by repeat (first | (with_reducible first | exact HB.out | apply below_alloc | apply pw_below_drewN | apply below_drew1) | exact HB.out)) hb); clear HB; have HB := n0_; clear n0_; (try clear hb); (try clear hb2); (try clear hk); (try clear hi)))
            go_ret
            exact ⟨by first | rfl | (simp [errW_none, errW_some] <;> rfl) | (simp [*, errW_none, errW_some] <;> rfl), by repeat (first | (with_reducible first | exact HB.out | apply below_alloc | apply pw_below_drewN | apply below_drew1) | exact HB.out)⟩
        · rw [if_neg c10] at H
          have c10b0 : (t173.toList == ([78, 111, 119, 32, 116, 105, 109, 101] : List UInt8)) = false := beq_eq_false_iff_ne.mpr c10
          have c10b1 : (t173.toList != ([78, 111, 119, 32, 116, 105, 109, 101] : List UInt8)) = true := bne_iff_ne.mpr c10
          obtain rfl := Option.some.inj H
          go_enter Tryz.func15, Tryz.ntmps15
          go_wp2_with (first | ((with_reducible refine gate_callee (f := 84) rfl ?_); refine goesL_ (some 15) rfl rfl Tryz.func84 (by kernel_rfl) rfl #[.string (⟨#[97, 98, 99]⟩ : ByteArray), .int .i64 8, .int .u8 45] rfl (by (try simp only [List.map_toArray, List.map_cons, List.map_nil]); first | done | rfl | (simp only [List.length_drop, List.length_take]; rfl)) ?_; (with_reducible refine (text_Center.calls (⟨#[97, 98, 99]⟩ : ByteArray) 8 45 t171 t172 _ A1.out).mono ?_); rintro e w78 ⟨rfl, hb⟩; refine ⟨_, rfl, ?_⟩; have n0_ := Aside0.mk (below_step (by repeat (first | (with_reducible first | exact HB.out | apply below_alloc | apply pw_below_drewN | apply below_drew1) | exact HB.out)) hb); clear HB; have HB := n0_; clear n0_; (try clear hb); (try clear hb2); (try clear hk); (try clear hi)) | ((with_reducible refine gate_callee (f := 42) rfl ?_); refine goesL_ (some 19) rfl rfl Tryz.func42 (by kernel_rfl) rfl #[.string (⟨#[78, 111, 119, 32, 105, 115, 32, 116, 104, 101, 32, 32, 116, 105, 109, 101]⟩ : ByteArray), .int .i64 2, .int .i64 2] rfl (by (try simp only [List.map_toArray, List.map_cons, List.map_nil]); first | done | rfl | (simp only [List.length_drop, List.length_take]; rfl)) ?_; (with_reducible refine (text_DelWord.calls (⟨#[78, 111, 119, 32, 105, 115, 32, 116, 104, 101, 32, 32, 116, 105, 109, 101]⟩ : ByteArray) 2 2 t173 t174 _ A2.out).mono ?_); rintro e w79 ⟨rfl, hb⟩; refine ⟨_, rfl, ?_⟩; have n0_ := Aside0.mk (below_step (by repeat (first | (with_reducible first | exact HB.out | apply below_alloc | apply pw_below_drewN | apply below_drew1) | exact HB.out)) hb); clear HB; have HB := n0_; clear n0_; (try clear hb); (try clear hb2); (try clear hk); (try clear hi)) | ((with_reducible refine gate_callee (f := 58) rfl ?_); refine goesL_ (some 23) rfl rfl Tryz.func58 (by kernel_rfl) rfl #[.string (⟨#[32]⟩ : ByteArray), .string (⟨#[97, 98, 99, 32, 100, 101, 102, 32, 103, 104, 105]⟩ : ByteArray), .int .i64 7] rfl (by (try simp only [List.map_toArray, List.map_cons, List.map_nil]); first | done | rfl | (simp only [List.length_drop, List.length_take]; rfl)) ?_; (with_reducible refine (text_LastPos.calls k (⟨#[32]⟩ : ByteArray) (⟨#[97, 98, 99, 32, 100, 101, 102, 32, 103, 104, 105]⟩ : ByteArray) 7 t175 t176 _ A3.out).mono ?_); rintro e w80 ⟨rfl, hb⟩; refine ⟨_, rfl, ?_⟩; have n0_ := Aside0.mk (below_step (by repeat (first | (with_reducible first | exact HB.out | apply below_alloc | apply pw_below_drewN | apply below_drew1) | exact HB.out)) hb); clear HB; have HB := n0_; clear n0_; (try clear hb); (try clear hb2); (try clear hk); (try clear hi)) | ((with_reducible refine gate_callee (f := 24) rfl ?_); refine goesL_ (some 27) rfl rfl Tryz.func24 (by kernel_rfl) rfl #[.string (⟨#[97, 98, 99, 100, 101, 102]⟩ : ByteArray), .string (⟨#[49, 50]⟩ : ByteArray), .string (⟨#[101, 99]⟩ : ByteArray), .int .u8 46] rfl (by (try simp only [List.map_toArray, List.map_cons, List.map_nil]); first | done | rfl | (simp only [List.length_drop, List.length_take]; rfl)) ?_; (with_reducible refine (text_Translate.calls (⟨#[97, 98, 99, 100, 101, 102]⟩ : ByteArray) (⟨#[49, 50]⟩ : ByteArray) (⟨#[101, 99]⟩ : ByteArray) 46 t177 t178 _ A4.out).mono ?_); rintro e w81 ⟨rfl, hb⟩; refine ⟨_, rfl, ?_⟩; have n0_ := Aside0.mk (below_step (by repeat (first | (with_reducible first | exact HB.out | apply below_alloc | apply pw_below_drewN | apply below_drew1) | exact HB.out)) hb); clear HB; have HB := n0_; clear n0_; (try clear hb); (try clear hb2); (try clear hk); (try clear hi)) | ((with_reducible refine gate_callee (f := 19) rfl ?_); refine goesL_ (some 31) rfl rfl Tryz.func19 (by kernel_rfl) rfl #[.string (⟨#[65]⟩ : ByteArray), .string (⟨#[65]⟩ : ByteArray), .int .i64 (-1)] rfl (by (try simp only [List.map_toArray, List.map_cons, List.map_nil]); first | done | rfl | (simp only [List.length_drop, List.length_take]; rfl)) ?_; (with_reducible refine (text_BitXor.calls (⟨#[65]⟩ : ByteArray) (⟨#[65]⟩ : ByteArray) (-1) t179 t180 _ A5.out).mono ?_); rintro e w82 ⟨rfl, hb⟩; refine ⟨_, rfl, ?_⟩; have n0_ := Aside0.mk (below_step (by repeat (first | (with_reducible first | exact HB.out | apply below_alloc | apply pw_below_drewN | apply below_drew1) | exact HB.out)) hb); clear HB; have HB := n0_; clear n0_; (try clear hb); (try clear hb2); (try clear hk); (try clear hi)) | ((with_reducible refine gate_callee (f := 76) rfl ?_); refine goesL_ (some 35) rfl rfl Tryz.func76 (by kernel_rfl) rfl #[.string (⟨#[54, 49, 54, 50]⟩ : ByteArray)] rfl (by (try simp only [List.map_toArray, List.map_cons, List.map_nil]); first | done | rfl | (simp only [List.length_drop, List.length_take]; rfl)) ?_; (with_reducible refine (text_X2C.calls k (⟨#[54, 49, 54, 50]⟩ : ByteArray) t181 t182 _ (TabOK.of_below hT (by repeat (first | (with_reducible first | exact HB.out | apply below_alloc | apply pw_below_drewN | apply below_drew1) | exact HB.out))) A6.out).mono ?_); rintro e w83 ⟨rfl, hb⟩; refine ⟨_, rfl, ?_⟩; have n0_ := Aside0.mk (below_step (by repeat (first | (with_reducible first | exact HB.out | apply below_alloc | apply pw_below_drewN | apply below_drew1) | exact HB.out)) hb); clear HB; have HB := n0_; clear n0_; (try clear hb); (try clear hb2); (try clear hk); (try clear hi)))
          go_ret
          exact ⟨by first | rfl | (simp [errW_none, errW_some] <;> rfl) | (simp [*, errW_none, errW_some] <;> rfl), by repeat (first | (with_reducible first | exact HB.out | apply below_alloc | apply pw_below_drewN | apply below_drew1) | exact HB.out)⟩
      · rw [if_neg c9] at H
        have c9b0 : (t174 == 0) = false := beq_eq_false_iff_ne.mpr c9
        have c9b1 : (t174 != 0) = true := bne_iff_ne.mpr c9
        obtain rfl := Option.some.inj H
        go_enter Tryz.func15, Tryz.ntmps15
        go_wp2_with (first | ((with_reducible refine gate_callee (f := 84) rfl ?_); refine goesL_ (some 15) rfl rfl Tryz.func84 (by kernel_rfl) rfl #[.string (⟨#[97, 98, 99]⟩ : ByteArray), .int .i64 8, .int .u8 45] rfl (by (try simp only [List.map_toArray, List.map_cons, List.map_nil]); first | done | rfl | (simp only [List.length_drop, List.length_take]; rfl)) ?_; (with_reducible refine (text_Center.calls (⟨#[97, 98, 99]⟩ : ByteArray) 8 45 t171 t172 _ A1.out).mono ?_); rintro e w84 ⟨rfl, hb⟩; refine ⟨_, rfl, ?_⟩; have n0_ := Aside0.mk (below_step (by repeat (first | (with_reducible first | exact HB.out | apply below_alloc | apply pw_below_drewN | apply below_drew1) | exact HB.out)) hb); clear HB; have HB := n0_; clear n0_; (try clear hb); (try clear hb2); (try clear hk); (try clear hi)) | ((with_reducible refine gate_callee (f := 42) rfl ?_); refine goesL_ (some 19) rfl rfl Tryz.func42 (by kernel_rfl) rfl #[.string (⟨#[78, 111, 119, 32, 105, 115, 32, 116, 104, 101, 32, 32, 116, 105, 109, 101]⟩ : ByteArray), .int .i64 2, .int .i64 2] rfl (by (try simp only [List.map_toArray, List.map_cons, List.map_nil]); first | done | rfl | (simp only [List.length_drop, List.length_take]; rfl)) ?_; (with_reducible refine (text_DelWord.calls (⟨#[78, 111, 119, 32, 105, 115, 32, 116, 104, 101, 32, 32, 116, 105, 109, 101]⟩ : ByteArray) 2 2 t173 t174 _ A2.out).mono ?_); rintro e w85 ⟨rfl, hb⟩; refine ⟨_, rfl, ?_⟩; have n0_ := Aside0.mk (below_step (by repeat (first | (with_reducible first | exact HB.out | apply below_alloc | apply pw_below_drewN | apply below_drew1) | exact HB.out)) hb); clear HB; have HB := n0_; clear n0_; (try clear hb); (try clear hb2); (try clear hk); (try clear hi)) | ((with_reducible refine gate_callee (f := 58) rfl ?_); refine goesL_ (some 23) rfl rfl Tryz.func58 (by kernel_rfl) rfl #[.string (⟨#[32]⟩ : ByteArray), .string (⟨#[97, 98, 99, 32, 100, 101, 102, 32, 103, 104, 105]⟩ : ByteArray), .int .i64 7] rfl (by (try simp only [List.map_toArray, List.map_cons, List.map_nil]); first | done | rfl | (simp only [List.length_drop, List.length_take]; rfl)) ?_; (with_reducible refine (text_LastPos.calls k (⟨#[32]⟩ : ByteArray) (⟨#[97, 98, 99, 32, 100, 101, 102, 32, 103, 104, 105]⟩ : ByteArray) 7 t175 t176 _ A3.out).mono ?_); rintro e w86 ⟨rfl, hb⟩; refine ⟨_, rfl, ?_⟩; have n0_ := Aside0.mk (below_step (by repeat (first | (with_reducible first | exact HB.out | apply below_alloc | apply pw_below_drewN | apply below_drew1) | exact HB.out)) hb); clear HB; have HB := n0_; clear n0_; (try clear hb); (try clear hb2); (try clear hk); (try clear hi)) | ((with_reducible refine gate_callee (f := 24) rfl ?_); refine goesL_ (some 27) rfl rfl Tryz.func24 (by kernel_rfl) rfl #[.string (⟨#[97, 98, 99, 100, 101, 102]⟩ : ByteArray), .string (⟨#[49, 50]⟩ : ByteArray), .string (⟨#[101, 99]⟩ : ByteArray), .int .u8 46] rfl (by (try simp only [List.map_toArray, List.map_cons, List.map_nil]); first | done | rfl | (simp only [List.length_drop, List.length_take]; rfl)) ?_; (with_reducible refine (text_Translate.calls (⟨#[97, 98, 99, 100, 101, 102]⟩ : ByteArray) (⟨#[49, 50]⟩ : ByteArray) (⟨#[101, 99]⟩ : ByteArray) 46 t177 t178 _ A4.out).mono ?_); rintro e w87 ⟨rfl, hb⟩; refine ⟨_, rfl, ?_⟩; have n0_ := Aside0.mk (below_step (by repeat (first | (with_reducible first | exact HB.out | apply below_alloc | apply pw_below_drewN | apply below_drew1) | exact HB.out)) hb); clear HB; have HB := n0_; clear n0_; (try clear hb); (try clear hb2); (try clear hk); (try clear hi)) | ((with_reducible refine gate_callee (f := 19) rfl ?_); refine goesL_ (some 31) rfl rfl Tryz.func19 (by kernel_rfl) rfl #[.string (⟨#[65]⟩ : ByteArray), .string (⟨#[65]⟩ : ByteArray), .int .i64 (-1)] rfl (by (try simp only [List.map_toArray, List.map_cons, List.map_nil]); first | done | rfl | (simp only [List.length_drop, List.length_take]; rfl)) ?_; (with_reducible refine (text_BitXor.calls (⟨#[65]⟩ : ByteArray) (⟨#[65]⟩ : ByteArray) (-1) t179 t180 _ A5.out).mono ?_); rintro e w88 ⟨rfl, hb⟩; refine ⟨_, rfl, ?_⟩; have n0_ := Aside0.mk (below_step (by repeat (first | (with_reducible first | exact HB.out | apply below_alloc | apply pw_below_drewN | apply below_drew1) | exact HB.out)) hb); clear HB; have HB := n0_; clear n0_; (try clear hb); (try clear hb2); (try clear hk); (try clear hi)) | ((with_reducible refine gate_callee (f := 76) rfl ?_); refine goesL_ (some 35) rfl rfl Tryz.func76 (by kernel_rfl) rfl #[.string (⟨#[54, 49, 54, 50]⟩ : ByteArray)] rfl (by (try simp only [List.map_toArray, List.map_cons, List.map_nil]); first | done | rfl | (simp only [List.length_drop, List.length_take]; rfl)) ?_; (with_reducible refine (text_X2C.calls k (⟨#[54, 49, 54, 50]⟩ : ByteArray) t181 t182 _ (TabOK.of_below hT (by repeat (first | (with_reducible first | exact HB.out | apply below_alloc | apply pw_below_drewN | apply below_drew1) | exact HB.out))) A6.out).mono ?_); rintro e w89 ⟨rfl, hb⟩; refine ⟨_, rfl, ?_⟩; have n0_ := Aside0.mk (below_step (by repeat (first | (with_reducible first | exact HB.out | apply below_alloc | apply pw_below_drewN | apply below_drew1) | exact HB.out)) hb); clear HB; have HB := n0_; clear n0_; (try clear hb); (try clear hb2); (try clear hk); (try clear hi)))
        go_ret
        exact ⟨by first | rfl | (simp [errW_none, errW_some] <;> rfl) | (simp [*, errW_none, errW_some] <;> rfl), by repeat (first | (with_reducible first | exact HB.out | apply below_alloc | apply pw_below_drewN | apply below_drew1) | exact HB.out)⟩
    · rw [if_neg c8] at H
      have c8b0 : (t171.toList == ([45, 45, 97, 98, 99, 45, 45, 45] : List UInt8)) = false := beq_eq_false_iff_ne.mpr c8
      have c8b1 : (t171.toList != ([45, 45, 97, 98, 99, 45, 45, 45] : List UInt8)) = true := bne_iff_ne.mpr c8
      obtain rfl := Option.some.inj H
      go_enter Tryz.func15, Tryz.ntmps15
      go_wp2_with (first | ((with_reducible refine gate_callee (f := 84) rfl ?_); refine goesL_ (some 15) rfl rfl Tryz.func84 (by kernel_rfl) rfl #[.string (⟨#[97, 98, 99]⟩ : ByteArray), .int .i64 8, .int .u8 45] rfl (by (try simp only [List.map_toArray, List.map_cons, List.map_nil]); first | done | rfl | (simp only [List.length_drop, List.length_take]; rfl)) ?_; (with_reducible refine (text_Center.calls (⟨#[97, 98, 99]⟩ : ByteArray) 8 45 t171 t172 _ A1.out).mono ?_); rintro e w90 ⟨rfl, hb⟩; refine ⟨_, rfl, ?_⟩; have n0_ := Aside0.mk (below_step (by repeat (first | (with_reducible first | exact HB.out | apply below_alloc | apply pw_below_drewN | apply below_drew1) | exact HB.out)) hb); clear HB; have HB := n0_; clear n0_; (try clear hb); (try clear hb2); (try clear hk); (try clear hi)) | ((with_reducible refine gate_callee (f := 42) rfl ?_); refine goesL_ (some 19) rfl rfl Tryz.func42 (by kernel_rfl) rfl #[.string (⟨#[78, 111, 119, 32, 105, 115, 32, 116, 104, 101, 32, 32, 116, 105, 109, 101]⟩ : ByteArray), .int .i64 2, .int .i64 2] rfl (by (try simp only [List.map_toArray, List.map_cons, List.map_nil]); first | done | rfl | (simp only [List.length_drop, List.length_take]; rfl)) ?_; (with_reducible refine (text_DelWord.calls (⟨#[78, 111, 119, 32, 105, 115, 32, 116, 104, 101, 32, 32, 116, 105, 109, 101]⟩ : ByteArray) 2 2 t173 t174 _ A2.out).mono ?_); rintro e w91 ⟨rfl, hb⟩; refine ⟨_, rfl, ?_⟩; have n0_ := Aside0.mk (below_step (by repeat (first | (with_reducible first | exact HB.out | apply below_alloc | apply pw_below_drewN | apply below_drew1) | exact HB.out)) hb); clear HB; have HB := n0_; clear n0_; (try clear hb); (try clear hb2); (try clear hk); (try clear hi)) | ((with_reducible refine gate_callee (f := 58) rfl ?_); refine goesL_ (some 23) rfl rfl Tryz.func58 (by kernel_rfl) rfl #[.string (⟨#[32]⟩ : ByteArray), .string (⟨#[97, 98, 99, 32, 100, 101, 102, 32, 103, 104, 105]⟩ : ByteArray), .int .i64 7] rfl (by (try simp only [List.map_toArray, List.map_cons, List.map_nil]); first | done | rfl | (simp only [List.length_drop, List.length_take]; rfl)) ?_; (with_reducible refine (text_LastPos.calls k (⟨#[32]⟩ : ByteArray) (⟨#[97, 98, 99, 32, 100, 101, 102, 32, 103, 104, 105]⟩ : ByteArray) 7 t175 t176 _ A3.out).mono ?_); rintro e w92 ⟨rfl, hb⟩; refine ⟨_, rfl, ?_⟩; have n0_ := Aside0.mk (below_step (by repeat (first | (with_reducible first | exact HB.out | apply below_alloc | apply pw_below_drewN | apply below_drew1) | exact HB.out)) hb); clear HB; have HB := n0_; clear n0_; (try clear hb); (try clear hb2); (try clear hk); (try clear hi)) | ((with_reducible refine gate_callee (f := 24) rfl ?_); refine goesL_ (some 27) rfl rfl Tryz.func24 (by kernel_rfl) rfl #[.string (⟨#[97, 98, 99, 100, 101, 102]⟩ : ByteArray), .string (⟨#[49, 50]⟩ : ByteArray), .string (⟨#[101, 99]⟩ : ByteArray), .int .u8 46] rfl (by (try simp only [List.map_toArray, List.map_cons, List.map_nil]); first | done | rfl | (simp only [List.length_drop, List.length_take]; rfl)) ?_; (with_reducible refine (text_Translate.calls (⟨#[97, 98, 99, 100, 101, 102]⟩ : ByteArray) (⟨#[49, 50]⟩ : ByteArray) (⟨#[101, 99]⟩ : ByteArray) 46 t177 t178 _ A4.out).mono ?_); rintro e w93 ⟨rfl, hb⟩; refine ⟨_, rfl, ?_⟩; have n0_ := Aside0.mk (below_step (by repeat (first | (with_reducible first | exact HB.out | apply below_alloc | apply pw_below_drewN | apply below_drew1) | exact HB.out)) hb); clear HB; have HB := n0_; clear n0_; (try clear hb); (try clear hb2); (try clear hk); (try clear hi)) | ((with_reducible refine gate_callee (f := 19) rfl ?_); refine goesL_ (some 31) rfl rfl Tryz.func19 (by kernel_rfl) rfl #[.string (⟨#[65]⟩ : ByteArray), .string (⟨#[65]⟩ : ByteArray), .int .i64 (-1)] rfl (by (try simp only [List.map_toArray, List.map_cons, List.map_nil]); first | done | rfl | (simp only [List.length_drop, List.length_take]; rfl)) ?_; (with_reducible refine (text_BitXor.calls (⟨#[65]⟩ : ByteArray) (⟨#[65]⟩ : ByteArray) (-1) t179 t180 _ A5.out).mono ?_); rintro e w94 ⟨rfl, hb⟩; refine ⟨_, rfl, ?_⟩; have n0_ := Aside0.mk (below_step (by repeat (first | (with_reducible first | exact HB.out | apply below_alloc | apply pw_below_drewN | apply below_drew1) | exact HB.out)) hb); clear HB; have HB := n0_; clear n0_; (try clear hb); (try clear hb2); (try clear hk); (try clear hi)) | ((with_reducible refine gate_callee (f := 76) rfl ?_); refine goesL_ (some 35) rfl rfl Tryz.func76 (by kernel_rfl) rfl #[.string (⟨#[54, 49, 54, 50]⟩ : ByteArray)] rfl (by (try simp only [List.map_toArray, List.map_cons, List.map_nil]); first | done | rfl | (simp only [List.length_drop, List.length_take]; rfl)) ?_; (with_reducible refine (text_X2C.calls k (⟨#[54, 49, 54, 50]⟩ : ByteArray) t181 t182 _ (TabOK.of_below hT (by repeat (first | (with_reducible first | exact HB.out | apply below_alloc | apply pw_below_drewN | apply below_drew1) | exact HB.out))) A6.out).mono ?_); rintro e w95 ⟨rfl, hb⟩; refine ⟨_, rfl, ?_⟩; have n0_ := Aside0.mk (below_step (by repeat (first | (with_reducible first | exact HB.out | apply below_alloc | apply pw_below_drewN | apply below_drew1) | exact HB.out)) hb); clear HB; have HB := n0_; clear n0_; (try clear hb); (try clear hb2); (try clear hk); (try clear hi)))
      go_ret
      exact ⟨by first | rfl | (simp [errW_none, errW_some] <;> rfl) | (simp [*, errW_none, errW_some] <;> rfl), by repeat (first | (with_reducible first | exact HB.out | apply below_alloc | apply pw_below_drewN | apply below_drew1) | exact HB.out)⟩
  · rw [if_neg c7] at H
    have c7b0 : (t172 == 0) = false := beq_eq_false_iff_ne.mpr c7
    have c7b1 : (t172 != 0) = true := bne_iff_ne.mpr c7
    obtain rfl := Option.some.inj H
    go_enter Tryz.func15, Tryz.ntmps15
    go_wp2_with (first | ((with_reducible refine gate_callee (f := 84) rfl ?_); refine goesL_ (some 15) rfl rfl Tryz.func84 (by kernel_rfl) rfl #[.string (⟨#[97, 98, 99]⟩ : ByteArray), .int .i64 8, .int .u8 45] rfl (by (try simp only [List.map_toArray, List.map_cons, List.map_nil]); first | done | rfl | (simp only [List.length_drop, List.length_take]; rfl)) ?_; (with_reducible refine (text_Center.calls (⟨#[97, 98, 99]⟩ : ByteArray) 8 45 t171 t172 _ A1.out).mono ?_); rintro e w96 ⟨rfl, hb⟩; refine ⟨_, rfl, ?_⟩; have n0_ := Aside0.mk (below_step (by repeat (first | (with_reducible first | exact HB.out | apply below_alloc | apply pw_below_drewN | apply below_drew1) | exact HB.out)) hb); clear HB; have HB := n0_; clear n0_; (try clear hb); (try clear hb2); (try clear hk); (try clear hi)) | ((with_reducible refine gate_callee (f := 42) rfl ?_); refine goesL_ (some 19) rfl rfl Tryz.func42 (by kernel_rfl) rfl #[.string (⟨#[78, 111, 119, 32, 105, 115, 32, 116, 104, 101, 32, 32, 116, 105, 109, 101]⟩ : ByteArray), .int .i64 2, .int .i64 2] rfl (by (try simp only [List.map_toArray, List.map_cons, List.map_nil]); first | done | rfl | (simp only [List.length_drop, List.length_take]; rfl)) ?_; (with_reducible refine (text_DelWord.calls (⟨#[78, 111, 119, 32, 105, 115, 32, 116, 104, 101, 32, 32, 116, 105, 109, 101]⟩ : ByteArray) 2 2 t173 t174 _ A2.out).mono ?_); rintro e w97 ⟨rfl, hb⟩; refine ⟨_, rfl, ?_⟩; have n0_ := Aside0.mk (below_step (by repeat (first | (with_reducible first | exact HB.out | apply below_alloc | apply pw_below_drewN | apply below_drew1) | exact HB.out)) hb); clear HB; have HB := n0_; clear n0_; (try clear hb); (try clear hb2); (try clear hk); (try clear hi)) | ((with_reducible refine gate_callee (f := 58) rfl ?_); refine goesL_ (some 23) rfl rfl Tryz.func58 (by kernel_rfl) rfl #[.string (⟨#[32]⟩ : ByteArray), .string (⟨#[97, 98, 99, 32, 100, 101, 102, 32, 103, 104, 105]⟩ : ByteArray), .int .i64 7] rfl (by (try simp only [List.map_toArray, List.map_cons, List.map_nil]); first | done | rfl | (simp only [List.length_drop, List.length_take]; rfl)) ?_; (with_reducible refine (text_LastPos.calls k (⟨#[32]⟩ : ByteArray) (⟨#[97, 98, 99, 32, 100, 101, 102, 32, 103, 104, 105]⟩ : ByteArray) 7 t175 t176 _ A3.out).mono ?_); rintro e w98 ⟨rfl, hb⟩; refine ⟨_, rfl, ?_⟩; have n0_ := Aside0.mk (below_step (by repeat (first | (with_reducible first | exact HB.out | apply below_alloc | apply pw_below_drewN | apply below_drew1) | exact HB.out)) hb); clear HB; have HB := n0_; clear n0_; (try clear hb); (try clear hb2); (try clear hk); (try clear hi)) | ((with_reducible refine gate_callee (f := 24) rfl ?_); refine goesL_ (some 27) rfl rfl Tryz.func24 (by kernel_rfl) rfl #[.string (⟨#[97, 98, 99, 100, 101, 102]⟩ : ByteArray), .string (⟨#[49, 50]⟩ : ByteArray), .string (⟨#[101, 99]⟩ : ByteArray), .int .u8 46] rfl (by (try simp only [List.map_toArray, List.map_cons, List.map_nil]); first | done | rfl | (simp only [List.length_drop, List.length_take]; rfl)) ?_; (with_reducible refine (text_Translate.calls (⟨#[97, 98, 99, 100, 101, 102]⟩ : ByteArray) (⟨#[49, 50]⟩ : ByteArray) (⟨#[101, 99]⟩ : ByteArray) 46 t177 t178 _ A4.out).mono ?_); rintro e w99 ⟨rfl, hb⟩; refine ⟨_, rfl, ?_⟩; have n0_ := Aside0.mk (below_step (by repeat (first | (with_reducible first | exact HB.out | apply below_alloc | apply pw_below_drewN | apply below_drew1) | exact HB.out)) hb); clear HB; have HB := n0_; clear n0_; (try clear hb); (try clear hb2); (try clear hk); (try clear hi)) | ((with_reducible refine gate_callee (f := 19) rfl ?_); refine goesL_ (some 31) rfl rfl Tryz.func19 (by kernel_rfl) rfl #[.string (⟨#[65]⟩ : ByteArray), .string (⟨#[65]⟩ : ByteArray), .int .i64 (-1)] rfl (by (try simp only [List.map_toArray, List.map_cons, List.map_nil]); first | done | rfl | (simp only [List.length_drop, List.length_take]; rfl)) ?_; (with_reducible refine (text_BitXor.calls (⟨#[65]⟩ : ByteArray) (⟨#[65]⟩ : ByteArray) (-1) t179 t180 _ A5.out).mono ?_); rintro e w100 ⟨rfl, hb⟩; refine ⟨_, rfl, ?_⟩; have n0_ := Aside0.mk (below_step (by repeat (first | (with_reducible first | exact HB.out | apply below_alloc | apply pw_below_drewN | apply below_drew1) | exact HB.out)) hb); clear HB; have HB := n0_; clear n0_; (try clear hb); (try clear hb2); (try clear hk); (try clear hi)) | ((with_reducible refine gate_callee (f := 76) rfl ?_); refine goesL_ (some 35) rfl rfl Tryz.func76 (by kernel_rfl) rfl #[.string (⟨#[54, 49, 54, 50]⟩ : ByteArray)] rfl (by (try simp only [List.map_toArray, List.map_cons, List.map_nil]); first | done | rfl | (simp only [List.length_drop, List.length_take]; rfl)) ?_; (with_reducible refine (text_X2C.calls k (⟨#[54, 49, 54, 50]⟩ : ByteArray) t181 t182 _ (TabOK.of_below hT (by repeat (first | (with_reducible first | exact HB.out | apply below_alloc | apply pw_below_drewN | apply below_drew1) | exact HB.out))) A6.out).mono ?_); rintro e w101 ⟨rfl, hb⟩; refine ⟨_, rfl, ?_⟩; have n0_ := Aside0.mk (below_step (by repeat (first | (with_reducible first | exact HB.out | apply below_alloc | apply pw_below_drewN | apply below_drew1) | exact HB.out)) hb); clear HB; have HB := n0_; clear n0_; (try clear hb); (try clear hb2); (try clear hk); (try clear hi)))
    go_ret
    exact ⟨by first | rfl | (simp [errW_none, errW_some] <;> rfl) | (simp [*, errW_none, errW_some] <;> rfl), by repeat (first | (with_reducible first | exact HB.out | apply below_alloc | apply pw_below_drewN | apply below_drew1) | exact HB.out)⟩

end Go.Proofs.YtlekfhnlhdmekaaGreatDoor.T

/- text.find returns the first offset, from one on, at which a string stands in another one. -/
namespace Go.Proofs.YtlekfhnlhdmekaaGreatDoor.T
set_option linter.unusedSimpArgs false
set_option linter.unusedVariables false
open Go.RowKit Go.Proofs.YtlekfhnlhdmekaaGreatDoorW.PrintWords Go.Proofs.YtlekfhnlhdmekaaGreatDoorW.PrintLast Go.Proofs.YtlekfhnlhdmekaaGreatDoorW.PrintMore

attribute [local go_sem] max2_int min2_int max_two min_two max_three min_three max_four min_four

/-- The first offset from i on at which a stands in s; -1 if there is none. -/
def fnd (a s : ByteArray) (i : Nat) : Int := if h : i + a.size ≤ s.size ∧ 0 < a.size then (if (s.extract i (i + a.size)).toList = a.toList then (i : Int) else fnd a s (i + 1)) else -1
termination_by s.size - i
def text_find.f (a0 a1 : ByteArray) (a2 : Int) : Option Int :=
  if a0.size ≤ 100000 ∧ a1.size ≤ 100000 ∧ 0 ≤ a2 then (if a0.size = 0 then some (-1) else some (fnd a0 a1 (if a2 ≤ (a1.size : Int) then a2.toNat else a1.size))) else none

set_option maxHeartbeats 2000000 in
theorem text_find.calls (a0 a1 : ByteArray) (a2 : Int) (r : Int) (w : World) (h : text_find.f a0 a1 a2 = some r) :
    Calls Tryz.prog 116 #[.string a0, .string a1, .int .i64 a2] w fun e w' => e = .returned (.int .i64 r) ∧ Drawn0 w w' := by
  unfold text_find.f at h
  by_cases hb : a0.size ≤ 100000 ∧ a1.size ≤ 100000 ∧ 0 ≤ a2
  · rw [if_pos hb] at h
    obtain ⟨hz0, hz1, hz2⟩ := hb
    by_cases he : a0.size = 0
    · rw [if_pos he] at h
      obtain rfl := Option.some.inj h
      clear h
      have hnil : a0.toList = [] := by
        have : a0.toList.length = 0 := by rw [Lib.toList_data]; simpa using he
        exact List.eq_nil_of_length_eq_zero this
      have hn1 : (a0.toList == []) = true := by rw [hnil]; rfl
      have hn2 : a0.toList.isEmpty = true := by rw [hnil]; rfl
      clear he
      go_enter Tryz.func116, Tryz.ntmps116
      go_wp2
      go_step3
      go_wp2
      rw [Exit.noGoto_ret]
      go_ret
      exact ⟨rfl, Drawn0.refl _⟩
    · rw [if_neg he] at h
      obtain rfl := Option.some.inj h
      clear h
      have hnil : ¬ a0.toList = [] := by
        intro h0
        have h1 : a0.toList.length = a0.size := by rw [Lib.toList_data]; simp
        rw [h0] at h1
        exact he h1.symm
      have hpos : 0 < a0.size := by omega
      have hn1 : (a0.toList == []) = false := by simpa using hnil
      have hn2 : a0.toList.isEmpty = false := by simpa using hnil
      clear he hnil
      obtain ⟨b, hb⟩ : ∃ b : Nat, (if a2 ≤ (a1.size : Int) then a2.toNat else a1.size) = b := ⟨_, rfl⟩
      have hbs : b ≤ a1.size := by rw [← hb]; split <;> omega
      have hmin : (if (a1.size : Int) < a2 then (a1.size : Int) else a2) = (b : Int) := by rw [← hb]; split <;> split <;> omega
      rw [hb]
      clear hb
      go_enter Tryz.func116, Tryz.ntmps116
      go_wp2
      go_step3
      go_wp2
      go_step3
      go_wp2
      clear hmin hn1 hn2
      go_loopg [7] (a1.size + 1) (fun gg v7 wr => ∃ j : Nat, j ≤ a1.size ∧ a1.size - j < gg ∧ v7 = .int .i64 j ∧ Aside0 (fnd a0 a1 b = fnd a0 a1 j) ∧ wr = w)
      case atStart => exact ⟨b, hbs, by omega, rfl, ⟨rfl⟩, rfl⟩
      case round =>
        obtain ⟨j, hj, hg, rfl, HF, rfl⟩ := hrel
        by_cases hfit : j + a0.size ≤ a1.size
        · have hc1 : decide ((a1.size : Int) < (j : Int) + (a0.size : Int)) = false := decide_eq_false (by omega)
          by_cases heq : (a1.extract j (j + a0.size)).toList = a0.toList
          · have he1 : ((a1.extract j (j + a0.size)).toList == a0.toList) = true := by simpa using heq
            have HE := Aside0.mk (show fnd a0 a1 j = (j : Int) by rw [fnd, dif_pos ⟨hfit, hpos⟩, if_pos heq])
            clear heq
            go_wp2
            rw [Exit.noGoto_ret]
            go_ret
            exact ⟨by rw [HF.out, HE.out]; rfl, Drawn0.refl _⟩
          · have he1 : ((a1.extract j (j + a0.size)).toList == a0.toList) = false := by simpa using heq
            have HE := Aside0.mk (show fnd a0 a1 j = fnd a0 a1 (j + 1) by rw [fnd, dif_pos ⟨hfit, hpos⟩, if_neg heq])
            clear heq
            go_wp2
            go_roundg (a1.size - j)
            case measure => omega
            case rel => exact ⟨j + 1, by omega, by omega, by go_num, ⟨by rw [HF.out, HE.out]⟩, rfl⟩
        · have hc1 : decide ((a1.size : Int) < (j : Int) + (a0.size : Int)) = true := decide_eq_true (by omega)
          have HE := Aside0.mk (show fnd a0 a1 j = -1 by rw [fnd, dif_neg (by omega)])
          go_wp2
          rw [Exit.noGoto_ret]
          go_ret
          exact ⟨by rw [HF.out, HE.out]; rfl, Drawn0.refl _⟩
  · rw [if_neg hb] at h
    cases h
end Go.Proofs.YtlekfhnlhdmekaaGreatDoor.T

-- Written by a program of this session (mp.py over the kit's print.py), out of the translation.
namespace Go.Proofs.YtlekfhnlhdmekaaGreatDoor.T
set_option linter.unusedSimpArgs false
open Go.RowKit Go.Proofs.YtlekfhnlhdmekaaGreatDoorW.PrintWords Go.Proofs.YtlekfhnlhdmekaaGreatDoorW.PrintLast Go.Proofs.YtlekfhnlhdmekaaGreatDoorW.PrintMore
attribute [local go_sem] max2_int min2_int max_two min_two max_three min_three max_four min_four   -- for this text's walks alone
set_option linter.unusedVariables false
set_option linter.unusedSimpArgs false

/-! ### text_Pos: function 57 -/
def text_Pos.f (a0 : ByteArray) (a1 : ByteArray) (a2 : Int) : Option (Int × Int) := (text_valid.f (([a0, a1] : List ByteArray))).bind fun t578 => ((text_least.f 1 (([a2] : List Int))).bind fun t582 => ((text_first.f (([t578, t582] : List Int))).bind fun t586 => (if t586 = 0 then ((text_find.f a0 a1 (wrap64 (a2 - 1))).bind fun t587 => (some (wrap64 (t587 + 1), 0))) else (some (0, t586)))))
set_option maxHeartbeats 8000000 in
set_option maxRecDepth 100000 in
theorem text_Pos.calls (a0 : ByteArray) (a1 : ByteArray) (a2 : Int) (r1 : Int) (r2 : Int) (w : World) (h : text_Pos.f a0 a1 a2 = some (r1, r2)) :
    Calls Tryz.prog 57 #[.string a0, .string a1, .int .i64 a2] w fun e w' => e = .returned (.tuple #[.int .i64 r1, .int .i64 r2]) ∧ Below w.heap.size w w' := by
  have HB := Aside0.mk (Below.refl w.heap.size w)
  have H : ((text_valid.f (([a0, a1] : List ByteArray))).bind fun t578 => ((text_least.f 1 (([a2] : List Int))).bind fun t582 => ((text_first.f (([t578, t582] : List Int))).bind fun t586 => (if t586 = 0 then ((text_find.f a0 a1 (wrap64 (a2 - 1))).bind fun t587 => (some (wrap64 (t587 + 1), 0))) else (some (0, t586)))))) = some (r1, r2) := h
  clear h
  obtain ⟨y575, hy575⟩ : ∃ y_ : List ByteArray, y_ = (([a0, a1] : List ByteArray)) := ⟨_, rfl⟩
  replace H : ((text_valid.f y575).bind fun t578 => ((text_least.f 1 (([a2] : List Int))).bind fun t582 => ((text_first.f (([t578, t582] : List Int))).bind fun t586 => (if t586 = 0 then ((text_find.f a0 a1 (wrap64 (a2 - 1))).bind fun t587 => (some (wrap64 (t587 + 1), 0))) else (some (0, t586)))))) = some (r1, r2) := by first | (rw [hy575]; with_reducible exact H) | (have H2_ := (Option.bind_some _ _).symm.trans H; rw [hy575]; with_reducible exact H2_) | (have H2_ := (Option.bind_some _ _).symm.trans H; with_reducible exact H2_) | with_reducible exact H | (rw [hy575]; exact H) | exact H
  have Ny575 := Aside0.mk hy575
  clear hy575
  replace H := Option.bind_eq_some_iff.mp H
  obtain ⟨t578, A40, H⟩ := H
  replace H : ((text_least.f 1 (([a2] : List Int))).bind fun t582 => ((text_first.f (([t578, t582] : List Int))).bind fun t586 => (if t586 = 0 then ((text_find.f a0 a1 (wrap64 (a2 - 1))).bind fun t587 => (some (wrap64 (t587 + 1), 0))) else (some (0, t586))))) = some (r1, r2) := H
  have A4 := Aside0.mk A40
  clear A40
  obtain ⟨y579, hy579⟩ : ∃ y_ : List Int, y_ = (([a2] : List Int)) := ⟨_, rfl⟩
  replace H : ((text_least.f 1 y579).bind fun t582 => ((text_first.f (([t578, t582] : List Int))).bind fun t586 => (if t586 = 0 then ((text_find.f a0 a1 (wrap64 (a2 - 1))).bind fun t587 => (some (wrap64 (t587 + 1), 0))) else (some (0, t586))))) = some (r1, r2) := by first | (rw [hy579]; with_reducible exact H) | (have H2_ := (Option.bind_some _ _).symm.trans H; rw [hy579]; with_reducible exact H2_) | (have H2_ := (Option.bind_some _ _).symm.trans H; with_reducible exact H2_) | with_reducible exact H | (rw [hy579]; exact H) | exact H
  have Ny579 := Aside0.mk hy579
  clear hy579
  replace H := Option.bind_eq_some_iff.mp H
  obtain ⟨t582, A50, H⟩ := H
  replace H : ((text_first.f (([t578, t582] : List Int))).bind fun t586 => (if t586 = 0 then ((text_find.f a0 a1 (wrap64 (a2 - 1))).bind fun t587 => (some (wrap64 (t587 + 1), 0))) else (some (0, t586)))) = some (r1, r2) := H
  have A5 := Aside0.mk A50
  clear A50
  obtain ⟨y583, hy583⟩ : ∃ y_ : List Int, y_ = (([t578, t582] : List Int)) := ⟨_, rfl⟩
  replace H : ((text_first.f y583).bind fun t586 => (if t586 = 0 then ((text_find.f a0 a1 (wrap64 (a2 - 1))).bind fun t587 => (some (wrap64 (t587 + 1), 0))) else (some (0, t586)))) = some (r1, r2) := by first | (rw [hy583]; with_reducible exact H) | (have H2_ := (Option.bind_some _ _).symm.trans H; rw [hy583]; with_reducible exact H2_) | (have H2_ := (Option.bind_some _ _).symm.trans H; with_reducible exact H2_) | with_reducible exact H | (rw [hy583]; exact H) | exact H
  have Ny583 := Aside0.mk hy583
  clear hy583
  replace H := Option.bind_eq_some_iff.mp H
  obtain ⟨t586, A60, H⟩ := H
  replace H : (if t586 = 0 then ((text_find.f a0 a1 (wrap64 (a2 - 1))).bind fun t587 => (some (wrap64 (t587 + 1), 0))) else (some (0, t586))) = some (r1, r2) := H
  have A6 := Aside0.mk A60
  clear A60
  by_cases c7 : t586 = 0
  · rw [if_pos c7] at H
    have c7b0 : (t586 == 0) = true := beq_iff_eq.mpr c7
    have c7b1 : (t586 != 0) = false := bne_eq_false_iff_eq.mpr c7
    clear c7
    replace H := Option.bind_eq_some_iff.mp H
    obtain ⟨t587, A80, H⟩ := H
    replace H : (some (wrap64 (t587 + 1), 0)) = some (r1, r2) := H
    have A8 := Aside0.mk A80
    clear A80
    simp only [Option.some.injEq, Prod.mk.injEq] at H
    obtain ⟨rfl, rfl⟩ := H
    go_enter Tryz.func57, Tryz.ntmps57
    go_wp2_with (first | ((with_reducible refine gate_dst (N := 11) rfl ?_); refine Kd.R_lit Kd.string _ 9 ?hg (N := 11) ?hd (xs := ([a0, a1] : List ByteArray)) (inner := [.string a0, .string a1]) (ok := fun _ => True) (okp := fun _ => True) ?hr ?hp (fun _ hk => hk) trivial (Below.refl _ _) (Nat.le_refl _) (by simp) ?_; (case hd => rfl); (case hg => rfl); (case hr => first | (go_simp; done) | (go_simp; rfl)); (case hp => exact (Reps.one (show Kd.M Kd.string _ _ _ a0 [.string a0] from rfl) (Reps.one (show Kd.M Kd.string _ _ _ a1 [.string a1] from rfl) (Reps.none _ _)))); intro v576 w9 ho10 hb hg_ hnew_; clear hg_ hnew_; (first | rw [← Ny575.out] at ho10 | (simp only [Int.reduceToNat] at ho10; rw [← Ny575.out] at ho10)); have n0_ := Aside0.mk (Kd.R_lower ho10 (below_size (by repeat (first | (with_reducible first | exact HB.out | apply below_alloc | apply pw_below_drewN | apply below_drew1) | exact HB.out)))); have n1_ := Aside0.mk (below_step (by repeat (first | (with_reducible first | exact HB.out | apply below_alloc | apply pw_below_drewN | apply below_drew1) | exact HB.out)) hb); clear HB; have HO577 := n0_; have HB := n1_; clear n0_ n1_; clear hb ho10; obtain ⟨Ao11, co11, eo11⟩ := Kd.R_slice HO577.out; subst eo11) | ((with_reducible refine gate_callee (f := 93) rfl ?_); refine goesL_ (some 12) rfl rfl Tryz.func93 (by kernel_rfl) rfl #[.slice Ao11 y575.length co11] rfl (by (try simp only [List.map_toArray, List.map_cons, List.map_nil]); first | done | rfl | (simp only [List.length_drop, List.length_take]; rfl)) ?_; (with_reducible refine (text_valid.calls _ _ y575 t578 _ ?side1 ?side2 A4.out).mono ?_); (case side1 => repeat (first | exact (Kd.R_reads' HO577.out).2.2 | (with_reducible refine Kd.C_alloc ?_ _) | (with_reducible refine Kd.C_drewN ?_ _) | (with_reducible refine Kd.C_drew ?_))); (case side2 => exact (Kd.R_reads' HO577.out).2.1); rintro e w12 ⟨rfl, hb⟩; refine ⟨_, rfl, ?_⟩; have n0_ := Aside0.mk (Kd.R_below (by (with_reducible repeat (first | apply Kd.R_alloc | apply Kd.R_drewN | apply Kd.R_drew)); exact HO577.out) hb); have n1_ := Aside0.mk (below_step (by repeat (first | (with_reducible first | exact HB.out | apply below_alloc | apply pw_below_drewN | apply below_drew1) | exact HB.out)) hb); clear HO577; clear HB; have HO577 := n0_; have HB := n1_; clear n0_ n1_; (try clear hb); (try clear hb2); (try clear hk); (try clear hi)) | ((with_reducible refine gate_dst (N := 14) rfl ?_); refine Kd.R_lit (Kd.int .i64) _ 3 ?hg (N := 14) ?hd (xs := ([a2] : List Int)) (inner := [.int .i64 a2]) (ok := fun _ => True) (okp := fun _ => True) ?hr ?hp (fun _ hk => hk) trivial (Below.refl _ _) (Nat.le_refl _) (by simp) ?_; (case hd => rfl); (case hg => rfl); (case hr => first | (go_simp; done) | (go_simp; rfl)); (case hp => exact (Reps.one (show Kd.M (Kd.int .i64) _ _ _ a2 [.int .i64 a2] from rfl) (Reps.none _ _))); intro v580 w13 ho14 hb hg_ hnew_; clear hg_ hnew_; (first | rw [← Ny579.out] at ho14 | (simp only [Int.reduceToNat] at ho14; rw [← Ny579.out] at ho14)); have n0_ := Aside0.mk (Kd.R_below (by (with_reducible repeat (first | apply Kd.R_alloc | apply Kd.R_drewN | apply Kd.R_drew)); exact HO577.out) hb); have n1_ := Aside0.mk (Kd.R_lower ho14 (below_size (by repeat (first | (with_reducible first | exact HB.out | apply below_alloc | apply pw_below_drewN | apply below_drew1) | exact HB.out)))); have n2_ := Aside0.mk (below_step (by repeat (first | (with_reducible first | exact HB.out | apply below_alloc | apply pw_below_drewN | apply below_drew1) | exact HB.out)) hb); clear HO577; clear HB; have HO577 := n0_; have HO581 := n1_; have HB := n2_; clear n0_ n1_ n2_; clear hb ho14; obtain ⟨Ao15, co15, eo15⟩ := Kd.R_slice HO581.out; subst eo15) | ((with_reducible refine gate_callee (f := 100) rfl ?_); refine goesL_ (some 15) rfl rfl Tryz.func100 (by kernel_rfl) rfl #[.int .i64 1, .slice Ao15 y579.length co15] rfl (by (try simp only [List.map_toArray, List.map_cons, List.map_nil]); first | done | rfl | (simp only [List.length_drop, List.length_take]; rfl)) ?_; (with_reducible refine (text_least.calls 1 _ _ y579 t582 _ ?side1 ?side2 A5.out).mono ?_); (case side1 => repeat (first | exact (Kd.R_reads' HO581.out).2.2 | (with_reducible refine Kd.C_alloc ?_ _) | (with_reducible refine Kd.C_drewN ?_ _) | (with_reducible refine Kd.C_drew ?_))); (case side2 => exact (Kd.R_reads' HO581.out).2.1); rintro e w16 ⟨rfl, hb⟩; refine ⟨_, rfl, ?_⟩; have n0_ := Aside0.mk (Kd.R_below (by (with_reducible repeat (first | apply Kd.R_alloc | apply Kd.R_drewN | apply Kd.R_drew)); exact HO577.out) hb); have n1_ := Aside0.mk (Kd.R_below (by (with_reducible repeat (first | apply Kd.R_alloc | apply Kd.R_drewN | apply Kd.R_drew)); exact HO581.out) hb); have n2_ := Aside0.mk (below_step (by repeat (first | (with_reducible first | exact HB.out | apply below_alloc | apply pw_below_drewN | apply below_drew1) | exact HB.out)) hb); clear HO577; clear HO581; clear HB; have HO577 := n0_; have HO581 := n1_; have HB := n2_; clear n0_ n1_ n2_; (try clear hb); (try clear hb2); (try clear hk); (try clear hi)) | ((with_reducible refine gate_dst (N := 16) rfl ?_); refine Kd.R_lit (Kd.int .i64) _ 24 ?hg (N := 16) ?hd (xs := ([t578, t582] : List Int)) (inner := [.int .i64 t578, .int .i64 t582]) (ok := fun _ => True) (okp := fun _ => True) ?hr ?hp (fun _ hk => hk) trivial (Below.refl _ _) (Nat.le_refl _) (by simp) ?_; (case hd => rfl); (case hg => rfl); (case hr => first | (go_simp; done) | (go_simp; rfl)); (case hp => exact (Reps.one (show Kd.M (Kd.int .i64) _ _ _ t578 [.int .i64 t578] from rfl) (Reps.one (show Kd.M (Kd.int .i64) _ _ _ t582 [.int .i64 t582] from rfl) (Reps.none _ _)))); intro v584 w17 ho18 hb hg_ hnew_; clear hg_ hnew_; (first | rw [← Ny583.out] at ho18 | (simp only [Int.reduceToNat] at ho18; rw [← Ny583.out] at ho18)); have n0_ := Aside0.mk (Kd.R_below (by (with_reducible repeat (first | apply Kd.R_alloc | apply Kd.R_drewN | apply Kd.R_drew)); exact HO577.out) hb); have n1_ := Aside0.mk (Kd.R_below (by (with_reducible repeat (first | apply Kd.R_alloc | apply Kd.R_drewN | apply Kd.R_drew)); exact HO581.out) hb); have n2_ := Aside0.mk (Kd.R_lower ho18 (below_size (by repeat (first | (with_reducible first | exact HB.out | apply below_alloc | apply pw_below_drewN | apply below_drew1) | exact HB.out)))); have n3_ := Aside0.mk (below_step (by repeat (first | (with_reducible first | exact HB.out | apply below_alloc | apply pw_below_drewN | apply below_drew1) | exact HB.out)) hb); clear HO577; clear HO581; clear HB; have HO577 := n0_; have HO581 := n1_; have HO585 := n2_; have HB := n3_; clear n0_ n1_ n2_ n3_; clear hb ho18; obtain ⟨Ao19, co19, eo19⟩ := Kd.R_slice HO585.out; subst eo19) | ((with_reducible refine gate_callee (f := 92) rfl ?_); refine goesL_ (some 17) rfl rfl Tryz.func92 (by kernel_rfl) rfl #[.slice Ao19 y583.length co19] rfl (by (try simp only [List.map_toArray, List.map_cons, List.map_nil]); first | done | rfl | (simp only [List.length_drop, List.length_take]; rfl)) ?_; (with_reducible refine (text_first.calls _ _ y583 t586 _ ?side1 ?side2 A6.out).mono ?_); (case side1 => repeat (first | exact (Kd.R_reads' HO585.out).2.2 | (with_reducible refine Kd.C_alloc ?_ _) | (with_reducible refine Kd.C_drewN ?_ _) | (with_reducible refine Kd.C_drew ?_))); (case side2 => exact (Kd.R_reads' HO585.out).2.1); rintro e w20 ⟨rfl, hb⟩; refine ⟨_, rfl, ?_⟩; have n0_ := Aside0.mk (Kd.R_below (by (with_reducible repeat (first | apply Kd.R_alloc | apply Kd.R_drewN | apply Kd.R_drew)); exact HO577.out) hb); have n1_ := Aside0.mk (Kd.R_below (by (with_reducible repeat (first | apply Kd.R_alloc | apply Kd.R_drewN | apply Kd.R_drew)); exact HO581.out) hb); have n2_ := Aside0.mk (Kd.R_below (by (with_reducible repeat (first | apply Kd.R_alloc | apply Kd.R_drewN | apply Kd.R_drew)); exact HO585.out) hb); have n3_ := Aside0.mk (below_step (by repeat (first | (with_reducible first | exact HB.out | apply below_alloc | apply pw_below_drewN | apply below_drew1) | exact HB.out)) hb); clear HO577; clear HO581; clear HO585; clear HB; have HO577 := n0_; have HO581 := n1_; have HO585 := n2_; have HB := n3_; clear n0_ n1_ n2_ n3_; (try clear hb); (try clear hb2); (try clear hk); (try clear hi)) | ((with_reducible refine gate_callee (f := 116) rfl ?_); refine goesL_ (some 25) rfl rfl Tryz.func116 (by kernel_rfl) rfl #[.string a0, .string a1, .int .i64 (wrap64 (a2 - 1))] rfl (by (try simp only [List.map_toArray, List.map_cons, List.map_nil]); first | done | rfl | (simp only [List.length_drop, List.length_take]; rfl)) ?_; (with_reducible refine (text_find.calls a0 a1 (wrap64 (a2 - 1)) t587 _ A8.out).mono ?_); rintro e w' ⟨rfl, ⟨nd, rfl⟩⟩; refine ⟨_, rfl, ?_⟩))
    go_ret2
    exact ⟨by first | rfl | (simp [errW_none, errW_some] <;> rfl) | (simp [*, errW_none, errW_some] <;> rfl), by repeat (first | (with_reducible first | exact HB.out | apply below_alloc | apply pw_below_drewN | apply below_drew1) | exact HB.out)⟩
  · rw [if_neg c7] at H
    have c7b0 : (t586 == 0) = false := beq_eq_false_iff_ne.mpr c7
    have c7b1 : (t586 != 0) = true := bne_iff_ne.mpr c7
    simp only [Option.some.injEq, Prod.mk.injEq] at H
    obtain ⟨rfl, rfl⟩ := H
    go_enter Tryz.func57, Tryz.ntmps57
    go_wp2_with (first | ((with_reducible refine gate_dst (N := 11) rfl ?_); refine Kd.R_lit Kd.string _ 9 ?hg (N := 11) ?hd (xs := ([a0, a1] : List ByteArray)) (inner := [.string a0, .string a1]) (ok := fun _ => True) (okp := fun _ => True) ?hr ?hp (fun _ hk => hk) trivial (Below.refl _ _) (Nat.le_refl _) (by simp) ?_; (case hd => rfl); (case hg => rfl); (case hr => first | (go_simp; done) | (go_simp; rfl)); (case hp => exact (Reps.one (show Kd.M Kd.string _ _ _ a0 [.string a0] from rfl) (Reps.one (show Kd.M Kd.string _ _ _ a1 [.string a1] from rfl) (Reps.none _ _)))); intro v576 w21 ho22 hb hg_ hnew_; clear hg_ hnew_; (first | rw [← Ny575.out] at ho22 | (simp only [Int.reduceToNat] at ho22; rw [← Ny575.out] at ho22)); have n0_ := Aside0.mk (Kd.R_lower ho22 (below_size (by repeat (first | (with_reducible first | exact HB.out | apply below_alloc | apply pw_below_drewN | apply below_drew1) | exact HB.out)))); have n1_ := Aside0.mk (below_step (by repeat (first | (with_reducible first | exact HB.out | apply below_alloc | apply pw_below_drewN | apply below_drew1) | exact HB.out)) hb); clear HB; have HO577 := n0_; have HB := n1_; clear n0_ n1_; clear hb ho22; obtain ⟨Ao23, co23, eo23⟩ := Kd.R_slice HO577.out; subst eo23) | ((with_reducible refine gate_callee (f := 93) rfl ?_); refine goesL_ (some 12) rfl rfl Tryz.func93 (by kernel_rfl) rfl #[.slice Ao23 y575.length co23] rfl (by (try simp only [List.map_toArray, List.map_cons, List.map_nil]); first | done | rfl | (simp only [List.length_drop, List.length_take]; rfl)) ?_; (with_reducible refine (text_valid.calls _ _ y575 t578 _ ?side1 ?side2 A4.out).mono ?_); (case side1 => repeat (first | exact (Kd.R_reads' HO577.out).2.2 | (with_reducible refine Kd.C_alloc ?_ _) | (with_reducible refine Kd.C_drewN ?_ _) | (with_reducible refine Kd.C_drew ?_))); (case side2 => exact (Kd.R_reads' HO577.out).2.1); rintro e w24 ⟨rfl, hb⟩; refine ⟨_, rfl, ?_⟩; have n0_ := Aside0.mk (Kd.R_below (by (with_reducible repeat (first | apply Kd.R_alloc | apply Kd.R_drewN | apply Kd.R_drew)); exact HO577.out) hb); have n1_ := Aside0.mk (below_step (by repeat (first | (with_reducible first | exact HB.out | apply below_alloc | apply pw_below_drewN | apply below_drew1) | exact HB.out)) hb); clear HO577; clear HB; have HO577 := n0_; have HB := n1_; clear n0_ n1_; (try clear hb); (try clear hb2); (try clear hk); (try clear hi)) | ((with_reducible refine gate_dst (N := 14) rfl ?_); refine Kd.R_lit (Kd.int .i64) _ 3 ?hg (N := 14) ?hd (xs := ([a2] : List Int)) (inner := [.int .i64 a2]) (ok := fun _ => True) (okp := fun _ => True) ?hr ?hp (fun _ hk => hk) trivial (Below.refl _ _) (Nat.le_refl _) (by simp) ?_; (case hd => rfl); (case hg => rfl); (case hr => first | (go_simp; done) | (go_simp; rfl)); (case hp => exact (Reps.one (show Kd.M (Kd.int .i64) _ _ _ a2 [.int .i64 a2] from rfl) (Reps.none _ _))); intro v580 w25 ho26 hb hg_ hnew_; clear hg_ hnew_; (first | rw [← Ny579.out] at ho26 | (simp only [Int.reduceToNat] at ho26; rw [← Ny579.out] at ho26)); have n0_ := Aside0.mk (Kd.R_below (by (with_reducible repeat (first | apply Kd.R_alloc | apply Kd.R_drewN | apply Kd.R_drew)); exact HO577.out) hb); have n1_ := Aside0.mk (Kd.R_lower ho26 (below_size (by repeat (first | (with_reducible first | exact HB.out | apply below_alloc | apply pw_below_drewN | apply below_drew1) | exact HB.out)))); have n2_ := Aside0.mk (below_step (by repeat (first | (with_reducible first | exact HB.out | apply below_alloc | apply pw_below_drewN | apply below_drew1) | exact HB.out)) hb); clear HO577; clear HB; have HO577 := n0_; have HO581 := n1_; have HB := n2_; clear n0_ n1_ n2_; clear hb ho26; obtain ⟨Ao27, co27, eo27⟩ := Kd.R_slice HO581.out; subst eo27) | ((with_reducible refine gate_callee (f := 100) rfl ?_); refine goesL_ (some 15) rfl rfl Tryz.func100 (by kernel_rfl) rfl #[.int .i64 1, .slice Ao27 y579.length co27] rfl (by (try simp only [List.map_toArray, List.map_cons, List.map_nil]); first | done | rfl | (simp only [List.length_drop, List.length_take]; rfl)) ?_; (with_reducible refine (text_least.calls 1 _ _ y579 t582 _ ?side1 ?side2 A5.out).mono ?_); (case side1 => repeat (first | exact (Kd.R_reads' HO581.out).2.2 | (with_reducible refine Kd.C_alloc ?_ _) | (with_reducible refine Kd.C_drewN ?_ _) | (with_reducible refine Kd.C_drew ?_))); (case side2 => exact (Kd.R_reads' HO581.out).2.1); rintro e w28 ⟨rfl, hb⟩; refine ⟨_, rfl, ?_⟩; have n0_ := Aside0.mk (Kd.R_below (by (with_reducible repeat (first | apply Kd.R_alloc | apply Kd.R_drewN | apply Kd.R_drew)); exact HO577.out) hb); have n1_ := Aside0.mk (Kd.R_below (by (with_reducible repeat (first | apply Kd.R_alloc | apply Kd.R_drewN | apply Kd.R_drew)); exact HO581.out) hb); have n2_ := Aside0.mk (below_step (by repeat (first | (with_reducible first | exact HB.out | apply below_alloc | apply pw_below_drewN | apply below_drew1) | exact HB.out)) hb); clear HO577; clear HO581; clear HB; have HO577 := n0_; have HO581 := n1_; have HB := n2_; clear n0_ n1_ n2_; (try clear hb); (try clear hb2); (try clear hk); (try clear hi)) | ((with_reducible refine gate_dst (N := 16) rfl ?_); refine Kd.R_lit (Kd.int .i64) _ 24 ?hg (N := 16) ?hd (xs := ([t578, t582] : List Int)) (inner := [.int .i64 t578, .int .i64 t582]) (ok := fun _ => True) (okp := fun _ => True) ?hr ?hp (fun _ hk => hk) trivial (Below.refl _ _) (Nat.le_refl _) (by simp) ?_; (case hd => rfl); (case hg => rfl); (case hr => first | (go_simp; done) | (go_simp; rfl)); (case hp => exact (Reps.one (show Kd.M (Kd.int .i64) _ _ _ t578 [.int .i64 t578] from rfl) (Reps.one (show Kd.M (Kd.int .i64) _ _ _ t582 [.int .i64 t582] from rfl) (Reps.none _ _)))); intro v584 w29 ho30 hb hg_ hnew_; clear hg_ hnew_; (first | rw [← Ny583.out] at ho30 | (simp only [Int.reduceToNat] at ho30; rw [← Ny583.out] at ho30)); have n0_ := Aside0.mk (Kd.R_below (by (with_reducible repeat (first | apply Kd.R_alloc | apply Kd.R_drewN | apply Kd.R_drew)); exact HO577.out) hb); have n1_ := Aside0.mk (Kd.R_below (by (with_reducible repeat (first | apply Kd.R_alloc | apply Kd.R_drewN | apply Kd.R_drew)); exact HO581.out) hb); have n2_ := Aside0.mk (Kd.R_lower ho30 (below_size (by repeat (first | (with_reducible first | exact HB.out | apply below_alloc | apply pw_below_drewN | apply below_drew1) | exact HB.out)))); have n3_ := Aside0.mk (below_step (by repeat (first | (with_reducible first | exact HB.out | apply below_alloc | apply pw_below_drewN | apply below_drew1) | exact HB.out)) hb); clear HO577; clear HO581; clear HB; have HO577 := n0_; have HO581 := n1_; have HO585 := n2_; have HB := n3_; clear n0_ n1_ n2_ n3_; clear hb ho30; obtain ⟨Ao31, co31, eo31⟩ := Kd.R_slice HO585.out; subst eo31) | ((with_reducible refine gate_callee (f := 92) rfl ?_); refine goesL_ (some 17) rfl rfl Tryz.func92 (by kernel_rfl) rfl #[.slice Ao31 y583.length co31] rfl (by (try simp only [List.map_toArray, List.map_cons, List.map_nil]); first | done | rfl | (simp only [List.length_drop, List.length_take]; rfl)) ?_; (with_reducible refine (text_first.calls _ _ y583 t586 _ ?side1 ?side2 A6.out).mono ?_); (case side1 => repeat (first | exact (Kd.R_reads' HO585.out).2.2 | (with_reducible refine Kd.C_alloc ?_ _) | (with_reducible refine Kd.C_drewN ?_ _) | (with_reducible refine Kd.C_drew ?_))); (case side2 => exact (Kd.R_reads' HO585.out).2.1); rintro e w32 ⟨rfl, hb⟩; refine ⟨_, rfl, ?_⟩; have n0_ := Aside0.mk (Kd.R_below (by (with_reducible repeat (first | apply Kd.R_alloc | apply Kd.R_drewN | apply Kd.R_drew)); exact HO577.out) hb); have n1_ := Aside0.mk (Kd.R_below (by (with_reducible repeat (first | apply Kd.R_alloc | apply Kd.R_drewN | apply Kd.R_drew)); exact HO581.out) hb); have n2_ := Aside0.mk (Kd.R_below (by (with_reducible repeat (first | apply Kd.R_alloc | apply Kd.R_drewN | apply Kd.R_drew)); exact HO585.out) hb); have n3_ := Aside0.mk (below_step (by repeat (first | (with_reducible first | exact HB.out | apply below_alloc | apply pw_below_drewN | apply below_drew1) | exact HB.out)) hb); clear HO577; clear HO581; clear HO585; clear HB; have HO577 := n0_; have HO581 := n1_; have HO585 := n2_; have HB := n3_; clear n0_ n1_ n2_ n3_; (try clear hb); (try clear hb2); (try clear hk); (try clear hi)))
    go_ret2
    exact ⟨by first | rfl | (simp [errW_none, errW_some] <;> rfl) | (simp [*, errW_none, errW_some] <;> rfl), by repeat (first | (with_reducible first | exact HB.out | apply below_alloc | apply pw_below_drewN | apply below_drew1) | exact HB.out)⟩

end Go.Proofs.YtlekfhnlhdmekaaGreatDoor.T

-- Written by a program of this session (mp.py over the kit's print.py), out of the translation.
namespace Go.Proofs.YtlekfhnlhdmekaaGreatDoor.T
set_option linter.unusedSimpArgs false
open Go.RowKit Go.Proofs.YtlekfhnlhdmekaaGreatDoorW.PrintWords Go.Proofs.YtlekfhnlhdmekaaGreatDoorW.PrintLast Go.Proofs.YtlekfhnlhdmekaaGreatDoorW.PrintMore
attribute [local go_sem] max2_int min2_int max_two min_two max_three min_three max_four min_four   -- for this text's walks alone
set_option linter.unusedVariables false
set_option linter.unusedSimpArgs false

/-! ### qanatlaw02_stands: function 66 -/
def qanatlaw02_stands.f (a0 : ByteArray) (a1 : ByteArray) (a2 : Int) : Option (Bool) := if a2 ≥ 1 then (if (wrap64 ((wrap64 (a2 - 1)) + (a0.size : Int))) ≤ (a1.size : Int) then (if 0 ≤ (wrap64 (a2 - 1)) then (if (wrap64 (a2 - 1)) ≤ (wrap64 ((wrap64 (a2 - 1)) + (a0.size : Int))) then (some ((a1.extract ((wrap64 (a2 - 1)) : Int).toNat ((wrap64 ((wrap64 (a2 - 1)) + (a0.size : Int))) : Int).toNat).toList == a0.toList)) else (none)) else (none)) else (some false)) else (some false)
set_option maxHeartbeats 8000000 in
set_option maxRecDepth 100000 in
theorem qanatlaw02_stands.calls (a0 : ByteArray) (a1 : ByteArray) (a2 : Int) (r : Bool) (w : World) (h : qanatlaw02_stands.f a0 a1 a2 = some r) :
    Calls Tryz.prog 66 #[.string a0, .string a1, .int .i64 a2] w fun e w' => e = .returned (.bool r) ∧ Drawn0 w w' := by
  have H : (if a2 ≥ 1 then (if (wrap64 ((wrap64 (a2 - 1)) + (a0.size : Int))) ≤ (a1.size : Int) then (if 0 ≤ (wrap64 (a2 - 1)) then (if (wrap64 (a2 - 1)) ≤ (wrap64 ((wrap64 (a2 - 1)) + (a0.size : Int))) then (some ((a1.extract ((wrap64 (a2 - 1)) : Int).toNat ((wrap64 ((wrap64 (a2 - 1)) + (a0.size : Int))) : Int).toNat).toList == a0.toList)) else (none)) else (none)) else (some false)) else (some false)) = some r := h
  clear h
  by_cases c4 : a2 ≥ 1
  · rw [if_pos c4] at H
    have c4b0 : decide (1 ≤ a2) = true := decide_eq_true c4
    clear c4
    by_cases c5 : (wrap64 ((wrap64 (a2 - 1)) + (a0.size : Int))) ≤ (a1.size : Int)
    · rw [if_pos c5] at H
      have c5b0 : decide ((wrap64 ((wrap64 (a2 - 1)) + (a0.size : Int))) ≤ (a1.size : Int)) = true := decide_eq_true c5
      clear c5
      obtain ⟨ji6, hji6⟩ : ∃ j_ : Int, (wrap64 (a2 - 1)) = j_ := ⟨_, rfl⟩
      replace H : (if 0 ≤ (ji6) then (if (ji6) ≤ (wrap64 ((ji6) + (a0.size : Int))) then (some ((a1.extract ((ji6) : Int).toNat ((wrap64 ((ji6) + (a0.size : Int))) : Int).toNat).toList == a0.toList)) else (none)) else (none)) = some r := by first | (rw [hji6] at H; exact H) | (simp only [hji6] at H ⊢; exact H)
      (try rw [hji6] at c5b0)
      have hji6w : (IntKind.i64.wrap (a2 - 1)) = ji6 := (i64_w _).trans hji6
      by_cases c7 : 0 ≤ (ji6)
      · rw [if_pos c7] at H
        have c7b0 := eq_true c7
        have c7b1 : decide (0 ≤ (ji6)) = true := decide_eq_true c7
        clear c7
        by_cases c8 : (ji6) ≤ (wrap64 ((ji6) + (a0.size : Int)))
        · rw [if_pos c8] at H
          have c8b0 := eq_true c8
          have c8b1 : decide ((ji6) ≤ (wrap64 ((ji6) + (a0.size : Int)))) = true := decide_eq_true c8
          have c9b0 := eq_true (of_decide_eq_true (by first | (with_reducible assumption) | assumption) : (wrap64 ((ji6) + (a0.size : Int))) ≤ (a1.size : Int))
          obtain rfl := Option.some.inj H
          go_enter Tryz.func66, Tryz.ntmps66
          go_wp2
          go_ret
          exact ⟨by first | rfl | (simp; done) | (simp only [← hji6] <;> (first | rfl | simp)) | (simp [*]; done), by repeat (first | exact Drawn0.refl _ | apply Drawn0.step)⟩
        · rw [if_neg c8] at H
          exact absurd H (by simp)
      · rw [if_neg c7] at H
        exact absurd H (by simp)
    · rw [if_neg c5] at H
      have c5b0 : decide ((wrap64 ((wrap64 (a2 - 1)) + (a0.size : Int))) ≤ (a1.size : Int)) = false := decide_eq_false c5
      clear c5
      obtain rfl := Option.some.inj H
      go_enter Tryz.func66, Tryz.ntmps66
      go_wp2
      go_ret
      exact ⟨by first | rfl | (simp; done) | (simp [*]; done), by repeat (first | exact Drawn0.refl _ | apply Drawn0.step)⟩
  · rw [if_neg c4] at H
    have c4b0 : decide (1 ≤ a2) = false := decide_eq_false c4
    clear c4
    obtain rfl := Option.some.inj H
    go_enter Tryz.func66, Tryz.ntmps66
    go_wp2
    go_ret
    exact ⟨by first | rfl | (simp; done) | (simp [*]; done), by repeat (first | exact Drawn0.refl _ | apply Drawn0.step)⟩

end Go.Proofs.YtlekfhnlhdmekaaGreatDoor.T

/- A range over a function, its body never leaving early, over an iterator that tells which element may come next (Nx). -/
namespace Go.Proofs.YtlekfhnlhdmekaaGreatDoor.T
set_option linter.unusedSimpArgs false
set_option linter.unusedVariables false
open Go.RowKit

/-- An iterator value that runs each element of some list through yield, in order, as long as yield says 'more'; each round may lean on Nx. -/
def SeqNx {α : Type} (F : Fence) (n : Nat) (P : Program) (g : Nat) (lb : Array Value) (encs : α → Array Value) (Nx : List α → α → Prop) (Kp : World → World → Prop) (S : List α → Prop) (w : World) : Prop :=
  ∀ (l : Nat) (J : List α → World → Prop) (W : World), Below w.heap.size w W → AbidesFrom W.heap.size J →
    (∀ pre x W1, Nx pre x → J pre W1 → YieldAt F (n - 1) P l (encs x) W1 fun e W' => e = .returned (.bool true) ∧ J (pre ++ [x]) W' ∧ Kp W1 W') →
    J [] W → CallsIn F n P g (#[.func (.yield l) #[] #[]] ++ lb) W fun e W' => (∃ v, e = .returned v) ∧ ∃ xs, S xs ∧ J xs W'

/-- The loop's record at l, the block for deferred calls at D. -/
def Bk (l D : Nat) (r : Loop) (W : World) : Prop := W.heap[l]? = some (.loop r) ∧ W.heap[D]? = some (.deferred (some []))
theorem Bk.walk {l D : Nat} {r : Loop} {A B : World} {row : Option Nat} (h : Bk l D r A) (hg : A.grownBy B row) (hr : ∀ j, row = some j → ∃ o : Obj, A.heap[j]? = some o ∧ o.isWalk = true) : Bk l D r B :=
  ⟨(grownBy_keeps hg hr h.1 rfl).trans h.1, (grownBy_keeps hg hr h.2 rfl).trans h.2⟩
theorem Bk.from {l D B : Nat} {r : Loop} {X Y : World} (h : Bk l D r X) (hk : KeepsFrom B X Y) (hl : B ≤ l) (hD : B ≤ D) : Bk l D r Y := ⟨hk.same _ _ hl h.1 rfl, hk.same _ _ hD h.2 rfl⟩
theorem Bk.turn {l D : Nat} {r : Loop} {X : World} (h : Bk l D r X) (hne : D ≠ l) (r' : Loop) : Bk l D r' (X.putObj l (.loop r')) :=
  ⟨World.putObj_heap_same (Array.getElem?_eq_some_iff.1 h.1).1, (World.putObj_heap_other hne).trans h.2⟩

variable {F : Fence} {n : Nat} {P : Program}

theorem rf_law {α : Type} {g : Operand} {ps : Array Tmp} {assign body : Code} {Q : Exit → Act → World → Prop} {a : Act} {w : World}
    (hro : F.round = none) (h1 : 1 ≤ n) {gf : Nat} {lb : Array Value} (hg : a.eval g = .func (.func gf) #[] lb) (hFg : F.fn gf) (eg : ∀ args w, (callFunc gf args).run P w = .ok (.enter gf args) w)
    {encs : α → Array Value} {Nx : List α → α → Prop} {Kp : World → World → Prop} (hKt : ∀ {A B C : World}, Kp A B → Kp B C → Kp A C) (hKb : ∀ (W : World) (l : Nat) (o o' : Obj), w.heap.size ≤ l → W.heap[l]? = some o → o.isCells = false → o.isWalk = false → Kp W (W.putObj l o')) {S : List α → Prop} {w0 : World} (hseq : SeqNx F (n - 1) P gf lb encs Nx Kp S w0) (hb0 : Below w0.heap.size w0 w) (hps : ∀ x, (encs x).size = ps.size)
    (I : List α → World → Prop) (hI : OwnFrom w.heap.size I) (h0 : I [] w) (Ax : α → Act → World → Prop) (hAx : ∀ x a', OwnFrom w.heap.size (fun (_ : Unit) W => Ax x a' W))
    (hassign : ∀ (l : Nat) (pre : List α) (x : α) (W : World) (K : Act → World → Prop), I pre W → (∀ a' W', KeepsFrom w.heap.size W W' → Kp W W' → I pre W' → Ax x a' W' → K a' W') →
      assign.wpIn (F.inRound l) (n - 1 - 1) P (Exit.then K (fun _ _ _ => False)) { tmps := (ps.zip (encs x)).foldl (fun t (p, v) => t.setIfInBounds p v) a.tmps, defers := [] } W)
    (hbody : ∀ (l : Nat) (pre : List α) (x : α) (a' : Act) (W : World), Nx pre x → I pre W → Ax x a' W →
      body.wpIn (F.inRound l) (n - 1 - 1) P (fun e _ W' => e = .normal ∧ KeepsFrom w.heap.size W W' ∧ Kp W W' ∧ I (pre ++ [x]) W') a' W)
    (hdone : ∀ (D : Nat) (xs : List α) (W : World), w.heap.size ≤ D → S xs → I xs W → W.heap[D]? = some (.deferred (some [])) → Q .normal { a with defers := { target := .collected D, args := #[] } :: a.defers } W) :
    (Code.rangeFunc g ps assign body).wpIn F n P Q a w := by
  refine wpIn_rangeFunc ?_
  intro fn hfn
  rw [hro]
  have hD : w.heap.size ≠ w.heap.size + 1 := by omega
  obtain ⟨rc, hrc⟩ : ∃ rc : LoopState → Loop, rc = fun st => { state := st, pending := none, fn, tmps := a.tmps, params := ps, assign, body, defers := w.heap.size } := ⟨_, rfl⟩
  obtain ⟨V, hV⟩ : ∃ V, (w.alloc (.deferred (some []))).alloc (.loop (rc .ready)) = V := ⟨_, rfl⟩
  have sV : V.heap.size = w.heap.size + 2 := by rw [← hV]; simp
  have bV : Bk (w.heap.size + 1) w.heap.size (rc .ready) V := by
    rw [← hV]
    refine ⟨?_, (Below.heap_alloc _ _ _ (by simp)).trans (World.alloc_heap_new w _)⟩
    have := World.alloc_heap_new (w.alloc (.deferred (some []))) (.loop (rc .ready))
    rwa [World.size_alloc] at this
  have iV : I [] V := by rw [← hV]; exact hI.alloc _ (hI.alloc _ h0)
  have lV : Below w0.heap.size w0 V := by
    rw [← hV]
    exact hb0.trans ((((Below.refl _ w).alloc (Nat.le_refl _) _).alloc (by simp) _).mono hb0.size)
  refine ⟨w.heap.size + 1, [{ target := .collected w.heap.size, args := #[] }], V, { target := .fn (.func gf) lb, args := #[.func (.yield (w.heap.size + 1)) #[] #[]] }, V, gf,
    #[.func (.yield (w.heap.size + 1)) #[] #[]] ++ lb, V, ?_, ?_, ?_, ?_, fun _ => h1, ?_⟩
  · rw [← hV, hrc]
    exact run_enterLoop_outer _ _ _ _ _
  · simp only [resolve, hg]
    simp [go_sem]
  · intro f' hf'
    simp [Target.leads] at hf'
    subst hf'
    exact hFg
  · simp [invoke, go_sem, eg]
  refine (hseq (w.heap.size + 1) (fun pre W => I pre W ∧ Bk (w.heap.size + 1) w.heap.size (rc .ready) W) V lV ?_ ?_ ⟨iV, bV⟩).mono ?_
  · rintro s A B row ⟨hs, hb⟩ hgr hr
    refine ⟨hI s A B row hs hgr (fun j e => ?_), hb.walk hgr (fun j e => (hr j e).2)⟩
    obtain ⟨hj, o, ho, hw⟩ := hr j e
    exact ⟨by omega, o, ho, Obj.not_cells_of_walk hw⟩
  · rintro pre x W hnx ⟨hi, hb⟩
    have hy := run_yield (P := P) (args := encs x) hb.1 (by rw [hrc]; exact hps x)
    rw [hrc] at hy
    refine ⟨fn, _, assign, body, hy, roundIn_of_wpIn hfn (hassign _ pre x W _ hi ?_)⟩
    intro a' X hkX hbX hiX hax
    have bX := hb.from hkX (by omega) (Nat.le_refl _)
    have hlX := (Array.getElem?_eq_some_iff.1 bX.1).1
    refine ⟨_, run_beginRound bX.1 (by rw [hrc]), ?_⟩
    have bY := bX.turn hD { rc .ready with state := .busy }
    refine wpIn_mono (hbody _ pre x a' _ hnx (hI.putObj _ hiX (by omega) bX.1 rfl) ((hAx x a').putObj (s := ()) _ hax (by omega) bX.1 rfl)) ?_
    rintro e a3 Z ⟨rfl, hkZ, hbZ, hiZ⟩
    have bZ := bY.from hkZ (by omega) (Nat.le_refl _)
    refine ⟨_, _, run_endRound (P := P) none bZ.1, rfl, ⟨hI.putObj _ hiZ (by omega) bZ.1 rfl, ?_⟩, ?_⟩
    · have := bZ.turn hD (rc .ready)
      rw [hrc] at this ⊢
      exact this
    · exact hKt (hKt hbX (hKt (hKb _ _ _ _ (by omega) bX.1 rfl rfl) hbZ)) (hKb _ _ _ _ (by omega) bZ.1 rfl rfl)
  · rintro e Z ⟨⟨v, rfl⟩, xs, hS, hi, hb⟩
    refine ⟨none, _, (by have h := run_endLoop (P := P) hb.1 (by rw [hrc]; simp); rw [hrc] at h; exact h), ?_⟩
    exact hdone _ xs _ (Nat.le_refl _) hS (hI.putObj _ hi (by omega) hb.1 rfl) ((World.putObj_heap_other hD).trans hb.2)

end Go.Proofs.YtlekfhnlhdmekaaGreatDoor.T

/- text.Count and text.Change return what text_Count.f and text_Change.f say: both go over the occurrences of a string. -/
namespace Go.Proofs.YtlekfhnlhdmekaaGreatDoor.T
set_option linter.unusedSimpArgs false
set_option linter.unusedVariables false
open Go.RowKit Go.Proofs.YtlekfhnlhdmekaaGreatDoorW.PrintWords Go.Proofs.YtlekfhnlhdmekaaGreatDoorW.PrintLast Go.Proofs.YtlekfhnlhdmekaaGreatDoorW.PrintMore

attribute [local go_sem] Oper.semAt_some

theorem fnd_lo (a s : ByteArray) (i : Nat) (h : 0 ≤ fnd a s i) : (i : Int) ≤ fnd a s i ∧ fnd a s i + (a.size : Int) ≤ (s.size : Int) ∧ 0 < a.size := by
  rw [fnd] at h ⊢
  split
  · rename_i hc
    rw [dif_pos hc] at h
    split
    · omega
    · rename_i hne
      rw [if_neg hne] at h
      have := fnd_lo a s (i + 1) h
      omega
  · rename_i hc
    rw [dif_neg hc] at h
    exact absurd h (by decide)
termination_by s.size - i
theorem fnd_ge (a s : ByteArray) (i : Nat) : -1 ≤ fnd a s i := by
  rw [fnd]
  split
  · split
    · omega
    · exact fnd_ge a s (i + 1)
  · exact Int.le_refl _
termination_by s.size - i
/-- The offsets of the occurrences, from an offset on. -/
def occ (a s : ByteArray) (i : Nat) : List Int := if h : 0 ≤ fnd a s i then fnd a s i :: occ a s ((fnd a s i).toNat + a.size) else []
termination_by s.size - i
decreasing_by
  have := fnd_lo a s i h
  omega
theorem occ_length (a s : ByteArray) (i : Nat) : (occ a s i).length ≤ s.size - i := by
  rw [occ]
  split
  · rename_i h
    have h1 := fnd_lo a s i h
    have := occ_length a s ((fnd a s i).toNat + a.size)
    simp only [List.length_cons]
    omega
  · simp
termination_by s.size - i
decreasing_by
  have := fnd_lo a s i (by assumption)
  omega
theorem find_f (a s : ByteArray) (i : Nat) (ha : a.size ≤ 100000) (hs : s.size ≤ 100000) (hi : i ≤ s.size) : text_find.f a s (i : Int) = some (fnd a s i) := by
  unfold text_find.f
  rw [if_pos ⟨ha, hs, by omega⟩, if_pos (show (i : Int) ≤ (s.size : Int) by omega)]
  split
  · rw [fnd, dif_neg (by omega)]
  · rw [Int.toNat_natCast]
def msr (n : Nat) (v : Value) : Nat := if intOf v < 0 then 0 else n + 1 - (intOf v).toNat
theorem msr_lt (n : Nat) (q q2 : Int) (h0 : 0 ≤ q) (hq : q ≤ (n : Int)) (h : 0 ≤ q2 → q < q2) : msr n (.int .i64 q2) < msr n (.int .i64 q) := by
  have e1 : msr n (.int .i64 q2) = if q2 < 0 then 0 else n + 1 - q2.toNat := rfl
  have e2 : msr n (.int .i64 q) = if q < 0 then 0 else n + 1 - q.toNat := rfl
  rw [e1, e2, if_neg (show ¬ q < 0 by omega)]
  split <;> omega

set_option maxRecDepth 100000 in
set_option maxHeartbeats 4000000 in
theorem found1_in (n : Nat) (hn : 1 ≤ n) (l Ba Bs : Nat) (Kp : World → World → Prop) (a s : ByteArray) (ha : a.size ≤ 100000) (hs : s.size ≤ 100000) (hBa : ∀ W W', Kp W W' → W'.cell? ⟨Ba, 0, none⟩ = W.cell? ⟨Ba, 0, none⟩) (hBs : ∀ W W', Kp W W' → W'.cell? ⟨Bs, 0, none⟩ = W.cell? ⟨Bs, 0, none⟩) (J Jx : List Int → World → Prop)
    (hJ : ∀ q A B, J q A → A.grownBy B none → J q B)
    (hY : ∀ pre x W, (pre ++ [x]) <+: occ a s 0 → J pre W → YieldAt Fence.wide (n - 1) Tryz.prog l #[.int .i64 x] W fun e W' =>
      (e = .returned (.bool true) ∧ J (pre ++ [x]) W' ∧ Kp W W') ∨ (e = .returned (.bool false) ∧ Jx (pre ++ [x]) W'))
    (W : World) (hca : W.cell? ⟨Ba, 0, none⟩ = some (.string a)) (hcs : W.cell? ⟨Bs, 0, none⟩ = some (.string s)) (h0 : J [] W) :
    CallsIn Fence.wide n Tryz.prog 150 #[.func (.yield l) #[] #[], .pointer (some ⟨Ba, 0, none⟩), .pointer (some ⟨Bs, 0, none⟩)] W fun e W' => (∃ v, e = .returned v) ∧
      ((∃ ys, ys = occ a s 0 ∧ J ys W') ∨ (∃ pre, pre <+: occ a s 0 ∧ Jx pre W')) := by
  have HF := Aside0.mk (fun (i : Nat) (hi : i ≤ s.size) (W : World) => text_find.calls a s (i : Int) (fnd a s i) W (find_f a s i ha hs hi))
  have HF0 := Lib.hid (HF.out 0 (Nat.zero_le _))
  have HY := Aside0.mk hY
  have HJ0 := Aside0.mk h0
  have HJd := Aside0.mk hJ
  have hge := fnd_ge a s 0
  have hlo := Aside0.mk (fnd_lo a s 0)
  have HO := Aside0.mk (show occ a s 0 = [] ++ (if 0 ≤ fnd a s 0 then fnd a s 0 :: occ a s ((fnd a s 0).toNat + a.size) else []) by rw [List.nil_append]; conv => { lhs; rw [occ] }; by_cases h : 0 ≤ fnd a s 0 <;> simp [h])
  clear hY h0 hJ
  generalize fnd a s 0 = q0 at HF0 hge hlo HO
  refine callsIn_of_wp Tryz.func150 rfl trivial ?_ rfl
  simp only [Tryz.ntmps150, List.size_toArray, List.length_cons, List.length_nil, Nat.reduceAdd, Nat.reduceSub, Array.replicate_succ, Array.replicate_zero, List.push_toArray, List.append_toArray, List.nil_append, List.cons_append]
  gi_wp2_with (refine ⟨trivial, ?_⟩; gi_at_call 116; refine (callsIn_wide.2 (HF0.out _)).mono ?_; rintro e w' ⟨rfl, ⟨nd, rfl⟩⟩)
  have hW0 : W.grownBy (W.drewN nd) none := ⟨rfl, rfl, rfl, Nat.le_refl _, fun _ _ _ => rfl⟩
  have HJ1 := Aside0.mk (HJd.out _ _ _ HJ0.out hW0)
  have hca1 : (W.drewN nd).cell? ⟨Ba, 0, none⟩ = some (.string a) := hca
  have hcs1 : (W.drewN nd).cell? ⟨Bs, 0, none⟩ = some (.string s) := hcs
  clear HJ0 hW0 HF0 hca hcs
  generalize W.drewN nd = W1 at HJ1 hca1 hcs1 ⊢
  gi_loopw [4] (fun v wr => ∃ (q : Int) (pre : List Int), -1 ≤ q ∧ v = .int .i64 q ∧ Aside0 (0 ≤ q → q + (a.size : Int) ≤ (s.size : Int) ∧ 0 < a.size) ∧ Aside0 (occ a s 0 = pre ++ (if 0 ≤ q then q :: occ a s (q.toNat + a.size) else [])) ∧ Aside0 (J pre wr) ∧ wr.cell? ⟨Ba, 0, none⟩ = some (.string a) ∧ wr.cell? ⟨Bs, 0, none⟩ = some (.string s))
    (fun v wr => msr s.size v)
  case atStart => exact ⟨q0, [], hge, rfl, ⟨fun h => (hlo.out h).2⟩, HO, HJ1, hca1, hcs1⟩
  case round =>
    clear hlo HO HJ1 hca1 hcs1
    obtain ⟨q, pre, hq, rfl, HL, HO, HJ, hca, hcs⟩ := hrel
    by_cases h0 : 0 ≤ q
    · obtain ⟨hfit, hpos⟩ := HL.out h0
      have h01 : decide (0 ≤ q) = true := decide_eq_true h0
      have HO2 := Aside0.mk (show occ a s 0 = pre ++ (q :: occ a s (q.toNat + a.size)) by rw [HO.out, if_pos h0])
      obtain ⟨fn, tmps, assign, body, hy, hR⟩ := HY.out pre q wr ⟨occ a s (q.toNat + a.size), by rw [HO2.out]; simp⟩ HJ.out
      have HR := Lib.hid hR
      clear hR
      have HFq := Lib.hid (HF.out (q.toNat + a.size) (by omega))
      have hqe : ((q.toNat + a.size : Nat) : Int) = q + (a.size : Int) := by omega
      rw [hqe] at HFq
      clear hqe
      have hge2 := fnd_ge a s (q.toNat + a.size)
      have hlo2 := Aside0.mk (fnd_lo a s (q.toNat + a.size))
      have HO3 := Aside0.mk (show occ a s (q.toNat + a.size) = (if 0 ≤ fnd a s (q.toNat + a.size) then fnd a s (q.toNat + a.size) :: occ a s ((fnd a s (q.toNat + a.size)).toNat + a.size) else []) by conv => { lhs; rw [occ] }; by_cases h : 0 ≤ fnd a s (q.toNat + a.size) <;> simp [h])
      generalize hq2 : fnd a s (q.toNat + a.size) = q2 at HFq hge2 hlo2 HO3
      clear hq2
      gi_wp2
      refine HR.out.mono ?_
      rintro e W3 (⟨rfl, hJ3, hk3⟩ | ⟨rfl, hJx3⟩)
      · have hca3 : W3.cell? ⟨Ba, 0, none⟩ = some (.string a) := (hBa _ _ hk3).trans hca
        have hcs3 : W3.cell? ⟨Bs, 0, none⟩ = some (.string s) := (hBs _ _ hk3).trans hcs
        gi_wp2_with (refine ⟨trivial, ?_⟩; gi_at_call 116; refine (callsIn_wide.2 (HFq.out _)).mono ?_; rintro e w' ⟨rfl, ⟨nd, rfl⟩⟩)
        go_roundw
        case rel =>
          refine ⟨q2, pre ++ [q], hge2, rfl, ⟨fun h => ?_⟩, ⟨by rw [HO2.out, HO3.out]; simp⟩, ⟨HJd.out _ _ _ hJ3 ⟨rfl, rfl, rfl, Nat.le_refl _, fun _ _ _ => rfl⟩⟩, hca3, hcs3⟩
          have := hlo2.out h
          omega
        case measure =>
          have h2 := hlo2.out
          exact msr_lt _ _ _ h0 (by omega) (fun h => by have := h2 h; omega)
      · gi_wp2
        refine bodyPost_ret (results_none rfl _ _ _) rfl ?_
        exact ⟨⟨_, rfl⟩, .inr ⟨pre ++ [q], ⟨occ a s (q.toNat + a.size), by rw [HO2.out]; simp⟩, hJx3⟩⟩
    · have h01 : decide (0 ≤ q) = false := decide_eq_false h0
      gi_wp2
      go_end0
      exact ⟨⟨_, rfl⟩, .inl (by rw [HO.out, if_neg (by omega), List.append_nil]; exact HJ.out)⟩

theorem found_in (n : Nat) (a s : ByteArray) (w : World) :
    CallsIn Fence.wide n Tryz.prog 119 #[.string a, .string s] w fun e w' => e = .returned (.func (.func 150) #[] #[.pointer (some ⟨w.heap.size, 0, none⟩), .pointer (some ⟨w.heap.size + 1, 0, none⟩)]) ∧ w' = (w.alloc (.cells #[.string a] 9)).alloc (.cells #[.string s] 9) := by
  refine callsIn_of_wp Tryz.func119 rfl trivial ?_ rfl
  simp only [Tryz.ntmps119, List.size_toArray, List.length_cons, List.length_nil, Nat.reduceAdd, Nat.reduceSub, Array.replicate_succ, Array.replicate_zero, List.push_toArray, List.append_toArray, List.nil_append, List.cons_append]
  gi_wp2
  go_ret
  exact ⟨rfl, rfl⟩
theorem found_stops (n : Nat) (hn : 1 ≤ n) (Ba Bs : Nat) (a s : ByteArray) (ha : a.size ≤ 100000) (hs : s.size ≤ 100000) (w : World) (hBa : Ba < w.heap.size) (hBs : Bs < w.heap.size)
    (hca : w.cell? ⟨Ba, 0, none⟩ = some (.string a)) (hcs : w.cell? ⟨Bs, 0, none⟩ = some (.string s)) :
    SeqStopsK Fence.wide n Tryz.prog 150 #[.pointer (some ⟨Ba, 0, none⟩), .pointer (some ⟨Bs, 0, none⟩)] (fun x : Int => #[Value.int .i64 x]) (Below w.heap.size) (fun ys => ys = occ a s 0) (fun pre => pre <+: occ a s 0) (occ a s 0).length w := fun l J Jx W hW hJ _ hY h0 =>
  found1_in n hn l Ba Bs (Below w.heap.size) a s ha hs (fun _ _ h => h.cell (p := ⟨Ba, 0, none⟩) hBa) (fun _ _ h => h.cell (p := ⟨Bs, 0, none⟩) hBs) J Jx (fun q A B hq hg => hJ q A B none hq hg (fun r e => by cases e)) (fun pre x W1 hp hj => hY pre x W1 hj (by obtain ⟨t, ht⟩ := hp; rw [← ht]; simp)) W ((hW.cell (p := ⟨Ba, 0, none⟩) hBa).trans hca) ((hW.cell (p := ⟨Bs, 0, none⟩) hBs).trans hcs) h0
theorem found_nx (n : Nat) (hn : 1 ≤ n) (Ba Bs : Nat) (a s : ByteArray) (ha : a.size ≤ 100000) (hs : s.size ≤ 100000) (w : World) (Kp : World → World → Prop) (hBa : Ba < w.heap.size) (hBs : Bs < w.heap.size)
    (hKa : ∀ W W', Kp W W' → W'.cell? ⟨Ba, 0, none⟩ = W.cell? ⟨Ba, 0, none⟩) (hKs : ∀ W W', Kp W W' → W'.cell? ⟨Bs, 0, none⟩ = W.cell? ⟨Bs, 0, none⟩)
    (hca : w.cell? ⟨Ba, 0, none⟩ = some (.string a)) (hcs : w.cell? ⟨Bs, 0, none⟩ = some (.string s)) :
    SeqNx Fence.wide n Tryz.prog 150 #[.pointer (some ⟨Ba, 0, none⟩), .pointer (some ⟨Bs, 0, none⟩)] (fun x : Int => #[Value.int .i64 x]) (fun pre x => (pre ++ [x]) <+: occ a s 0) Kp (fun ys => ys = occ a s 0) w := fun l J W hW hJ hY h0 => by
  refine (found1_in n hn l Ba Bs Kp a s ha hs hKa hKs J (fun _ _ => False) (fun q A B hq hg => hJ q A B none hq hg (fun r e => by cases e)) (fun pre x W1 hp hj => ?_) W
    ((hW.cell (p := ⟨Ba, 0, none⟩) hBa).trans hca) ((hW.cell (p := ⟨Bs, 0, none⟩) hBs).trans hcs) h0).mono ?_
  · obtain ⟨fn, tmps, assign, body, hy, hR⟩ := hY pre x W1 hp hj
    exact ⟨fn, tmps, assign, body, hy, hR.mono fun e W' h => .inl h⟩
  · rintro e W' ⟨hv, h | ⟨_, _, h⟩⟩
    · exact ⟨hv, h⟩
    · exact h.elim

def text_Count.f (a0 a1 : ByteArray) : Option (Int × Int) := if a0.size ≤ 100000 ∧ a1.size ≤ 100000 then (if vld a0 = true ∧ vld a1 = true then some (((occ a0 a1 0).length : Int), 0) else some (0, 1)) else none

set_option maxHeartbeats 2000000 in
theorem text_Count.calls (a0 a1 : ByteArray) (r1 r2 : Int) (w : World) (h : text_Count.f a0 a1 = some (r1, r2)) :
    Calls Tryz.prog 59 #[.string a0, .string a1] w fun e w' => e = .returned (.tuple #[.int .i64 r1, .int .i64 r2]) ∧ Below w.heap.size w w' := by
  unfold text_Count.f at h
  by_cases hb : a0.size ≤ 100000 ∧ a1.size ≤ 100000
  · rw [if_pos hb] at h
    obtain ⟨hz0, hz1⟩ := hb
    have hbox : Kd.C Kd.string (w.alloc (.cells #[.string a0, .string a1] 9)) (some ⟨w.heap.size, 0, none⟩) 2 [a0, a1] :=
      Kd.C_of_reads (d := ByteArray.empty) (h1 := fun _ => rfl) ⟨rfl, by decide, fun _ => ⟨_, rfl, fun j hj => by
        rw [add_plain]
        match j, hj with
        | 0, _ => exact (blk_cell (heap_alloc_new w _) 0).trans rfl
        | 1, _ => exact (blk_cell (heap_alloc_new w _) 1).trans rfl⟩⟩
    have hb1 : Below w.heap.size w (w.alloc (.cells #[.string a0, .string a1] 9)) := (Below.refl _ _).alloc (Nat.le_refl _) _
    by_cases hv : vld a0 = true ∧ vld a1 = true
    · rw [if_pos hv] at h
      obtain ⟨rfl, rfl⟩ : ((occ a0 a1 0).length : Int) = r1 ∧ 0 = r2 := by simpa using h
      have HV := Lib.hid (text_valid.calls (some ⟨w.heap.size, 0, none⟩) 2 [a0, a1] 0 _ hbox (Nat.le_refl _) (by simp [text_valid.f, hv.1, hv.2]))
      have hol := occ_length a0 a1 0
      have HC : Aside0 (∀ W : World, CallsIn Fence.wide 7 Tryz.prog 118 #[.func (.func 150) #[] #[.pointer (some ⟨W.heap.size, 0, none⟩), .pointer (some ⟨W.heap.size + 1, 0, none⟩)]] ((W.alloc (.cells #[.string a0] 9)).alloc (.cells #[.string a1] 9)) fun e W' =>
          ∃ v, e = .returned v ∧ W'.ownsRow ((W.alloc (.cells #[.string a0] 9)).alloc (.cells #[.string a1] 9)).heap.size 3 1 v (occ a0 a1 0).length ((occ a0 a1 0).map (Value.int .i64)) ∧ Below ((W.alloc (.cells #[.string a0] 9)).alloc (.cells #[.string a1] 9)).heap.size ((W.alloc (.cells #[.string a0] 9)).alloc (.cells #[.string a1] 9)) W') :=
        ⟨fun W => colli_in Fence.wide 7 trivial trivial rfl (by omega) 150 _ trivial (enters_of Tryz.func150 (by kernel_rfl) rfl) (occ a0 a1 0) (by omega) _
          (found_stops (7 - 1 - 1) (by omega) W.heap.size (W.heap.size + 1) a0 a1 hz0 hz1 _ (by simp; omega) (by simp)
            ((World.cell?_alloc_lt _ _ _ (by simp)).trans ((blk_cell (heap_alloc_new W _) 0).trans rfl)) (by have := (blk_cell (heap_alloc_new (W.alloc (.cells #[.string a0] 9)) (.cells #[.string a1] 9)) 0); rw [World.size_alloc] at this; exact this.trans rfl))⟩
      have HF : Aside0 (∀ W : World, CallsIn Fence.wide 7 Tryz.prog 119 #[.string a0, .string a1] W fun e w' => e = .returned (.func (.func 150) #[] #[.pointer (some ⟨W.heap.size, 0, none⟩), .pointer (some ⟨W.heap.size + 1, 0, none⟩)]) ∧ w' = (W.alloc (.cells #[.string a0] 9)).alloc (.cells #[.string a1] 9)) := ⟨fun W => found_in 7 a0 a1 W⟩
      have HB := Aside0.mk hb1
      clear hbox hb1 hv h hz0 hz1
      refine (callsIn_wide (n := 8)).1 ?_
      refine callsIn_of_wp Tryz.func59 rfl trivial ?_ rfl
      simp only [Tryz.ntmps59, List.size_toArray, List.length_cons, List.length_nil, Nat.reduceAdd, Nat.reduceSub, Array.replicate_succ, Array.replicate_zero, List.push_toArray, List.append_toArray, List.nil_append, List.cons_append]
      have hf1 : Fence.wide.fn 93 := trivial
      have hf2 : Fence.wide.fn 119 := trivial
      have hf3 : Fence.wide.fn 118 := trivial
      gi_wp2_with (first | (gi_at_call 93; refine (callsIn_wide.2 HV.out).mono ?_; rintro e w1 ⟨rfl, hb1⟩) | (gi_at_call 119; refine (HF.out _).mono ?_; rintro e w' ⟨rfl, rfl⟩) | (gi_at_call 118; refine (HC.out _).mono ?_; rintro e w3 ⟨v, rfl, hrow, hb3⟩; obtain ⟨A, c, rfl⟩ := own_slice hrow))
      go_ret2
      exact ⟨rfl, below_step (below_alloc (below_alloc (below_step HB.out hb1) _) _) hb3⟩
    · rw [if_neg hv] at h
      obtain ⟨rfl, rfl⟩ : 0 = r1 ∧ 1 = r2 := by simpa using h
      have HV := Lib.hid (text_valid.calls (some ⟨w.heap.size, 0, none⟩) 2 [a0, a1] 1 _ hbox (Nat.le_refl _) (by
        have : ([a0, a1].all vld) ≠ true := by simpa using hv
        simp only [text_valid.f, if_neg this]))
      have HB := Aside0.mk hb1
      clear hbox hb1 hv h hz0 hz1
      go_enter Tryz.func59, Tryz.ntmps59
      go_wp2_with (go_at_call 93; refine HV.out.mono ?_; rintro e w1 ⟨rfl, hb1⟩)
      go_ret2
      exact ⟨rfl, below_step HB.out hb1⟩
  · rw [if_neg hb] at h
    cases h

end Go.Proofs.YtlekfhnlhdmekaaGreatDoor.T

/- text.Change returns what text_Change.f says. -/
namespace Go.Proofs.YtlekfhnlhdmekaaGreatDoor.T
set_option linter.unusedSimpArgs false
set_option linter.unusedVariables false
open Go.RowKit Go.Proofs.YtlekfhnlhdmekaaGreatDoorW.PrintWords Go.Proofs.YtlekfhnlhdmekaaGreatDoorW.PrintLast Go.Proofs.YtlekfhnlhdmekaaGreatDoorW.PrintMore

attribute [local go_sem] Oper.semAt_some

/-- The bytes of s from e on, the occurrences at the offsets (m bytes each) replaced by w; and where what follows begins. -/
def chgGo (s w : List UInt8) (m : Nat) : Nat → List Int → List UInt8 × Nat
  | e, [] => ([], e)
  | e, q :: qs => ((s.drop e).take (q.toNat - e) ++ w ++ (chgGo s w m (q.toNat + m) qs).1, (chgGo s w m (q.toNat + m) qs).2)
theorem chgGo_snoc (s w : List UInt8) (m : Nat) (q : Int) : ∀ (l : List Int) (e : Nat), chgGo s w m e (l ++ [q]) = ((chgGo s w m e l).1 ++ ((s.drop (chgGo s w m e l).2).take (q.toNat - (chgGo s w m e l).2) ++ w), q.toNat + m)
  | [], e => by simp [chgGo]
  | p :: l, e => by simp only [List.cons_append, chgGo, chgGo_snoc s w m q l]; simp [List.append_assoc]
def text_Change.f (a0 a1 a2 : ByteArray) : Option (ByteArray × Int) :=
  if a0.size ≤ 2000 ∧ a1.size ≤ 2000 ∧ a2.size ≤ 2000 then
    (if vld a0 = true ∧ vld a1 = true ∧ vld a2 = true then
      text_made.f ⟨((chgGo a1.data.toList a2.data.toList a0.size 0 (occ a0 a1 0)).1 ++ a1.data.toList.drop (chgGo a1.data.toList a2.data.toList a0.size 0 (occ a0 a1 0)).2).toArray⟩
    else some (⟨#[]⟩, 1))
  else none
theorem bF_own (T e : TypeId) (B b : Nat) (f : List Int → List Value) (hT : T ≠ e) : Own (fun s W => Lib.IsBuilderF T e B b (f s) W) := by
  have key : ∀ (p : Value) (bs : List Value) (X Y : World) (row : Option Nat), Lib.BuilderAtF T e B b p bs X → X.grownBy Y row → (∀ r, row = some r → ∃ o : Obj, X.heap[r]? = some o ∧ o.isCells = false) → Lib.BuilderAtF T e B b p bs Y := by
    rintro p bs X Y row ⟨hB, v, hb, hown, hne⟩ hg hr
    refine ⟨hB, v, (grownBy_keeps_cells hg hr hb rfl).trans hb, hown.kept hg ?_, hne⟩
    rcases hown.2 with ⟨rfl, _⟩ | ⟨g, cap, cur, fz, rfl, _, hgg, _⟩
    · exact .inl rfl
    · refine .inr fun e' => ?_
      obtain ⟨o, ho, hc⟩ := hr g (by simpa [Value.ownBlock] using e'.symm)
      rw [hgg] at ho; cases ho; cases hc
  rintro s X Y row h hg hr
  exact h.elim (fun h => .inl (key _ _ X Y row h hg hr)) (fun h => .inr (key _ _ X Y row h hg hr))
theorem WrS_k (B b : Nat) (bs : List Value) (s : ByteArray) (w : World) (h : Lib.IsBuilderF 127 5 B b bs w) (hlen : bs.length + s.size ≤ 140737488355328) (hBw : B ≤ w.heap.size) :
    Calls Tryz.prog 120 #[.pointer (some ⟨b, 0, none⟩), .string s] w fun e w' => e = .returned (.tuple #[.int .i64 s.size, .nilIface]) ∧ (Lib.BuilderAtF 127 5 B b (.pointer (some ⟨b, 0, none⟩)) (bs ++ Lib.strCells s) w' ∧ Below B w w' ∧ Lib.OthersKept 5 (some b) w w') :=
  Any.Builder_WriteString_k { Tryz.lays156 with } Tryz.Builder_Extra_156 B b bs s w h hlen hBw

/-- A piece of code that ends as it goes on. -/
def OnlyN (Q : Act → World → Prop) : Exit → Act → World → Prop
  | .normal, a, w => Q a w
  | _, _, _ => False
theorem wpIn_normal {F : Fence} {n : Nat} {P : Program} {c : Code} {Q : Exit → Act → World → Prop} {a : Act} {w : World} (h : c.wpIn F n P (OnlyN (Q .normal)) a w) : c.wpIn F n P Q a w :=
  wpIn_mono h (fun e a w h => by cases e <;> first | exact h | exact h.elim)
/-! What the offsets are good for. -/
theorem occ_pre (a s : ByteArray) (S T : List UInt8) : ∀ (pre : List Int) (x : Int) (i : Nat), (pre ++ [x]) <+: occ a s i → ((chgGo S T a.size i pre).2 : Int) ≤ x ∧ x + (a.size : Int) ≤ (s.size : Int)
  | [], x, i, h => by
    rw [occ] at h
    split at h
    · next hc =>
      have hl := fnd_lo a s i hc
      have : x = fnd a s i := by
        obtain ⟨t, ht⟩ := h
        simp at ht
        exact ht.1
      subst this
      exact ⟨hl.1, hl.2.1⟩
    · exact absurd (List.eq_nil_of_prefix_nil h) (by simp)
  | q :: pre, x, i, h => by
    rw [occ] at h
    split at h
    · next hc =>
      obtain ⟨t, ht⟩ := h
      rw [List.cons_append, List.cons_append] at ht
      injection ht with h1 h2
      rw [h1, chgGo]
      exact occ_pre a s S T pre x _ ⟨t, h2⟩
    · exact absurd (List.eq_nil_of_prefix_nil h) (by simp)
theorem occ_end (a s : ByteArray) (S T : List UInt8) (i : Nat) (hi : i ≤ s.size) : (chgGo S T a.size i (occ a s i)).2 ≤ s.size := by
  rw [occ]
  split
  · next hc =>
    have hl := fnd_lo a s i hc
    rw [chgGo]
    exact occ_end a s S T _ (by omega)
  · exact hi
termination_by s.size - i
decreasing_by
  have := fnd_lo a s i (by assumption)
  omega
theorem chg_len (S T : List UInt8) (m : Nat) : ∀ (l : List Int) (e : Nat), (chgGo S T m e l).1.length ≤ l.length * (S.length + T.length)
  | [], e => by simp [chgGo]
  | q :: l, e => by
    have ih := chg_len S T m l (q.toNat + m)
    simp only [chgGo, List.length_append, List.length_cons, List.length_take, List.length_drop, Nat.add_mul, Nat.one_mul]
    omega
/-! What holds when the offsets pre have been gone through. -/
def ChI (w : World) (a0 a1 a2 : ByteArray) (b B : Nat) (pre : List Int) (W : World) : Prop :=
  Lib.IsBuilderF 127 5 b b (Lib.byteCells (chgGo a1.data.toList a2.data.toList a0.size 0 pre).1) W ∧ W.heap[b + 1]? = some (.cells #[.int .i64 ((chgGo a1.data.toList a2.data.toList a0.size 0 pre).2 : Int)] 3 (0, 0)) ∧
  W.heap[w.heap.size]? = some (.cells #[.string a0] 9 (0, 0)) ∧ W.heap[w.heap.size + 1]? = some (.cells #[.string a1] 9 (0, 0)) ∧ W.heap[w.heap.size + 1 + 1]? = some (.cells #[.string a2] 9 (0, 0)) ∧ Below w.heap.size w W ∧ B ≤ W.heap.size ∧ W.heap[b + 1 + 1]? = some (.cells #[.string a0] 9 (0, 0)) ∧ W.heap[b + 1 + 1 + 1]? = some (.cells #[.string a1] 9 (0, 0))
theorem ch_own (w : World) (a0 a1 a2 : ByteArray) (b B : Nat) (hB : w.heap.size ≤ B) : OwnFrom B (ChI w a0 a1 a2 b B) := by
  rintro s X Y row ⟨h1, h2, h3, h4, h5, h6, h7, h8, h9⟩ hg hr
  have hr' : ∀ r, row = some r → ∃ o : Obj, X.heap[r]? = some o ∧ o.isCells = false := fun r e => (hr r e).2
  exact ⟨bF_own 127 5 b b (fun s => Lib.byteCells (chgGo a1.data.toList a2.data.toList a0.size 0 s).1) (by decide) s X Y row h1 hg hr', (grownBy_keeps_cells hg hr' h2 rfl).trans h2, (grownBy_keeps_cells hg hr' h3 rfl).trans h3, (grownBy_keeps_cells hg hr' h4 rfl).trans h4,
    (grownBy_keeps_cells hg hr' h5 rfl).trans h5, h6.grown hg (Nat.le_trans hB h7) (fun k e => Nat.le_trans hB (hr k e).1), Nat.le_trans h7 hg.size, (grownBy_keeps_cells hg hr' h8 rfl).trans h8, (grownBy_keeps_cells hg hr' h9 rfl).trans h9⟩
/-- Two cells stay. -/
def KpC (b : Nat) (W W' : World) : Prop := W'.cell? ⟨b + 1 + 1, 0, none⟩ = W.cell? ⟨b + 1 + 1, 0, none⟩ ∧ W'.cell? ⟨b + 1 + 1 + 1, 0, none⟩ = W.cell? ⟨b + 1 + 1 + 1, 0, none⟩
/-- One round's step of the invariant. -/
theorem ch_step (w : World) (a0 a1 a2 : ByteArray) (b B : Nat) (pre : List Int) (q : Nat) (W W1 : World) (hb0 : w.heap.size + 1 + 1 < b) (hB : b + 1 + 1 + 1 < B)
    (h : ChI w a0 a1 a2 b B pre W) (s : ByteArray) (hs : s = a1.extract (chgGo a1.data.toList a2.data.toList a0.size 0 pre).2 q ++ a2)
    (k1 : Lib.BuilderAtF 127 5 b b (.pointer (some ⟨b, 0, none⟩)) (Lib.byteCells (chgGo a1.data.toList a2.data.toList a0.size 0 pre).1 ++ Lib.strCells s) W1) (k2 : Below b W W1) (k3 : Lib.OthersKept 5 (some b) W W1) :
    W1.heap[b + 1]? = some (.cells #[.int .i64 ((chgGo a1.data.toList a2.data.toList a0.size 0 pre).2 : Int)] 3 (0, 0)) ∧ W1.heap[w.heap.size]? = some (.cells #[.string a0] 9 (0, 0)) ∧
      KeepsFrom B W (W1.setCell ⟨b + 1, 0, none⟩ (.int .i64 ((q : Int) + (a0.size : Int)))) ∧ KpC b W (W1.setCell ⟨b + 1, 0, none⟩ (.int .i64 ((q : Int) + (a0.size : Int)))) ∧ ChI w a0 a1 a2 b B (pre ++ [(q : Int)]) (W1.setCell ⟨b + 1, 0, none⟩ (.int .i64 ((q : Int) + (a0.size : Int)))) := by
  obtain ⟨h1, h2, h3, h4, h5, h6, h7, hq1, hq2⟩ := h
  have kc : ∀ k o, W.heap[k]? = some o → k ≠ b → (∀ c fz, o ≠ .cells c 5 fz) → W1.heap[k]? = some o := fun k o ho hk hn => k3 k o ho (by simpa using hk) hn
  have e2 := kc _ _ h2 (by omega) (fun c fz e => by cases e)
  have e3 := kc _ _ h3 (by omega) (fun c fz e => by cases e)
  have e4 := kc _ _ h4 (by omega) (fun c fz e => by cases e)
  have e5 := kc _ _ h5 (by omega) (fun c fz e => by cases e)
  have e6 := kc _ _ hq1 (by omega) (fun c fz e => by cases e)
  have e7 := kc _ _ hq2 (by omega) (fun c fz e => by cases e)
  have far : ∀ k, k ≠ b + 1 → (W1.setCell ⟨b + 1, 0, none⟩ (.int .i64 ((q : Int) + (a0.size : Int)))).heap[k]? = W1.heap[k]? := fun k hk => Below.heap_setCell _ _ _ _ hk
  refine ⟨e2, e3, ?_, ?_, ?_⟩
  · refine ⟨?_, fun i o hi ho hc => ?_⟩
    · have := k2.size; rw [World.size_setCell]; exact this
    · rw [far i (by omega)]
      exact kc i o ho (by omega) (fun c fz e => by rw [e] at hc; cases hc)
  · refine ⟨?_, ?_⟩
    · rw [World.cell?_of_block (a := ⟨b + 1 + 1, 0, none⟩) (far (b + 1 + 1) (by omega)), World.cell?_of_block (a := ⟨b + 1 + 1, 0, none⟩) (e6.trans hq1.symm)]
    · rw [World.cell?_of_block (a := ⟨b + 1 + 1 + 1, 0, none⟩) (far (b + 1 + 1 + 1) (by omega)), World.cell?_of_block (a := ⟨b + 1 + 1 + 1, 0, none⟩) (e7.trans hq2.symm)]
  · have es : (chgGo a1.data.toList a2.data.toList a0.size 0 (pre ++ [(q : Int)])) = ((chgGo a1.data.toList a2.data.toList a0.size 0 pre).1 ++ s.data.toList, q + a0.size) := by
      rw [chgGo_snoc, hs, ByteArray.data_append, Array.toList_append, ByteArray.data_extract, Array.toList_extract, List.extract_eq_take_drop]
      simp
    unfold ChI
    rw [es]
    refine ⟨.inr ?_, ?_, (far _ (by omega)).trans e3, (far _ (by omega)).trans e4, (far _ (by omega)).trans e5, (h6.trans (k2.mono (by omega))).setCell (p := ⟨b + 1, 0, none⟩) (by show _ ≤ b + 1; omega) _, ?_⟩
    · have e : Lib.byteCells ((chgGo a1.data.toList a2.data.toList a0.size 0 pre).1 ++ s.data.toList) = Lib.byteCells (chgGo a1.data.toList a2.data.toList a0.size 0 pre).1 ++ Lib.strCells s := by simp [Lib.byteCells, Lib.strCells]
      rw [e]
      obtain ⟨g1, v, g2, g3, g4⟩ := k1
      refine ⟨g1, v, (far _ (by omega)).trans g2, g3.kept (row := some (b + 1)) ⟨rfl, rfl, rfl, ?_, fun k _ hk => far k (by simpa using hk)⟩ ?_, g4⟩
      · rw [World.size_setCell]; exact Nat.le_refl _
      · refine .inr fun e' => ?_
        rcases g3.2 with ⟨rfl, _⟩ | ⟨g, cap, cur, fz, rfl, _, hgg, _⟩
        · simp [Value.ownBlock] at e'
        · have : g = b + 1 := by simpa [Value.ownBlock] using e'
          subst this
          rw [e2] at hgg
          cases hgg
    · exact (blk_put e2 0 _ rfl).trans (by simp)
    · refine ⟨?_, (far _ (by omega)).trans e6, (far _ (by omega)).trans e7⟩
      have := k2.size; rw [World.size_setCell]; omega

set_option maxRecDepth 100000 in
set_option maxHeartbeats 4000000 in
theorem text_Change.calls (a0 a1 a2 : ByteArray) (r1 : ByteArray) (r2 : Int) (w : World) (h : text_Change.f a0 a1 a2 = some (r1, r2)) :
    Calls Tryz.prog 60 #[.string a0, .string a1, .string a2] w fun e w' => e = .returned (.tuple #[.string r1, .int .i64 r2]) ∧ Below w.heap.size w w' := by
  unfold text_Change.f at h
  by_cases hb : a0.size ≤ 2000 ∧ a1.size ≤ 2000 ∧ a2.size ≤ 2000
  · rw [if_pos hb] at h
    obtain ⟨hz0, hz1, hz2⟩ := hb
    obtain ⟨W0, hW0⟩ : ∃ W0, (((w.alloc (.cells #[.string a0] 9)).alloc (.cells #[.string a1] 9)).alloc (.cells #[.string a2] 9)) = W0 := ⟨_, rfl⟩
    have hs0 : W0.heap.size = w.heap.size + 1 + 1 + 1 := by rw [← hW0]; simp
    have q0 : W0.heap[w.heap.size]? = some (.cells #[.string a0] 9 (0, 0)) := by
      rw [← hW0]; exact (Below.heap_alloc _ _ _ (by simp <;> omega)).trans ((Below.heap_alloc _ _ _ (by simp)).trans (heap_alloc_new w _))
    have q1 : W0.heap[w.heap.size + 1]? = some (.cells #[.string a1] 9 (0, 0)) := by
      rw [← hW0]; refine (Below.heap_alloc _ _ _ (by simp)).trans ?_
      have := heap_alloc_new (w.alloc (.cells #[.string a0] 9)) (.cells #[.string a1] 9)
      rwa [World.size_alloc] at this
    have q2 : W0.heap[w.heap.size + 1 + 1]? = some (.cells #[.string a2] 9 (0, 0)) := by
      rw [← hW0]
      have := heap_alloc_new ((w.alloc (.cells #[.string a0] 9)).alloc (.cells #[.string a1] 9)) (.cells #[.string a2] 9)
      rwa [World.size_alloc, World.size_alloc] at this
    have k0 : W0.cell? ⟨w.heap.size, 0, none⟩ = some (.string a0) := (blk_cell q0 0).trans rfl
    have k1 : W0.cell? ⟨w.heap.size + 1, 0, none⟩ = some (.string a1) := (blk_cell q1 0).trans rfl
    have k2 : W0.cell? ⟨w.heap.size + 1 + 1, 0, none⟩ = some (.string a2) := (blk_cell q2 0).trans rfl
    have HB0 : Aside0 (Below w.heap.size w W0) := ⟨by rw [← hW0]; exact below_alloc (below_alloc (below_alloc (Below.refl _ _) _) _) _⟩
    have hV := fun W => pre93 [a0, a1, a2] W
    have hcond : ([a0, a1, a2] : List ByteArray).all vld = true ↔ (vld a0 = true ∧ vld a1 = true ∧ vld a2 = true) := by simp
    have HQ0 := Aside0.mk q0
    have HQ1 := Aside0.mk q1
    have HQ2 := Aside0.mk q2
    have HS0 := Aside0.mk hs0
    clear q0 q1 q2 hs0
    by_cases hv : vld a0 = true ∧ vld a1 = true ∧ vld a2 = true
    · rw [if_pos hv] at h
      simp only [if_pos (hcond.2 hv)] at hV
      have HV := Lib.hid hV
      clear hV hcond hv
      have HF : Aside0 (∀ W : World, CallsIn Fence.wide 7 Tryz.prog 119 #[.string a0, .string a1] W fun e w' => e = .returned (.func (.func 150) #[] #[.pointer (some ⟨W.heap.size, 0, none⟩), .pointer (some ⟨W.heap.size + 1, 0, none⟩)]) ∧ w' = (W.alloc (.cells #[.string a0] 9)).alloc (.cells #[.string a1] 9)) := ⟨fun W => found_in 7 a0 a1 W⟩
      refine (callsIn_wide (n := 8)).1 ?_
      refine callsIn_of_wp_marks Tryz.func60 rfl trivial ?_ rfl
      simp only [Tryz.ntmps60, List.size_toArray, List.length_cons, List.length_nil, Nat.reduceAdd, Nat.reduceSub, Array.replicate_succ, Array.replicate_zero, List.push_toArray, List.append_toArray, List.nil_append, List.cons_append]
      have hf1 : Fence.wide.fn 93 := trivial
      have hf2 : Fence.wide.fn 119 := trivial
      gi_wp2_with (first | (gi_at_call 93; refine (callsIn_wide.2 (HV.out _)).mono ?_; rintro e w1 ⟨rfl, hb1⟩; have k0' : w1.cell? ⟨w.heap.size, 0, none⟩ = some (.string a0) := (blk_cell ((hb1.block _ (by rw [HS0.out]; omega)).trans HQ0.out) 0).trans rfl; have k1' : w1.cell? ⟨w.heap.size + 1, 0, none⟩ = some (.string a1) := (blk_cell ((hb1.block _ (by rw [HS0.out]; omega)).trans HQ1.out) 0).trans rfl; have k2' : w1.cell? ⟨w.heap.size + 1 + 1, 0, none⟩ = some (.string a2) := (blk_cell ((hb1.block _ (by rw [HS0.out]; omega)).trans HQ2.out) 0).trans rfl; have HB1 := Aside0.mk hb1; have hz1' : w.heap.size + 1 + 1 < w1.heap.size := (by have := HB1.out.size; have := HS0.out; omega); have hz1a : w.heap.size + 1 < w1.heap.size := (by omega); have hz1b : w.heap.size < w1.heap.size := (by omega); clear hb1) | (gi_at_call 119; refine (HF.out _).mono ?_; rintro e w' ⟨rfl, rfl⟩))
      obtain ⟨WX, hWX⟩ : ∃ WX, ((((w1.alloc (.cells #[.pointer none, .slice none 0 0] 127)).alloc (.cells #[.int .i64 0] 3)).alloc (.cells #[.string a0] 9)).alloc (.cells #[.string a1] 9)) = WX := ⟨_, rfl⟩
      rw [hWX]
      have hsx : WX.heap.size = w1.heap.size + 1 + 1 + 1 + 1 := by rw [← hWX]; simp
      have x0 : WX.heap[w1.heap.size]? = some (.cells #[.pointer none, .slice none 0 0] 127 (0, 0)) := by
        rw [← hWX]; exact (Below.heap_alloc _ _ _ (by simp <;> omega)).trans ((Below.heap_alloc _ _ _ (by simp <;> omega)).trans ((Below.heap_alloc _ _ _ (by simp)).trans (heap_alloc_new w1 _)))
      have x1 : WX.heap[w1.heap.size + 1]? = some (.cells #[.int .i64 0] 3 (0, 0)) := by
        rw [← hWX]; refine (Below.heap_alloc _ _ _ (by simp <;> omega)).trans ((Below.heap_alloc _ _ _ (by simp)).trans ?_)
        have := heap_alloc_new (w1.alloc (.cells #[.pointer none, .slice none 0 0] 127)) (.cells #[.int .i64 0] 3)
        rwa [World.size_alloc] at this
      have x2 : WX.heap[w1.heap.size + 1 + 1]? = some (.cells #[.string a0] 9 (0, 0)) := by
        rw [← hWX]; refine (Below.heap_alloc _ _ _ (by simp)).trans ?_
        have := heap_alloc_new ((w1.alloc (.cells #[.pointer none, .slice none 0 0] 127)).alloc (.cells #[.int .i64 0] 3)) (.cells #[.string a0] 9)
        rwa [World.size_alloc, World.size_alloc] at this
      have x3 : WX.heap[w1.heap.size + 1 + 1 + 1]? = some (.cells #[.string a1] 9 (0, 0)) := by
        rw [← hWX]
        have := heap_alloc_new (((w1.alloc (.cells #[.pointer none, .slice none 0 0] 127)).alloc (.cells #[.int .i64 0] 3)).alloc (.cells #[.string a0] 9)) (.cells #[.string a1] 9)
        rwa [World.size_alloc, World.size_alloc, World.size_alloc] at this
      have hbX : Below w1.heap.size w1 WX := by rw [← hWX]; exact below_alloc (below_alloc (below_alloc (below_alloc (Below.refl _ _) _) _) _) _
      have hB1 := HB1.out
      have hI0 : ChI w a0 a1 a2 w1.heap.size WX.heap.size [] WX := by
        refine ⟨.inl ⟨Nat.le_refl _, .slice none 0 0, x0, World.ownsRowF_nil _ _ _ _, by simp [Value.ownBlock]⟩, x1, ?_, ?_, ?_, (HB0.out.trans (hB1.mono HB0.out.size)).trans (hbX.mono (by omega)), Nat.le_refl _, x2, x3⟩
        · exact (hbX.block _ (by omega)).trans ((hB1.block _ (by rw [HS0.out]; omega)).trans HQ0.out)
        · exact (hbX.block _ (by omega)).trans ((hB1.block _ (by rw [HS0.out]; omega)).trans HQ1.out)
        · exact (hbX.block _ (by omega)).trans ((hB1.block _ (by rw [HS0.out]; omega)).trans HQ2.out)
      have hnx := found_nx 7 (by omega) (w1.heap.size + 1 + 1) (w1.heap.size + 1 + 1 + 1) a0 a1 (by omega) (by omega) WX (KpC w1.heap.size) (by omega) (by omega) (fun _ _ h => h.1) (fun _ _ h => h.2) ((blk_cell x2 0).trans rfl) ((blk_cell x3 0).trans rfl)
      generalize hbb : w1.heap.size = b at *
      refine rf_law (F := Fence.wide) (n := 8) (gf := 150) (encs := fun x : Int => #[Value.int .i64 x]) (Kp := KpC b) (w0 := WX) (S := fun ys => ys = occ a0 a1 0) (Nx := fun pre x => (pre ++ [x]) <+: occ a0 a1 0) rfl (by omega) rfl trivial (enters_of Tryz.func150 (by kernel_rfl) rfl)
        (fun h k => ⟨k.1.trans h.1, k.2.trans h.2⟩) ?hKb hnx (Below.refl _ _) (fun x => rfl) (ChI w a0 a1 a2 b WX.heap.size) (ch_own w a0 a1 a2 b WX.heap.size (by omega)) hI0
        (fun x a' _ => a' = { tmps := #[.string a0, .string a1, .string a2, .pointer (some ⟨w.heap.size, 0, none⟩), .pointer (some ⟨w.heap.size + 1, 0, none⟩), .pointer (some ⟨w.heap.size + 1 + 1, 0, none⟩), .string ⟨#[]⟩, .int .i64 0, .int .i64 0, .pointer (some ⟨b, 0, none⟩), .pointer (some ⟨b + 1, 0, none⟩), .int .i64 x, .string a0, .string a1, .string a2, .slice (some ⟨W0.heap.size, 0, none⟩) 3 3, .int .i64 0, .int .i64 0, .bool false, undef, .string a0, .string a1, .func (.func 150) #[] #[.pointer (some ⟨b + 1 + 1, 0, none⟩), .pointer (some ⟨b + 1 + 1 + 1, 0, none⟩)], .int .i64 x, undef, undef, undef, undef, undef, undef, undef, undef, undef, undef, undef, undef, undef, undef, undef, undef, undef, undef, undef], defers := [] }) ?hAx ?hassign ?hbody ?hdone
      case hKb =>
        intro W l o o' hl ho hc hw
        exact ⟨World.cell?_of_block (a := ⟨b + 1 + 1, 0, none⟩) (World.putObj_heap_other (by show b + 1 + 1 ≠ l; omega)), World.cell?_of_block (a := ⟨b + 1 + 1 + 1, 0, none⟩) (World.putObj_heap_other (by show b + 1 + 1 + 1 ≠ l; omega))⟩
      case hAx => exact fun x a' s W W' row h _ _ => h
      case hassign =>
        intro l pre x W K hi hK
        gi_wp2
        exact hK _ _ (KeepsFrom.refl _ _) ⟨rfl, rfl⟩ hi rfl
      case hbody =>
        rintro l pre x a' W hnx2 hi rfl
        obtain ⟨p1, p2⟩ := occ_pre a0 a1 a1.data.toList a2.data.toList pre x 0 hnx2
        have hlen := chg_len a1.data.toList a2.data.toList a0.size pre 0
        have hpl : pre.length ≤ 2000 := by
          have h1 := hnx2.length_le
          have h2 := occ_length a0 a1 0
          rw [List.length_append] at h1
          simp at h1
          omega
        have hl1 : a1.data.toList.length = a1.size := data_length a1
        have hl2 : a2.data.toList.length = a2.size := data_length a2
        have hcl : (chgGo a1.data.toList a2.data.toList a0.size 0 pre).1.length ≤ 10000000 := by
          have : pre.length * (a1.data.toList.length + a2.data.toList.length) ≤ 2000 * 4000 := Nat.mul_le_mul hpl (by omega)
          omega
        obtain ⟨q, rfl⟩ := Int.eq_ofNat_of_zero_le (show 0 ≤ x by omega)
        have HSTEP := Aside0.mk (fun s W1 hs k1 k2 k3 => ch_step w a0 a1 a2 b WX.heap.size pre q W W1 hz1' (by omega) hi s hs k1 k2 k3)
        obtain ⟨i1, i2, i3, i4, i5, i6, i7, i8, i9⟩ := hi
        have c0 : W.cell? ⟨w.heap.size, 0, none⟩ = some (.string a0) := (blk_cell i3 0).trans rfl
        have c1 : W.cell? ⟨w.heap.size + 1, 0, none⟩ = some (.string a1) := (blk_cell i4 0).trans rfl
        have c2 : W.cell? ⟨w.heap.size + 1 + 1, 0, none⟩ = some (.string a2) := (blk_cell i5 0).trans rfl
        have ce : W.cell? ⟨b + 1, 0, none⟩ = some (.int .i64 ((chgGo a1.data.toList a2.data.toList a0.size 0 pre).2 : Int)) := (blk_cell i2 0).trans rfl
        have HWR := Aside0.mk (fun (s : ByteArray) (hs : s.size ≤ 10000000) => (WrS_k b b (Lib.byteCells (chgGo a1.data.toList a2.data.toList a0.size 0 pre).1) s W.drew i1 (by rw [Lib.byteCells_length]; omega) (show b ≤ W.heap.size by omega)).mono (R' := fun e' w' => e' = .returned (.tuple #[.int .i64 s.size, .nilIface]) ∧ Lib.BuilderAtF 127 5 b b (.pointer (some ⟨b, 0, none⟩)) (Lib.byteCells (chgGo a1.data.toList a2.data.toList a0.size 0 pre).1 ++ Lib.strCells s) w' ∧ Below b W w' ∧ Lib.OthersKept 5 (some b) W w') (fun e' w' h => ⟨h.1, h.2.1, ⟨h.2.2.1.os, h.2.2.1.tape, h.2.2.1.output, h.2.2.1.size, h.2.2.1.block⟩, h.2.2.2⟩))
        have HI2 := Aside0.mk i2
        clear hlen hpl hl1 hl2 hcl i1 i2 i3 i4 i5 i6 i8 i9 hnx2
        generalize chgGo a1.data.toList a2.data.toList a0.size 0 pre = ce' at *
        obtain ⟨L, e⟩ := ce'
        simp only at p1 ce HSTEP HWR HI2
        have heq : e ≤ q := by omega
        have hqs : q ≤ a1.size := by omega
        have hes : e ≤ a1.size := by omega
        obtain ⟨sz, hsz⟩ : ∃ sz, (a1.extract e q ++ a2) = sz := ⟨_, rfl⟩
        have hw1 := HWR.out sz (by rw [← hsz, ByteArray.size_append, ByteArray.size_extract]; omega)
        have HW1 := Lib.hid hw1
        have hn1 : q - e + a2.size ≤ 9223372036854775807 := by omega
        have d1 : (9223372036854775807 < q - e + a2.size) = False := eq_false (by omega)
        have HSZ := Aside0.mk hsz
        clear hw1
        gi_wp2
        have hmx : Tryz.prog.follows .mixedOrders = true := by kernel_rfl
        gi_region_with_o (refine ⟨trivial, ?_⟩; gi_at_call 120; refine (CallsIn.inRound l (callsIn_wide.2 HW1.out)).mono ?_; rintro e' w' ⟨rfl, k1, k2, k3⟩)
        all_goals
          obtain ⟨f1, f2, f3, f4, f5⟩ := HSTEP.out sz w' HSZ.out.symm k1 k2 k3
          have m0 : w'.cell? ⟨w.heap.size, 0, none⟩ = some (.string a0) := (blk_cell f2 0).trans rfl
          have m1 : w'.cell? ⟨b + 1, 0, none⟩ = some (.int .i64 (e : Int)) := (blk_cell f1 0).trans rfl
          have m2 := blk_frozen f1 0
          have F345 := Aside0.mk (And.intro f3 (And.intro f4 f5))
          clear f1 f2 f3 f4 f5 k1 k2 k3
          gi_wp2
          have F := F345.out
          rw [hsx] at F
          exact F
      case hdone =>
        rintro D xs W hD rfl hi hdef
        have hend := occ_end a0 a1 a1.data.toList a2.data.toList 0 (Nat.zero_le _)
        have hlen := chg_len a1.data.toList a2.data.toList a0.size (occ a0 a1 0) 0
        have hpl := occ_length a0 a1 0
        have hl1 : a1.data.toList.length = a1.size := data_length a1
        have hl2 : a2.data.toList.length = a2.size := data_length a2
        have hcl : (chgGo a1.data.toList a2.data.toList a0.size 0 (occ a0 a1 0)).1.length ≤ 10000000 := by
          have : (occ a0 a1 0).length * (a1.data.toList.length + a2.data.toList.length) ≤ 2000 * 4000 := Nat.mul_le_mul (by omega) (by omega)
          omega
        unfold ChI at hi
        clear hlen hpl hl1 hl2
        generalize chgGo a1.data.toList a2.data.toList a0.size 0 (occ a0 a1 0) = ce' at *
        obtain ⟨L, e⟩ := ce'
        simp only at h hi hend hcl
        obtain ⟨i1, i2, i3, i4, i5, i6, i7, i8, i9⟩ := hi
        obtain ⟨y, hy⟩ : ∃ y : ByteArray, (⟨L.toArray⟩ : ByteArray) = y := ⟨_, rfl⟩
        obtain ⟨z, hz⟩ : ∃ z : ByteArray, (⟨(L ++ a1.data.toList.drop e).toArray⟩ : ByteArray) = z := ⟨_, rfl⟩
        have hys : y.size ≤ 10000000 := by rw [← hy, ← data_length]; simpa using hcl
        have hcat : y ++ a1.extract e a1.size = z := by
          rw [← hy, ← hz]
          apply ByteArray.ext
          apply Array.toList_inj.1
          rw [ByteArray.data_append, Array.toList_append, ByteArray.data_extract, Array.toList_extract, List.extract_eq_take_drop]
          simp only
          rw [List.take_of_length_le]
          rw [List.length_drop, data_length]; exact Nat.le_refl _
        rw [hz] at h
        have hmk := fun W => text_made.calls z r1 r2 W h
        have HM := Lib.hid hmk
        have hst : ∀ W' : World, W'.heap = W.heap → W'.os = W.os → W'.tape = W.tape → W'.output = W.output → Calls Tryz.prog 121 #[.pointer (some ⟨b, 0, none⟩)] W' fun e' w' => e' = .returned (.string y) ∧ w'.cell? ⟨w.heap.size + 1, 0, none⟩ = some (.string a1) ∧ w'.cell? ⟨b + 1, 0, none⟩ = some (.int .i64 (e : Int)) ∧ Aside0 (Below w.heap.size w w' ∧ w'.heap[D]? = some (.deferred (some []))) := by
          intro W' hh ho ht hu
          have hi1 : Lib.IsBuilderF 127 5 b b (Lib.byteCells L) W' := by
            rcases i1 with ⟨g1, v, g2, g3, g4⟩ | ⟨g1, v, g2, g3, g4⟩
            · exact .inl ⟨g1, v, by rw [hh]; exact g2, ⟨g3.1, g3.2.imp id (fun ⟨g, cap, cur, fz, q1, q2, q3, q4⟩ => ⟨g, cap, cur, fz, q1, q2, by rw [hh]; exact q3, q4⟩)⟩, g4⟩
            · exact .inr ⟨g1, v, by rw [hh]; exact g2, ⟨g3.1, g3.2.imp id (fun ⟨g, cap, cur, fz, q1, q2, q3, q4⟩ => ⟨g, cap, cur, fz, q1, q2, by rw [hh]; exact q3, q4⟩)⟩, g4⟩
          refine (Tryz.Builder_String_any_k b b L W' hi1 (by rw [hh]; omega)).mono ?_
          rintro e' w' ⟨rfl, k1, k2, k3⟩
          have kc : ∀ k o, W.heap[k]? = some o → k ≠ b → (∀ c fz, o ≠ .cells c 5 fz) → w'.heap[k]? = some o := fun k o ho hk hn => k3 k o (by rw [hh]; exact ho) (by simpa using hk) hn
          have k2' : Below b W w' := ⟨k2.os.trans ho, k2.tape.trans ht, k2.output.trans hu, by have := k2.size; rwa [hh] at this, fun k hk => by rw [k2.block k hk, hh]⟩
          exact ⟨by rw [hy], (blk_cell (kc _ _ i4 (by omega) (fun c fz e => by cases e)) 0).trans rfl, (blk_cell (kc _ _ i2 (by omega) (fun c fz e => by cases e)) 0).trans rfl, ⟨i6.trans (k2'.mono (by omega)), kc _ _ hdef (by omega) (fun c fz e => by cases e)⟩⟩
        have hs1 := hst W rfl rfl rfl rfl
        have hs2 := hst W.drew rfl rfl rfl rfl
        have HS1 := Lib.hid hs1
        have HS2 := Lib.hid hs2
        have c1 : W.cell? ⟨w.heap.size + 1, 0, none⟩ = some (.string a1) := (blk_cell i4 0).trans rfl
        have ce : W.cell? ⟨b + 1, 0, none⟩ = some (.int .i64 (e : Int)) := (blk_cell i2 0).trans rfl
        have d1 : (9223372036854775807 < y.size + (a1.size - e)) = False := eq_false (by omega)
        have hmx : Tryz.prog.follows .mixedOrders = true := by kernel_rfl
        clear i1 i2 i3 i4 i5 i6 i8 i9 hy hz h hs1 hs2 hst hmk hdef
        gi_wp2
        refine wpIn_normal ?_
        gi_region_with_o (first | (refine ⟨trivial, ?_⟩; gi_at_call 121; first | (with_reducible refine (callsIn_wide.2 HS1.out).mono ?_) | (with_reducible refine (callsIn_wide.2 HS2.out).mono ?_); rintro e' w' ⟨rfl, k1, k2, k3⟩) | (refine ⟨trivial, ?_⟩; gi_at_call 113; refine (callsIn_wide.2 (HM.out _)).mono ?_; rintro e' w'' ⟨rfl, k4⟩))
        all_goals
          have hdl : D < w'.heap.size := (Array.getElem?_eq_some_iff.1 k3.out.2).1
          have hd : w''.heap[D]? = some (.deferred (some [])) := (k4.block D hdl).trans k3.out.2
          have hbb2 : Below w.heap.size w w'' := k3.out.1.trans (k4.mono k3.out.1.size)
          have HD := Aside0.mk hd
          have HBB := Aside0.mk (hbb2.grown (grownBy_putObj' w'' D (.deferred none)) hbb2.size (fun k e => by cases e; omega))
          clear hd hbb2 k3 k4 k1 k2 hdl
          rw [OnlyN]
          gi_wp2
          refine ⟨by simp, .inl ⟨_, _, rfl, run_takeDeferred HD.out, ?_⟩⟩
          exact ⟨_, results_tmp2 rfl _ _ _, rfl, HBB.out⟩
    · rw [if_neg hv] at h
      obtain ⟨rfl, rfl⟩ : (⟨#[]⟩ : ByteArray) = r1 ∧ 1 = r2 := by simpa using h
      simp only [if_neg (fun h => hv (hcond.1 h))] at hV
      have HV := Lib.hid hV
      clear hV hcond hv h hz0 hz1 hz2
      go_enter Tryz.func60, Tryz.ntmps60
      go_wp2_with (go_at_call 93; refine (HV.out _).mono ?_; rintro e w1 ⟨rfl, hb1⟩)
      go_ret2
      exact ⟨rfl, below_step HB0.out hb1⟩
  · rw [if_neg hb] at h
    cases h

end Go.Proofs.YtlekfhnlhdmekaaGreatDoor.T

/- text.Reverse returns what text_Reverse.f says: slices.Reverse turns a buffer of bytes round. -/
namespace Go.Proofs.YtlekfhnlhdmekaaGreatDoor.T
set_option linter.unusedSimpArgs false
set_option linter.unusedVariables false
open Go.RowKit Go.Proofs.YtlekfhnlhdmekaaGreatDoorW.PrintWords Go.Proofs.YtlekfhnlhdmekaaGreatDoorW.PrintLast Go.Proofs.YtlekfhnlhdmekaaGreatDoorW.PrintMore

/-- The list after k swaps from both ends. -/
def revK (xs : List Int) (k : Nat) : List Int := (List.range xs.length).map fun i => if i < k ∨ xs.length - k ≤ i then xs.getD (xs.length - 1 - i) 0 else xs.getD i 0
theorem revK_length (xs : List Int) (k : Nat) : (revK xs k).length = xs.length := by simp [revK]
theorem revK_at (xs : List Int) (k i : Nat) (hi : i < xs.length) : (revK xs k)[i]? = some (if i < k ∨ xs.length - k ≤ i then xs.getD (xs.length - 1 - i) 0 else xs.getD i 0) := by
  simp [revK, List.getElem?_map, List.getElem?_range hi]
theorem revK_getD (xs : List Int) (k i : Nat) (hi : i < xs.length) (h1 : ¬ i < k) (h2 : ¬ xs.length - k ≤ i) : (revK xs k).getD i 0 = xs.getD i 0 := by
  rw [List.getD_eq_getElem?_getD, revK_at xs k i hi, if_neg (by omega)]
  rfl
theorem revK_zero (xs : List Int) : revK xs 0 = xs := by
  apply List.ext_getElem?
  intro i
  by_cases hi : i < xs.length
  · rw [revK_at xs 0 i hi, if_neg (by omega), List.getD_eq_getElem?_getD, List.getElem?_eq_getElem hi]
    rfl
  · rw [List.getElem?_eq_none (by rw [revK_length]; omega), List.getElem?_eq_none (by omega)]
theorem revK_all (xs : List Int) (k : Nat) (hk : xs.length ≤ 2 * k + 1) : revK xs k = xs.reverse := by
  apply List.ext_getElem?
  intro i
  by_cases hi : i < xs.length
  · rw [revK_at xs k i hi, List.getElem?_reverse hi]
    have e : xs.length - 1 - i < xs.length := by omega
    by_cases h : i < k ∨ xs.length - k ≤ i
    · rw [if_pos h, List.getD_eq_getElem?_getD, List.getElem?_eq_getElem e]
      rfl
    · rw [if_neg h, show xs.length - 1 - i = i by omega, List.getD_eq_getElem?_getD, List.getElem?_eq_getElem hi]
      rfl
  · rw [List.getElem?_eq_none (by rw [revK_length]; omega), List.getElem?_eq_none (by simp; omega)]
theorem revK_step (xs : List Int) (k j : Nat) (hkj : k < j) (hj : k + j + 1 = xs.length) : ((revK xs k).set k (xs.getD j 0)).set j (xs.getD k 0) = revK xs (k + 1) := by
  apply List.ext_getElem?
  intro i
  by_cases hi : i < xs.length
  · rw [List.getElem?_set, List.getElem?_set, revK_at xs (k + 1) i hi, List.length_set, revK_length, revK_at xs k i hi]
    by_cases e1 : j = i
    · subst e1
      rw [if_pos rfl, if_pos hi, if_pos (by omega), show xs.length - 1 - j = k by omega]
    · rw [if_neg e1]
      by_cases e2 : k = i
      · subst e2
        rw [if_pos rfl, if_pos hi, if_pos (by omega), show xs.length - 1 - k = j by omega]
      · rw [if_neg e2]
        by_cases h : i < k ∨ xs.length - k ≤ i
        · rw [if_pos h, if_pos (by omega)]
        · rw [if_neg h, if_neg (by omega)]
  · rw [List.getElem?_eq_none (by simp [revK_length]; omega), List.getElem?_eq_none (by rw [revK_length]; omega)]

set_option maxRecDepth 100000 in
set_option maxHeartbeats 4000000 in
theorem reverse125.calls (g c : Nat) (xs : List Int) (w w0 : World) (hl : xs.length ≤ 100000) (hB : Buf g xs w) (hb : Below w0.heap.size w0 w) (hg : w0.heap.size ≤ g) :
    Calls Tryz.prog 125 #[.slice (some ⟨g, 0, none⟩) xs.length c] w fun e w' => e = .returned (.tuple #[]) ∧ Buf g xs.reverse w' ∧ Below w0.heap.size w0 w' := by
  obtain ⟨n, hn⟩ : ∃ n, xs.length = n := ⟨_, rfl⟩
  have HN := Aside0.mk hn
  have HB0 := Aside0.mk hB
  have HL0 := Aside0.mk hb
  rw [hn] at hl ⊢
  clear hB hb hn
  go_enter Tryz.func125, Tryz.ntmps125
  go_wp2
  go_loopg [2, 3] n (fun gg s2 s3 wr => ∃ (kk : Nat) (jz : Int), kk ≤ n ∧ n - kk ≤ gg ∧ s2 = .int .i64 kk ∧ s3 = .int .i64 jz ∧ (kk : Int) + jz + 1 = n ∧ Aside0 (Below w0.heap.size w0 wr) ∧ Aside0 (Buf g (revK xs kk) wr))
  case atStart => exact ⟨0, (n : Int) - 1, Nat.zero_le _, by omega, rfl, rfl, by omega, HL0, ⟨by rw [revK_zero]; exact HB0.out⟩⟩
  case round =>
    obtain ⟨kk, jz, hkk, hgg, rfl, rfl, hj, HB, HF⟩ := hrel
    by_cases hlt : (kk : Int) < jz
    · obtain ⟨jj, rfl⟩ := Int.eq_ofNat_of_zero_le (show 0 ≤ jz by omega)
      have d1 : decide ((kk : Int) < (jj : Int)) = true := decide_eq_true hlt
      have d2 : decide (kk < jj) = true := decide_eq_true (by omega)
      have hk0 : (kk : Int) < (n : Int) := by omega
      have hj0 : (jj : Int) < (n : Int) := by omega
      have hx1 := HF.out.cell kk (by rw [revK_length]; have := HN.out; omega)
      have hx2 := HF.out.cell jj (by rw [revK_length]; have := HN.out; omega)
      rw [revK_getD xs kk kk (by have := HN.out; omega) (by omega) (by have := HN.out; omega)] at hx1
      rw [revK_getD xs kk jj (by have := HN.out; omega) (by omega) (by have := HN.out; omega)] at hx2
      have f1 := HF.out.free kk (by rw [revK_length]; have := HN.out; omega)
      have f2 := HF.out.free jj (by rw [revK_length]; have := HN.out; omega)
      have HS := Aside0.mk ((HF.out.set kk (xs.getD jj 0) (by rw [revK_length]; have := HN.out; omega)).set jj (xs.getD kk 0) (by rw [List.length_set, revK_length]; have := HN.out; omega))
      rw [revK_step xs kk jj (by omega) (by have := HN.out; omega)] at HS
      generalize xs.getD kk 0 = y1 at hx1 HS
      generalize xs.getD jj 0 = y2 at hx2 HS
      go_upto_region 3 with fail
      go_region
      go_wp2
      go_roundg (n - (kk + 1))
      case measure => omega
      case rel =>
        exact ⟨kk + 1, (jj : Int) - 1, by omega, by omega, by go_num, rfl, by omega, ⟨pw_below_drewN (below_set (below_set HB.out hg) hg) 1⟩, HS⟩
    · have d1 : decide ((kk : Int) < jz) = false := decide_eq_false hlt
      have HR : Aside0 (Buf g xs.reverse wr) := ⟨by rw [← revK_all xs kk (by have := HN.out; omega)]; exact HF.out⟩
      go_wp2
      go_end0
      exact ⟨rfl, HR.out, HB.out⟩

def text_Reverse.f (a0 : ByteArray) : Option (ByteArray × Int) :=
  if a0.size ≤ 100000 then (if vld a0 = true then some (strOfNums (bytesOf a0).reverse, 0) else some (⟨#[]⟩, 1)) else none
set_option maxRecDepth 100000 in
set_option maxHeartbeats 4000000 in
theorem text_Reverse.calls (a0 : ByteArray) (r1 : ByteArray) (r2 : Int) (w : World) (h : text_Reverse.f a0 = some (r1, r2)) :
    Calls Tryz.prog 67 #[.string a0] w fun e w' => e = .returned (.tuple #[.string r1, .int .i64 r2]) ∧ Below w.heap.size w w' := by
  unfold text_Reverse.f at h
  by_cases hz : a0.size ≤ 100000
  · rw [if_pos hz] at h
    have H1 := fun W0 => pre93 [a0] W0
    by_cases hv : vld a0 = true
    · rw [if_pos hv] at h
      rw [if_pos (show ([a0] : List ByteArray).all vld = true by simpa using hv)] at H1
      have H1 := Lib.hid H1
      simp only [Option.some.injEq, Prod.mk.injEq] at h
      obtain ⟨rfl, rfl⟩ := h
      obtain ⟨n, hn⟩ : ∃ n, a0.size = n := ⟨_, rfl⟩
      have HN : Aside0 ((bytesOf a0).length = n) := ⟨by rw [bytesOf_length]; exact hn⟩
      have kb := fun W => print_bytes (P := Tryz.prog) 9 83 5 Tryz.underlying9 Tryz.underlying83 Tryz.underlying5 a0 W
      have HR := Lib.hid (fun (W : World) (c : Nat) (hb : Below w.heap.size w W) => reverse125.calls W.heap.size c (bytesOf a0) (Lib.bytesWorld W 5 a0) w (by rw [HN.out]; omega) (Buf.new W a0) (bytes_below hb hb.size 5 a0) hb.size)
      simp only [HN.out] at HR
      have hcv := Lib.hid (fun (W : World) (g c : Nat) (hB : Buf g (bytesOf a0).reverse W) => string_of_reads (P := Tryz.prog) (w := W) (src := 83) (dst := 9) (e := 5) (A := some ⟨g, 0, none⟩) (n := n) (c := c) (xs := (bytesOf a0).reverse) Tryz.underlying83 Tryz.underlying5 Tryz.underlying9 (by
        have := hB.reads (by rw [List.length_reverse]; have := HN.out; omega); rw [List.length_reverse, HN.out] at this; exact this))
      rw [hn] at kb hz
      clear hv hn
      go_enter Tryz.func67, Tryz.ntmps67
      go_upto_region 5 with (go_at_call 93; refine (H1.out _).mono ?_; rintro e w1 ⟨rfl, hb1⟩)
      have HRR := Lib.hid (HR.out _ (grownCap w1 n 0 5) hb1)
      go_upto_region 6 with (go_at_call 125; refine HRR.out.mono ?_; rintro e w2 ⟨rfl, hB2, hb2⟩)
      have hconv := fun c => hcv.out w2 _ c hB2
      go_wp2
      go_ret2
      exact ⟨rfl, hb2⟩
    · rw [if_neg hv] at h
      rw [if_neg (show ¬ ([a0] : List ByteArray).all vld = true by simpa using hv)] at H1
      have H1 := Lib.hid H1
      simp only [Option.some.injEq, Prod.mk.injEq] at h
      obtain ⟨rfl, rfl⟩ := h
      go_enter Tryz.func67, Tryz.ntmps67
      go_wp2_with (go_at_call 93; refine (H1.out _).mono ?_; rintro e w1 ⟨rfl, hb1⟩)
      go_ret2
      exact ⟨rfl, hb1⟩
  · rw [if_neg hz] at h
    cases h
end Go.Proofs.YtlekfhnlhdmekaaGreatDoor.T
