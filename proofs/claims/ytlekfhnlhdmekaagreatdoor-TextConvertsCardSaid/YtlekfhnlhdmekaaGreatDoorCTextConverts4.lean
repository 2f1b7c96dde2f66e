/- Part 4 of the proof of TextConverts: the functions that it calls return what their plain descriptions say. -/
import Derived.Test.YtlekfhnlhdmekaaGreatDoorCTextConverts2
import Derived.Test.YtlekfhnlhdmekaaGreatDoorCTextConverts3
import Derived.Maps.OwnOps

-- Written by a program of this session (mp.py over the kit's print.py), out of the translation.
namespace Go.Proofs.YtlekfhnlhdmekaaGreatDoor.T
set_option linter.unusedSimpArgs false
open Go.RowKit Go.Proofs.YtlekfhnlhdmekaaGreatDoorW.PrintWords Go.Proofs.YtlekfhnlhdmekaaGreatDoorW.PrintLast Go.Proofs.YtlekfhnlhdmekaaGreatDoorW.PrintMore
attribute [local go_sem] max2_int min2_int max_two min_two max_three min_three max_four min_four   -- for this text's walks alone
set_option linter.unusedVariables false
set_option linter.unusedSimpArgs false

/-! ### qanatlaw02_head: function 15 -/
def qanatlaw02_head.f (k : Nat)  : Option (Bool) := (text_Center.f (⟨#[97, 98, 99]⟩ : ByteArray) 8 45).bind fun bt171 => ((text_DelWord.f (⟨#[78, 111, 119, 32, 105, 115, 32, 116, 104, 101, 32, 32, 116, 105, 109, 101]⟩ : ByteArray) 2 2).bind fun bt173 => ((text_LastPos.f k (⟨#[32]⟩ : ByteArray) (⟨#[97, 98, 99, 32, 100, 101, 102, 32, 103, 104, 105]⟩ : ByteArray) 7).bind fun bt175 => ((text_Translate.f (⟨#[97, 98, 99, 100, 101, 102]⟩ : ByteArray) (⟨#[49, 50]⟩ : ByteArray) (⟨#[101, 99]⟩ : ByteArray) 46).bind fun bt177 => ((text_BitXor.f (⟨#[65]⟩ : ByteArray) (⟨#[65]⟩ : ByteArray) (-1)).bind fun bt179 => ((text_X2C.f k (⟨#[54, 49, 54, 50]⟩ : ByteArray)).bind fun bt181 => (if bt171.2 = 0 then (if bt171.1.toList = ([45, 45, 97, 98, 99, 45, 45, 45] : List UInt8) then (if bt173.2 = 0 then (if bt173.1.toList = ([78, 111, 119, 32, 116, 105, 109, 101] : List UInt8) then (if bt175.2 = 0 then (if bt175.1 = 4 then (if bt177.2 = 0 then (if bt177.1.toList = ([97, 98, 50, 100, 49, 102] : List UInt8) then (if bt179.2 = 8 then (if bt181.2 = 0 then (if bt181.1.toList = ([97, 98] : List UInt8) then ((text_Valid.f (⟨#[97]⟩ : ByteArray)).bind fun t183 => (if t183 = true then ((text_Valid.f (⟨#[10]⟩ : ByteArray)).bind fun t184 => (some (!t184))) else (some false))) else (some false)) else (some false)) else (some false)) else (some false)) else (some false)) else (some false)) else (some false)) else (some false)) else (some false)) else (some false)) else (some false)))))))
theorem qanatlaw02_head.mono : ∀ k, LeO (qanatlaw02_head.f k ) (qanatlaw02_head.f (k + 1) ) := by
  intro  k
  unfold qanatlaw02_head.f
  repeat' first
      | (with_reducible exact text_LastPos.mono _ _ _ _)
      | (with_reducible exact text_X2C.mono _ _)
      | (with_reducible exact LeO.refl _)
      | (with_reducible exact LeO.none _)
      | (with_reducible refine LeO.ite ?_ ?_)
      | (with_reducible refine LeO.bind ?_ (fun _ => ?_))
      | exact text_LastPos.mono _ _ _ _
      | exact text_X2C.mono _ _
      | exact LeO.none _
      | refine LeO.ite ?_ ?_
      | refine LeO.bind ?_ (fun _ => ?_)
set_option maxHeartbeats 8000000 in
set_option maxRecDepth 100000 in
theorem qanatlaw02_head.calls (k : Nat)  (r : Bool) (w : World) (hT : TabOK w) (h : qanatlaw02_head.f k  = some r) :
    Calls Tryz.prog 15 #[] w fun e w' => e = .returned (.bool r) ∧ Below w.heap.size w w' := by
  have HB := Aside0.mk (Below.refl w.heap.size w)
  have H : ((text_Center.f (⟨#[97, 98, 99]⟩ : ByteArray) 8 45).bind fun bt171 => ((text_DelWord.f (⟨#[78, 111, 119, 32, 105, 115, 32, 116, 104, 101, 32, 32, 116, 105, 109, 101]⟩ : ByteArray) 2 2).bind fun bt173 => ((text_LastPos.f k (⟨#[32]⟩ : ByteArray) (⟨#[97, 98, 99, 32, 100, 101, 102, 32, 103, 104, 105]⟩ : ByteArray) 7).bind fun bt175 => ((text_Translate.f (⟨#[97, 98, 99, 100, 101, 102]⟩ : ByteArray) (⟨#[49, 50]⟩ : ByteArray) (⟨#[101, 99]⟩ : ByteArray) 46).bind fun bt177 => ((text_BitXor.f (⟨#[65]⟩ : ByteArray) (⟨#[65]⟩ : ByteArray) (-1)).bind fun bt179 => ((text_X2C.f k (⟨#[54, 49, 54, 50]⟩ : ByteArray)).bind fun bt181 => (if bt171.2 = 0 then (if bt171.1.toList = ([45, 45, 97, 98, 99, 45, 45, 45] : List UInt8) then (if bt173.2 = 0 then (if bt173.1.toList = ([78, 111, 119, 32, 116, 105, 109, 101] : List UInt8) then (if bt175.2 = 0 then (if bt175.1 = 4 then (if bt177.2 = 0 then (if bt177.1.toList = ([97, 98, 50, 100, 49, 102] : List UInt8) then (if bt179.2 = 8 then (if bt181.2 = 0 then (if bt181.1.toList = ([97, 98] : List UInt8) then ((text_Valid.f (⟨#[97]⟩ : ByteArray)).bind fun t183 => (if t183 = true then ((text_Valid.f (⟨#[10]⟩ : ByteArray)).bind fun t184 => (some (!t184))) else (some false))) else (some false)) else (some false)) else (some false)) else (some false)) else (some false)) else (some false)) else (some false)) else (some false)) else (some false)) else (some false)) else (some false)))))))) = some r := h
  clear h
  replace H := Option.bind_eq_some_iff.mp H
  obtain ⟨⟨t171, t172⟩, A10, H⟩ := H
  replace H : ((text_DelWord.f (⟨#[78, 111, 119, 32, 105, 115, 32, 116, 104, 101, 32, 32, 116, 105, 109, 101]⟩ : ByteArray) 2 2).bind fun bt173 => ((text_LastPos.f k (⟨#[32]⟩ : ByteArray) (⟨#[97, 98, 99, 32, 100, 101, 102, 32, 103, 104, 105]⟩ : ByteArray) 7).bind fun bt175 => ((text_Translate.f (⟨#[97, 98, 99, 100, 101, 102]⟩ : ByteArray) (⟨#[49, 50]⟩ : ByteArray) (⟨#[101, 99]⟩ : ByteArray) 46).bind fun bt177 => ((text_BitXor.f (⟨#[65]⟩ : ByteArray) (⟨#[65]⟩ : ByteArray) (-1)).bind fun bt179 => ((text_X2C.f k (⟨#[54, 49, 54, 50]⟩ : ByteArray)).bind fun bt181 => (if t172 = 0 then (if t171.toList = ([45, 45, 97, 98, 99, 45, 45, 45] : List UInt8) then (if bt173.2 = 0 then (if bt173.1.toList = ([78, 111, 119, 32, 116, 105, 109, 101] : List UInt8) then (if bt175.2 = 0 then (if bt175.1 = 4 then (if bt177.2 = 0 then (if bt177.1.toList = ([97, 98, 50, 100, 49, 102] : List UInt8) then (if bt179.2 = 8 then (if bt181.2 = 0 then (if bt181.1.toList = ([97, 98] : List UInt8) then ((text_Valid.f (⟨#[97]⟩ : ByteArray)).bind fun t183 => (if t183 = true then ((text_Valid.f (⟨#[10]⟩ : ByteArray)).bind fun t184 => (some (!t184))) else (some false))) else (some false)) else (some false)) else (some false)) else (some false)) else (some false)) else (some false)) else (some false)) else (some false)) else (some false)) else (some false)) else (some false))))))) = some r := H
  have A1 := Aside0.mk A10
  clear A10
  replace H := Option.bind_eq_some_iff.mp H
  obtain ⟨⟨t173, t174⟩, A20, H⟩ := H
  replace H : ((text_LastPos.f k (⟨#[32]⟩ : ByteArray) (⟨#[97, 98, 99, 32, 100, 101, 102, 32, 103, 104, 105]⟩ : ByteArray) 7).bind fun bt175 => ((text_Translate.f (⟨#[97, 98, 99, 100, 101, 102]⟩ : ByteArray) (⟨#[49, 50]⟩ : ByteArray) (⟨#[101, 99]⟩ : ByteArray) 46).bind fun bt177 => ((text_BitXor.f (⟨#[65]⟩ : ByteArray) (⟨#[65]⟩ : ByteArray) (-1)).bind fun bt179 => ((text_X2C.f k (⟨#[54, 49, 54, 50]⟩ : ByteArray)).bind fun bt181 => (if t172 = 0 then (if t171.toList = ([45, 45, 97, 98, 99, 45, 45, 45] : List UInt8) then (if t174 = 0 then (if t173.toList = ([78, 111, 119, 32, 116, 105, 109, 101] : List UInt8) then (if bt175.2 = 0 then (if bt175.1 = 4 then (if bt177.2 = 0 then (if bt177.1.toList = ([97, 98, 50, 100, 49, 102] : List UInt8) then (if bt179.2 = 8 then (if bt181.2 = 0 then (if bt181.1.toList = ([97, 98] : List UInt8) then ((text_Valid.f (⟨#[97]⟩ : ByteArray)).bind fun t183 => (if t183 = true then ((text_Valid.f (⟨#[10]⟩ : ByteArray)).bind fun t184 => (some (!t184))) else (some false))) else (some false)) else (some false)) else (some false)) else (some false)) else (some false)) else (some false)) else (some false)) else (some false)) else (some false)) else (some false)) else (some false)))))) = some r := H
  have A2 := Aside0.mk A20
  clear A20
  replace H := Option.bind_eq_some_iff.mp H
  obtain ⟨⟨t175, t176⟩, A30, H⟩ := H
  replace H : ((text_Translate.f (⟨#[97, 98, 99, 100, 101, 102]⟩ : ByteArray) (⟨#[49, 50]⟩ : ByteArray) (⟨#[101, 99]⟩ : ByteArray) 46).bind fun bt177 => ((text_BitXor.f (⟨#[65]⟩ : ByteArray) (⟨#[65]⟩ : ByteArray) (-1)).bind fun bt179 => ((text_X2C.f k (⟨#[54, 49, 54, 50]⟩ : ByteArray)).bind fun bt181 => (if t172 = 0 then (if t171.toList = ([45, 45, 97, 98, 99, 45, 45, 45] : List UInt8) then (if t174 = 0 then (if t173.toList = ([78, 111, 119, 32, 116, 105, 109, 101] : List UInt8) then (if t176 = 0 then (if t175 = 4 then (if bt177.2 = 0 then (if bt177.1.toList = ([97, 98, 50, 100, 49, 102] : List UInt8) then (if bt179.2 = 8 then (if bt181.2 = 0 then (if bt181.1.toList = ([97, 98] : List UInt8) then ((text_Valid.f (⟨#[97]⟩ : ByteArray)).bind fun t183 => (if t183 = true then ((text_Valid.f (⟨#[10]⟩ : ByteArray)).bind fun t184 => (some (!t184))) else (some false))) else (some false)) else (some false)) else (some false)) else (some false)) else (some false)) else (some false)) else (some false)) else (some false)) else (some false)) else (some false)) else (some false))))) = some r := H
  have A3 := Aside0.mk A30
  clear A30
  replace H := Option.bind_eq_some_iff.mp H
  obtain ⟨⟨t177, t178⟩, A40, H⟩ := H
  replace H : ((text_BitXor.f (⟨#[65]⟩ : ByteArray) (⟨#[65]⟩ : ByteArray) (-1)).bind fun bt179 => ((text_X2C.f k (⟨#[54, 49, 54, 50]⟩ : ByteArray)).bind fun bt181 => (if t172 = 0 then (if t171.toList = ([45, 45, 97, 98, 99, 45, 45, 45] : List UInt8) then (if t174 = 0 then (if t173.toList = ([78, 111, 119, 32, 116, 105, 109, 101] : List UInt8) then (if t176 = 0 then (if t175 = 4 then (if t178 = 0 then (if t177.toList = ([97, 98, 50, 100, 49, 102] : List UInt8) then (if bt179.2 = 8 then (if bt181.2 = 0 then (if bt181.1.toList = ([97, 98] : List UInt8) then ((text_Valid.f (⟨#[97]⟩ : ByteArray)).bind fun t183 => (if t183 = true then ((text_Valid.f (⟨#[10]⟩ : ByteArray)).bind fun t184 => (some (!t184))) else (some false))) else (some false)) else (some false)) else (some false)) else (some false)) else (some false)) else (some false)) else (some false)) else (some false)) else (some false)) else (some false)) else (some false)))) = some r := H
  have A4 := Aside0.mk A40
  clear A40
  replace H := Option.bind_eq_some_iff.mp H
  obtain ⟨⟨t179, t180⟩, A50, H⟩ := H
  replace H : ((text_X2C.f k (⟨#[54, 49, 54, 50]⟩ : ByteArray)).bind fun bt181 => (if t172 = 0 then (if t171.toList = ([45, 45, 97, 98, 99, 45, 45, 45] : List UInt8) then (if t174 = 0 then (if t173.toList = ([78, 111, 119, 32, 116, 105, 109, 101] : List UInt8) then (if t176 = 0 then (if t175 = 4 then (if t178 = 0 then (if t177.toList = ([97, 98, 50, 100, 49, 102] : List UInt8) then (if t180 = 8 then (if bt181.2 = 0 then (if bt181.1.toList = ([97, 98] : List UInt8) then ((text_Valid.f (⟨#[97]⟩ : ByteArray)).bind fun t183 => (if t183 = true then ((text_Valid.f (⟨#[10]⟩ : ByteArray)).bind fun t184 => (some (!t184))) else (some false))) else (some false)) else (some false)) else (some false)) else (some false)) else (some false)) else (some false)) else (some false)) else (some false)) else (some false)) else (some false)) else (some false))) = some r := H
  have A5 := Aside0.mk A50
  clear A50
  replace H := Option.bind_eq_some_iff.mp H
  obtain ⟨⟨t181, t182⟩, A60, H⟩ := H
  replace H : (if t172 = 0 then (if t171.toList = ([45, 45, 97, 98, 99, 45, 45, 45] : List UInt8) then (if t174 = 0 then (if t173.toList = ([78, 111, 119, 32, 116, 105, 109, 101] : List UInt8) then (if t176 = 0 then (if t175 = 4 then (if t178 = 0 then (if t177.toList = ([97, 98, 50, 100, 49, 102] : List UInt8) then (if t180 = 8 then (if t182 = 0 then (if t181.toList = ([97, 98] : List UInt8) then ((text_Valid.f (⟨#[97]⟩ : ByteArray)).bind fun t183 => (if t183 = true then ((text_Valid.f (⟨#[10]⟩ : ByteArray)).bind fun t184 => (some (!t184))) else (some false))) else (some false)) else (some false)) else (some false)) else (some false)) else (some false)) else (some false)) else (some false)) else (some false)) else (some false)) else (some false)) else (some false)) = some r := H
  have A6 := Aside0.mk A60
  clear A60
  by_cases c7 : t172 = 0
  · rw [if_pos c7] at H
    have c7b0 : (t172 == 0) = true := beq_iff_eq.mpr c7
    have c7b1 : (t172 != 0) = false := bne_eq_false_iff_eq.mpr c7
    clear c7
    by_cases c8 : t171.toList = ([45, 45, 97, 98, 99, 45, 45, 45] : List UInt8)
    · rw [if_pos c8] at H
      have c8b0 : (t171.toList == ([45, 45, 97, 98, 99, 45, 45, 45] : List UInt8)) = true := beq_iff_eq.mpr c8
      have c8b1 : (t171.toList != ([45, 45, 97, 98, 99, 45, 45, 45] : List UInt8)) = false := bne_eq_false_iff_eq.mpr c8
      clear c8
      by_cases c9 : t174 = 0
      · rw [if_pos c9] at H
        have c9b0 : (t174 == 0) = true := beq_iff_eq.mpr c9
        have c9b1 : (t174 != 0) = false := bne_eq_false_iff_eq.mpr c9
        clear c9
        by_cases c10 : t173.toList = ([78, 111, 119, 32, 116, 105, 109, 101] : List UInt8)
        · rw [if_pos c10] at H
          have c10b0 : (t173.toList == ([78, 111, 119, 32, 116, 105, 109, 101] : List UInt8)) = true := beq_iff_eq.mpr c10
          have c10b1 : (t173.toList != ([78, 111, 119, 32, 116, 105, 109, 101] : List UInt8)) = false := bne_eq_false_iff_eq.mpr c10
          clear c10
          by_cases c11 : t176 = 0
          · rw [if_pos c11] at H
            have c11b0 : (t176 == 0) = true := beq_iff_eq.mpr c11
            have c11b1 : (t176 != 0) = false := bne_eq_false_iff_eq.mpr c11
            clear c11
            by_cases c12 : t175 = 4
            · rw [if_pos c12] at H
              have c12b0 : (t175 == 4) = true := beq_iff_eq.mpr c12
              have c12b1 : (t175 != 4) = false := bne_eq_false_iff_eq.mpr c12
              clear c12
              by_cases c13 : t178 = 0
              · rw [if_pos c13] at H
                have c13b0 : (t178 == 0) = true := beq_iff_eq.mpr c13
                have c13b1 : (t178 != 0) = false := bne_eq_false_iff_eq.mpr c13
                clear c13
                by_cases c14 : t177.toList = ([97, 98, 50, 100, 49, 102] : List UInt8)
                · rw [if_pos c14] at H
                  have c14b0 : (t177.toList == ([97, 98, 50, 100, 49, 102] : List UInt8)) = true := beq_iff_eq.mpr c14
                  have c14b1 : (t177.toList != ([97, 98, 50, 100, 49, 102] : List UInt8)) = false := bne_eq_false_iff_eq.mpr c14
                  clear c14
                  by_cases c15 : t180 = 8
                  · rw [if_pos c15] at H
                    have c15b0 : (t180 == 8) = true := beq_iff_eq.mpr c15
                    have c15b1 : (t180 != 8) = false := bne_eq_false_iff_eq.mpr c15
                    clear c15
                    by_cases c16 : t182 = 0
                    · rw [if_pos c16] at H
                      have c16b0 : (t182 == 0) = true := beq_iff_eq.mpr c16
                      have c16b1 : (t182 != 0) = false := bne_eq_false_iff_eq.mpr c16
                      clear c16
                      by_cases c17 : t181.toList = ([97, 98] : List UInt8)
                      · rw [if_pos c17] at H
                        have c17b0 : (t181.toList == ([97, 98] : List UInt8)) = true := beq_iff_eq.mpr c17
                        have c17b1 : (t181.toList != ([97, 98] : List UInt8)) = false := bne_eq_false_iff_eq.mpr c17
                        clear c17
                        replace H := Option.bind_eq_some_iff.mp H
                        obtain ⟨t183, A180, H⟩ := H
                        replace H : (if t183 = true then ((text_Valid.f (⟨#[10]⟩ : ByteArray)).bind fun t184 => (some (!t184))) else (some false)) = some r := H
                        have A18 := Aside0.mk A180
                        clear A180
                        by_cases c19 : t183 = true
                        · subst c19
                          have H1 : ((text_Valid.f (⟨#[10]⟩ : ByteArray)).bind fun t184 => (some (!t184))) = some r := by rw [if_pos rfl] at H; exact H
                          clear H
                          have H := H1
                          clear H1
                          replace H := Option.bind_eq_some_iff.mp H
                          obtain ⟨t184, A200, H⟩ := H
                          replace H : (some (!t184)) = some r := H
                          have A20 := Aside0.mk A200
                          clear A200
                          obtain rfl := Option.some.inj H
                          go_enter Tryz.func15, Tryz.ntmps15
                          go_wp2_with (first | ((with_reducible refine gate_callee (f := 84) rfl ?_); refine goesL_ (some 15) rfl rfl Tryz.func84 (by kernel_rfl) rfl #[.string (⟨#[97, 98, 99]⟩ : ByteArray), .int .i64 8, .int .u8 45] rfl (by (try simp only [List.map_toArray, List.map_cons, List.map_nil]); first | done | rfl | (simp only [List.length_drop, List.length_take]; rfl)) ?_; (with_reducible refine (text_Center.calls (⟨#[97, 98, 99]⟩ : ByteArray) 8 45 t171 t172 _ A1.out).mono ?_); rintro e w21 ⟨rfl, hb⟩; refine ⟨_, rfl, ?_⟩; have n0_ := Aside0.mk (below_step (by repeat (first | (with_reducible first | exact HB.out | apply below_alloc | apply pw_below_drewN | apply below_drew1) | exact HB.out)) hb); clear HB; have HB := n0_; clear n0_; (try clear hb); (try clear hb2); (try clear hk); (try clear hi)) | ((with_reducible refine gate_callee (f := 42) rfl ?_); refine goesL_ (some 19) rfl rfl Tryz.func42 (by kernel_rfl) rfl #[.string (⟨#[78, 111, 119, 32, 105, 115, 32, 116, 104, 101, 32, 32, 116, 105, 109, 101]⟩ : ByteArray), .int .i64 2, .int .i64 2] rfl (by (try simp only [List.map_toArray, List.map_cons, List.map_nil]); first | done | rfl | (simp only [List.length_drop, List.length_take]; rfl)) ?_; (with_reducible refine (text_DelWord.calls (⟨#[78, 111, 119, 32, 105, 115, 32, 116, 104, 101, 32, 32, 116, 105, 109, 101]⟩ : ByteArray) 2 2 t173 t174 _ A2.out).mono ?_); rintro e w22 ⟨rfl, hb⟩; refine ⟨_, rfl, ?_⟩; have n0_ := Aside0.mk (below_step (by repeat (first | (with_reducible first | exact HB.out | apply below_alloc | apply pw_below_drewN | apply below_drew1) | exact HB.out)) hb); clear HB; have HB := n0_; clear n0_; (try clear hb); (try clear hb2); (try clear hk); (try clear hi)) | ((with_reducible refine gate_callee (f := 58) rfl ?_); refine goesL_ (some 23) rfl rfl Tryz.func58 (by kernel_rfl) rfl #[.string (⟨#[32]⟩ : ByteArray), .string (⟨#[97, 98, 99, 32, 100, 101, 102, 32, 103, 104, 105]⟩ : ByteArray), .int .i64 7] rfl (by (try simp only [List.map_toArray, List.map_cons, List.map_nil]); first | done | rfl | (simp only [List.length_drop, List.length_take]; rfl)) ?_; (with_reducible refine (text_LastPos.calls k (⟨#[32]⟩ : ByteArray) (⟨#[97, 98, 99, 32, 100, 101, 102, 32, 103, 104, 105]⟩ : ByteArray) 7 t175 t176 _ A3.out).mono ?_); rintro e w23 ⟨rfl, hb⟩; refine ⟨_, rfl, ?_⟩; have n0_ := Aside0.mk (below_step (by repeat (first | (with_reducible first | exact HB.out | apply below_alloc | apply pw_below_drewN | apply below_drew1) | exact HB.out)) hb); clear HB; have HB := n0_; clear n0_; (try clear hb); (try clear hb2); (try clear hk); (try clear hi)) | ((with_reducible refine gate_callee (f := 24) rfl ?_); refine goesL_ (some 27) rfl rfl Tryz.func24 (by kernel_rfl) rfl #[.string (⟨#[97, 98, 99, 100, 101, 102]⟩ : ByteArray), .string (⟨#[49, 50]⟩ : ByteArray), .string (⟨#[101, 99]⟩ : ByteArray), .int .u8 46] rfl (by (try simp only [List.map_toArray, List.map_cons, List.map_nil]); first | done | rfl | (simp only [List.length_drop, List.length_take]; rfl)) ?_; (with_reducible refine (text_Translate.calls (⟨#[97, 98, 99, 100, 101, 102]⟩ : ByteArray) (⟨#[49, 50]⟩ : ByteArray) (⟨#[101, 99]⟩ : ByteArray) 46 t177 t178 _ A4.out).mono ?_); rintro e w24 ⟨rfl, hb⟩; refine ⟨_, rfl, ?_⟩; have n0_ := Aside0.mk (below_step (by repeat (first | (with_reducible first | exact HB.out | apply below_alloc | apply pw_below_drewN | apply below_drew1) | exact HB.out)) hb); clear HB; have HB := n0_; clear n0_; (try clear hb); (try clear hb2); (try clear hk); (try clear hi)) | ((with_reducible refine gate_callee (f := 19) rfl ?_); refine goesL_ (some 31) rfl rfl Tryz.func19 (by kernel_rfl) rfl #[.string (⟨#[65]⟩ : ByteArray), .string (⟨#[65]⟩ : ByteArray), .int .i64 (-1)] rfl (by (try simp only [List.map_toArray, List.map_cons, List.map_nil]); first | done | rfl | (simp only [List.length_drop, List.length_take]; rfl)) ?_; (with_reducible refine (text_BitXor.calls (⟨#[65]⟩ : ByteArray) (⟨#[65]⟩ : ByteArray) (-1) t179 t180 _ A5.out).mono ?_); rintro e w25 ⟨rfl, hb⟩; refine ⟨_, rfl, ?_⟩; have n0_ := Aside0.mk (below_step (by repeat (first | (with_reducible first | exact HB.out | apply below_alloc | apply pw_below_drewN | apply below_drew1) | exact HB.out)) hb); clear HB; have HB := n0_; clear n0_; (try clear hb); (try clear hb2); (try clear hk); (try clear hi)) | ((with_reducible refine gate_callee (f := 76) rfl ?_); refine goesL_ (some 35) rfl rfl Tryz.func76 (by kernel_rfl) rfl #[.string (⟨#[54, 49, 54, 50]⟩ : ByteArray)] rfl (by (try simp only [List.map_toArray, List.map_cons, List.map_nil]); first | done | rfl | (simp only [List.length_drop, List.length_take]; rfl)) ?_; (with_reducible refine (text_X2C.calls k (⟨#[54, 49, 54, 50]⟩ : ByteArray) t181 t182 _ (TabOK.of_below hT (by repeat (first | (with_reducible first | exact HB.out | apply below_alloc | apply pw_below_drewN | apply below_drew1) | exact HB.out))) A6.out).mono ?_); rintro e w26 ⟨rfl, hb⟩; refine ⟨_, rfl, ?_⟩; have n0_ := Aside0.mk (below_step (by repeat (first | (with_reducible first | exact HB.out | apply below_alloc | apply pw_below_drewN | apply below_drew1) | exact HB.out)) hb); clear HB; have HB := n0_; clear n0_; (try clear hb); (try clear hb2); (try clear hk); (try clear hi)) | (go_at_call 65; (with_reducible refine (text_Valid.calls (⟨#[97]⟩ : ByteArray) true _ A18.out).mono ?_); rintro e w27 ⟨rfl, hb⟩; have n0_ := Aside0.mk (below_step (by repeat (first | (with_reducible first | exact HB.out | apply below_alloc | apply pw_below_drewN | apply below_drew1) | exact HB.out)) hb); clear HB; have HB := n0_; clear n0_; (try clear hb); (try clear hb2); (try clear hk); (try clear hi)) | (go_at_call 65; (with_reducible refine (text_Valid.calls (⟨#[10]⟩ : ByteArray) t184 _ A20.out).mono ?_); rintro e w28 ⟨rfl, hb⟩; have n0_ := Aside0.mk (below_step (by repeat (first | (with_reducible first | exact HB.out | apply below_alloc | apply pw_below_drewN | apply below_drew1) | exact HB.out)) hb); clear HB; have HB := n0_; clear n0_; (try clear hb); (try clear hb2); (try clear hk); (try clear hi)))
                          go_ret
                          exact ⟨by first | rfl | (simp [errW_none, errW_some] <;> rfl) | (simp [*, errW_none, errW_some] <;> rfl), by repeat (first | (with_reducible first | exact HB.out | apply below_alloc | apply pw_below_drewN | apply below_drew1) | exact HB.out)⟩
                        · replace c19 := Bool.eq_false_iff.mpr c19
                          subst c19
                          have H1 : (some false) = some r := by rw [if_neg (show ¬ (false = true) by decide)] at H; exact H
                          clear H
                          have H := H1
                          clear H1
                          obtain rfl := Option.some.inj H
                          go_enter Tryz.func15, Tryz.ntmps15
                          go_wp2_with (first | ((with_reducible refine gate_callee (f := 84) rfl ?_); refine goesL_ (some 15) rfl rfl Tryz.func84 (by kernel_rfl) rfl #[.string (⟨#[97, 98, 99]⟩ : ByteArray), .int .i64 8, .int .u8 45] rfl (by (try simp only [List.map_toArray, List.map_cons, List.map_nil]); first | done | rfl | (simp only [List.length_drop, List.length_take]; rfl)) ?_; (with_reducible refine (text_Center.calls (⟨#[97, 98, 99]⟩ : ByteArray) 8 45 t171 t172 _ A1.out).mono ?_); rintro e w29 ⟨rfl, hb⟩; refine ⟨_, rfl, ?_⟩; have n0_ := Aside0.mk (below_step (by repeat (first | (with_reducible first | exact HB.out | apply below_alloc | apply pw_below_drewN | apply below_drew1) | exact HB.out)) hb); clear HB; have HB := n0_; clear n0_; (try clear hb); (try clear hb2); (try clear hk); (try clear hi)) | ((with_reducible refine gate_callee (f := 42) rfl ?_); refine goesL_ (some 19) rfl rfl Tryz.func42 (by kernel_rfl) rfl #[.string (⟨#[78, 111, 119, 32, 105, 115, 32, 116, 104, 101, 32, 32, 116, 105, 109, 101]⟩ : ByteArray), .int .i64 2, .int .i64 2] rfl (by (try simp only [List.map_toArray, List.map_cons, List.map_nil]); first | done | rfl | (simp only [List.length_drop, List.length_take]; rfl)) ?_; (with_reducible refine (text_DelWord.calls (⟨#[78, 111, 119, 32, 105, 115, 32, 116, 104, 101, 32, 32, 116, 105, 109, 101]⟩ : ByteArray) 2 2 t173 t174 _ A2.out).mono ?_); rintro e w30 ⟨rfl, hb⟩; refine ⟨_, rfl, ?_⟩; have n0_ := Aside0.mk (below_step (by repeat (first | (with_reducible first | exact HB.out | apply below_alloc | apply pw_below_drewN | apply below_drew1) | exact HB.out)) hb); clear HB; have HB := n0_; clear n0_; (try clear hb); (try clear hb2); (try clear hk); (try clear hi)) | ((with_reducible refine gate_callee (f := 58) rfl ?_); refine goesL_ (some 23) rfl rfl Tryz.func58 (by kernel_rfl) rfl #[.string (⟨#[32]⟩ : ByteArray), .string (⟨#[97, 98, 99, 32, 100, 101, 102, 32, 103, 104, 105]⟩ : ByteArray), .int .i64 7] rfl (by (try simp only [List.map_toArray, List.map_cons, List.map_nil]); first | done | rfl | (simp only [List.length_drop, List.length_take]; rfl)) ?_; (with_reducible refine (text_LastPos.calls k (⟨#[32]⟩ : ByteArray) (⟨#[97, 98, 99, 32, 100, 101, 102, 32, 103, 104, 105]⟩ : ByteArray) 7 t175 t176 _ A3.out).mono ?_); rintro e w31 ⟨rfl, hb⟩; refine ⟨_, rfl, ?_⟩; have n0_ := Aside0.mk (below_step (by repeat (first | (with_reducible first | exact HB.out | apply below_alloc | apply pw_below_drewN | apply below_drew1) | exact HB.out)) hb); clear HB; have HB := n0_; clear n0_; (try clear hb); (try clear hb2); (try clear hk); (try clear hi)) | ((with_reducible refine gate_callee (f := 24) rfl ?_); refine goesL_ (some 27) rfl rfl Tryz.func24 (by kernel_rfl) rfl #[.string (⟨#[97, 98, 99, 100, 101, 102]⟩ : ByteArray), .string (⟨#[49, 50]⟩ : ByteArray), .string (⟨#[101, 99]⟩ : ByteArray), .int .u8 46] rfl (by (try simp only [List.map_toArray, List.map_cons, List.map_nil]); first | done | rfl | (simp only [List.length_drop, List.length_take]; rfl)) ?_; (with_reducible refine (text_Translate.calls (⟨#[97, 98, 99, 100, 101, 102]⟩ : ByteArray) (⟨#[49, 50]⟩ : ByteArray) (⟨#[101, 99]⟩ : ByteArray) 46 t177 t178 _ A4.out).mono ?_); rintro e w32 ⟨rfl, hb⟩; refine ⟨_, rfl, ?_⟩; have n0_ := Aside0.mk (below_step (by repeat (first | (with_reducible first | exact HB.out | apply below_alloc | apply pw_below_drewN | apply below_drew1) | exact HB.out)) hb); clear HB; have HB := n0_; clear n0_; (try clear hb); (try clear hb2); (try clear hk); (try clear hi)) | ((with_reducible refine gate_callee (f := 19) rfl ?_); refine goesL_ (some 31) rfl rfl Tryz.func19 (by kernel_rfl) rfl #[.string (⟨#[65]⟩ : ByteArray), .string (⟨#[65]⟩ : ByteArray), .int .i64 (-1)] rfl (by (try simp only [List.map_toArray, List.map_cons, List.map_nil]); first | done | rfl | (simp only [List.length_drop, List.length_take]; rfl)) ?_; (with_reducible refine (text_BitXor.calls (⟨#[65]⟩ : ByteArray) (⟨#[65]⟩ : ByteArray) (-1) t179 t180 _ A5.out).mono ?_); rintro e w33 ⟨rfl, hb⟩; refine ⟨_, rfl, ?_⟩; have n0_ := Aside0.mk (below_step (by repeat (first | (with_reducible first | exact HB.out | apply below_alloc | apply pw_below_drewN | apply below_drew1) | exact HB.out)) hb); clear HB; have HB := n0_; clear n0_; (try clear hb); (try clear hb2); (try clear hk); (try clear hi)) | ((with_reducible refine gate_callee (f := 76) rfl ?_); refine goesL_ (some 35) rfl rfl Tryz.func76 (by kernel_rfl) rfl #[.string (⟨#[54, 49, 54, 50]⟩ : ByteArray)] rfl (by (try simp only [List.map_toArray, List.map_cons, List.map_nil]); first | done | rfl | (simp only [List.length_drop, List.length_take]; rfl)) ?_; (with_reducible refine (text_X2C.calls k (⟨#[54, 49, 54, 50]⟩ : ByteArray) t181 t182 _ (TabOK.of_below hT (by repeat (first | (with_reducible first | exact HB.out | apply below_alloc | apply pw_below_drewN | apply below_drew1) | exact HB.out))) A6.out).mono ?_); rintro e w34 ⟨rfl, hb⟩; refine ⟨_, rfl, ?_⟩; have n0_ := Aside0.mk (below_step (by repeat (first | (with_reducible first | exact HB.out | apply below_alloc | apply pw_below_drewN | apply below_drew1) | exact HB.out)) hb); clear HB; have HB := n0_; clear n0_; (try clear hb); (try clear hb2); (try clear hk); (try clear hi)) | (go_at_call 65; (with_reducible refine (text_Valid.calls (⟨#[97]⟩ : ByteArray) false _ A18.out).mono ?_); rintro e w35 ⟨rfl, hb⟩; have n0_ := Aside0.mk (below_step (by repeat (first | (with_reducible first | exact HB.out | apply below_alloc | apply pw_below_drewN | apply below_drew1) | exact HB.out)) hb); clear HB; have HB := n0_; clear n0_; (try clear hb); (try clear hb2); (try clear hk); (try clear hi)))
                          go_ret
                          exact ⟨by first | rfl | (simp [errW_none, errW_some] <;> rfl) | (simp [*, errW_none, errW_some] <;> rfl), by repeat (first | (with_reducible first | exact HB.out | apply below_alloc | apply pw_below_drewN | apply below_drew1) | exact HB.out)⟩
                      · rw [if_neg c17] at H
                        have c17b0 : (t181.toList == ([97, 98] : List UInt8)) = false := beq_eq_false_iff_ne.mpr c17
                        have c17b1 : (t181.toList != ([97, 98] : List UInt8)) = true := bne_iff_ne.mpr c17
                        obtain rfl := Option.some.inj H
                        go_enter Tryz.func15, Tryz.ntmps15
                        go_wp2_with (first | ((with_reducible refine gate_callee (f := 84) rfl ?_); refine goesL_ (some 15) rfl rfl Tryz.func84 (by kernel_rfl) rfl #[.string (⟨#[97, 98, 99]⟩ : ByteArray), .int .i64 8, .int .u8 45] rfl (by (try simp only [List.map_toArray, List.map_cons, List.map_nil]); first | done | rfl | (simp only [List.length_drop, List.length_take]; rfl)) ?_; (with_reducible refine (text_Center.calls (⟨#[97, 98, 99]⟩ : ByteArray) 8 45 t171 t172 _ A1.out).mono ?_); rintro e w36 ⟨rfl, hb⟩; refine ⟨_, rfl, ?_⟩; have n0_ := Aside0.mk (below_step (by repeat (first | (with_reducible first | exact HB.out | apply below_alloc | apply pw_below_drewN | apply below_drew1) | exact HB.out)) hb); clear HB; have HB := n0_; clear n0_; (try clear hb); (try clear hb2); (try clear hk); (try clear hi)) | ((with_reducible refine gate_callee (f := 42) rfl ?_); refine goesL_ (some 19) rfl rfl Tryz.func42 (by kernel_rfl) rfl #[.string (⟨#[78, 111, 119, 32, 105, 115, 32, 116, 104, 101, 32, 32, 116, 105, 109, 101]⟩ : ByteArray), .int .i64 2, .int .i64 2] rfl (by (try simp only [List.map_toArray, List.map_cons, List.map_nil]); first | done | rfl | (simp only [List.length_drop, List.length_take]; rfl)) ?_; (with_reducible refine (text_DelWord.calls (⟨#[78, 111, 119, 32, 105, 115, 32, 116, 104, 101, 32, 32, 116, 105, 109, 101]⟩ : ByteArray) 2 2 t173 t174 _ A2.out).mono ?_); rintro e w37 ⟨rfl, hb⟩; refine ⟨_, rfl, ?_⟩; have n0_ := Aside0.mk (below_step (by repeat (first | (with_reducible first | exact HB.out | apply below_alloc | apply pw_below_drewN | apply below_drew1) | exact HB.out)) hb); clear HB; have HB := n0_; clear n0_; (try clear hb); (try clear hb2); (try clear hk); (try clear hi)) | ((with_reducible refine gate_callee (f := 58) rfl ?_); refine goesL_ (some 23) rfl rfl Tryz.func58 (by kernel_rfl) rfl #[.string (⟨#[32]⟩ : ByteArray), .string (⟨#[97, 98, 99, 32, 100, 101, 102, 32, 103, 104, 105]⟩ : ByteArray), .int .i64 7] rfl (by (try simp only [List.map_toArray, List.map_cons, List.map_nil]); first | done | rfl | (simp only [List.length_drop, List.length_take]; rfl)) ?_; (with_reducible refine (text_LastPos.calls k (⟨#[32]⟩ : ByteArray) (⟨#[97, 98, 99, 32, 100, 101, 102, 32, 103, 104, 105]⟩ : ByteArray) 7 t175 t176 _ A3.out).mono ?_); rintro e w38 ⟨rfl, hb⟩; refine ⟨_, rfl, ?_⟩; have n0_ := Aside0.mk (below_step (by repeat (first | (with_reducible first | exact HB.out | apply below_alloc | apply pw_below_drewN | apply below_drew1) | exact HB.out)) hb); clear HB; have HB := n0_; clear n0_; (try clear hb); (try clear hb2); (try clear hk); (try clear hi)) | ((with_reducible refine gate_callee (f := 24) rfl ?_); refine goesL_ (some 27) rfl rfl Tryz.func24 (by kernel_rfl) rfl #[.string (⟨#[97, 98, 99, 100, 101, 102]⟩ : ByteArray), .string (⟨#[49, 50]⟩ : ByteArray), .string (⟨#[101, 99]⟩ : ByteArray), .int .u8 46] rfl (by (try simp only [List.map_toArray, List.map_cons, List.map_nil]); first | done | rfl | (simp only [List.length_drop, List.length_take]; rfl)) ?_; (with_reducible refine (text_Translate.calls (⟨#[97, 98, 99, 100, 101, 102]⟩ : ByteArray) (⟨#[49, 50]⟩ : ByteArray) (⟨#[101, 99]⟩ : ByteArray) 46 t177 t178 _ A4.out).mono ?_); rintro e w39 ⟨rfl, hb⟩; refine ⟨_, rfl, ?_⟩; have n0_ := Aside0.mk (below_step (by repeat (first | (with_reducible first | exact HB.out | apply below_alloc | apply pw_below_drewN | apply below_drew1) | exact HB.out)) hb); clear HB; have HB := n0_; clear n0_; (try clear hb); (try clear hb2); (try clear hk); (try clear hi)) | ((with_reducible refine gate_callee (f := 19) rfl ?_); refine goesL_ (some 31) rfl rfl Tryz.func19 (by kernel_rfl) rfl #[.string (⟨#[65]⟩ : ByteArray), .string (⟨#[65]⟩ : ByteArray), .int .i64 (-1)] rfl (by (try simp only [List.map_toArray, List.map_cons, List.map_nil]); first | done | rfl | (simp only [List.length_drop, List.length_take]; rfl)) ?_; (with_reducible refine (text_BitXor.calls (⟨#[65]⟩ : ByteArray) (⟨#[65]⟩ : ByteArray) (-1) t179 t180 _ A5.out).mono ?_); rintro e w40 ⟨rfl, hb⟩; refine ⟨_, rfl, ?_⟩; have n0_ := Aside0.mk (below_step (by repeat (first | (with_reducible first | exact HB.out | apply below_alloc | apply pw_below_drewN | apply below_drew1) | exact HB.out)) hb); clear HB; have HB := n0_; clear n0_; (try clear hb); (try clear hb2); (try clear hk); (try clear hi)) | ((with_reducible refine gate_callee (f := 76) rfl ?_); refine goesL_ (some 35) rfl rfl Tryz.func76 (by kernel_rfl) rfl #[.string (⟨#[54, 49, 54, 50]⟩ : ByteArray)] rfl (by (try simp only [List.map_toArray, List.map_cons, List.map_nil]); first | done | rfl | (simp only [List.length_drop, List.length_take]; rfl)) ?_; (with_reducible refine (text_X2C.calls k (⟨#[54, 49, 54, 50]⟩ : ByteArray) t181 t182 _ (TabOK.of_below hT (by repeat (first | (with_reducible first | exact HB.out | apply below_alloc | apply pw_below_drewN | apply below_drew1) | exact HB.out))) A6.out).mono ?_); rintro e w41 ⟨rfl, hb⟩; refine ⟨_, rfl, ?_⟩; have n0_ := Aside0.mk (below_step (by repeat (first | (with_reducible first | exact HB.out | apply below_alloc | apply pw_below_drewN | apply below_drew1) | exact HB.out)) hb); clear HB; have HB := n0_; clear n0_; (try clear hb); (try clear hb2); (try clear hk); (try clear hi)))
                        go_ret
                        exact ⟨by first | rfl | (simp [errW_none, errW_some] <;> rfl) | (simp [*, errW_none, errW_some] <;> rfl), by repeat (first | (with_reducible first | exact HB.out | apply below_alloc | apply pw_below_drewN | apply below_drew1) | exact HB.out)⟩
                    · rw [if_neg c16] at H
                      have c16b0 : (t182 == 0) = false := beq_eq_false_iff_ne.mpr c16
                      have c16b1 : (t182 != 0) = true := bne_iff_ne.mpr c16
                      obtain rfl := Option.some.inj H
                      go_enter Tryz.func15, Tryz.ntmps15
                      go_wp2_with (first | ((with_reducible refine gate_callee (f := 84) rfl ?_); refine goesL_ (some 15) rfl rfl Tryz.func84 (by kernel_rfl) rfl #[.string (⟨#[97, 98, 99]⟩ : ByteArray), .int .i64 8, .int .u8 45] rfl (by (try simp only [List.map_toArray, List.map_cons, List.map_nil]); first | done | rfl | (simp only [List.length_drop, List.length_take]; rfl)) ?_; (with_reducible refine (text_Center.calls (⟨#[97, 98, 99]⟩ : ByteArray) 8 45 t171 t172 _ A1.out).mono ?_); rintro e w42 ⟨rfl, hb⟩; refine ⟨_, rfl, ?_⟩; have n0_ := Aside0.mk (below_step (by repeat (first | (with_reducible first | exact HB.out | apply below_alloc | apply pw_below_drewN | apply below_drew1) | exact HB.out)) hb); clear HB; have HB := n0_; clear n0_; (try clear hb); (try clear hb2); (try clear hk); (try clear hi)) | ((with_reducible refine gate_callee (f := 42) rfl ?_); refine goesL_ (some 19) rfl rfl Tryz.func42 (by kernel_rfl) rfl #[.string (⟨#[78, 111, 119, 32, 105, 115, 32, 116, 104, 101, 32, 32, 116, 105, 109, 101]⟩ : ByteArray), .int .i64 2, .int .i64 2] rfl (by (try simp only [List.map_toArray, List.map_cons, List.map_nil]); first | done | rfl | (simp only [List.length_drop, List.length_take]; rfl)) ?_; (with_reducible refine (text_DelWord.calls (⟨#[78, 111, 119, 32, 105, 115, 32, 116, 104, 101, 32, 32, 116, 105, 109, 101]⟩ : ByteArray) 2 2 t173 t174 _ A2.out).mono ?_); rintro e w43 ⟨rfl, hb⟩; refine ⟨_, rfl, ?_⟩; have n0_ := Aside0.mk (below_step (by repeat (first | (with_reducible first | exact HB.out | apply below_alloc | apply pw_below_drewN | apply below_drew1) | exact HB.out)) hb); clear HB; have HB := n0_; clear n0_; (try clear hb); (try clear hb2); (try clear hk); (try clear hi)) | ((with_reducible refine gate_callee (f := 58) rfl ?_); refine goesL_ (some 23) rfl rfl Tryz.func58 (by kernel_rfl) rfl #[.string (⟨#[32]⟩ : ByteArray), .string (⟨#[97, 98, 99, 32, 100, 101, 102, 32, 103, 104, 105]⟩ : ByteArray), .int .i64 7] rfl (by (try simp only [List.map_toArray, List.map_cons, List.map_nil]); first | done | rfl | (simp only [List.length_drop, List.length_take]; rfl)) ?_; (with_reducible refine (text_LastPos.calls k (⟨#[32]⟩ : ByteArray) (⟨#[97, 98, 99, 32, 100, 101, 102, 32, 103, 104, 105]⟩ : ByteArray) 7 t175 t176 _ A3.out).mono ?_); rintro e w44 ⟨rfl, hb⟩; refine ⟨_, rfl, ?_⟩; have n0_ := Aside0.mk (below_step (by repeat (first | (with_reducible first | exact HB.out | apply below_alloc | apply pw_below_drewN | apply below_drew1) | exact HB.out)) hb); clear HB; have HB := n0_; clear n0_; (try clear hb); (try clear hb2); (try clear hk); (try clear hi)) | ((with_reducible refine gate_callee (f := 24) rfl ?_); refine goesL_ (some 27) rfl rfl Tryz.func24 (by kernel_rfl) rfl #[.string (⟨#[97, 98, 99, 100, 101, 102]⟩ : ByteArray), .string (⟨#[49, 50]⟩ : ByteArray), .string (⟨#[101, 99]⟩ : ByteArray), .int .u8 46] rfl (by (try simp only [List.map_toArray, List.map_cons, List.map_nil]); first | done | rfl | (simp only [List.length_drop, List.length_take]; rfl)) ?_; (with_reducible refine (text_Translate.calls (⟨#[97, 98, 99, 100, 101, 102]⟩ : ByteArray) (⟨#[49, 50]⟩ : ByteArray) (⟨#[101, 99]⟩ : ByteArray) 46 t177 t178 _ A4.out).mono ?_); rintro e w45 ⟨rfl, hb⟩; refine ⟨_, rfl, ?_⟩; have n0_ := Aside0.mk (below_step (by repeat (first | (with_reducible first | exact HB.out | apply below_alloc | apply pw_below_drewN | apply below_drew1) | exact HB.out)) hb); clear HB; have HB := n0_; clear n0_; (try clear hb); (try clear hb2); (try clear hk); (try clear hi)) | ((with_reducible refine gate_callee (f := 19) rfl ?_); refine goesL_ (some 31) rfl rfl Tryz.func19 (by kernel_rfl) rfl #[.string (⟨#[65]⟩ : ByteArray), .string (⟨#[65]⟩ : ByteArray), .int .i64 (-1)] rfl (by (try simp only [List.map_toArray, List.map_cons, List.map_nil]); first | done | rfl | (simp only [List.length_drop, List.length_take]; rfl)) ?_; (with_reducible refine (text_BitXor.calls (⟨#[65]⟩ : ByteArray) (⟨#[65]⟩ : ByteArray) (-1) t179 t180 _ A5.out).mono ?_); rintro e w46 ⟨rfl, hb⟩; refine ⟨_, rfl, ?_⟩; have n0_ := Aside0.mk (below_step (by repeat (first | (with_reducible first | exact HB.out | apply below_alloc | apply pw_below_drewN | apply below_drew1) | exact HB.out)) hb); clear HB; have HB := n0_; clear n0_; (try clear hb); (try clear hb2); (try clear hk); (try clear hi)) | ((with_reducible refine gate_callee (f := 76) rfl ?_); refine goesL_ (some 35) rfl rfl Tryz.func76 (by kernel_rfl) rfl #[.string (⟨#[54, 49, 54, 50]⟩ : ByteArray)] rfl (by (try simp only [List.map_toArray, List.map_cons, List.map_nil]); first | done | rfl | (simp only [List.length_drop, List.length_take]; rfl)) ?_; (with_reducible refine (text_X2C.calls k (⟨#[54, 49, 54, 50]⟩ : ByteArray) t181 t182 _ (TabOK.of_below hT (by repeat (first | (with_reducible first | exact HB.out | apply below_alloc | apply pw_below_drewN | apply below_drew1) | exact HB.out))) A6.out).mono ?_); rintro e w47 ⟨rfl, hb⟩; refine ⟨_, rfl, ?_⟩; have n0_ := Aside0.mk (below_step (by repeat (first | (with_reducible first | exact HB.out | apply below_alloc | apply pw_below_drewN | apply below_drew1) | exact HB.out)) hb); clear HB; have HB := n0_; clear n0_; (try clear hb); (try clear hb2); (try clear hk); (try clear hi)))
                      go_ret
                      exact ⟨by first | rfl | (simp [errW_none, errW_some] <;> rfl) | (simp [*, errW_none, errW_some] <;> rfl), by repeat (first | (with_reducible first | exact HB.out | apply below_alloc | apply pw_below_drewN | apply below_drew1) | exact HB.out)⟩
                  · rw [if_neg c15] at H
                    have c15b0 : (t180 == 8) = false := beq_eq_false_iff_ne.mpr c15
                    have c15b1 : (t180 != 8) = true := bne_iff_ne.mpr c15
                    obtain rfl := Option.some.inj H
                    go_enter Tryz.func15, Tryz.ntmps15
                    go_wp2_with (first | ((with_reducible refine gate_callee (f := 84) rfl ?_); refine goesL_ (some 15) rfl rfl Tryz.func84 (by kernel_rfl) rfl #[.string (⟨#[97, 98, 99]⟩ : ByteArray), .int .i64 8, .int .u8 45] rfl (by (try simp only [List.map_toArray, List.map_cons, List.map_nil]); first | done | rfl | (simp only [List.length_drop, List.length_take]; rfl)) ?_; (with_reducible refine (text_Center.calls (⟨#[97, 98, 99]⟩ : ByteArray) 8 45 t171 t172 _ A1.out).mono ?_); rintro e w48 ⟨rfl, hb⟩; refine ⟨_, rfl, ?_⟩; have n0_ := Aside0.mk (below_step (by repeat (first | (with_reducible first | exact HB.out | apply below_alloc | apply pw_below_drewN | apply below_drew1) | exact HB.out)) hb); clear HB; have HB := n0_; clear n0_; (try clear hb); (try clear hb2); (try clear hk); (try clear hi)) | ((with_reducible refine gate_callee (f := 42) rfl ?_); refine goesL_ (some 19) rfl rfl Tryz.func42 (by kernel_rfl) rfl #[.string (⟨#[78, 111, 119, 32, 105, 115, 32, 116, 104, 101, 32, 32, 116, 105, 109, 101]⟩ : ByteArray), .int .i64 2, .int .i64 2] rfl (by (try simp only [List.map_toArray, List.map_cons, List.map_nil]); first | done | rfl | (simp only [List.length_drop, List.length_take]; rfl)) ?_; (with_reducible refine (text_DelWord.calls (⟨#[78, 111, 119, 32, 105, 115, 32, 116, 104, 101, 32, 32, 116, 105, 109, 101]⟩ : ByteArray) 2 2 t173 t174 _ A2.out).mono ?_); rintro e w49 ⟨rfl, hb⟩; refine ⟨_, rfl, ?_⟩; have n0_ := Aside0.mk (below_step (by repeat (first | (with_reducible first | exact HB.out | apply below_alloc | apply pw_below_drewN | apply below_drew1) | exact HB.out)) hb); clear HB; have HB := n0_; clear n0_; (try clear hb); (try clear hb2); (try clear hk); (try clear hi)) | ((with_reducible refine gate_callee (f := 58) rfl ?_); refine goesL_ (some 23) rfl rfl Tryz.func58 (by kernel_rfl) rfl #[.string (⟨#[32]⟩ : ByteArray), .string (⟨#[97, 98, 99, 32, 100, 101, 102, 32, 103, 104, 105]⟩ : ByteArray), .int .i64 7] rfl (by (try simp only [List.map_toArray, List.map_cons, List.map_nil]); first | done | rfl | (simp only [List.length_drop, List.length_take]; rfl)) ?_; (with_reducible refine (text_LastPos.calls k (⟨#[32]⟩ : ByteArray) (⟨#[97, 98, 99, 32, 100, 101, 102, 32, 103, 104, 105]⟩ : ByteArray) 7 t175 t176 _ A3.out).mono ?_); rintro e w50 ⟨rfl, hb⟩; refine ⟨_, rfl, ?_⟩; have n0_ := Aside0.mk (below_step (by repeat (first | (with_reducible first | exact HB.out | apply below_alloc | apply pw_below_drewN | apply below_drew1) | exact HB.out)) hb); clear HB; have HB := n0_; clear n0_; (try clear hb); (try clear hb2); (try clear hk); (try clear hi)) | ((with_reducible refine gate_callee (f := 24) rfl ?_); refine goesL_ (some 27) rfl rfl Tryz.func24 (by kernel_rfl) rfl #[.string (⟨#[97, 98, 99, 100, 101, 102]⟩ : ByteArray), .string (⟨#[49, 50]⟩ : ByteArray), .string (⟨#[101, 99]⟩ : ByteArray), .int .u8 46] rfl (by (try simp only [List.map_toArray, List.map_cons, List.map_nil]); first | done | rfl | (simp only [List.length_drop, List.length_take]; rfl)) ?_; (with_reducible refine (text_Translate.calls (⟨#[97, 98, 99, 100, 101, 102]⟩ : ByteArray) (⟨#[49, 50]⟩ : ByteArray) (⟨#[101, 99]⟩ : ByteArray) 46 t177 t178 _ A4.out).mono ?_); rintro e w51 ⟨rfl, hb⟩; refine ⟨_, rfl, ?_⟩; have n0_ := Aside0.mk (below_step (by repeat (first | (with_reducible first | exact HB.out | apply below_alloc | apply pw_below_drewN | apply below_drew1) | exact HB.out)) hb); clear HB; have HB := n0_; clear n0_; (try clear hb); (try clear hb2); (try clear hk); (try clear hi)) | ((with_reducible refine gate_callee (f := 19) rfl ?_); refine goesL_ (some 31) rfl rfl Tryz.func19 (by kernel_rfl) rfl #[.string (⟨#[65]⟩ : ByteArray), .string (⟨#[65]⟩ : ByteArray), .int .i64 (-1)] rfl (by (try simp only [List.map_toArray, List.map_cons, List.map_nil]); first | done | rfl | (simp only [List.length_drop, List.length_take]; rfl)) ?_; (with_reducible refine (text_BitXor.calls (⟨#[65]⟩ : ByteArray) (⟨#[65]⟩ : ByteArray) (-1) t179 t180 _ A5.out).mono ?_); rintro e w52 ⟨rfl, hb⟩; refine ⟨_, rfl, ?_⟩; have n0_ := Aside0.mk (below_step (by repeat (first | (with_reducible first | exact HB.out | apply below_alloc | apply pw_below_drewN | apply below_drew1) | exact HB.out)) hb); clear HB; have HB := n0_; clear n0_; (try clear hb); (try clear hb2); (try clear hk); (try clear hi)) | ((with_reducible refine gate_callee (f := 76) rfl ?_); refine goesL_ (some 35) rfl rfl Tryz.func76 (by kernel_rfl) rfl #[.string (⟨#[54, 49, 54, 50]⟩ : ByteArray)] rfl (by (try simp only [List.map_toArray, List.map_cons, List.map_nil]); first | done | rfl | (simp only [List.length_drop, List.length_take]; rfl)) ?_; (with_reducible refine (text_X2C.calls k (⟨#[54, 49, 54, 50]⟩ : ByteArray) t181 t182 _ (TabOK.of_below hT (by repeat (first | (with_reducible first | exact HB.out | apply below_alloc | apply pw_below_drewN | apply below_drew1) | exact HB.out))) A6.out).mono ?_); rintro e w53 ⟨rfl, hb⟩; refine ⟨_, rfl, ?_⟩; have n0_ := Aside0.mk (below_step (by repeat (first | (with_reducible first | exact HB.out | apply below_alloc | apply pw_below_drewN | apply below_drew1) | exact HB.out)) hb); clear HB; have HB := n0_; clear n0_; (try clear hb); (try clear hb2); (try clear hk); (try clear hi)))
                    go_ret
                    exact ⟨by first | rfl | (simp [errW_none, errW_some] <;> rfl) | (simp [*, errW_none, errW_some] <;> rfl), by repeat (first | (with_reducible first | exact HB.out | apply below_alloc | apply pw_below_drewN | apply below_drew1) | exact HB.out)⟩
                · rw [if_neg c14] at H
                  have c14b0 : (t177.toList == ([97, 98, 50, 100, 49, 102] : List UInt8)) = false := beq_eq_false_iff_ne.mpr c14
                  have c14b1 : (t177.toList != ([97, 98, 50, 100, 49, 102] : List UInt8)) = true := bne_iff_ne.mpr c14
                  obtain rfl := Option.some.inj H
                  go_enter Tryz.func15, Tryz.ntmps15
                  go_wp2_with (first | ((with_reducible refine gate_callee (f := 84) rfl ?_); refine goesL_ (some 15) rfl rfl Tryz.func84 (by kernel_rfl) rfl #[.string (⟨#[97, 98, 99]⟩ : ByteArray), .int .i64 8, .int .u8 45] rfl (by (try simp only [List.map_toArray, List.map_cons, List.map_nil]); first | done | rfl | (simp only [List.length_drop, List.length_take]; rfl)) ?_; (with_reducible refine (text_Center.calls (⟨#[97, 98, 99]⟩ : ByteArray) 8 45 t171 t172 _ A1.out).mono ?_); rintro e w54 ⟨rfl, hb⟩; refine ⟨_, rfl, ?_⟩; have n0_ := Aside0.mk (below_step (by repeat (first | (with_reducible first | exact HB.out | apply below_alloc | apply pw_below_drewN | apply below_drew1) | exact HB.out)) hb); clear HB; have HB := n0_; clear n0_; (try clear hb); (try clear hb2); (try clear hk); (try clear hi)) | ((with_reducible refine gate_callee (f := 42) rfl ?_); refine goesL_ (some 19) rfl rfl Tryz.func42 (by kernel_rfl) rfl #[.string (⟨#[78, 111, 119, 32, 105, 115, 32, 116, 104, 101, 32, 32, 116, 105, 109, 101]⟩ : ByteArray), .int .i64 2, .int .i64 2] rfl (by (try simp only [List.map_toArray, List.map_cons, List.map_nil]); first | done | rfl | (simp only [List.length_drop, List.length_take]; rfl)) ?_; (with_reducible refine (text_DelWord.calls (⟨#[78, 111, 119, 32, 105, 115, 32, 116, 104, 101, 32, 32, 116, 105, 109, 101]⟩ : ByteArray) 2 2 t173 t174 _ A2.out).mono ?_); rintro e w55 ⟨rfl, hb⟩; refine ⟨_, rfl, ?_⟩; have n0_ := Aside0.mk (below_step (by repeat (first | (with_reducible first | exact HB.out | apply below_alloc | apply pw_below_drewN | apply below_drew1) | exact HB.out)) hb); clear HB; have HB := n0_; clear n0_; (try clear hb); (try clear hb2); (try clear hk); (try clear hi)) | ((with_reducible refine gate_callee (f := 58) rfl ?_); refine goesL_ (some 23) rfl rfl Tryz.func58 (by kernel_rfl) rfl #[.string (⟨#[32]⟩ : ByteArray), .string (⟨#[97, 98, 99, 32, 100, 101, 102, 32, 103, 104, 105]⟩ : ByteArray), .int .i64 7] rfl (by (try simp only [List.map_toArray, List.map_cons, List.map_nil]); first | done | rfl | (simp only [List.length_drop, List.length_take]; rfl)) ?_; (with_reducible refine (text_LastPos.calls k (⟨#[32]⟩ : ByteArray) (⟨#[97, 98, 99, 32, 100, 101, 102, 32, 103, 104, 105]⟩ : ByteArray) 7 t175 t176 _ A3.out).mono ?_); rintro e w56 ⟨rfl, hb⟩; refine ⟨_, rfl, ?_⟩; have n0_ := Aside0.mk (below_step (by repeat (first | (with_reducible first | exact HB.out | apply below_alloc | apply pw_below_drewN | apply below_drew1) | exact HB.out)) hb); clear HB; have HB := n0_; clear n0_; (try clear hb); (try clear hb2); (try clear hk); (try clear hi)) | ((with_reducible refine gate_callee (f := 24) rfl ?_); refine goesL_ (some 27) rfl rfl Tryz.func24 (by kernel_rfl) rfl #[.string (⟨#[97, 98, 99, 100, 101, 102]⟩ : ByteArray), .string (⟨#[49, 50]⟩ : ByteArray), .string (⟨#[101, 99]⟩ : ByteArray), .int .u8 46] rfl (by (try simp only [List.map_toArray, List.map_cons, List.map_nil]); first | done | rfl | (simp only [List.length_drop, List.length_take]; rfl)) ?_; (with_reducible refine (text_Translate.calls (⟨#[97, 98, 99, 100, 101, 102]⟩ : ByteArray) (⟨#[49, 50]⟩ : ByteArray) (⟨#[101, 99]⟩ : ByteArray) 46 t177 t178 _ A4.out).mono ?_); rintro e w57 ⟨rfl, hb⟩; refine ⟨_, rfl, ?_⟩; have n0_ := Aside0.mk (below_step (by repeat (first | (with_reducible first | exact HB.out | apply below_alloc | apply pw_below_drewN | apply below_drew1) | exact HB.out)) hb); clear HB; have HB := n0_; clear n0_; (try clear hb); (try clear hb2); (try clear hk); (try clear hi)) | ((with_reducible refine gate_callee (f := 19) rfl ?_); refine goesL_ (some 31) rfl rfl Tryz.func19 (by kernel_rfl) rfl #[.string (⟨#[65]⟩ : ByteArray), .string (⟨#[65]⟩ : ByteArray), .int .i64 (-1)] rfl (by (try simp only [List.map_toArray, List.map_cons, List.map_nil]); first | done | rfl | (simp only [List.length_drop, List.length_take]; rfl)) ?_; (with_reducible refine (text_BitXor.calls (⟨#[65]⟩ : ByteArray) (⟨#[65]⟩ : ByteArray) (-1) t179 t180 _ A5.out).mono ?_); rintro e w58 ⟨rfl, hb⟩; refine ⟨_, rfl, ?_⟩; have n0_ := Aside0.mk (below_step (by repeat (first | (with_reducible first | exact HB.out | apply below_alloc | apply pw_below_drewN | apply below_drew1) | exact HB.out)) hb); clear HB; have HB := n0_; clear n0_; (try clear hb); (try clear hb2); (try clear hk); (try clear hi)) | ((with_reducible refine gate_callee (f := 76) rfl ?_); refine goesL_ (some 35) rfl rfl Tryz.func76 (by kernel_rfl) rfl #[.string (⟨#[54, 49, 54, 50]⟩ : ByteArray)] rfl (by (try simp only [List.map_toArray, List.map_cons, List.map_nil]); first | done | rfl | (simp only [List.length_drop, List.length_take]; rfl)) ?_; (with_reducible refine (text_X2C.calls k (⟨#[54, 49, 54, 50]⟩ : ByteArray) t181 t182 _ (TabOK.of_below hT (by repeat (first | (with_reducible first | exact HB.out | apply below_alloc | apply pw_below_drewN | apply below_drew1) | exact HB.out))) A6.out).mono ?_); rintro e w59 ⟨rfl, hb⟩; refine ⟨_, rfl, ?_⟩; have n0_ := Aside0.mk (below_step (by repeat (first | (with_reducible first | exact HB.out | apply below_alloc | apply pw_below_drewN | apply below_drew1) | exact HB.out)) hb); clear HB; have HB := n0_; clear n0_; (try clear hb); (try clear hb2); (try clear hk); (try clear hi)))
                  go_ret
                  exact ⟨by first | rfl | (simp [errW_none, errW_some] <;> rfl) | (simp [*, errW_none, errW_some] <;> rfl), by repeat (first | (with_reducible first | exact HB.out | apply below_alloc | apply pw_below_drewN | apply below_drew1) | exact HB.out)⟩
              · rw [if_neg c13] at H
                have c13b0 : (t178 == 0) = false := beq_eq_false_iff_ne.mpr c13
                have c13b1 : (t178 != 0) = true := bne_iff_ne.mpr c13
                obtain rfl := Option.some.inj H
                go_enter Tryz.func15, Tryz.ntmps15
                go_wp2_with (first | ((with_reducible refine gate_callee (f := 84) rfl ?_); refine goesL_ (some 15) rfl rfl Tryz.func84 (by kernel_rfl) rfl #[.string (⟨#[97, 98, 99]⟩ : ByteArray), .int .i64 8, .int .u8 45] rfl (by (try simp only [List.map_toArray, List.map_cons, List.map_nil]); first | done | rfl | (simp only [List.length_drop, List.length_take]; rfl)) ?_; (with_reducible refine (text_Center.calls (⟨#[97, 98, 99]⟩ : ByteArray) 8 45 t171 t172 _ A1.out).mono ?_); rintro e w60 ⟨rfl, hb⟩; refine ⟨_, rfl, ?_⟩; have n0_ := Aside0.mk (below_step (by repeat (first | (with_reducible first | exact HB.out | apply below_alloc | apply pw_below_drewN | apply below_drew1) | exact HB.out)) hb); clear HB; have HB := n0_; clear n0_; (try clear hb); (try clear hb2); (try clear hk); (try clear hi)) | ((with_reducible refine gate_callee (f := 42) rfl ?_); refine goesL_ (some 19) rfl rfl Tryz.func42 (by kernel_rfl) rfl #[.string (⟨#[78, 111, 119, 32, 105, 115, 32, 116, 104, 101, 32, 32, 116, 105, 109, 101]⟩ : ByteArray), .int .i64 2, .int .i64 2] rfl (by (try simp only [List.map_toArray, List.map_cons, List.map_nil]); first | done | rfl | (simp only [List.length_drop, List.length_take]; rfl)) ?_; (with_reducible refine (text_DelWord.calls (⟨#[78, 111, 119, 32, 105, 115, 32, 116, 104, 101, 32, 32, 116, 105, 109, 101]⟩ : ByteArray) 2 2 t173 t174 _ A2.out).mono ?_); rintro e w61 ⟨rfl, hb⟩; refine ⟨_, rfl, ?_⟩; have n0_ := Aside0.mk (below_step (by repeat (first | (with_reducible first | exact HB.out | apply below_alloc | apply pw_below_drewN | apply below_drew1) | exact HB.out)) hb); clear HB; have HB := n0_; clear n0_; (try clear hb); (try clear hb2); (try clear hk); (try clear hi)) | ((with_reducible refine gate_callee (f := 58) rfl ?_); refine goesL_ (some 23) rfl rfl Tryz.func58 (by kernel_rfl) rfl #[.string (⟨#[32]⟩ : ByteArray), .string (⟨#[97, 98, 99, 32, 100, 101, 102, 32, 103, 104, 105]⟩ : ByteArray), .int .i64 7] rfl (by (try simp only [List.map_toArray, List.map_cons, List.map_nil]); first | done | rfl | (simp only [List.length_drop, List.length_take]; rfl)) ?_; (with_reducible refine (text_LastPos.calls k (⟨#[32]⟩ : ByteArray) (⟨#[97, 98, 99, 32, 100, 101, 102, 32, 103, 104, 105]⟩ : ByteArray) 7 t175 t176 _ A3.out).mono ?_); rintro e w62 ⟨rfl, hb⟩; refine ⟨_, rfl, ?_⟩; have n0_ := Aside0.mk (below_step (by repeat (first | (with_reducible first | exact HB.out | apply below_alloc | apply pw_below_drewN | apply below_drew1) | exact HB.out)) hb); clear HB; have HB := n0_; clear n0_; (try clear hb); (try clear hb2); (try clear hk); (try clear hi)) | ((with_reducible refine gate_callee (f := 24) rfl ?_); refine goesL_ (some 27) rfl rfl Tryz.func24 (by kernel_rfl) rfl #[.string (⟨#[97, 98, 99, 100, 101, 102]⟩ : ByteArray), .string (⟨#[49, 50]⟩ : ByteArray), .string (⟨#[101, 99]⟩ : ByteArray), .int .u8 46] rfl (by (try simp only [List.map_toArray, List.map_cons, List.map_nil]); first | done | rfl | (simp only [List.length_drop, List.length_take]; rfl)) ?_; (with_reducible refine (text_Translate.calls (⟨#[97, 98, 99, 100, 101, 102]⟩ : ByteArray) (⟨#[49, 50]⟩ : ByteArray) (⟨#[101, 99]⟩ : ByteArray) 46 t177 t178 _ A4.out).mono ?_); rintro e w63 ⟨rfl, hb⟩; refine ⟨_, rfl, ?_⟩; have n0_ := Aside0.mk (below_step (by repeat (first | (with_reducible first | exact HB.out | apply below_alloc | apply pw_below_drewN | apply below_drew1) | exact HB.out)) hb); clear HB; have HB := n0_; clear n0_; (try clear hb); (try clear hb2); (try clear hk); (try clear hi)) | ((with_reducible refine gate_callee (f := 19) rfl ?_); refine goesL_ (some 31) rfl rfl Tryz.func19 (by kernel_rfl) rfl #[.string (⟨#[65]⟩ : ByteArray), .string (⟨#[65]⟩ : ByteArray), .int .i64 (-1)] rfl (by (try simp only [List.map_toArray, List.map_cons, List.map_nil]); first | done | rfl | (simp only [List.length_drop, List.length_take]; rfl)) ?_; (with_reducible refine (text_BitXor.calls (⟨#[65]⟩ : ByteArray) (⟨#[65]⟩ : ByteArray) (-1) t179 t180 _ A5.out).mono ?_); rintro e w64 ⟨rfl, hb⟩; refine ⟨_, rfl, ?_⟩; have n0_ := Aside0.mk (below_step (by repeat (first | (with_reducible first | exact HB.out | apply below_alloc | apply pw_below_drewN | apply below_drew1) | exact HB.out)) hb); clear HB; have HB := n0_; clear n0_; (try clear hb); (try clear hb2); (try clear hk); (try clear hi)) | ((with_reducible refine gate_callee (f := 76) rfl ?_); refine goesL_ (some 35) rfl rfl Tryz.func76 (by kernel_rfl) rfl #[.string (⟨#[54, 49, 54, 50]⟩ : ByteArray)] rfl (by (try simp only [List.map_toArray, List.map_cons, List.map_nil]); first | done | rfl | (simp only [List.length_drop, List.length_take]; rfl)) ?_; (with_reducible refine (text_X2C.calls k (⟨#[54, 49, 54, 50]⟩ : ByteArray) t181 t182 _ (TabOK.of_below hT (by repeat (first | (with_reducible first | exact HB.out | apply below_alloc | apply pw_below_drewN | apply below_drew1) | exact HB.out))) A6.out).mono ?_); rintro e w65 ⟨rfl, hb⟩; refine ⟨_, rfl, ?_⟩; have n0_ := Aside0.mk (below_step (by repeat (first | (with_reducible first | exact HB.out | apply below_alloc | apply pw_below_drewN | apply below_drew1) | exact HB.out)) hb); clear HB; have HB := n0_; clear n0_; (try clear hb); (try clear hb2); (try clear hk); (try clear hi)))
                go_ret
                exact ⟨by first | rfl | (simp [errW_none, errW_some] <;> rfl) | (simp [*, errW_none, errW_some] <;> rfl), by repeat (first | (with_reducible first | exact HB.out | apply below_alloc | apply pw_below_drewN | apply below_drew1) | exact HB.out)⟩
            · rw [if_neg c12] at H
              have c12b0 : (t175 == 4) = false := beq_eq_false_iff_ne.mpr c12
              have c12b1 : (t175 != 4) = true := bne_iff_ne.mpr c12
              obtain rfl := Option.some.inj H
              go_enter Tryz.func15, Tryz.ntmps15
              go_wp2_with (first | ((with_reducible refine gate_callee (f := 84) rfl ?_); refine goesL_ (some 15) rfl rfl Tryz.func84 (by kernel_rfl) rfl #[.string (⟨#[97, 98, 99]⟩ : ByteArray), .int .i64 8, .int .u8 45] rfl (by (try simp only [List.map_toArray, List.map_cons, List.map_nil]); first | done | rfl | (simp only [List.length_drop, List.length_take]; rfl)) ?_; (with_reducible refine (text_Center.calls (⟨#[97, 98, 99]⟩ : ByteArray) 8 45 t171 t172 _ A1.out).mono ?_); rintro e w66 ⟨rfl, hb⟩; refine ⟨_, rfl, ?_⟩; have n0_ := Aside0.mk (below_step (by repeat (first | (with_reducible first | exact HB.out | apply below_alloc | apply pw_below_drewN | apply below_drew1) | exact HB.out)) hb); clear HB; have HB := n0_; clear n0_; (try clear hb); (try clear hb2); (try clear hk); (try clear hi)) | ((with_reducible refine gate_callee (f := 42) rfl ?_); refine goesL_ (some 19) rfl rfl Tryz.func42 (by kernel_rfl) rfl #[.string (⟨#[78, 111, 119, 32, 105, 115, 32, 116, 104, 101, 32, 32, 116, 105, 109, 101]⟩ : ByteArray), .int .i64 2, .int .i64 2] rfl (by (try simp only [List.map_toArray, List.map_cons, List.map_nil]); first | done | rfl | (simp only [List.length_drop, List.length_take]; rfl)) ?_; (with_reducible refine (text_DelWord.calls (⟨#[78, 111, 119, 32, 105, 115, 32, 116, 104, 101, 32, 32, 116, 105, 109, 101]⟩ : ByteArray) 2 2 t173 t174 _ A2.out).mono ?_); rintro e w67 ⟨rfl, hb⟩; refine ⟨_, rfl, ?_⟩; have n0_ := Aside0.mk (below_step (by repeat (first | (with_reducible first | exact HB.out | apply below_alloc | apply pw_below_drewN | apply below_drew1) | exact HB.out)) hb); clear HB; have HB := n0_; clear n0_; (try clear hb); (try clear hb2); (try clear hk); (try clear hi)) | ((with_reducible refine gate_callee (f := 58) rfl ?_); refine goesL_ (some 23) rfl rfl Tryz.func58 (by kernel_rfl) rfl #[.string (⟨#[32]⟩ : ByteArray), .string (⟨#[97, 98, 99, 32, 100, 101, 102, 32, 103, 104, 105]⟩ : ByteArray), .int .i64 7] rfl (by (try simp only [List.map_toArray, List.map_cons, List.map_nil]); first | done | rfl | (simp only [List.length_drop, List.length_take]; rfl)) ?_; (with_reducible refine (text_LastPos.calls k (⟨#[32]⟩ : ByteArray) (⟨#[97, 98, 99, 32, 100, 101, 102, 32, 103, 104, 105]⟩ : ByteArray) 7 t175 t176 _ A3.out).mono ?_); rintro e w68 ⟨rfl, hb⟩; refine ⟨_, rfl, ?_⟩; have n0_ := Aside0.mk (below_step (by repeat (first | (with_reducible first | exact HB.out | apply below_alloc | apply pw_below_drewN | apply below_drew1) | exact HB.out)) hb); clear HB; have HB := n0_; clear n0_; (try clear hb); (try clear hb2); (try clear hk); (try clear hi)) | ((with_reducible refine gate_callee (f := 24) rfl ?_); refine goesL_ (some 27) rfl rfl Tryz.func24 (by kernel_rfl) rfl #[.string (⟨#[97, 98, 99, 100, 101, 102]⟩ : ByteArray), .string (⟨#[49, 50]⟩ : ByteArray), .string (⟨#[101, 99]⟩ : ByteArray), .int .u8 46] rfl (by (try simp only [List.map_toArray, List.map_cons, List.map_nil]); first | done | rfl | (simp only [List.length_drop, List.length_take]; rfl)) ?_; (with_reducible refine (text_Translate.calls (⟨#[97, 98, 99, 100, 101, 102]⟩ : ByteArray) (⟨#[49, 50]⟩ : ByteArray) (⟨#[101, 99]⟩ : ByteArray) 46 t177 t178 _ A4.out).mono ?_); rintro e w69 ⟨rfl, hb⟩; refine ⟨_, rfl, ?_⟩; have n0_ := Aside0.mk (below_step (by repeat (first | (with_reducible first | exact HB.out | apply below_alloc | apply pw_below_drewN | apply below_drew1) | exact HB.out)) hb); clear HB; have HB := n0_; clear n0_; (try clear hb); (try clear hb2); (try clear hk); (try clear hi)) | ((with_reducible refine gate_callee (f := 19) rfl ?_); refine goesL_ (some 31) rfl rfl Tryz.func19 (by kernel_rfl) rfl #[.string (⟨#[65]⟩ : ByteArray), .string (⟨#[65]⟩ : ByteArray), .int .i64 (-1)] rfl (by (try simp only [List.map_toArray, List.map_cons, List.map_nil]); first | done | rfl | (simp only [List.length_drop, List.length_take]; rfl)) ?_; (with_reducible refine (text_BitXor.calls (⟨#[65]⟩ : ByteArray) (⟨#[65]⟩ : ByteArray) (-1) t179 t180 _ A5.out).mono ?_); rintro e w70 ⟨rfl, hb⟩; refine ⟨_, rfl, ?_⟩; have n0_ := Aside0.mk (below_step (by repeat (first | (with_reducible first | exact HB.out | apply below_alloc | apply pw_below_drewN | apply below_drew1) | exact HB.out)) hb); clear HB; have HB := n0_; clear n0_; (try clear hb); (try clear hb2); (try clear hk); (try clear hi)) | ((with_reducible refine gate_callee (f := 76) rfl ?_); refine goesL_ (some 35) rfl rfl Tryz.func76 (by kernel_rfl) rfl #[.string (⟨#[54, 49, 54, 50]⟩ : ByteArray)] rfl (by (try simp only [List.map_toArray, List.map_cons, List.map_nil]); first | done | rfl | (simp only [List.length_drop, List.length_take]; rfl)) ?_; (with_reducible refine (text_X2C.calls k (⟨#[54, 49, 54, 50]⟩ : ByteArray) t181 t182 _ (TabOK.of_below hT (by repeat (first | (with_reducible first | exact HB.out | apply below_alloc | apply pw_below_drewN | apply below_drew1) | exact HB.out))) A6.out).mono ?_); rintro e w71 ⟨rfl, hb⟩; refine ⟨_, rfl, ?_⟩; have n0_ := Aside0.mk (below_step (by repeat (first | (with_reducible first | exact HB.out | apply below_alloc | apply pw_below_drewN | apply below_drew1) | exact HB.out)) hb); clear HB; have HB := n0_; clear n0_; (try clear hb); (try clear hb2); (try clear hk); (try clear hi)))
              go_ret
              exact ⟨by first | rfl | (simp [errW_none, errW_some] <;> rfl) | (simp [*, errW_none, errW_some] <;> rfl), by repeat (first | (with_reducible first | exact HB.out | apply below_alloc | apply pw_below_drewN | apply below_drew1) | exact HB.out)⟩
          · rw [if_neg c11] at H
            have c11b0 : (t176 == 0) = false := beq_eq_false_iff_ne.mpr c11
            have c11b1 : (t176 != 0) = true := bne_iff_ne.mpr c11
            obtain rfl := Option.some.inj H
            go_enter Tryz.func15, Tryz.ntmps15
            go_wp2_with (first | ((with_reducible refine gate_callee (f := 84) rfl ?_); refine goesL_ (some 15) rfl rfl Tryz.func84 (by kernel_rfl) rfl #[.string (⟨#[97, 98, 99]⟩ : ByteArray), .int .i64 8, .int .u8 45] rfl (by (try simp only [List.map_toArray, List.map_cons, List.map_nil]); first | done | rfl | (simp only [List.length_drop, List.length_take]; rfl)) ?_; (with_reducible refine (text_Center.calls (⟨#[97, 98, 99]⟩ : ByteArray) 8 45 t171 t172 _ A1.out).mono ?_); rintro e w72 ⟨rfl, hb⟩; refine ⟨_, rfl, ?_⟩; have n0_ := Aside0.mk (below_step (by repeat (first | (with_reducible first | exact HB.out | apply below_alloc | apply pw_below_drewN | apply below_drew1) | exact HB.out)) hb); clear HB; have HB := n0_; clear n0_; (try clear hb); (try clear hb2); (try clear hk); (try clear hi)) | ((with_reducible refine gate_callee (f := 42) rfl ?_); refine goesL_ (some 19) rfl rfl Tryz.func42 (by kernel_rfl) rfl #[.string (⟨#[78, 111, 119, 32, 105, 115, 32, 116, 104, 101, 32, 32, 116, 105, 109, 101]⟩ : ByteArray), .int .i64 2, .int .i64 2] rfl (by (try simp only [List.map_toArray, List.map_cons, List.map_nil]); first | done | rfl | (simp only [List.length_drop, List.length_take]; rfl)) ?_; (with_reducible refine (text_DelWord.calls (⟨#[78, 111, 119, 32, 105, 115, 32, 116, 104, 101, 32, 32, 116, 105, 109, 101]⟩ : ByteArray) 2 2 t173 t174 _ A2.out).mono ?_); rintro e w73 ⟨rfl, hb⟩; refine ⟨_, rfl, ?_⟩; have n0_ := Aside0.mk (below_step (by repeat (first | (with_reducible first | exact HB.out | apply below_alloc | apply pw_below_drewN | apply below_drew1) | exact HB.out)) hb); clear HB; have HB := n0_; clear n0_; (try clear hb); (try clear hb2); (try clear hk); (try clear hi)) | ((with_reducible refine gate_callee (f := 58) rfl ?_); refine goesL_ (some 23) rfl rfl Tryz.func58 (by kernel_rfl) rfl #[.string (⟨#[32]⟩ : ByteArray), .string (⟨#[97, 98, 99, 32, 100, 101, 102, 32, 103, 104, 105]⟩ : ByteArray), .int .i64 7] rfl (by (try simp only [List.map_toArray, List.map_cons, List.map_nil]); first | done | rfl | (simp only [List.length_drop, List.length_take]; rfl)) ?_; (with_reducible refine (text_LastPos.calls k (⟨#[32]⟩ : ByteArray) (⟨#[97, 98, 99, 32, 100, 101, 102, 32, 103, 104, 105]⟩ : ByteArray) 7 t175 t176 _ A3.out).mono ?_); rintro e w74 ⟨rfl, hb⟩; refine ⟨_, rfl, ?_⟩; have n0_ := Aside0.mk (below_step (by repeat (first | (with_reducible first | exact HB.out | apply below_alloc | apply pw_below_drewN | apply below_drew1) | exact HB.out)) hb); clear HB; have HB := n0_; clear n0_; (try clear hb); (try clear hb2); (try clear hk); (try clear hi)) | ((with_reducible refine gate_callee (f := 24) rfl ?_); refine goesL_ (some 27) rfl rfl Tryz.func24 (by kernel_rfl) rfl #[.string (⟨#[97, 98, 99, 100, 101, 102]⟩ : ByteArray), .string (⟨#[49, 50]⟩ : ByteArray), .string (⟨#[101, 99]⟩ : ByteArray), .int .u8 46] rfl (by (try simp only [List.map_toArray, List.map_cons, List.map_nil]); first | done | rfl | (simp only [List.length_drop, List.length_take]; rfl)) ?_; (with_reducible refine (text_Translate.calls (⟨#[97, 98, 99, 100, 101, 102]⟩ : ByteArray) (⟨#[49, 50]⟩ : ByteArray) (⟨#[101, 99]⟩ : ByteArray) 46 t177 t178 _ A4.out).mono ?_); rintro e w75 ⟨rfl, hb⟩; refine ⟨_, rfl, ?_⟩; have n0_ := Aside0.mk (below_step (by repeat (first | (with_reducible first | exact HB.out | apply below_alloc | apply pw_below_drewN | apply below_drew1) | exact HB.out)) hb); clear HB; have HB := n0_; clear n0_; (try clear hb); (try clear hb2); (try clear hk); (try clear hi)) | ((with_reducible refine gate_callee (f := 19) rfl ?_); refine goesL_ (some 31) rfl rfl Tryz.func19 (by kernel_rfl) rfl #[.string (⟨#[65]⟩ : ByteArray), .string (⟨#[65]⟩ : ByteArray), .int .i64 (-1)] rfl (by (try simp only [List.map_toArray, List.map_cons, List.map_nil]); first | done | rfl | (simp only [List.length_drop, List.length_take]; rfl)) ?_; (with_reducible refine (text_BitXor.calls (⟨#[65]⟩ : ByteArray) (⟨#[65]⟩ : ByteArray) (-1) t179 t180 _ A5.out).mono ?_); rintro e w76 ⟨rfl, hb⟩; refine ⟨_, rfl, ?_⟩; have n0_ := Aside0.mk (below_step (by repeat (first | (with_reducible first | exact HB.out | apply below_alloc | apply pw_below_drewN | apply below_drew1) | exact HB.out)) hb); clear HB; have HB := n0_; clear n0_; (try clear hb); (try clear hb2); (try clear hk); (try clear hi)) | ((with_reducible refine gate_callee (f := 76) rfl ?_); refine goesL_ (some 35) rfl rfl Tryz.func76 (by kernel_rfl) rfl #[.string (⟨#[54, 49, 54, 50]⟩ : ByteArray)] rfl (by (try simp only [List.map_toArray, List.map_cons, List.map_nil]); first | done | rfl | (simp only [List.length_drop, List.length_take]; rfl)) ?_; (with_reducible refine (text_X2C.calls k (⟨#[54, 49, 54, 50]⟩ : ByteArray) t181 t182 _ (TabOK.of_below hT (by repeat (first | (with_reducible first | exact HB.out | apply below_alloc | apply pw_below_drewN | apply below_drew1) | exact HB.out))) A6.out).mono ?_); rintro e w77 ⟨rfl, hb⟩; refine ⟨_, rfl, ?_⟩; have n0_ := Aside0.mk (below_step (by repeat (first | (with_reducible first | exact HB.out | apply below_alloc | apply pw_below_drewN | apply below_drew1) | exact HB.out)) hb); clear HB; have HB := n0_; clear n0_; (try clear hb); (try clear hb2); (try clear hk); (try clear hi)))
            go_ret
            exact ⟨by first | rfl | (simp [errW_none, errW_some] <;> rfl) | (simp [*, errW_none, errW_some] <;> rfl), by repeat (first | (with_reducible first | exact HB.out | apply below_alloc | apply pw_below_drewN | apply below_drew1) | exact HB.out)⟩
        · rw [if_neg c10] at H
          have c10b0 : (t173.toList == ([78, 111, 119, 32, 116, 105, 109, 101] : List UInt8)) = false := beq_eq_false_iff_ne.mpr c10
          have c10b1 : (t173.toList != ([78, 111, 119, 32, 116, 105, 109, 101] : List UInt8)) = true := bne_iff_ne.mpr c10
          obtain rfl := Option.some.inj H
          go_enter Tryz.func15, Tryz.ntmps15
          go_wp2_with (first | ((with_reducible refine gate_callee (f := 84) rfl ?_); refine goesL_ (some 15) rfl rfl Tryz.func84 (by kernel_rfl) rfl #[.string (⟨#[97, 98, 99]⟩ : ByteArray), .int .i64 8, .int .u8 45] rfl (by (try simp only [List.map_toArray, List.map_cons, List.map_nil]); first | done | rfl | (simp only [List.length_drop, List.length_take]; rfl)) ?_; (with_reducible refine (text_Center.calls (⟨#[97, 98, 99]⟩ : ByteArray) 8 45 t171 t172 _ A1.out).mono ?_); rintro e w78 ⟨rfl, hb⟩; refine ⟨_, rfl, ?_⟩; have n0_ := Aside0.mk (below_step (by repeat (first | (with_reducible first | exact HB.out | apply below_alloc | apply pw_below_drewN | apply below_drew1) | exact HB.out)) hb); clear HB; have HB := n0_; clear n0_; (try clear hb); (try clear hb2); (try clear hk); (try clear hi)) | ((with_reducible refine gate_callee (f := 42) rfl ?_); refine goesL_ (some 19) rfl rfl Tryz.func42 (by kernel_rfl) rfl #[.string (⟨#[78, 111, 119, 32, 105, 115, 32, 116, 104, 101, 32, 32, 116, 105, 109, 101]⟩ : ByteArray), .int .i64 2, .int .i64 2] rfl (by (try simp only [List.map_toArray, List.map_cons, List.map_nil]); first | done | rfl | (simp only [List.length_drop, List.length_take]; rfl)) ?_; (with_reducible refine (text_DelWord.calls (⟨#[78, 111, 119, 32, 105, 115, 32, 116, 104, 101, 32, 32, 116, 105, 109, 101]⟩ : ByteArray) 2 2 t173 t174 _ A2.out).mono ?_); rintro e w79 ⟨rfl, hb⟩; refine ⟨_, rfl, ?_⟩; have n0_ := Aside0.mk (below_step (by repeat (first | (with_reducible first | exact HB.out | apply below_alloc | apply pw_below_drewN | apply below_drew1) | exact HB.out)) hb); clear HB; have HB := n0_; clear n0_; (try clear hb); (try clear hb2); (try clear hk); (try clear hi)) | ((with_reducible refine gate_callee (f := 58) rfl ?_); refine goesL_ (some 23) rfl rfl Tryz.func58 (by kernel_rfl) rfl #[.string (⟨#[32]⟩ : ByteArray), .string (⟨#[97, 98, 99, 32, 100, 101, 102, 32, 103, 104, 105]⟩ : ByteArray), .int .i64 7] rfl (by (try simp only [List.map_toArray, List.map_cons, List.map_nil]); first | done | rfl | (simp only [List.length_drop, List.length_take]; rfl)) ?_; (with_reducible refine (text_LastPos.calls k (⟨#[32]⟩ : ByteArray) (⟨#[97, 98, 99, 32, 100, 101, 102, 32, 103, 104, 105]⟩ : ByteArray) 7 t175 t176 _ A3.out).mono ?_); rintro e w80 ⟨rfl, hb⟩; refine ⟨_, rfl, ?_⟩; have n0_ := Aside0.mk (below_step (by repeat (first | (with_reducible first | exact HB.out | apply below_alloc | apply pw_below_drewN | apply below_drew1) | exact HB.out)) hb); clear HB; have HB := n0_; clear n0_; (try clear hb); (try clear hb2); (try clear hk); (try clear hi)) | ((with_reducible refine gate_callee (f := 24) rfl ?_); refine goesL_ (some 27) rfl rfl Tryz.func24 (by kernel_rfl) rfl #[.string (⟨#[97, 98, 99, 100, 101, 102]⟩ : ByteArray), .string (⟨#[49, 50]⟩ : ByteArray), .string (⟨#[101, 99]⟩ : ByteArray), .int .u8 46] rfl (by (try simp only [List.map_toArray, List.map_cons, List.map_nil]); first | done | rfl | (simp only [List.length_drop, List.length_take]; rfl)) ?_; (with_reducible refine (text_Translate.calls (⟨#[97, 98, 99, 100, 101, 102]⟩ : ByteArray) (⟨#[49, 50]⟩ : ByteArray) (⟨#[101, 99]⟩ : ByteArray) 46 t177 t178 _ A4.out).mono ?_); rintro e w81 ⟨rfl, hb⟩; refine ⟨_, rfl, ?_⟩; have n0_ := Aside0.mk (below_step (by repeat (first | (with_reducible first | exact HB.out | apply below_alloc | apply pw_below_drewN | apply below_drew1) | exact HB.out)) hb); clear HB; have HB := n0_; clear n0_; (try clear hb); (try clear hb2); (try clear hk); (try clear hi)) | ((with_reducible refine gate_callee (f := 19) rfl ?_); refine goesL_ (some 31) rfl rfl Tryz.func19 (by kernel_rfl) rfl #[.string (⟨#[65]⟩ : ByteArray), .string (⟨#[65]⟩ : ByteArray), .int .i64 (-1)] rfl (by (try simp only [List.map_toArray, List.map_cons, List.map_nil]); first | done | rfl | (simp only [List.length_drop, List.length_take]; rfl)) ?_; (with_reducible refine (text_BitXor.calls (⟨#[65]⟩ : ByteArray) (⟨#[65]⟩ : ByteArray) (-1) t179 t180 _ A5.out).mono ?_); rintro e w82 ⟨rfl, hb⟩; refine ⟨_, rfl, ?_⟩; have n0_ := Aside0.mk (below_step (by repeat (first | (with_reducible first | exact HB.out | apply below_alloc | apply pw_below_drewN | apply below_drew1) | exact HB.out)) hb); clear HB; have HB := n0_; clear n0_; (try clear hb); (try clear hb2); (try clear hk); (try clear hi)) | ((with_reducible refine gate_callee (f := 76) rfl ?_); refine goesL_ (some 35) rfl rfl Tryz.func76 (by kernel_rfl) rfl #[.string (⟨#[54, 49, 54, 50]⟩ : ByteArray)] rfl (by (try simp only [List.map_toArray, List.map_cons, List.map_nil]); first | done | rfl | (simp only [List.length_drop, List.length_take]; rfl)) ?_; (with_reducible refine (text_X2C.calls k (⟨#[54, 49, 54, 50]⟩ : ByteArray) t181 t182 _ (TabOK.of_below hT (by repeat (first | (with_reducible first | exact HB.out | apply below_alloc | apply pw_below_drewN | apply below_drew1) | exact HB.out))) A6.out).mono ?_); rintro e w83 ⟨rfl, hb⟩; refine ⟨_, rfl, ?_⟩; have n0_ := Aside0.mk (below_step (by repeat (first | (with_reducible first | exact HB.out | apply below_alloc | apply pw_below_drewN | apply below_drew1) | exact HB.out)) hb); clear HB; have HB := n0_; clear n0_; (try clear hb); (try clear hb2); (try clear hk); (try clear hi)))
          go_ret
          exact ⟨by first | rfl | (simp [errW_none, errW_some] <;> rfl) | (simp [*, errW_none, errW_some] <;> rfl), by repeat (first | (with_reducible first | exact HB.out | apply below_alloc | apply pw_below_drewN | apply below_drew1) | exact HB.out)⟩
      · rw [if_neg c9] at H
        have c9b0 : (t174 == 0) = false := beq_eq_false_iff_ne.mpr c9
        have c9b1 : (t174 != 0) = true := bne_iff_ne.mpr c9
        obtain rfl := Option.some.inj H
        go_enter Tryz.func15, Tryz.ntmps15
        go_wp2_with (first | ((with_reducible refine gate_callee (f := 84) rfl ?_); refine goesL_ (some 15) rfl rfl Tryz.func84 (by kernel_rfl) rfl #[.string (⟨#[97, 98, 99]⟩ : ByteArray), .int .i64 8, .int .u8 45] rfl (by (try simp only [List.map_toArray, List.map_cons, List.map_nil]); first | done | rfl | (simp only [List.length_drop, List.length_take]; rfl)) ?_; (with_reducible refine (text_Center.calls (⟨#[97, 98, 99]⟩ : ByteArray) 8 45 t171 t172 _ A1.out).mono ?_); rintro e w84 ⟨rfl, hb⟩; refine ⟨_, rfl, ?_⟩; have n0_ := Aside0.mk (below_step (by repeat (first | (with_reducible first | exact HB.out | apply below_alloc | apply pw_below_drewN | apply below_drew1) | exact HB.out)) hb); clear HB; have HB := n0_; clear n0_; (try clear hb); (try clear hb2); (try clear hk); (try clear hi)) | ((with_reducible refine gate_callee (f := 42) rfl ?_); refine goesL_ (some 19) rfl rfl Tryz.func42 (by kernel_rfl) rfl #[.string (⟨#[78, 111, 119, 32, 105, 115, 32, 116, 104, 101, 32, 32, 116, 105, 109, 101]⟩ : ByteArray), .int .i64 2, .int .i64 2] rfl (by (try simp only [List.map_toArray, List.map_cons, List.map_nil]); first | done | rfl | (simp only [List.length_drop, List.length_take]; rfl)) ?_; (with_reducible refine (text_DelWord.calls (⟨#[78, 111, 119, 32, 105, 115, 32, 116, 104, 101, 32, 32, 116, 105, 109, 101]⟩ : ByteArray) 2 2 t173 t174 _ A2.out).mono ?_); rintro e w85 ⟨rfl, hb⟩; refine ⟨_, rfl, ?_⟩; have n0_ := Aside0.mk (below_step (by repeat (first | (with_reducible first | exact HB.out | apply below_alloc | apply pw_below_drewN | apply below_drew1) | exact HB.out)) hb); clear HB; have HB := n0_; clear n0_; (try clear hb); (try clear hb2); (try clear hk); (try clear hi)) | ((with_reducible refine gate_callee (f := 58) rfl ?_); refine goesL_ (some 23) rfl rfl Tryz.func58 (by kernel_rfl) rfl #[.string (⟨#[32]⟩ : ByteArray), .string (⟨#[97, 98, 99, 32, 100, 101, 102, 32, 103, 104, 105]⟩ : ByteArray), .int .i64 7] rfl (by (try simp only [List.map_toArray, List.map_cons, List.map_nil]); first | done | rfl | (simp only [List.length_drop, List.length_take]; rfl)) ?_; (with_reducible refine (text_LastPos.calls k (⟨#[32]⟩ : ByteArray) (⟨#[97, 98, 99, 32, 100, 101, 102, 32, 103, 104, 105]⟩ : ByteArray) 7 t175 t176 _ A3.out).mono ?_); rintro e w86 ⟨rfl, hb⟩; refine ⟨_, rfl, ?_⟩; have n0_ := Aside0.mk (below_step (by repeat (first | (with_reducible first | exact HB.out | apply below_alloc | apply pw_below_drewN | apply below_drew1) | exact HB.out)) hb); clear HB; have HB := n0_; clear n0_; (try clear hb); (try clear hb2); (try clear hk); (try clear hi)) | ((with_reducible refine gate_callee (f := 24) rfl ?_); refine goesL_ (some 27) rfl rfl Tryz.func24 (by kernel_rfl) rfl #[.string (⟨#[97, 98, 99, 100, 101, 102]⟩ : ByteArray), .string (⟨#[49, 50]⟩ : ByteArray), .string (⟨#[101, 99]⟩ : ByteArray), .int .u8 46] rfl (by (try simp only [List.map_toArray, List.map_cons, List.map_nil]); first | done | rfl | (simp only [List.length_drop, List.length_take]; rfl)) ?_; (with_reducible refine (text_Translate.calls (⟨#[97, 98, 99, 100, 101, 102]⟩ : ByteArray) (⟨#[49, 50]⟩ : ByteArray) (⟨#[101, 99]⟩ : ByteArray) 46 t177 t178 _ A4.out).mono ?_); rintro e w87 ⟨rfl, hb⟩; refine ⟨_, rfl, ?_⟩; have n0_ := Aside0.mk (below_step (by repeat (first | (with_reducible first | exact HB.out | apply below_alloc | apply pw_below_drewN | apply below_drew1) | exact HB.out)) hb); clear HB; have HB := n0_; clear n0_; (try clear hb); (try clear hb2); (try clear hk); (try clear hi)) | ((with_reducible refine gate_callee (f := 19) rfl ?_); refine goesL_ (some 31) rfl rfl Tryz.func19 (by kernel_rfl) rfl #[.string (⟨#[65]⟩ : ByteArray), .string (⟨#[65]⟩ : ByteArray), .int .i64 (-1)] rfl (by (try simp only [List.map_toArray, List.map_cons, List.map_nil]); first | done | rfl | (simp only [List.length_drop, List.length_take]; rfl)) ?_; (with_reducible refine (text_BitXor.calls (⟨#[65]⟩ : ByteArray) (⟨#[65]⟩ : ByteArray) (-1) t179 t180 _ A5.out).mono ?_); rintro e w88 ⟨rfl, hb⟩; refine ⟨_, rfl, ?_⟩; have n0_ := Aside0.mk (below_step (by repeat (first | (with_reducible first | exact HB.out | apply below_alloc | apply pw_below_drewN | apply below_drew1) | exact HB.out)) hb); clear HB; have HB := n0_; clear n0_; (try clear hb); (try clear hb2); (try clear hk); (try clear hi)) | ((with_reducible refine gate_callee (f := 76) rfl ?_); refine goesL_ (some 35) rfl rfl Tryz.func76 (by kernel_rfl) rfl #[.string (⟨#[54, 49, 54, 50]⟩ : ByteArray)] rfl (by (try simp only [List.map_toArray, List.map_cons, List.map_nil]); first | done | rfl | (simp only [List.length_drop, List.length_take]; rfl)) ?_; (with_reducible refine (text_X2C.calls k (⟨#[54, 49, 54, 50]⟩ : ByteArray) t181 t182 _ (TabOK.of_below hT (by repeat (first | (with_reducible first | exact HB.out | apply below_alloc | apply pw_below_drewN | apply below_drew1) | exact HB.out))) A6.out).mono ?_); rintro e w89 ⟨rfl, hb⟩; refine ⟨_, rfl, ?_⟩; have n0_ := Aside0.mk (below_step (by repeat (first | (with_reducible first | exact HB.out | apply below_alloc | apply pw_below_drewN | apply below_drew1) | exact HB.out)) hb); clear HB; have HB := n0_; clear n0_; (try clear hb); (try clear hb2); (try clear hk); (try clear hi)))
        go_ret
        exact ⟨by first | rfl | (simp [errW_none, errW_some] <;> rfl) | (simp [*, errW_none, errW_some] <;> rfl), by repeat (first | (with_reducible first | exact HB.out | apply below_alloc | apply pw_below_drewN | apply below_drew1) | exact HB.out)⟩
    · rw [if_neg c8] at H
      have c8b0 : (t171.toList == ([45, 45, 97, 98, 99, 45, 45, 45] : List UInt8)) = false := beq_eq_false_iff_ne.mpr c8
      have c8b1 : (t171.toList != ([45, 45, 97, 98, 99, 45, 45, 45] : List UInt8)) = true := bne_iff_ne.mpr c8
      obtain rfl := Option.some.inj H
      go_enter Tryz.func15, Tryz.ntmps15
      go_wp2_with (first | ((with_reducible refine gate_callee (f := 84) rfl ?_); refine goesL_ (some 15) rfl rfl Tryz.func84 (by kernel_rfl) rfl #[.string (⟨#[97, 98, 99]⟩ : ByteArray), .int .i64 8, .int .u8 45] rfl (by (try simp only [List.map_toArray, List.map_cons, List.map_nil]); first | done | rfl | (simp only [List.length_drop, List.length_take]; rfl)) ?_; (with_reducible refine (text_Center.calls (⟨#[97, 98, 99]⟩ : ByteArray) 8 45 t171 t172 _ A1.out).mono ?_); rintro e w90 ⟨rfl, hb⟩; refine ⟨_, rfl, ?_⟩; have n0_ := Aside0.mk (below_step (by repeat (first | (with_reducible first | exact HB.out | apply below_alloc | apply pw_below_drewN | apply below_drew1) | exact HB.out)) hb); clear HB; have HB := n0_; clear n0_; (try clear hb); (try clear hb2); (try clear hk); (try clear hi)) | ((with_reducible refine gate_callee (f := 42) rfl ?_); refine goesL_ (some 19) rfl rfl Tryz.func42 (by kernel_rfl) rfl #[.string (⟨#[78, 111, 119, 32, 105, 115, 32, 116, 104, 101, 32, 32, 116, 105, 109, 101]⟩ : ByteArray), .int .i64 2, .int .i64 2] rfl (by (try simp only [List.map_toArray, List.map_cons, List.map_nil]); first | done | rfl | (simp only [List.length_drop, List.length_take]; rfl)) ?_; (with_reducible refine (text_DelWord.calls (⟨#[78, 111, 119, 32, 105, 115, 32, 116, 104, 101, 32, 32, 116, 105, 109, 101]⟩ : ByteArray) 2 2 t173 t174 _ A2.out).mono ?_); rintro e w91 ⟨rfl, hb⟩; refine ⟨_, rfl, ?_⟩; have n0_ := Aside0.mk (below_step (by repeat (first | (with_reducible first | exact HB.out | apply below_alloc | apply pw_below_drewN | apply below_drew1) | exact HB.out)) hb); clear HB; have HB := n0_; clear n0_; (try clear hb); (try clear hb2); (try clear hk); (try clear hi)) | ((with_reducible refine gate_callee (f := 58) rfl ?_); refine goesL_ (some 23) rfl rfl Tryz.func58 (by kernel_rfl) rfl #[.string (⟨#[32]⟩ : ByteArray), .string (⟨#[97, 98, 99, 32, 100, 101, 102, 32, 103, 104, 105]⟩ : ByteArray), .int .i64 7] rfl (by (try simp only [List.map_toArray, List.map_cons, List.map_nil]); first | done | rfl | (simp only [List.length_drop, List.length_take]; rfl)) ?_; (with_reducible refine (text_LastPos.calls k (⟨#[32]⟩ : ByteArray) (⟨#[97, 98, 99, 32, 100, 101, 102, 32, 103, 104, 105]⟩ : ByteArray) 7 t175 t176 _ A3.out).mono ?_); rintro e w92 ⟨rfl, hb⟩; refine ⟨_, rfl, ?_⟩; have n0_ := Aside0.mk (below_step (by repeat (first | (with_reducible first | exact HB.out | apply below_alloc | apply pw_below_drewN | apply below_drew1) | exact HB.out)) hb); clear HB; have HB := n0_; clear n0_; (try clear hb); (try clear hb2); (try clear hk); (try clear hi)) | ((with_reducible refine gate_callee (f := 24) rfl ?_); refine goesL_ (some 27) rfl rfl Tryz.func24 (by kernel_rfl) rfl #[.string (⟨#[97, 98, 99, 100, 101, 102]⟩ : ByteArray), .string (⟨#[49, 50]⟩ : ByteArray), .string (⟨#[101, 99]⟩ : ByteArray), .int .u8 46] rfl (by (try simp only [List.map_toArray, List.map_cons, List.map_nil]); first | done | rfl | (simp only [List.length_drop, List.length_take]; rfl)) ?_; (with_reducible refine (text_Translate.calls (⟨#[97, 98, 99, 100, 101, 102]⟩ : ByteArray) (⟨#[49, 50]⟩ : ByteArray) (⟨#[101, 99]⟩ : ByteArray) 46 t177 t178 _ A4.out).mono ?_); rintro e w93 ⟨rfl, hb⟩; refine ⟨_, rfl, ?_⟩; have n0_ := Aside0.mk (below_step (by repeat (first | (with_reducible first | exact HB.out | apply below_alloc | apply pw_below_drewN | apply below_drew1) | exact HB.out)) hb); clear HB; have HB := n0_; clear n0_; (try clear hb); (try clear hb2); (try clear hk); (try clear hi)) | ((with_reducible refine gate_callee (f := 19) rfl ?_); refine goesL_ (some 31) rfl rfl Tryz.func19 (by kernel_rfl) rfl #[.string (⟨#[65]⟩ : ByteArray), .string (⟨#[65]⟩ : ByteArray), .int .i64 (-1)] rfl (by (try simp only [List.map_toArray, List.map_cons, List.map_nil]); first | done | rfl | (simp only [List.length_drop, List.length_take]; rfl)) ?_; (with_reducible refine (text_BitXor.calls (⟨#[65]⟩ : ByteArray) (⟨#[65]⟩ : ByteArray) (-1) t179 t180 _ A5.out).mono ?_); rintro e w94 ⟨rfl, hb⟩; refine ⟨_, rfl, ?_⟩; have n0_ := Aside0.mk (below_step (by repeat (first | (with_reducible first | exact HB.out | apply below_alloc | apply pw_below_drewN | apply below_drew1) | exact HB.out)) hb); clear HB; have HB := n0_; clear n0_; (try clear hb); (try clear hb2); (try clear hk); (try clear hi)) | ((with_reducible refine gate_callee (f := 76) rfl ?_); refine goesL_ (some 35) rfl rfl Tryz.func76 (by kernel_rfl) rfl #[.string (⟨#[54, 49, 54, 50]⟩ : ByteArray)] rfl (by (try simp only [List.map_toArray, List.map_cons, List.map_nil]); first | done | rfl | (simp only [List.length_drop, List.length_take]; rfl)) ?_; (with_reducible refine (text_X2C.calls k (⟨#[54, 49, 54, 50]⟩ : ByteArray) t181 t182 _ (TabOK.of_below hT (by repeat (first | (with_reducible first | exact HB.out | apply below_alloc | apply pw_below_drewN | apply below_drew1) | exact HB.out))) A6.out).mono ?_); rintro e w95 ⟨rfl, hb⟩; refine ⟨_, rfl, ?_⟩; have n0_ := Aside0.mk (below_step (by repeat (first | (with_reducible first | exact HB.out | apply below_alloc | apply pw_below_drewN | apply below_drew1) | exact HB.out)) hb); clear HB; have HB := n0_; clear n0_; (try clear hb); (try clear hb2); (try clear hk); (try clear hi)))
      go_ret
      exact ⟨by first | rfl | (simp [errW_none, errW_some] <;> rfl) | (simp [*, errW_none, errW_some] <;> rfl), by repeat (first | (with_reducible first | exact HB.out | apply below_alloc | apply pw_below_drewN | apply below_drew1) | exact HB.out)⟩
  · rw [if_neg c7] at H
    have c7b0 : (t172 == 0) = false := beq_eq_false_iff_ne.mpr c7
    have c7b1 : (t172 != 0) = true := bne_iff_ne.mpr c7
    obtain rfl := Option.some.inj H
    go_enter Tryz.func15, Tryz.ntmps15
    go_wp2_with (first | ((with_reducible refine gate_callee (f := 84) rfl ?_); refine goesL_ (some 15) rfl rfl Tryz.func84 (by kernel_rfl) rfl #[.string (⟨#[97, 98, 99]⟩ : ByteArray), .int .i64 8, .int .u8 45] rfl (by (try simp only [List.map_toArray, List.map_cons, List.map_nil]); first | done | rfl | (simp only [List.length_drop, List.length_take]; rfl)) ?_; (with_reducible refine (text_Center.calls (⟨#[97, 98, 99]⟩ : ByteArray) 8 45 t171 t172 _ A1.out).mono ?_); rintro e w96 ⟨rfl, hb⟩; refine ⟨_, rfl, ?_⟩; have n0_ := Aside0.mk (below_step (by repeat (first | (with_reducible first | exact HB.out | apply below_alloc | apply pw_below_drewN | apply below_drew1) | exact HB.out)) hb); clear HB; have HB := n0_; clear n0_; (try clear hb); (try clear hb2); (try clear hk); (try clear hi)) | ((with_reducible refine gate_callee (f := 42) rfl ?_); refine goesL_ (some 19) rfl rfl Tryz.func42 (by kernel_rfl) rfl #[.string (⟨#[78, 111, 119, 32, 105, 115, 32, 116, 104, 101, 32, 32, 116, 105, 109, 101]⟩ : ByteArray), .int .i64 2, .int .i64 2] rfl (by (try simp only [List.map_toArray, List.map_cons, List.map_nil]); first | done | rfl | (simp only [List.length_drop, List.length_take]; rfl)) ?_; (with_reducible refine (text_DelWord.calls (⟨#[78, 111, 119, 32, 105, 115, 32, 116, 104, 101, 32, 32, 116, 105, 109, 101]⟩ : ByteArray) 2 2 t173 t174 _ A2.out).mono ?_); rintro e w97 ⟨rfl, hb⟩; refine ⟨_, rfl, ?_⟩; have n0_ := Aside0.mk (below_step (by repeat (first | (with_reducible first | exact HB.out | apply below_alloc | apply pw_below_drewN | apply below_drew1) | exact HB.out)) hb); clear HB; have HB := n0_; clear n0_; (try clear hb); (try clear hb2); (try clear hk); (try clear hi)) | ((with_reducible refine gate_callee (f := 58) rfl ?_); refine goesL_ (some 23) rfl rfl Tryz.func58 (by kernel_rfl) rfl #[.string (⟨#[32]⟩ : ByteArray), .string (⟨#[97, 98, 99, 32, 100, 101, 102, 32, 103, 104, 105]⟩ : ByteArray), .int .i64 7] rfl (by (try simp only [List.map_toArray, List.map_cons, List.map_nil]); first | done | rfl | (simp only [List.length_drop, List.length_take]; rfl)) ?_; (with_reducible refine (text_LastPos.calls k (⟨#[32]⟩ : ByteArray) (⟨#[97, 98, 99, 32, 100, 101, 102, 32, 103, 104, 105]⟩ : ByteArray) 7 t175 t176 _ A3.out).mono ?_); rintro e w98 ⟨rfl, hb⟩; refine ⟨_, rfl, ?_⟩; have n0_ := Aside0.mk (below_step (by repeat (first | (with_reducible first | exact HB.out | apply below_alloc | apply pw_below_drewN | apply below_drew1) | exact HB.out)) hb); clear HB; have HB := n0_; clear n0_; (try clear hb); (try clear hb2); (try clear hk); (try clear hi)) | ((with_reducible refine gate_callee (f := 24) rfl ?_); refine goesL_ (some 27) rfl rfl Tryz.func24 (by kernel_rfl) rfl #[.string (⟨#[97, 98, 99, 100, 101, 102]⟩ : ByteArray), .string (⟨#[49, 50]⟩ : ByteArray), .string (⟨#[101, 99]⟩ : ByteArray), .int .u8 46] rfl (by (try simp only [List.map_toArray, List.map_cons, List.map_nil]); first | done | rfl | (simp only [List.length_drop, List.length_take]; rfl)) ?_; (with_reducible refine (text_Translate.calls (⟨#[97, 98, 99, 100, 101, 102]⟩ : ByteArray) (⟨#[49, 50]⟩ : ByteArray) (⟨#[101, 99]⟩ : ByteArray) 46 t177 t178 _ A4.out).mono ?_); rintro e w99 ⟨rfl, hb⟩; refine ⟨_, rfl, ?_⟩; have n0_ := Aside0.mk (below_step (by repeat (first | (with_reducible first | exact HB.out | apply below_alloc | apply pw_below_drewN | apply below_drew1) | exact HB.out)) hb); clear HB; have HB := n0_; clear n0_; (try clear hb); (try clear hb2); (try clear hk); (try clear hi)) | ((with_reducible refine gate_callee (f := 19) rfl ?_); refine goesL_ (some 31) rfl rfl Tryz.func19 (by kernel_rfl) rfl #[.string (⟨#[65]⟩ : ByteArray), .string (⟨#[65]⟩ : ByteArray), .int .i64 (-1)] rfl (by (try simp only [List.map_toArray, List.map_cons, List.map_nil]); first | done | rfl | (simp only [List.length_drop, List.length_take]; rfl)) ?_; (with_reducible refine (text_BitXor.calls (⟨#[65]⟩ : ByteArray) (⟨#[65]⟩ : ByteArray) (-1) t179 t180 _ A5.out).mono ?_); rintro e w100 ⟨rfl, hb⟩; refine ⟨_, rfl, ?_⟩; have n0_ := Aside0.mk (below_step (by repeat (first | (with_reducible first | exact HB.out | apply below_alloc | apply pw_below_drewN | apply below_drew1) | exact HB.out)) hb); clear HB; have HB := n0_; clear n0_; (try clear hb); (try clear hb2); (try clear hk); (try clear hi)) | ((with_reducible refine gate_callee (f := 76) rfl ?_); refine goesL_ (some 35) rfl rfl Tryz.func76 (by kernel_rfl) rfl #[.string (⟨#[54, 49, 54, 50]⟩ : ByteArray)] rfl (by (try simp only [List.map_toArray, List.map_cons, List.map_nil]); first | done | rfl | (simp only [List.length_drop, List.length_take]; rfl)) ?_; (with_reducible refine (text_X2C.calls k (⟨#[54, 49, 54, 50]⟩ : ByteArray) t181 t182 _ (TabOK.of_below hT (by repeat (first | (with_reducible first | exact HB.out | apply below_alloc | apply pw_below_drewN | apply below_drew1) | exact HB.out))) A6.out).mono ?_); rintro e w101 ⟨rfl, hb⟩; refine ⟨_, rfl, ?_⟩; have n0_ := Aside0.mk (below_step (by repeat (first | (with_reducible first | exact HB.out | apply below_alloc | apply pw_below_drewN | apply below_drew1) | exact HB.out)) hb); clear HB; have HB := n0_; clear n0_; (try clear hb); (try clear hb2); (try clear hk); (try clear hi)))
    go_ret
    exact ⟨by first | rfl | (simp [errW_none, errW_some] <;> rfl) | (simp [*, errW_none, errW_some] <;> rfl), by repeat (first | (with_reducible first | exact HB.out | apply below_alloc | apply pw_below_drewN | apply below_drew1) | exact HB.out)⟩

end Go.Proofs.YtlekfhnlhdmekaaGreatDoor.T

-- Written by a program of this session (mp.py over the kit's print.py), out of the translation.
namespace Go.Proofs.YtlekfhnlhdmekaaGreatDoor.T
set_option linter.unusedSimpArgs false
open Go.RowKit Go.Proofs.YtlekfhnlhdmekaaGreatDoorW.PrintWords Go.Proofs.YtlekfhnlhdmekaaGreatDoorW.PrintLast Go.Proofs.YtlekfhnlhdmekaaGreatDoorW.PrintMore
attribute [local go_sem] max2_int min2_int max_two min_two max_three min_three max_four min_four   -- for this text's walks alone
set_option linter.unusedVariables false
set_option linter.unusedSimpArgs false

/-! ### text_C2X: function 75 -/
def text_C2X.l0 : Nat → ByteArray → List Int → Int → Int → Option (ByteArray × Int)
  | 0, _, _, _, _ => none
  | k + 1, x0, x5, x14, x15 => if x15 < x14 then (if 0 ≤ x15 then (if x15 < (x0.size : Int) then (if 0 ≤ ((bt x0 x15) / 16) then (if ((bt x0 x15) / 16) < 16 then (if 0 ≤ (Go.bits .and .u8 (bt x0 x15) 15) then (if (Go.bits .and .u8 (bt x0 x15) 15) < 16 then ((some (([bt (⟨#[48, 49, 50, 51, 52, 53, 54, 55, 56, 57, 65, 66, 67, 68, 69, 70]⟩ : ByteArray) ((bt x0 x15) / 16), bt (⟨#[48, 49, 50, 51, 52, 53, 54, 55, 56, 57, 65, 66, 67, 68, 69, 70]⟩ : ByteArray) (Go.bits .and .u8 (bt x0 x15) 15)] : List Int) : List Int)).bind fun y857 => (if x5.length + y857.length < 140737488355328 then (text_C2X.l0 k x0 (x5 ++ y857) x14 (wrap64 (x15 + 1))) else (none))) else (none)) else (none)) else (none)) else (none)) else (none)) else (none)) else ((text_made.f (strOfNums x5)).bind fun bt863 => (some (bt863.1, bt863.2)))
def text_C2X.f (k : Nat) (a0 : ByteArray) : Option (ByteArray × Int) := (text_valid.f (([a0] : List ByteArray))).bind fun t856 => (if t856 = 0 then (text_C2X.l0 k a0 ([] : List Int) (a0.size : Int) 0) else (some ((⟨#[]⟩ : ByteArray), t856)))
theorem text_C2X.mono_l : ∀ k, (∀ y0 y1 y2 y3, LeO (text_C2X.l0 k y0 y1 y2 y3) (text_C2X.l0 (k + 1) y0 y1 y2 y3))
  | 0 => fun _ _ _ _ r h => by simp [text_C2X.l0] at h
  | k + 1 => by
    have ih0 := text_C2X.mono_l k
    · intro y0 y1 y2 y3
      unfold text_C2X.l0
      repeat' first
      | (with_reducible exact ih0 _ _ _ _)
      | (with_reducible exact LeO.refl _)
      | (with_reducible exact LeO.none _)
      | (with_reducible refine LeO.ite ?_ ?_)
      | (with_reducible refine LeO.bind ?_ (fun _ => ?_))
      | exact ih0 _ _ _ _
      | exact LeO.none _
      | refine LeO.ite ?_ ?_
      | refine LeO.bind ?_ (fun _ => ?_)
theorem text_C2X.mono : ∀ a0 k, LeO (text_C2X.f k a0) (text_C2X.f (k + 1) a0) := by
  intro a0 k
  have ih0 := text_C2X.mono_l k
  unfold text_C2X.f
  repeat' first
      | (with_reducible exact ih0 _ _ _ _)
      | (with_reducible exact LeO.refl _)
      | (with_reducible exact LeO.none _)
      | (with_reducible refine LeO.ite ?_ ?_)
      | (with_reducible refine LeO.bind ?_ (fun _ => ?_))
      | exact ih0 _ _ _ _
      | exact LeO.none _
      | refine LeO.ite ?_ ?_
      | refine LeO.bind ?_ (fun _ => ?_)
def text_C2X.T8 : Bool × List (List Nat × List Nat) := (true, [([], []), ([], []), ([], []), ([1, 2], [1, 2]), ([3], [3]), ([4], [4]), ([], []), ([], []), ([6, 7], [6, 7]), ([8], [8]), ([9], [9]), ([5, 10], [5, 10]), ([0, 11], [0, 11]), ([12, 12, 0, 1, 2, 3, 4, 5, 6, 7, 8, 9, 10, 11, 12], [0, 12])])
def text_C2X.B8 : List Nat := [0, 0, 0, 6, 14, 30, 0, 0, 192, 448, 960, 2046, 4095, 8191]
theorem text_C2X.tab8 : rtab .any (opsOf Tryz.f75 8) = text_C2X.T8 := by kernel_rfl
theorem text_C2X.bits8 : waitsOk text_C2X.T8.2 text_C2X.B8 = true := by kernel_rfl
set_option maxHeartbeats 8000000 in
set_option maxRecDepth 100000 in
theorem text_C2X.calls (k : Nat) (a0 : ByteArray) (r1 : ByteArray) (r2 : Int) (w : World) (h : text_C2X.f k a0 = some (r1, r2)) :
    Calls Tryz.prog 75 #[.string a0] w fun e w' => e = .returned (.tuple #[.string r1, .int .i64 r2]) ∧ Below w.heap.size w w' := by
  have HB := Aside0.mk (Below.refl w.heap.size w)
  have H : ((text_valid.f (([a0] : List ByteArray))).bind fun t856 => (if t856 = 0 then (text_C2X.l0 k a0 ([] : List Int) (a0.size : Int) 0) else (some ((⟨#[]⟩ : ByteArray), t856)))) = some (r1, r2) := h
  clear h
  obtain ⟨y853, hy853⟩ : ∃ y_ : List ByteArray, y_ = (([a0] : List ByteArray)) := ⟨_, rfl⟩
  replace H : ((text_valid.f y853).bind fun t856 => (if t856 = 0 then (text_C2X.l0 k a0 ([] : List Int) (a0.size : Int) 0) else (some ((⟨#[]⟩ : ByteArray), t856)))) = some (r1, r2) := by first | (rw [hy853]; with_reducible exact H) | (have H2_ := (Option.bind_some _ _).symm.trans H; rw [hy853]; with_reducible exact H2_) | (have H2_ := (Option.bind_some _ _).symm.trans H; with_reducible exact H2_) | with_reducible exact H | (rw [hy853]; exact H) | exact H
  have Ny853 := Aside0.mk hy853
  clear hy853
  replace H := Option.bind_eq_some_iff.mp H
  obtain ⟨t856, A20, H⟩ := H
  replace H : (if t856 = 0 then (text_C2X.l0 k a0 ([] : List Int) (a0.size : Int) 0) else (some ((⟨#[]⟩ : ByteArray), t856))) = some (r1, r2) := H
  have A2 := Aside0.mk A20
  clear A20
  by_cases c3 : t856 = 0
  · rw [if_pos c3] at H
    have c3b0 : (t856 == 0) = true := beq_iff_eq.mpr c3
    have c3b1 : (t856 != 0) = false := bne_eq_false_iff_eq.mpr c3
    clear c3
    have H' := Aside0.mk H
    clear H
    go_enter Tryz.func75, Tryz.ntmps75
    go_wp2_with (first | ((with_reducible refine gate_dst (N := 8) rfl ?_); refine Kd.R_lit Kd.string _ 9 ?hg (N := 8) ?hd (xs := ([a0] : List ByteArray)) (inner := [.string a0]) (ok := fun _ => True) (okp := fun _ => True) ?hr ?hp (fun _ hk => hk) trivial (Below.refl _ _) (Nat.le_refl _) (by simp) ?_; (case hd => rfl); (case hg => rfl); (case hr => first | (go_simp; done) | (go_simp; rfl)); (case hp => exact (Reps.one (show Kd.M Kd.string _ _ _ a0 [.string a0] from rfl) (Reps.none _ _))); intro v854 w4 ho5 hb hg_ hnew_; clear hg_ hnew_; (first | rw [← Ny853.out] at ho5 | (simp only [Int.reduceToNat] at ho5; rw [← Ny853.out] at ho5)); have n0_ := Aside0.mk (Kd.R_lower ho5 (below_size (by repeat (first | (with_reducible first | exact HB.out | apply below_alloc | apply pw_below_drewN | apply below_drew1) | exact HB.out)))); have n1_ := Aside0.mk (below_step (by repeat (first | (with_reducible first | exact HB.out | apply below_alloc | apply pw_below_drewN | apply below_drew1) | exact HB.out)) hb); clear HB; have HO855 := n0_; have HB := n1_; clear n0_ n1_; clear hb ho5; obtain ⟨Ao6, co6, eo6⟩ := Kd.R_slice HO855.out; subst eo6) | ((with_reducible refine gate_callee (f := 93) rfl ?_); refine goesL_ (some 9) rfl rfl Tryz.func93 (by kernel_rfl) rfl #[.slice Ao6 y853.length co6] rfl (by (try simp only [List.map_toArray, List.map_cons, List.map_nil]); first | done | rfl | (simp only [List.length_drop, List.length_take]; rfl)) ?_; (with_reducible refine (text_valid.calls _ _ y853 t856 _ ?side1 ?side2 A2.out).mono ?_); (case side1 => repeat (first | exact (Kd.R_reads' HO855.out).2.2 | (with_reducible refine Kd.C_alloc ?_ _) | (with_reducible refine Kd.C_drewN ?_ _) | (with_reducible refine Kd.C_drew ?_))); (case side2 => exact (Kd.R_reads' HO855.out).2.1); rintro e w7 ⟨rfl, hb⟩; refine ⟨_, rfl, ?_⟩; have n0_ := Aside0.mk (Kd.R_below (by (with_reducible repeat (first | apply Kd.R_alloc | apply Kd.R_drewN | apply Kd.R_drew)); exact HO855.out) hb); have n1_ := Aside0.mk (below_step (by repeat (first | (with_reducible first | exact HB.out | apply below_alloc | apply pw_below_drewN | apply below_drew1) | exact HB.out)) hb); clear HO855; clear HB; have HO855 := n0_; have HB := n1_; clear n0_ n1_; (try clear hb); (try clear hb2); (try clear hk); (try clear hi)))
    go_loopg [5, 15] k (fun kq v5 v15 w' => ∃ (x5_1 : List Int) (x15_1 : Int), v15 = .int .i64 x15_1 ∧ Aside0 (text_C2X.l0 kq a0 x5_1 (a0.size : Int) x15_1 = some (r1, r2)) ∧ Aside0 (kq ≤ k) ∧ Aside0 (Kd.R (Kd.int .u8) 5 w' w.heap.size (fun _ => True) v5 x5_1) ∧ Aside0 (Below w.heap.size w w'))
    case atStart => exact ⟨(([] : List Int)), (0), (by first | rfl | (simp; done) | (simp [*]; done)), H', ⟨Nat.le_refl _⟩, ⟨by first | exact Kd.R_nil _ _ _ _ _ | exact Kd.N_nil _ _ _ _ _ | exact Kd.V_nil _ _ _ _ _ | exact Kd.Q_nil _ _ _ _ _ | exact Kd.S_nil _ _ _ _ _⟩, ⟨by repeat (first | (with_reducible first | exact HB.out | apply below_alloc | apply pw_below_drewN | apply below_drew1) | exact HB.out)⟩⟩
    case round =>
      clear H'
      try clear p2
      try clear c3
      try clear c3b0
      try clear c3b1
      try clear c7
      obtain ⟨x5_1, x15_1, rfl, HA, HK1, HO_5, HB⟩ := hrel
      cases gk with
      | zero => exact absurd HA.out (by simp [text_C2X.l0])
      | succ k1 =>
        have H := HA.out
        clear HA
        simp only [text_C2X.l0] at H
        by_cases c8 : x15_1 < (a0.size : Int)
        · rw [if_pos c8] at H
          have c8b0 : decide (x15_1 < (a0.size : Int)) = true := decide_eq_true c8
          clear c8
          by_cases c9 : 0 ≤ x15_1
          · rw [if_pos c9] at H
            have c9b0 : decide (0 ≤ x15_1) = true := decide_eq_true c9
            clear c9
            by_cases c10 : x15_1 < (a0.size : Int)
            · rw [if_pos c10] at H
              have c10b0 : decide (x15_1 < (a0.size : Int)) = true := decide_eq_true c10
              clear c10
              obtain ⟨ji12, hji12⟩ : ∃ j_ : Int, ((bt a0 x15_1) / 16) = j_ := ⟨_, rfl⟩
              replace H : (if 0 ≤ (ji12) then (if (ji12) < 16 then (if 0 ≤ (Go.bits .and .u8 (bt a0 x15_1) 15) then (if (Go.bits .and .u8 (bt a0 x15_1) 15) < 16 then ((some (([bt (⟨#[48, 49, 50, 51, 52, 53, 54, 55, 56, 57, 65, 66, 67, 68, 69, 70]⟩ : ByteArray) (ji12), bt (⟨#[48, 49, 50, 51, 52, 53, 54, 55, 56, 57, 65, 66, 67, 68, 69, 70]⟩ : ByteArray) (Go.bits .and .u8 (bt a0 x15_1) 15)] : List Int) : List Int)).bind fun y857 => (if x5_1.length + y857.length < 140737488355328 then (text_C2X.l0 k1 a0 (x5_1 ++ y857) (a0.size : Int) (wrap64 (x15_1 + 1))) else (none))) else (none)) else (none)) else (none)) else (none)) = some (r1, r2) := by first | (rw [hji12] at H; exact H) | (simp only [hji12] at H ⊢; exact H)
              by_cases c13 : 0 ≤ (ji12)
              · rw [if_pos c13] at H
                have c13b0 : decide (0 ≤ (ji12)) = true := decide_eq_true c13
                clear c13
                by_cases c14 : (ji12) < 16
                · rw [if_pos c14] at H
                  have c14b0 : decide ((ji12) < 16) = true := decide_eq_true c14
                  clear c14
                  by_cases c17 : 0 ≤ (Go.bits .and .u8 (bt a0 x15_1) 15)
                  · rw [if_pos c17] at H
                    have c17b0 : decide (0 ≤ (Go.bits .and .u8 (bt a0 x15_1) 15)) = true := decide_eq_true c17
                    clear c17
                    by_cases c18 : (Go.bits .and .u8 (bt a0 x15_1) 15) < 16
                    · rw [if_pos c18] at H
                      have c18b0 : decide ((Go.bits .and .u8 (bt a0 x15_1) 15) < 16) = true := decide_eq_true c18
                      clear c18
                      obtain ⟨y857, hy857⟩ : ∃ y_ : List Int, y_ = (([bt (⟨#[48, 49, 50, 51, 52, 53, 54, 55, 56, 57, 65, 66, 67, 68, 69, 70]⟩ : ByteArray) (ji12), bt (⟨#[48, 49, 50, 51, 52, 53, 54, 55, 56, 57, 65, 66, 67, 68, 69, 70]⟩ : ByteArray) (Go.bits .and .u8 (bt a0 x15_1) 15)] : List Int)) := ⟨_, rfl⟩
                      replace H : (if x5_1.length + y857.length < 140737488355328 then (text_C2X.l0 k1 a0 (x5_1 ++ y857) (a0.size : Int) (wrap64 (x15_1 + 1))) else (none)) = some (r1, r2) := by first | (rw [hy857]; with_reducible exact H) | (have H2_ := (Option.bind_some _ _).symm.trans H; rw [hy857]; with_reducible exact H2_) | (have H2_ := (Option.bind_some _ _).symm.trans H; with_reducible exact H2_) | with_reducible exact H | (rw [hy857]; exact H) | exact H
                      have Ny857 := Aside0.mk hy857
                      clear hy857
                      by_cases c20 : x5_1.length + y857.length < 140737488355328
                      · rw [if_pos c20] at H
                        have LMc20 := Aside0.mk c20
                        clear c20
                        obtain ⟨y860, hy860⟩ : ∃ y_ : List Int, y_ = (x5_1 ++ y857) := ⟨_, rfl⟩
                        replace H : (text_C2X.l0 k1 a0 y860 (a0.size : Int) (wrap64 (x15_1 + 1))) = some (r1, r2) := by first | (rw [hy860]; with_reducible exact H) | (have H2_ := (Option.bind_some _ _).symm.trans H; rw [hy860]; with_reducible exact H2_) | (have H2_ := (Option.bind_some _ _).symm.trans H; with_reducible exact H2_) | with_reducible exact H | (rw [hy860]; exact H) | exact H
                        have Ny860 := Aside0.mk hy860
                        clear hy860
                        have H' := Aside0.mk H
                        clear H
                        try go_wp2
                        have n0_ := Aside0.mk (Kd.R_drew HO_5.out)
                        have n1_ := Aside0.mk (below_drew1 HB.out)
                        clear HO_5
                        clear HB
                        have HO_5 := n0_
                        have HB := n1_
                        clear n0_ n1_
                        have p11 : 0 ≤ (x15_1 : Int) := of_decide_eq_true (by first | (with_reducible assumption) | assumption)
                        have q11 : x15_1 < (a0.size : Int) := of_decide_eq_true (by first | (with_reducible assumption) | assumption)
                        have hx11 := bt_at a0 x15_1
                        replace p11 := eq_true p11
                        replace q11 := eq_true q11
                        have p15 : 0 ≤ ((ji12) : Int) := of_decide_eq_true (by first | (with_reducible assumption) | assumption)
                        have q15 : (ji12) < (16 : Int) := of_decide_eq_true (by first | (with_reducible assumption) | assumption)
                        have hx15 := bt_at (⟨#[48, 49, 50, 51, 52, 53, 54, 55, 56, 57, 65, 66, 67, 68, 69, 70]⟩ : ByteArray) (ji12)
                        replace p15 := eq_true p15
                        replace q15 := eq_true q15
                        have p16 : 0 ≤ (x15_1 : Int) := of_decide_eq_true (by first | (with_reducible assumption) | assumption)
                        have q16 : x15_1 < (a0.size : Int) := of_decide_eq_true (by first | (with_reducible assumption) | assumption)
                        have hx16 := bt_at a0 x15_1
                        replace p16 := eq_true p16
                        replace q16 := eq_true q16
                        have p19 : 0 ≤ ((Go.bits .and .u8 (bt a0 x15_1) 15) : Int) := of_decide_eq_true (by first | (with_reducible assumption) | assumption)
                        have q19 : (Go.bits .and .u8 (bt a0 x15_1) 15) < (16 : Int) := of_decide_eq_true (by first | (with_reducible assumption) | assumption)
                        have hx19 := bt_at (⟨#[48, 49, 50, 51, 52, 53, 54, 55, 56, 57, 65, 66, 67, 68, 69, 70]⟩ : ByteArray) (Go.bits .and .u8 (bt a0 x15_1) 15)
                        replace p19 := eq_true p19
                        replace q19 := eq_true q19
                        refine start_ (n := 14) (S := fun w' => True) (ds := []) #[false, false, false, false, false, false, false, false, false, false, false, false, false, false] (by kernel_rfl) rfl rfl trivial (fun hHeld => ?_); refine with_tabW text_C2X.tab8 text_C2X.bits8 (fun HT_ HW_ => ?_)
                        generalize wr.drew = w21 at HO_5 HB hHeld ⊢
                        refine pure_ (i := 0) (N := some 18) (v := ?_) (a' := ?_) #[true, false, false, false, false, false, false, false, false, false, false, false, false, false] rfl rfl (any_of HT_.out (by kernel_rfl)) (fun _ _ _ h => h) (Or.inl ⟨by rfl, ?_⟩) ?_ ?_
                        rotate_left
                        · intro w'
                          go_simp
                          with_reducible rfl
                        rotate_left
                        · simp only [Act.put, List.setIfInBounds_toArray, List.set_cons_zero, List.set_cons_succ, i64_w, i32_w]
                          rfl
                        refine pure_ (i := 1) (N := some 19) (v := ?_) (a' := ?_) #[true, true, false, false, false, false, false, false, false, false, false, false, false, false] rfl rfl (any_of HT_.out (by kernel_rfl)) (fun _ _ _ h => h) (Or.inl ⟨by rfl, ?_⟩) ?_ ?_
                        rotate_left
                        · intro w'
                          go_simp
                          with_reducible rfl
                        rotate_left
                        · simp only [Act.put, List.setIfInBounds_toArray, List.set_cons_zero, List.set_cons_succ, i64_w, i32_w]
                          rfl
                        refine pure_ (i := 2) (N := some 20) (v := ?_) (a' := ?_) #[true, true, true, false, false, false, false, false, false, false, false, false, false, false] rfl rfl (any_of HT_.out (by kernel_rfl)) (fun _ _ _ h => h) (Or.inl ⟨by rfl, ?_⟩) ?_ ?_
                        rotate_left
                        · intro w'
                          go_simp
                          with_reducible rfl
                        rotate_left
                        · simp only [Act.put, List.setIfInBounds_toArray, List.set_cons_zero, List.set_cons_succ, i64_w, i32_w]
                          rfl
                        refine pure_ (i := 6) (N := some 24) (v := ?_) (a' := ?_) #[true, true, true, false, false, false, true, false, false, false, false, false, false, false] rfl rfl (any_of HT_.out (by kernel_rfl)) (fun _ _ _ h => h) (Or.inl ⟨by rfl, ?_⟩) ?_ ?_
                        rotate_left
                        · intro w'
                          go_simp
                          with_reducible rfl
                        rotate_left
                        · simp only [Act.put, List.setIfInBounds_toArray, List.set_cons_zero, List.set_cons_succ, i64_w, i32_w]
                          rfl
                        refine pure_ (i := 7) (N := some 25) (v := ?_) (a' := ?_) #[true, true, true, false, false, false, true, true, false, false, false, false, false, false] rfl rfl (any_of HT_.out (by kernel_rfl)) (fun _ _ _ h => h) (Or.inl ⟨by rfl, ?_⟩) ?_ ?_
                        rotate_left
                        · intro w'
                          go_simp
                          with_reducible rfl
                        rotate_left
                        · simp only [Act.put, List.setIfInBounds_toArray, List.set_cons_zero, List.set_cons_succ, i64_w, i32_w]
                          rfl
                        refine take_ (i := 3) (N := some 21) (v := ?_) (a' := ?_) #[true, true, true, true, false, false, true, true, false, false, false, false, false, false] rfl rfl (take_ofW HT_.out HW_.out (by kernel_rfl)) (fun _ _ _ h => h) (Or.inl ⟨by rfl, ?_⟩) hHeld ?_ ?_
                        rotate_left
                        · intro w' _
                          go_simp
                          with_reducible rfl
                        rotate_left
                        · simp only [Act.put, List.setIfInBounds_toArray, List.set_cons_zero, List.set_cons_succ, i64_w, i32_w]
                          rfl
                        refine pure_ (i := 4) (N := some 22) (v := ?_) (a' := ?_) #[true, true, true, true, true, false, true, true, false, false, false, false, false, false] rfl rfl (any_of HT_.out (by kernel_rfl)) (fun _ _ _ h => h) (Or.inl ⟨by rfl, ?_⟩) ?_ ?_
                        rotate_left
                        · intro w'
                          go_simp
                          with_reducible rfl
                        rotate_left
                        · simp only [Act.put, List.setIfInBounds_toArray, List.set_cons_zero, List.set_cons_succ, i64_w, i32_w]
                          rfl
                        refine take_ (i := 5) (N := some 23) (v := ?_) (a' := ?_) #[true, true, true, true, true, true, true, true, false, false, false, false, false, false] rfl rfl (take_ofW HT_.out HW_.out (by kernel_rfl)) (fun _ _ _ h => h) (Or.inl ⟨by rfl, ?_⟩) hHeld ?_ ?_
                        rotate_left
                        · intro w' _
                          go_simp
                          with_reducible rfl
                        rotate_left
                        · simp only [Act.put, List.setIfInBounds_toArray, List.set_cons_zero, List.set_cons_succ, i64_w, i32_w]
                          rfl
                        refine take_ (i := 8) (N := some 26) (v := ?_) (a' := ?_) #[true, true, true, true, true, true, true, true, true, false, false, false, false, false] rfl rfl (take_ofW HT_.out HW_.out (by kernel_rfl)) (fun _ _ _ h => h) (Or.inl ⟨by rfl, ?_⟩) hHeld ?_ ?_
                        rotate_left
                        · intro w' _
                          go_simp
                          with_reducible rfl
                        rotate_left
                        · simp only [Act.put, List.setIfInBounds_toArray, List.set_cons_zero, List.set_cons_succ, i64_w, i32_w]
                          rfl
                        refine pure_ (i := 9) (N := some 27) (v := ?_) (a' := ?_) #[true, true, true, true, true, true, true, true, true, true, false, false, false, false] rfl rfl (any_of HT_.out (by kernel_rfl)) (fun _ _ _ h => h) (Or.inl ⟨by rfl, ?_⟩) ?_ ?_
                        rotate_left
                        · intro w'
                          go_simp
                          with_reducible rfl
                        rotate_left
                        · simp only [Act.put, List.setIfInBounds_toArray, List.set_cons_zero, List.set_cons_succ, i64_w, i32_w]
                          rfl
                        refine take_ (i := 10) (N := some 28) (v := ?_) (a' := ?_) #[true, true, true, true, true, true, true, true, true, true, true, false, false, false] rfl rfl (take_ofW HT_.out HW_.out (by kernel_rfl)) (fun _ _ _ h => h) (Or.inl ⟨by rfl, ?_⟩) hHeld ?_ ?_
                        rotate_left
                        · intro w' _
                          go_simp
                          with_reducible rfl
                        rotate_left
                        · simp only [Act.put, List.setIfInBounds_toArray, List.set_cons_zero, List.set_cons_succ, i64_w, i32_w]
                          rfl
                        refine one_ (i := 11) (N := some 29) #[true, true, true, true, true, true, true, true, true, true, true, true, false, false] rfl rfl (one_of HT_.out (by kernel_rfl)) (by decide) (fun K hK => ?_)
                        refine Kd.R_lit_step (Kd.int .u8) _ 5 ?hg (N := 29) ?hd (xs := ([bt (⟨#[48, 49, 50, 51, 52, 53, 54, 55, 56, 57, 65, 66, 67, 68, 69, 70]⟩ : ByteArray) (ji12), bt (⟨#[48, 49, 50, 51, 52, 53, 54, 55, 56, 57, 65, 66, 67, 68, 69, 70]⟩ : ByteArray) (Go.bits .and .u8 (bt a0 x15_1) 15)] : List Int)) (inner := [.int .u8 (bt (⟨#[48, 49, 50, 51, 52, 53, 54, 55, 56, 57, 65, 66, 67, 68, 69, 70]⟩ : ByteArray) (ji12)), .int .u8 (bt (⟨#[48, 49, 50, 51, 52, 53, 54, 55, 56, 57, 65, 66, 67, 68, 69, 70]⟩ : ByteArray) (Go.bits .and .u8 (bt a0 x15_1) 15))]) (ok := fun _ => True) (okp := fun _ => True) ?hr ?hp (fun _ hk => hk) trivial (Below.refl _ _) (Nat.le_refl _) (by simp) ?_; (case hd => rfl); (case hg => rfl); (case hr => first | (go_simp; done) | (go_simp; rfl)); (case hp => exact (Reps.one (show Kd.M (Kd.int .u8) _ _ _ (bt (⟨#[48, 49, 50, 51, 52, 53, 54, 55, 56, 57, 65, 66, 67, 68, 69, 70]⟩ : ByteArray) (ji12)) [.int .u8 (bt (⟨#[48, 49, 50, 51, 52, 53, 54, 55, 56, 57, 65, 66, 67, 68, 69, 70]⟩ : ByteArray) (ji12))] from rfl) (Reps.one (show Kd.M (Kd.int .u8) _ _ _ (bt (⟨#[48, 49, 50, 51, 52, 53, 54, 55, 56, 57, 65, 66, 67, 68, 69, 70]⟩ : ByteArray) (Go.bits .and .u8 (bt a0 x15_1) 15)) [.int .u8 (bt (⟨#[48, 49, 50, 51, 52, 53, 54, 55, 56, 57, 65, 66, 67, 68, 69, 70]⟩ : ByteArray) (Go.bits .and .u8 (bt a0 x15_1) 15))] from rfl) (Reps.none _ _))))
                        intro v858 w22 ho23 hb hg_ hnew_
                        clear hg_ hnew_
                        (first | rw [← Ny857.out] at ho23 | (simp only [Int.reduceToNat] at ho23; rw [← Ny857.out] at ho23))
                        have n0_ := Aside0.mk (Kd.R_elder' (by (with_reducible repeat (first | apply Kd.R_alloc | apply Kd.R_drewN | apply Kd.R_drew)); exact HO_5.out) (Kd.R_base ho23) hb)
                        have n1_ := Aside0.mk (Kd.R_lower (Kd.R_new' ho23 (Kd.R_lt (by (with_reducible repeat (first | apply Kd.R_alloc | apply Kd.R_drewN | apply Kd.R_drew)); exact HO_5.out))) (below_size (by repeat (first | (with_reducible first | exact HB.out | apply below_alloc | apply pw_below_drewN | apply below_drew1) | exact HB.out))))
                        have n2_ := Aside0.mk (below_step (by repeat (first | (with_reducible first | exact HB.out | apply below_alloc | apply pw_below_drewN | apply below_drew1) | exact HB.out)) hb)
                        clear HO_5
                        clear HB
                        have HO_5 := n0_
                        have HO859 := n1_
                        have HB := n2_
                        clear n0_ n1_ n2_
                        clear hb ho23
                        obtain ⟨Ao25, co25, eo25⟩ := Kd.R_slice HO859.out
                        (first | subst eo25 | (injection eo25 with f1_ f2_ f3_; have f4_ := f1_.symm; have f5_ := f3_.symm; clear f1_ f2_ f3_; subst f4_; subst f5_))
                        refine hK.out _ _ trivial (fun hHeld => ?_)
                        clear hK K
                        refine norm_ (a' := ?_) ?_ ?_
                        rotate_left
                        · show Act.put _ (some 29) _ = _
                          simp only [Act.put, List.setIfInBounds_toArray, List.set_cons_zero, List.set_cons_succ, i64_w, i32_w]
                          rfl
                        refine one_ (i := 12) (N := some 30) #[true, true, true, true, true, true, true, true, true, true, true, true, true, false] rfl rfl (one_of HT_.out (by kernel_rfl)) (by decide) (fun K hK => ?_)
                        refine Kd.R_append_rows_step (Kd.int .u8) (w0 := w) w.heap.size (by rfl) (.tmp 18) (.tmp 29) 83 5 (.int .u8 0) 1 rfl Tryz.underlying83 info5 rfl (by decide) (by omega) u5 x5_1 y857 _ _ _ (fun k_ => some k_ ≠ (.slice Ao25 y857.length co25 : Value).ownBlock) (fun _ => False) rfl rfl ?aO ?aR (fun _ _ h => h) (fun _ h => h.elim) ?aF ?aB ?aS ?aL ?_
                        (case aR => repeat (first | exact (Kd.R_reads' HO859.out).2.2 | (with_reducible refine Kd.C_alloc ?_ _) | (with_reducible refine Kd.C_drewN ?_ _) | (with_reducible refine Kd.C_drew ?_)))
                        (case aB => exact (by repeat (first | (with_reducible first | exact HB.out | apply below_alloc | apply pw_below_drewN | apply below_drew1) | exact HB.out)))
                        (case aF => exact (fun k_ hk => Kd.fresh' (Kd.R_lt (by (with_reducible repeat (first | apply Kd.R_alloc | apply Kd.R_drewN | apply Kd.R_drew)); exact HO859.out)) k_ hk))
                        (case aO => exact (by (with_reducible repeat (first | apply Kd.R_alloc | apply Kd.R_drewN | apply Kd.R_drew)); exact Kd.R_mono HO_5.out (fun _ hk => hk.2)))
                        (case aS => exact (below_size (by repeat (first | (with_reducible first | exact HB.out | apply below_alloc | apply pw_below_drewN | apply below_drew1) | exact HB.out))))
                        (case aL => have := LMc20.out; omega)
                        intro v861 w24 ho hb hg hat
                        rw [← Ny860.out] at ho
                        have n0_ := Aside0.mk (Kd.R_after (ok := (fun _ => True)) (by (with_reducible repeat (first | apply Kd.R_alloc | apply Kd.R_drewN | apply Kd.R_drew)); exact HO859.out) hg hat)
                        have n1_ := Aside0.mk (hb)
                        have n2_ := Aside0.mk (ho)
                        clear HO859
                        clear HB
                        clear HO_5
                        have HO859 := n0_
                        have HB := n1_
                        have HO862 := n2_
                        clear n0_ n1_ n2_
                        clear ho hb hg hat
                        refine hK.out _ _ trivial (fun hHeld => ?_)
                        clear hK K
                        refine norm_ (a' := ?_) ?_ ?_
                        rotate_left
                        · show Act.put _ (some 30) _ = _
                          simp only [Act.put, List.setIfInBounds_toArray, List.set_cons_zero, List.set_cons_succ, i64_w, i32_w]
                          rfl
                        refine pure_ (i := 13) (N := some 5) (v := ?_) (a' := ?_) #[true, true, true, true, true, true, true, true, true, true, true, true, true, true] rfl rfl (any_of HT_.out (by kernel_rfl)) (fun _ _ _ h => h) (Or.inl ⟨by rfl, ?_⟩) ?_ ?_
                        rotate_left
                        · intro w'
                          go_simp
                          with_reducible rfl
                        rotate_left
                        · simp only [Act.put, List.setIfInBounds_toArray, List.set_cons_zero, List.set_cons_succ, i64_w, i32_w]
                          rfl
                        refine done_ (done_of HT_.out (by kernel_rfl)) ?_
                        try go_wp2
                        go_roundg k1
                        case measure => have := HK1.out; omega
                        case rel => exact ⟨(y860), (wrap64 (x15_1 + 1)), (by first | rfl | (simp; done) | (simp [*]; done)), H', ⟨by have := HK1.out; omega⟩, ⟨by (with_reducible repeat (first | apply Kd.R_alloc | apply Kd.R_drewN | apply Kd.R_drew)); exact Kd.R_mono HO862.out (fun _ hk => trivial)⟩, ⟨by repeat (first | (with_reducible first | exact HB.out | apply below_alloc | apply pw_below_drewN | apply below_drew1) | exact HB.out)⟩⟩
                      · rw [if_neg c20] at H
                        exact absurd H (by simp)
                    · rw [if_neg c18] at H
                      exact absurd H (by simp)
                  · rw [if_neg c17] at H
                    exact absurd H (by simp)
                · rw [if_neg c14] at H
                  exact absurd H (by simp)
              · rw [if_neg c13] at H
                exact absurd H (by simp)
            · rw [if_neg c10] at H
              exact absurd H (by simp)
          · rw [if_neg c9] at H
            exact absurd H (by simp)
        · rw [if_neg c8] at H
          have c8b0 : decide (x15_1 < (a0.size : Int)) = false := decide_eq_false c8
          clear c8
          replace H := Option.bind_eq_some_iff.mp H
          obtain ⟨⟨t863, t864⟩, A260, H⟩ := H
          replace H : (some (t863, t864)) = some (r1, r2) := H
          have A26 := Aside0.mk A260
          clear A260
          simp only [Option.some.injEq, Prod.mk.injEq] at H
          obtain ⟨rfl, rfl⟩ := H
          have hcv27 := own_string (P := Tryz.prog) Tryz.underlying83 Tryz.underlying5 Tryz.underlying9 (Kd.own_of_R HO_5.out)
          go_wp2_with (first | ((with_reducible refine gate_callee (f := 113) rfl ?_); refine goesL_ (some 34) rfl rfl Tryz.func113 (by kernel_rfl) rfl #[.string (strOfNums x5_1)] rfl (by (try simp only [List.map_toArray, List.map_cons, List.map_nil]); first | done | rfl | (simp only [List.length_drop, List.length_take]; rfl)) ?_; (with_reducible refine (text_made.calls (strOfNums x5_1) t863 t864 _ A26.out).mono ?_); rintro e w28 ⟨rfl, hb⟩; refine ⟨_, rfl, ?_⟩; have n0_ := Aside0.mk (Kd.R_below (by (with_reducible repeat (first | apply Kd.R_alloc | apply Kd.R_drewN | apply Kd.R_drew)); exact HO_5.out) hb); have n1_ := Aside0.mk (below_step (by repeat (first | (with_reducible first | exact HB.out | apply below_alloc | apply pw_below_drewN | apply below_drew1) | exact HB.out)) hb); clear HO_5; clear HB; have HO_5 := n0_; have HB := n1_; clear n0_ n1_; (try clear hb); (try clear hb2); (try clear hk); (try clear hi)))
          go_ret2
          exact ⟨by first | rfl | (simp [errW_none, errW_some] <;> rfl) | (simp [*, errW_none, errW_some] <;> rfl), by repeat (first | (with_reducible first | exact HB.out | apply below_alloc | apply pw_below_drewN | apply below_drew1) | exact HB.out)⟩
  · rw [if_neg c3] at H
    have c3b0 : (t856 == 0) = false := beq_eq_false_iff_ne.mpr c3
    have c3b1 : (t856 != 0) = true := bne_iff_ne.mpr c3
    simp only [Option.some.injEq, Prod.mk.injEq] at H
    obtain ⟨rfl, rfl⟩ := H
    go_enter Tryz.func75, Tryz.ntmps75
    go_wp2_with (first | ((with_reducible refine gate_dst (N := 8) rfl ?_); refine Kd.R_lit Kd.string _ 9 ?hg (N := 8) ?hd (xs := ([a0] : List ByteArray)) (inner := [.string a0]) (ok := fun _ => True) (okp := fun _ => True) ?hr ?hp (fun _ hk => hk) trivial (Below.refl _ _) (Nat.le_refl _) (by simp) ?_; (case hd => rfl); (case hg => rfl); (case hr => first | (go_simp; done) | (go_simp; rfl)); (case hp => exact (Reps.one (show Kd.M Kd.string _ _ _ a0 [.string a0] from rfl) (Reps.none _ _))); intro v854 w29 ho30 hb hg_ hnew_; clear hg_ hnew_; (first | rw [← Ny853.out] at ho30 | (simp only [Int.reduceToNat] at ho30; rw [← Ny853.out] at ho30)); have n0_ := Aside0.mk (Kd.R_lower ho30 (below_size (by repeat (first | (with_reducible first | exact HB.out | apply below_alloc | apply pw_below_drewN | apply below_drew1) | exact HB.out)))); have n1_ := Aside0.mk (below_step (by repeat (first | (with_reducible first | exact HB.out | apply below_alloc | apply pw_below_drewN | apply below_drew1) | exact HB.out)) hb); clear HB; have HO855 := n0_; have HB := n1_; clear n0_ n1_; clear hb ho30; obtain ⟨Ao31, co31, eo31⟩ := Kd.R_slice HO855.out; subst eo31) | ((with_reducible refine gate_callee (f := 93) rfl ?_); refine goesL_ (some 9) rfl rfl Tryz.func93 (by kernel_rfl) rfl #[.slice Ao31 y853.length co31] rfl (by (try simp only [List.map_toArray, List.map_cons, List.map_nil]); first | done | rfl | (simp only [List.length_drop, List.length_take]; rfl)) ?_; (with_reducible refine (text_valid.calls _ _ y853 t856 _ ?side1 ?side2 A2.out).mono ?_); (case side1 => repeat (first | exact (Kd.R_reads' HO855.out).2.2 | (with_reducible refine Kd.C_alloc ?_ _) | (with_reducible refine Kd.C_drewN ?_ _) | (with_reducible refine Kd.C_drew ?_))); (case side2 => exact (Kd.R_reads' HO855.out).2.1); rintro e w32 ⟨rfl, hb⟩; refine ⟨_, rfl, ?_⟩; have n0_ := Aside0.mk (Kd.R_below (by (with_reducible repeat (first | apply Kd.R_alloc | apply Kd.R_drewN | apply Kd.R_drew)); exact HO855.out) hb); have n1_ := Aside0.mk (below_step (by repeat (first | (with_reducible first | exact HB.out | apply below_alloc | apply pw_below_drewN | apply below_drew1) | exact HB.out)) hb); clear HO855; clear HB; have HO855 := n0_; have HB := n1_; clear n0_ n1_; (try clear hb); (try clear hb2); (try clear hk); (try clear hi)))
    go_ret2
    exact ⟨by first | rfl | (simp [errW_none, errW_some] <;> rfl) | (simp [*, errW_none, errW_some] <;> rfl), by repeat (first | (with_reducible first | exact HB.out | apply below_alloc | apply pw_below_drewN | apply below_drew1) | exact HB.out)⟩

end Go.Proofs.YtlekfhnlhdmekaaGreatDoor.T

-- Written by a program of this session (mp.py over the kit's print.py), out of the translation.
namespace Go.Proofs.YtlekfhnlhdmekaaGreatDoor.T
set_option linter.unusedSimpArgs false
open Go.RowKit Go.Proofs.YtlekfhnlhdmekaaGreatDoorW.PrintWords Go.Proofs.YtlekfhnlhdmekaaGreatDoorW.PrintLast Go.Proofs.YtlekfhnlhdmekaaGreatDoorW.PrintMore
attribute [local go_sem] max2_int min2_int max_two min_two max_three min_three max_four min_four   -- for this text's walks alone
set_option linter.unusedVariables false
set_option linter.unusedSimpArgs false

/-! ### text_B2X: function 78 -/
mutual
def text_B2X.j0 : Nat → List Int → Bool → Option (ByteArray × Int)
  | 0, _, _ => none
  | k + 1, x4, x19 => if x19 = true then (some ((⟨#[]⟩ : ByteArray), 1)) else (text_B2X.l0 k x4 ([] : List Int) 0)
def text_B2X.l0 : Nat → List Int → List Int → Int → Option (ByteArray × Int)
  | 0, _, _, _ => none
  | k + 1, x4, x6, x7 => if x7 < (x4.length : Int) then (if 0 ≤ x7 then (if 0 ≤ (wrap64 (x7 + 1)) then (if (wrap64 (x7 + 1)) < (x4.length : Int) then (if 0 ≤ (wrap64 (x7 + 2)) then (if (wrap64 (x7 + 2)) < (x4.length : Int) then (if 0 ≤ (wrap64 (x7 + 3)) then (if (wrap64 (x7 + 3)) < (x4.length : Int) then (if 0 ≤ (wrap64 ((wrap64 ((wrap64 ((wrap64 (8 * (rd x4 x7))) + (wrap64 (4 * (rd x4 (wrap64 (x7 + 1))))))) + (wrap64 (2 * (rd x4 (wrap64 (x7 + 2))))))) + (rd x4 (wrap64 (x7 + 3))))) then (if (wrap64 ((wrap64 ((wrap64 ((wrap64 (8 * (rd x4 x7))) + (wrap64 (4 * (rd x4 (wrap64 (x7 + 1))))))) + (wrap64 (2 * (rd x4 (wrap64 (x7 + 2))))))) + (rd x4 (wrap64 (x7 + 3))))) < 16 then (if x6.length < 140737488355328 then (text_B2X.l0 k x4 (x6 ++ [bt (⟨#[48, 49, 50, 51, 52, 53, 54, 55, 56, 57, 65, 66, 67, 68, 69, 70]⟩ : ByteArray) (wrap64 ((wrap64 ((wrap64 ((wrap64 (8 * (rd x4 x7))) + (wrap64 (4 * (rd x4 (wrap64 (x7 + 1))))))) + (wrap64 (2 * (rd x4 (wrap64 (x7 + 2))))))) + (rd x4 (wrap64 (x7 + 3)))))]) (wrap64 (x7 + 4))) else (none)) else (none)) else (none)) else (none)) else (none)) else (none)) else (none)) else (none)) else (none)) else (none)) else ((text_made.f (strOfNums x6)).bind fun bt879 => (some (bt879.1, bt879.2)))
end
def text_B2X.f (k : Nat) (a0 : ByteArray) : Option (ByteArray × Int) := (text_digits.f k a0 2 4).bind fun bt867 => (if bt867.2 = true then ((text_Valid.f a0).bind fun t871 => (text_B2X.j0 k bt867.1 (!t871))) else (text_B2X.j0 k bt867.1 true))
theorem text_B2X.mono_l : ∀ k, (∀ y0 y1, LeO (text_B2X.j0 k y0 y1) (text_B2X.j0 (k + 1) y0 y1)) ∧ (∀ y0 y1 y2, LeO (text_B2X.l0 k y0 y1 y2) (text_B2X.l0 (k + 1) y0 y1 y2))
  | 0 => ⟨fun _ _ r h => by simp [text_B2X.j0] at h, fun _ _ _ r h => by simp [text_B2X.l0] at h⟩
  | k + 1 => by
    obtain ⟨ih0, ih1⟩ := text_B2X.mono_l k
    refine ⟨?_, ?_⟩
    · intro y0 y1
      unfold text_B2X.j0
      repeat' first
      | (with_reducible exact ih0 _ _)
      | (with_reducible exact ih1 _ _ _)
      | (with_reducible exact text_digits.mono _ _ _ _)
      | (with_reducible exact LeO.refl _)
      | (with_reducible exact LeO.none _)
      | (with_reducible refine LeO.ite ?_ ?_)
      | (with_reducible refine LeO.bind ?_ (fun _ => ?_))
      | exact ih0 _ _
      | exact ih1 _ _ _
      | exact text_digits.mono _ _ _ _
      | exact LeO.none _
      | refine LeO.ite ?_ ?_
      | refine LeO.bind ?_ (fun _ => ?_)
    · intro y0 y1 y2
      unfold text_B2X.l0
      repeat' first
      | (with_reducible exact ih0 _ _)
      | (with_reducible exact ih1 _ _ _)
      | (with_reducible exact text_digits.mono _ _ _ _)
      | (with_reducible exact LeO.refl _)
      | (with_reducible exact LeO.none _)
      | (with_reducible refine LeO.ite ?_ ?_)
      | (with_reducible refine LeO.bind ?_ (fun _ => ?_))
      | exact ih0 _ _
      | exact ih1 _ _ _
      | exact text_digits.mono _ _ _ _
      | exact LeO.none _
      | refine LeO.ite ?_ ?_
      | refine LeO.bind ?_ (fun _ => ?_)
theorem text_B2X.mono : ∀ a0 k, LeO (text_B2X.f k a0) (text_B2X.f (k + 1) a0) := by
  intro a0 k
  obtain ⟨ih0, ih1⟩ := text_B2X.mono_l k
  unfold text_B2X.f
  repeat' first
      | (with_reducible exact ih0 _ _)
      | (with_reducible exact ih1 _ _ _)
      | (with_reducible exact text_digits.mono _ _ _ _)
      | (with_reducible exact LeO.refl _)
      | (with_reducible exact LeO.none _)
      | (with_reducible refine LeO.ite ?_ ?_)
      | (with_reducible refine LeO.bind ?_ (fun _ => ?_))
      | exact ih0 _ _
      | exact ih1 _ _ _
      | exact text_digits.mono _ _ _ _
      | exact LeO.none _
      | refine LeO.ite ?_ ?_
      | refine LeO.bind ?_ (fun _ => ?_)
def text_B2X.T8 : Bool × List (List Nat × List Nat) := (true, [([], []), ([], []), ([], []), ([1, 2], [1, 2]), ([3], [3]), ([4], [4]), ([], []), ([], []), ([7], [7]), ([6, 8], [6, 8]), ([9], [9]), ([10], [10]), ([5, 11], [5, 11]), ([], []), ([], []), ([14], [14]), ([13, 15], [13, 15]), ([16], [16]), ([17], [17]), ([12, 18], [12, 18]), ([], []), ([], []), ([21], [21]), ([20, 22], [20, 22]), ([23], [23]), ([19, 24], [19, 24]), ([25], [25]), ([26], [26]), ([0, 27], [0, 27]), ([28, 28, 0, 1, 2, 3, 4, 5, 6, 7, 8, 9, 10, 11, 12, 13, 14, 15, 16, 17, 18, 19, 20, 21, 22, 23, 24, 25, 26, 27, 28], [0, 28])])
def text_B2X.B8 : List Nat := [0, 0, 0, 6, 14, 30, 0, 0, 128, 448, 960, 1984, 4094, 0, 0, 16384, 57344, 122880, 253952, 524286, 0, 0, 2097152, 7340032, 15728640, 33554430, 67108862, 134217726, 268435455, 536870911]
theorem text_B2X.tab8 : rtab .any (opsOf Tryz.f78 8) = text_B2X.T8 := by kernel_rfl
theorem text_B2X.bits8 : waitsOk text_B2X.T8.2 text_B2X.B8 = true := by kernel_rfl
set_option maxHeartbeats 8000000 in
set_option maxRecDepth 100000 in
theorem text_B2X.calls (k : Nat) (a0 : ByteArray) (r1 : ByteArray) (r2 : Int) (w : World) (hT : TabOK w) (h : text_B2X.f k a0 = some (r1, r2)) :
    Calls Tryz.prog 78 #[.string a0] w fun e w' => e = .returned (.tuple #[.string r1, .int .i64 r2]) ∧ Below w.heap.size w w' := by
  have HB := Aside0.mk (Below.refl w.heap.size w)
  have H : ((text_digits.f k a0 2 4).bind fun bt867 => (if bt867.2 = true then ((text_Valid.f a0).bind fun t871 => (text_B2X.j0 k bt867.1 (!t871))) else (text_B2X.j0 k bt867.1 true))) = some (r1, r2) := h
  clear h
  replace H := Option.bind_eq_some_iff.mp H
  obtain ⟨⟨t867, t868⟩, A20, H⟩ := H
  replace H : (if t868 = true then ((text_Valid.f a0).bind fun t871 => (text_B2X.j0 k t867 (!t871))) else (text_B2X.j0 k t867 true)) = some (r1, r2) := H
  have A2 := Aside0.mk A20
  clear A20
  have HC3 := Aside0.mk H
  clear H
  go_enter Tryz.func78, Tryz.ntmps78
  go_upto_region 2 with (first | ((with_reducible refine gate_callee (f := 131) rfl ?_); refine goesL_ (some 10) rfl rfl Tryz.func131 (by kernel_rfl) rfl #[.string a0, .int .i64 2, .int .i64 4] rfl (by (try simp only [List.map_toArray, List.map_cons, List.map_nil]); first | done | rfl | (simp only [List.length_drop, List.length_take]; rfl)) ?_; (with_reducible refine (text_digits.calls k a0 2 4 t867 t868 _ (TabOK.of_below hT (by repeat (first | (with_reducible first | exact HB.out | apply below_alloc | apply pw_below_drewN | apply below_drew1) | exact HB.out))) A2.out).mono ?_); rintro e w4 ⟨v869, rfl, ho0, hb⟩; refine ⟨_, rfl, ?_⟩; have n0_ := Aside0.mk (Kd.R_lower ho0 (below_size (by repeat (first | (with_reducible first | exact HB.out | apply below_alloc | apply pw_below_drewN | apply below_drew1) | exact HB.out)))); have n1_ := Aside0.mk (below_step (by repeat (first | (with_reducible first | exact HB.out | apply below_alloc | apply pw_below_drewN | apply below_drew1) | exact HB.out)) hb); clear HB; have HO870 := n0_; have HB := n1_; clear n0_ n1_; (try clear hb); (try clear hb2); (try clear hk); (try clear hi); (try clear ho0)))
  (try simp only [Act.put, List.setIfInBounds_toArray, List.set_cons_zero, List.set_cons_succ])
  go_cut [19] (fun v19 wc => ∃ (kq : Nat) (x19_2 : Bool), v19 = .bool x19_2 ∧ Aside0 (text_B2X.j0 kq t867 x19_2 = some (r1, r2)) ∧ Aside0 (kq ≤ k) ∧ Aside0 (Kd.R (Kd.int .i64) 3 wc w.heap.size (fun _ => True) v869 t867) ∧ Aside0 (Below w.heap.size w wc))
  case first =>
    have H := HC3.out
    clear HC3
    by_cases c5 : t868 = true
    · subst c5
      have H1 : ((text_Valid.f a0).bind fun t871 => (text_B2X.j0 k t867 (!t871))) = some (r1, r2) := by rw [if_pos rfl] at H; exact H
      clear H
      have H := H1
      clear H1
      replace H := Option.bind_eq_some_iff.mp H
      obtain ⟨t871, A60, H⟩ := H
      replace H : (text_B2X.j0 k t867 (!t871)) = some (r1, r2) := H
      have A6 := Aside0.mk A60
      clear A60
      have H' := Aside0.mk H
      clear H
      go_wp2_with (first | (go_at_call 65; (with_reducible refine (text_Valid.calls a0 t871 _ A6.out).mono ?_); rintro e w7 ⟨rfl, hb⟩; have n0_ := Aside0.mk (Kd.R_below (by (with_reducible repeat (first | apply Kd.R_alloc | apply Kd.R_drewN | apply Kd.R_drew)); exact HO870.out) hb); have n1_ := Aside0.mk (below_step (by repeat (first | (with_reducible first | exact HB.out | apply below_alloc | apply pw_below_drewN | apply below_drew1) | exact HB.out)) hb); clear HO870; clear HB; have HO870 := n0_; have HB := n1_; clear n0_ n1_; (try clear hb); (try clear hb2); (try clear hk); (try clear hi)))
      go_meet
      case rel => exact ⟨_, (!t871), (by first | rfl | (simp; done) | (simp [*]; done)), H', ⟨by first | omega | exact Nat.le_refl _⟩, ⟨by (with_reducible repeat (first | apply Kd.R_alloc | apply Kd.R_drewN | apply Kd.R_drew)); exact HO870.out⟩, ⟨by repeat (first | (with_reducible first | exact HB.out | apply below_alloc | apply pw_below_drewN | apply below_drew1) | exact HB.out)⟩⟩
    · replace c5 := Bool.eq_false_iff.mpr c5
      subst c5
      have H1 : (text_B2X.j0 k t867 true) = some (r1, r2) := by rw [if_neg (show ¬ (false = true) by decide)] at H; exact H
      clear H
      have H := H1
      clear H1
      have H' := Aside0.mk H
      clear H
      go_wp2
      go_meet
      case rel => exact ⟨_, (true), (by first | rfl | (simp; done) | (simp [*]; done)), H', ⟨by first | omega | exact Nat.le_refl _⟩, ⟨by (with_reducible repeat (first | apply Kd.R_alloc | apply Kd.R_drewN | apply Kd.R_drew)); exact HO870.out⟩, ⟨by repeat (first | (with_reducible first | exact HB.out | apply below_alloc | apply pw_below_drewN | apply below_drew1) | exact HB.out)⟩⟩
  case rest =>
    clear HC3
    try clear c1
    try clear p2
    try clear c5
    try clear c7
    obtain ⟨kq, x19_2, rfl, HA, HJ2, HO_4, HB⟩ := hcut
    cases kq with
    | zero => exact absurd HA.out (by simp [text_B2X.j0])
    | succ kj2 =>
      have H := HA.out
      clear HA
      simp only [text_B2X.j0] at H
      by_cases c8 : x19_2 = true
      · subst c8
        have H1 : (some ((⟨#[]⟩ : ByteArray), 1)) = some (r1, r2) := by rw [if_pos rfl] at H; exact H
        clear H
        have H := H1
        clear H1
        simp only [Option.some.injEq, Prod.mk.injEq] at H
        obtain ⟨rfl, rfl⟩ := H
        go_wp2
        go_ret2
        exact ⟨by first | rfl | (simp [errW_none, errW_some] <;> rfl) | (simp [*, errW_none, errW_some] <;> rfl), by repeat (first | (with_reducible first | exact HB.out | apply below_alloc | apply pw_below_drewN | apply below_drew1) | exact HB.out)⟩
      · replace c8 := Bool.eq_false_iff.mpr c8
        subst c8
        have H1 : (text_B2X.l0 kj2 t867 ([] : List Int) 0) = some (r1, r2) := by rw [if_neg (show ¬ (false = true) by decide)] at H; exact H
        clear H
        have H := H1
        clear H1
        have H' := Aside0.mk H
        clear H
        go_wp2
        go_loopg [6, 7] kj2 (fun kq v6 v7 w' => ∃ (x6_2 : List Int) (x7_2 : Int), v7 = .int .i64 x7_2 ∧ Aside0 (text_B2X.l0 kq t867 x6_2 x7_2 = some (r1, r2)) ∧ Aside0 (kq ≤ kj2) ∧ Aside0 (Kd.R (Kd.int .i64) 3 w' w.heap.size (fun _ => True) v869 t867) ∧ Aside0 (Kd.R (Kd.int .u8) 5 w' w.heap.size (fun _ => True) v6 x6_2) ∧ Aside0 (Below w.heap.size w w'))
        case atStart => exact ⟨(([] : List Int)), (0), (by first | rfl | (simp; done) | (simp [*]; done)), H', ⟨Nat.le_refl _⟩, ⟨by (with_reducible repeat (first | apply Kd.R_alloc | apply Kd.R_drewN | apply Kd.R_drew)); exact HO_4.out⟩, ⟨by first | exact Kd.R_nil _ _ _ _ _ | exact Kd.N_nil _ _ _ _ _ | exact Kd.V_nil _ _ _ _ _ | exact Kd.Q_nil _ _ _ _ _ | exact Kd.S_nil _ _ _ _ _⟩, ⟨by repeat (first | (with_reducible first | exact HB.out | apply below_alloc | apply pw_below_drewN | apply below_drew1) | exact HB.out)⟩⟩
        case round =>
          clear H'
          try clear c1
          try clear p2
          try clear c5
          try clear c7
          try clear c8
          try clear p2
          obtain ⟨x6_2, x7_2, rfl, HA, HK2, HO_4, HO_6, HB⟩ := hrel
          cases gk with
          | zero => exact absurd HA.out (by simp [text_B2X.l0])
          | succ k2 =>
            have H := HA.out
            clear HA
            simp only [text_B2X.l0] at H
            by_cases c9 : x7_2 < (t867.length : Int)
            · rw [if_pos c9] at H
              have c9b0 : decide (x7_2 < (t867.length : Int)) = true := decide_eq_true c9
              clear c9
              by_cases c10 : 0 ≤ x7_2
              · rw [if_pos c10] at H
                have c10b0 : decide (0 ≤ x7_2) = true := decide_eq_true c10
                clear c10
                obtain ⟨ji11, hji11⟩ : ∃ j_ : Int, (wrap64 (x7_2 + 1)) = j_ := ⟨_, rfl⟩
                replace H : (if 0 ≤ (ji11) then (if (ji11) < (t867.length : Int) then (if 0 ≤ (wrap64 (x7_2 + 2)) then (if (wrap64 (x7_2 + 2)) < (t867.length : Int) then (if 0 ≤ (wrap64 (x7_2 + 3)) then (if (wrap64 (x7_2 + 3)) < (t867.length : Int) then (if 0 ≤ (wrap64 ((wrap64 ((wrap64 ((wrap64 (8 * (rd t867 x7_2))) + (wrap64 (4 * (rd t867 (ji11)))))) + (wrap64 (2 * (rd t867 (wrap64 (x7_2 + 2))))))) + (rd t867 (wrap64 (x7_2 + 3))))) then (if (wrap64 ((wrap64 ((wrap64 ((wrap64 (8 * (rd t867 x7_2))) + (wrap64 (4 * (rd t867 (ji11)))))) + (wrap64 (2 * (rd t867 (wrap64 (x7_2 + 2))))))) + (rd t867 (wrap64 (x7_2 + 3))))) < 16 then (if x6_2.length < 140737488355328 then (text_B2X.l0 k2 t867 (x6_2 ++ [bt (⟨#[48, 49, 50, 51, 52, 53, 54, 55, 56, 57, 65, 66, 67, 68, 69, 70]⟩ : ByteArray) (wrap64 ((wrap64 ((wrap64 ((wrap64 (8 * (rd t867 x7_2))) + (wrap64 (4 * (rd t867 (ji11)))))) + (wrap64 (2 * (rd t867 (wrap64 (x7_2 + 2))))))) + (rd t867 (wrap64 (x7_2 + 3)))))]) (wrap64 (x7_2 + 4))) else (none)) else (none)) else (none)) else (none)) else (none)) else (none)) else (none)) else (none)) else (none)) = some (r1, r2) := by first | (rw [hji11] at H; exact H) | (simp only [hji11] at H ⊢; exact H)
                have hji11w : (IntKind.i64.wrap (x7_2 + 1)) = ji11 := (i64_w _).trans hji11
                by_cases c12 : 0 ≤ (ji11)
                · rw [if_pos c12] at H
                  have c12b0 : decide (0 ≤ (ji11)) = true := decide_eq_true c12
                  clear c12
                  by_cases c13 : (ji11) < (t867.length : Int)
                  · rw [if_pos c13] at H
                    have c13b0 : decide ((ji11) < (t867.length : Int)) = true := decide_eq_true c13
                    clear c13
                    obtain ⟨ji14, hji14⟩ : ∃ j_ : Int, (wrap64 (x7_2 + 2)) = j_ := ⟨_, rfl⟩
                    replace H : (if 0 ≤ (ji14) then (if (ji14) < (t867.length : Int) then (if 0 ≤ (wrap64 (x7_2 + 3)) then (if (wrap64 (x7_2 + 3)) < (t867.length : Int) then (if 0 ≤ (wrap64 ((wrap64 ((wrap64 ((wrap64 (8 * (rd t867 x7_2))) + (wrap64 (4 * (rd t867 (ji11)))))) + (wrap64 (2 * (rd t867 (ji14)))))) + (rd t867 (wrap64 (x7_2 + 3))))) then (if (wrap64 ((wrap64 ((wrap64 ((wrap64 (8 * (rd t867 x7_2))) + (wrap64 (4 * (rd t867 (ji11)))))) + (wrap64 (2 * (rd t867 (ji14)))))) + (rd t867 (wrap64 (x7_2 + 3))))) < 16 then (if x6_2.length < 140737488355328 then (text_B2X.l0 k2 t867 (x6_2 ++ [bt (⟨#[48, 49, 50, 51, 52, 53, 54, 55, 56, 57, 65, 66, 67, 68, 69, 70]⟩ : ByteArray) (wrap64 ((wrap64 ((wrap64 ((wrap64 (8 * (rd t867 x7_2))) + (wrap64 (4 * (rd t867 (ji11)))))) + (wrap64 (2 * (rd t867 (ji14)))))) + (rd t867 (wrap64 (x7_2 + 3)))))]) (wrap64 (x7_2 + 4))) else (none)) else (none)) else (none)) else (none)) else (none)) else (none)) else (none)) = some (r1, r2) := by first | (rw [hji14] at H; exact H) | (simp only [hji14] at H ⊢; exact H)
                    have hji14w : (IntKind.i64.wrap (x7_2 + 2)) = ji14 := (i64_w _).trans hji14
                    by_cases c15 : 0 ≤ (ji14)
                    · rw [if_pos c15] at H
                      have c15b0 : decide (0 ≤ (ji14)) = true := decide_eq_true c15
                      clear c15
                      by_cases c16 : (ji14) < (t867.length : Int)
                      · rw [if_pos c16] at H
                        have c16b0 : decide ((ji14) < (t867.length : Int)) = true := decide_eq_true c16
                        clear c16
                        obtain ⟨ji17, hji17⟩ : ∃ j_ : Int, (wrap64 (x7_2 + 3)) = j_ := ⟨_, rfl⟩
                        replace H : (if 0 ≤ (ji17) then (if (ji17) < (t867.length : Int) then (if 0 ≤ (wrap64 ((wrap64 ((wrap64 ((wrap64 (8 * (rd t867 x7_2))) + (wrap64 (4 * (rd t867 (ji11)))))) + (wrap64 (2 * (rd t867 (ji14)))))) + (rd t867 (ji17)))) then (if (wrap64 ((wrap64 ((wrap64 ((wrap64 (8 * (rd t867 x7_2))) + (wrap64 (4 * (rd t867 (ji11)))))) + (wrap64 (2 * (rd t867 (ji14)))))) + (rd t867 (ji17)))) < 16 then (if x6_2.length < 140737488355328 then (text_B2X.l0 k2 t867 (x6_2 ++ [bt (⟨#[48, 49, 50, 51, 52, 53, 54, 55, 56, 57, 65, 66, 67, 68, 69, 70]⟩ : ByteArray) (wrap64 ((wrap64 ((wrap64 ((wrap64 (8 * (rd t867 x7_2))) + (wrap64 (4 * (rd t867 (ji11)))))) + (wrap64 (2 * (rd t867 (ji14)))))) + (rd t867 (ji17))))]) (wrap64 (x7_2 + 4))) else (none)) else (none)) else (none)) else (none)) else (none)) = some (r1, r2) := by first | (rw [hji17] at H; exact H) | (simp only [hji17] at H ⊢; exact H)
                        have hji17w : (IntKind.i64.wrap (x7_2 + 3)) = ji17 := (i64_w _).trans hji17
                        by_cases c18 : 0 ≤ (ji17)
                        · rw [if_pos c18] at H
                          have c18b0 : decide (0 ≤ (ji17)) = true := decide_eq_true c18
                          clear c18
                          by_cases c19 : (ji17) < (t867.length : Int)
                          · rw [if_pos c19] at H
                            have c19b0 : decide ((ji17) < (t867.length : Int)) = true := decide_eq_true c19
                            clear c19
                            obtain ⟨ji20, hji20⟩ : ∃ j_ : Int, (wrap64 ((wrap64 ((wrap64 ((wrap64 (8 * (rd t867 x7_2))) + (wrap64 (4 * (rd t867 (ji11)))))) + (wrap64 (2 * (rd t867 (ji14)))))) + (rd t867 (ji17)))) = j_ := ⟨_, rfl⟩
                            replace H : (if 0 ≤ (ji20) then (if (ji20) < 16 then (if x6_2.length < 140737488355328 then (text_B2X.l0 k2 t867 (x6_2 ++ [bt (⟨#[48, 49, 50, 51, 52, 53, 54, 55, 56, 57, 65, 66, 67, 68, 69, 70]⟩ : ByteArray) (ji20)]) (wrap64 (x7_2 + 4))) else (none)) else (none)) else (none)) = some (r1, r2) := by first | (rw [hji20] at H; exact H) | (simp only [hji20] at H ⊢; exact H)
                            have hji20w : (IntKind.i64.wrap ((wrap64 ((wrap64 ((wrap64 (8 * (rd t867 x7_2))) + (wrap64 (4 * (rd t867 (ji11)))))) + (wrap64 (2 * (rd t867 (ji14)))))) + (rd t867 (ji17)))) = ji20 := (i64_w _).trans hji20
                            by_cases c21 : 0 ≤ (ji20)
                            · rw [if_pos c21] at H
                              have c21b0 : decide (0 ≤ (ji20)) = true := decide_eq_true c21
                              clear c21
                              by_cases c22 : (ji20) < 16
                              · rw [if_pos c22] at H
                                have c22b0 : decide ((ji20) < 16) = true := decide_eq_true c22
                                clear c22
                                by_cases c24 : x6_2.length < 140737488355328
                                · rw [if_pos c24] at H
                                  have LMc24 := Aside0.mk c24
                                  clear c24
                                  obtain ⟨y876, hy876⟩ : ∃ y_ : List Int, y_ = (x6_2 ++ [bt (⟨#[48, 49, 50, 51, 52, 53, 54, 55, 56, 57, 65, 66, 67, 68, 69, 70]⟩ : ByteArray) (ji20)]) := ⟨_, rfl⟩
                                  replace H : (text_B2X.l0 k2 t867 y876 (wrap64 (x7_2 + 4))) = some (r1, r2) := by first | (rw [hy876]; with_reducible exact H) | (have H2_ := (Option.bind_some _ _).symm.trans H; rw [hy876]; with_reducible exact H2_) | (have H2_ := (Option.bind_some _ _).symm.trans H; with_reducible exact H2_) | with_reducible exact H | (rw [hy876]; exact H) | exact H
                                  have Ny876 := Aside0.mk hy876
                                  clear hy876
                                  have H' := Aside0.mk H
                                  clear H
                                  obtain ⟨Ao25, co25, eo25⟩ := Kd.R_slice HO_4.out
                                  subst eo25
                                  try go_wp2
                                  have n0_ := Aside0.mk (Kd.R_drew HO_4.out)
                                  have n1_ := Aside0.mk (Kd.R_drew HO_6.out)
                                  have n2_ := Aside0.mk (below_drew1 HB.out)
                                  clear HO_4
                                  clear HO_6
                                  clear HB
                                  have HO_4 := n0_
                                  have HO_6 := n1_
                                  have HB := n2_
                                  clear n0_ n1_ n2_
                                  have p872 : 0 ≤ (x7_2 : Int) := of_decide_eq_true (by first | (with_reducible assumption) | assumption)
                                  have q872 : x7_2 < (t867.length : Int) := of_decide_eq_true (by first | (with_reducible assumption) | assumption)
                                  obtain ⟨ad872, e872, hx872_0⟩ := Kd.at_int (Kd.R_reads' HO_4.out).2.2 x7_2 p872 q872
                                  cases e872
                                  replace p872 := eq_true p872
                                  replace q872 := eq_true q872
                                  have p873 : 0 ≤ ((ji11) : Int) := of_decide_eq_true (by first | (with_reducible assumption) | assumption)
                                  have q873 : (ji11) < (t867.length : Int) := of_decide_eq_true (by first | (with_reducible assumption) | assumption)
                                  obtain ⟨ad873, e873, hx873_0⟩ := Kd.at_int (Kd.R_reads' HO_4.out).2.2 (ji11) p873 q873
                                  obtain rfl : ad872 = ad873 := (by injection e873)
                                  replace p873 := eq_true p873
                                  replace q873 := eq_true q873
                                  have p874 : 0 ≤ ((ji14) : Int) := of_decide_eq_true (by first | (with_reducible assumption) | assumption)
                                  have q874 : (ji14) < (t867.length : Int) := of_decide_eq_true (by first | (with_reducible assumption) | assumption)
                                  obtain ⟨ad874, e874, hx874_0⟩ := Kd.at_int (Kd.R_reads' HO_4.out).2.2 (ji14) p874 q874
                                  obtain rfl : ad872 = ad874 := (by injection e874)
                                  replace p874 := eq_true p874
                                  replace q874 := eq_true q874
                                  have p875 : 0 ≤ ((ji17) : Int) := of_decide_eq_true (by first | (with_reducible assumption) | assumption)
                                  have q875 : (ji17) < (t867.length : Int) := of_decide_eq_true (by first | (with_reducible assumption) | assumption)
                                  obtain ⟨ad875, e875, hx875_0⟩ := Kd.at_int (Kd.R_reads' HO_4.out).2.2 (ji17) p875 q875
                                  obtain rfl : ad872 = ad875 := (by injection e875)
                                  replace p875 := eq_true p875
                                  replace q875 := eq_true q875
                                  have p23 : 0 ≤ ((ji20) : Int) := of_decide_eq_true (by first | (with_reducible assumption) | assumption)
                                  have q23 : (ji20) < (16 : Int) := of_decide_eq_true (by first | (with_reducible assumption) | assumption)
                                  have hx23 := bt_at (⟨#[48, 49, 50, 51, 52, 53, 54, 55, 56, 57, 65, 66, 67, 68, 69, 70]⟩ : ByteArray) (ji20)
                                  replace p23 := eq_true p23
                                  replace q23 := eq_true q23
                                  refine start_ (n := 30) (S := fun w' => w'.cell? (ad872.add (x7_2).toNat) = some (.int .i64 (rd t867 x7_2)) ∧ w'.cell? (ad872.add ((ji11)).toNat) = some (.int .i64 (rd t867 (ji11))) ∧ w'.cell? (ad872.add ((ji14)).toNat) = some (.int .i64 (rd t867 (ji14))) ∧ w'.cell? (ad872.add ((ji17)).toNat) = some (.int .i64 (rd t867 (ji17)))) (ds := [27, 28]) #[false, false, false, false, false, false, false, false, false, false, false, false, false, false, false, false, false, false, false, false, false, false, false, false, false, false, false, false, false, false] (by kernel_rfl) rfl rfl ⟨hx872_0, hx873_0, hx874_0, hx875_0⟩ (fun hHeld => ?_); refine with_tabW text_B2X.tab8 text_B2X.bits8 (fun HT_ HW_ => ?_)
                                  generalize wr.drew = w26 at HO_4 HO_6 HB hx872_0 hx873_0 hx874_0 hx875_0 hHeld ⊢
                                  refine pure_ (i := 0) (N := some 26) (v := ?_) (a' := ?_) #[true, false, false, false, false, false, false, false, false, false, false, false, false, false, false, false, false, false, false, false, false, false, false, false, false, false, false, false, false, false] rfl rfl (any_of HT_.out (by kernel_rfl)) (fun _ _ _ h => h) (Or.inl ⟨by rfl, ?_⟩) ?_ ?_
                                  rotate_left
                                  · intro w'
                                    go_simp
                                    with_reducible rfl
                                  rotate_left
                                  · simp only [Act.put, List.setIfInBounds_toArray, List.set_cons_zero, List.set_cons_succ, i64_w, i32_w]
                                    rfl
                                  refine pure_ (i := 1) (N := some 27) (v := ?_) (a' := ?_) #[true, true, false, false, false, false, false, false, false, false, false, false, false, false, false, false, false, false, false, false, false, false, false, false, false, false, false, false, false, false] rfl rfl (any_of HT_.out (by kernel_rfl)) (fun _ _ _ h => h) (Or.inl ⟨by rfl, ?_⟩) ?_ ?_
                                  rotate_left
                                  · intro w'
                                    go_simp
                                    with_reducible rfl
                                  rotate_left
                                  · simp only [Act.put, List.setIfInBounds_toArray, List.set_cons_zero, List.set_cons_succ, i64_w, i32_w]
                                    rfl
                                  refine pure_ (i := 2) (N := some 28) (v := ?_) (a' := ?_) #[true, true, true, false, false, false, false, false, false, false, false, false, false, false, false, false, false, false, false, false, false, false, false, false, false, false, false, false, false, false] rfl rfl (any_of HT_.out (by kernel_rfl)) (fun _ _ _ h => h) (Or.inl ⟨by rfl, ?_⟩) ?_ ?_
                                  rotate_left
                                  · intro w'
                                    go_simp
                                    with_reducible rfl
                                  rotate_left
                                  · simp only [Act.put, List.setIfInBounds_toArray, List.set_cons_zero, List.set_cons_succ, i64_w, i32_w]
                                    rfl
                                  refine pure_ (i := 3) (N := some 29) (v := ?_) (a' := ?_) #[true, true, true, true, false, false, false, false, false, false, false, false, false, false, false, false, false, false, false, false, false, false, false, false, false, false, false, false, false, false] rfl rfl (any_of HT_.out (by kernel_rfl)) (fun _ _ _ h => h) (Or.inl ⟨by rfl, ?_⟩) ?_ ?_
                                  rotate_left
                                  · intro w'
                                    go_simp
                                    with_reducible rfl
                                  rotate_left
                                  · simp only [Act.put, List.setIfInBounds_toArray, List.set_cons_zero, List.set_cons_succ, i64_w, i32_w]
                                    rfl
                                  refine pure_ (i := 6) (N := some 32) (v := ?_) (a' := ?_) #[true, true, true, true, false, false, true, false, false, false, false, false, false, false, false, false, false, false, false, false, false, false, false, false, false, false, false, false, false, false] rfl rfl (any_of HT_.out (by kernel_rfl)) (fun _ _ _ h => h) (Or.inl ⟨by rfl, ?_⟩) ?_ ?_
                                  rotate_left
                                  · intro w'
                                    go_simp
                                    with_reducible rfl
                                  rotate_left
                                  · simp only [Act.put, List.setIfInBounds_toArray, List.set_cons_zero, List.set_cons_succ, i64_w, i32_w]
                                    rfl
                                  refine pure_ (i := 7) (N := some 33) (v := ?_) (a' := ?_) #[true, true, true, true, false, false, true, true, false, false, false, false, false, false, false, false, false, false, false, false, false, false, false, false, false, false, false, false, false, false] rfl rfl (any_of HT_.out (by kernel_rfl)) (fun _ _ _ h => h) (Or.inl ⟨by rfl, ?_⟩) ?_ ?_
                                  rotate_left
                                  · intro w'
                                    go_simp
                                    with_reducible rfl
                                  rotate_left
                                  · simp only [Act.put, List.setIfInBounds_toArray, List.set_cons_zero, List.set_cons_succ, i64_w, i32_w]
                                    rfl
                                  refine pure_ (i := 8) (N := some 34) (v := ?_) (a' := ?_) #[true, true, true, true, false, false, true, true, true, false, false, false, false, false, false, false, false, false, false, false, false, false, false, false, false, false, false, false, false, false] rfl rfl (any_of HT_.out (by kernel_rfl)) (fun _ _ _ h => h) (Or.inl ⟨by rfl, ?_⟩) ?_ ?_
                                  rotate_left
                                  · intro w'
                                    go_simp
                                    with_reducible rfl
                                  rotate_left
                                  · simp only [Act.put, List.setIfInBounds_toArray, List.set_cons_zero, List.set_cons_succ, i64_w, i32_w]
                                    rfl
                                  refine pure_ (i := 9) (N := some 35) (v := ?_) (a' := ?_) #[true, true, true, true, false, false, true, true, true, true, false, false, false, false, false, false, false, false, false, false, false, false, false, false, false, false, false, false, false, false] rfl rfl (any_of HT_.out (by kernel_rfl)) (fun _ _ _ h => h) (Or.inl ⟨by rfl, ?_⟩) ?_ ?_
                                  rotate_left
                                  · intro w'
                                    go_simp
                                    with_reducible rfl
                                  rotate_left
                                  · simp only [Act.put, List.setIfInBounds_toArray, List.set_cons_zero, List.set_cons_succ, i64_w, i32_w]
                                    rfl
                                  refine pure_ (i := 13) (N := some 39) (v := ?_) (a' := ?_) #[true, true, true, true, false, false, true, true, true, true, false, false, false, true, false, false, false, false, false, false, false, false, false, false, false, false, false, false, false, false] rfl rfl (any_of HT_.out (by kernel_rfl)) (fun _ _ _ h => h) (Or.inl ⟨by rfl, ?_⟩) ?_ ?_
                                  rotate_left
                                  · intro w'
                                    go_simp
                                    with_reducible rfl
                                  rotate_left
                                  · simp only [Act.put, List.setIfInBounds_toArray, List.set_cons_zero, List.set_cons_succ, i64_w, i32_w]
                                    rfl
                                  refine pure_ (i := 14) (N := some 40) (v := ?_) (a' := ?_) #[true, true, true, true, false, false, true, true, true, true, false, false, false, true, true, false, false, false, false, false, false, false, false, false, false, false, false, false, false, false] rfl rfl (any_of HT_.out (by kernel_rfl)) (fun _ _ _ h => h) (Or.inl ⟨by rfl, ?_⟩) ?_ ?_
                                  rotate_left
                                  · intro w'
                                    go_simp
                                    with_reducible rfl
                                  rotate_left
                                  · simp only [Act.put, List.setIfInBounds_toArray, List.set_cons_zero, List.set_cons_succ, i64_w, i32_w]
                                    rfl
                                  refine pure_ (i := 15) (N := some 41) (v := ?_) (a' := ?_) #[true, true, true, true, false, false, true, true, true, true, false, false, false, true, true, true, false, false, false, false, false, false, false, false, false, false, false, false, false, false] rfl rfl (any_of HT_.out (by kernel_rfl)) (fun _ _ _ h => h) (Or.inl ⟨by rfl, ?_⟩) ?_ ?_
                                  rotate_left
                                  · intro w'
                                    go_simp
                                    with_reducible rfl
                                  rotate_left
                                  · simp only [Act.put, List.setIfInBounds_toArray, List.set_cons_zero, List.set_cons_succ, i64_w, i32_w]
                                    rfl
                                  refine pure_ (i := 16) (N := some 42) (v := ?_) (a' := ?_) #[true, true, true, true, false, false, true, true, true, true, false, false, false, true, true, true, true, false, false, false, false, false, false, false, false, false, false, false, false, false] rfl rfl (any_of HT_.out (by kernel_rfl)) (fun _ _ _ h => h) (Or.inl ⟨by rfl, ?_⟩) ?_ ?_
                                  rotate_left
                                  · intro w'
                                    go_simp
                                    with_reducible rfl
                                  rotate_left
                                  · simp only [Act.put, List.setIfInBounds_toArray, List.set_cons_zero, List.set_cons_succ, i64_w, i32_w]
                                    rfl
                                  refine pure_ (i := 20) (N := some 46) (v := ?_) (a' := ?_) #[true, true, true, true, false, false, true, true, true, true, false, false, false, true, true, true, true, false, false, false, true, false, false, false, false, false, false, false, false, false] rfl rfl (any_of HT_.out (by kernel_rfl)) (fun _ _ _ h => h) (Or.inl ⟨by rfl, ?_⟩) ?_ ?_
                                  rotate_left
                                  · intro w'
                                    go_simp
                                    with_reducible rfl
                                  rotate_left
                                  · simp only [Act.put, List.setIfInBounds_toArray, List.set_cons_zero, List.set_cons_succ, i64_w, i32_w]
                                    rfl
                                  refine pure_ (i := 21) (N := some 47) (v := ?_) (a' := ?_) #[true, true, true, true, false, false, true, true, true, true, false, false, false, true, true, true, true, false, false, false, true, true, false, false, false, false, false, false, false, false] rfl rfl (any_of HT_.out (by kernel_rfl)) (fun _ _ _ h => h) (Or.inl ⟨by rfl, ?_⟩) ?_ ?_
                                  rotate_left
                                  · intro w'
                                    go_simp
                                    with_reducible rfl
                                  rotate_left
                                  · simp only [Act.put, List.setIfInBounds_toArray, List.set_cons_zero, List.set_cons_succ, i64_w, i32_w]
                                    rfl
                                  refine pure_ (i := 22) (N := some 48) (v := ?_) (a' := ?_) #[true, true, true, true, false, false, true, true, true, true, false, false, false, true, true, true, true, false, false, false, true, true, true, false, false, false, false, false, false, false] rfl rfl (any_of HT_.out (by kernel_rfl)) (fun _ _ _ h => h) (Or.inl ⟨by rfl, ?_⟩) ?_ ?_
                                  rotate_left
                                  · intro w'
                                    go_simp
                                    with_reducible rfl
                                  rotate_left
                                  · simp only [Act.put, List.setIfInBounds_toArray, List.set_cons_zero, List.set_cons_succ, i64_w, i32_w]
                                    rfl
                                  refine pure_ (i := 23) (N := some 49) (v := ?_) (a' := ?_) #[true, true, true, true, false, false, true, true, true, true, false, false, false, true, true, true, true, false, false, false, true, true, true, true, false, false, false, false, false, false] rfl rfl (any_of HT_.out (by kernel_rfl)) (fun _ _ _ h => h) (Or.inl ⟨by rfl, ?_⟩) ?_ ?_
                                  rotate_left
                                  · intro w'
                                    go_simp
                                    with_reducible rfl
                                  rotate_left
                                  · simp only [Act.put, List.setIfInBounds_toArray, List.set_cons_zero, List.set_cons_succ, i64_w, i32_w]
                                    rfl
                                  refine take_ (i := 4) (N := some 30) (v := ?_) (a' := ?_) #[true, true, true, true, true, false, true, true, true, true, false, false, false, true, true, true, true, false, false, false, true, true, true, true, false, false, false, false, false, false] rfl rfl (take_ofW HT_.out HW_.out (by kernel_rfl)) (fun _ _ _ h => h) (Or.inl ⟨by rfl, ?_⟩) hHeld ?_ ?_
                                  rotate_left
                                  · rintro w' ⟨s0, s1, s2, s3⟩
                                    go_simp
                                    with_reducible rfl
                                  rotate_left
                                  · simp only [Act.put, List.setIfInBounds_toArray, List.set_cons_zero, List.set_cons_succ, i64_w, i32_w]
                                    rfl
                                  refine pure_ (i := 5) (N := some 31) (v := ?_) (a' := ?_) #[true, true, true, true, true, true, true, true, true, true, false, false, false, true, true, true, true, false, false, false, true, true, true, true, false, false, false, false, false, false] rfl rfl (any_of HT_.out (by kernel_rfl)) (fun _ _ _ h => h) (Or.inl ⟨by rfl, ?_⟩) ?_ ?_
                                  rotate_left
                                  · intro w'
                                    go_simp
                                    with_reducible rfl
                                  rotate_left
                                  · simp only [Act.put, List.setIfInBounds_toArray, List.set_cons_zero, List.set_cons_succ, i64_w, i32_w]
                                    rfl
                                  refine take_ (i := 10) (N := some 36) (v := ?_) (a' := ?_) #[true, true, true, true, true, true, true, true, true, true, true, false, false, true, true, true, true, false, false, false, true, true, true, true, false, false, false, false, false, false] rfl rfl (take_ofW HT_.out HW_.out (by kernel_rfl)) (fun _ _ _ h => h) (Or.inl ⟨by rfl, ?_⟩) hHeld ?_ ?_
                                  rotate_left
                                  · rintro w' ⟨s0, s1, s2, s3⟩
                                    go_simp
                                    with_reducible rfl
                                  rotate_left
                                  · simp only [Act.put, List.setIfInBounds_toArray, List.set_cons_zero, List.set_cons_succ, i64_w, i32_w]
                                    rfl
                                  refine pure_ (i := 11) (N := some 37) (v := ?_) (a' := ?_) #[true, true, true, true, true, true, true, true, true, true, true, true, false, true, true, true, true, false, false, false, true, true, true, true, false, false, false, false, false, false] rfl rfl (any_of HT_.out (by kernel_rfl)) (fun _ _ _ h => h) (Or.inl ⟨by rfl, ?_⟩) ?_ ?_
                                  rotate_left
                                  · intro w'
                                    go_simp
                                    with_reducible rfl
                                  rotate_left
                                  · simp only [Act.put, List.setIfInBounds_toArray, List.set_cons_zero, List.set_cons_succ, i64_w, i32_w]
                                    rfl
                                  refine pure_ (i := 12) (N := some 38) (v := ?_) (a' := ?_) #[true, true, true, true, true, true, true, true, true, true, true, true, true, true, true, true, true, false, false, false, true, true, true, true, false, false, false, false, false, false] rfl rfl (any_of HT_.out (by kernel_rfl)) (fun _ _ _ h => h) (Or.inl ⟨by rfl, ?_⟩) ?_ ?_
                                  rotate_left
                                  · intro w'
                                    go_simp
                                    with_reducible rfl
                                  rotate_left
                                  · simp only [Act.put, List.setIfInBounds_toArray, List.set_cons_zero, List.set_cons_succ, i64_w, i32_w]
                                    rfl
                                  refine take_ (i := 17) (N := some 43) (v := ?_) (a' := ?_) #[true, true, true, true, true, true, true, true, true, true, true, true, true, true, true, true, true, true, false, false, true, true, true, true, false, false, false, false, false, false] rfl rfl (take_ofW HT_.out HW_.out (by kernel_rfl)) (fun _ _ _ h => h) (Or.inl ⟨by rfl, ?_⟩) hHeld ?_ ?_
                                  rotate_left
                                  · rintro w' ⟨s0, s1, s2, s3⟩
                                    go_simp
                                    with_reducible rfl
                                  rotate_left
                                  · simp only [Act.put, List.setIfInBounds_toArray, List.set_cons_zero, List.set_cons_succ, i64_w, i32_w]
                                    rfl
                                  refine pure_ (i := 18) (N := some 44) (v := ?_) (a' := ?_) #[true, true, true, true, true, true, true, true, true, true, true, true, true, true, true, true, true, true, true, false, true, true, true, true, false, false, false, false, false, false] rfl rfl (any_of HT_.out (by kernel_rfl)) (fun _ _ _ h => h) (Or.inl ⟨by rfl, ?_⟩) ?_ ?_
                                  rotate_left
                                  · intro w'
                                    go_simp
                                    with_reducible rfl
                                  rotate_left
                                  · simp only [Act.put, List.setIfInBounds_toArray, List.set_cons_zero, List.set_cons_succ, i64_w, i32_w]
                                    rfl
                                  refine pure_ (i := 19) (N := some 45) (v := ?_) (a' := ?_) #[true, true, true, true, true, true, true, true, true, true, true, true, true, true, true, true, true, true, true, true, true, true, true, true, false, false, false, false, false, false] rfl rfl (any_of HT_.out (by kernel_rfl)) (fun _ _ _ h => h) (Or.inl ⟨by rfl, ?_⟩) ?_ ?_
                                  rotate_left
                                  · intro w'
                                    go_simp
                                    with_reducible rfl
                                  rotate_left
                                  · simp only [Act.put, List.setIfInBounds_toArray, List.set_cons_zero, List.set_cons_succ, i64_w, i32_w]
                                    rfl
                                  refine take_ (i := 24) (N := some 50) (v := ?_) (a' := ?_) #[true, true, true, true, true, true, true, true, true, true, true, true, true, true, true, true, true, true, true, true, true, true, true, true, true, false, false, false, false, false] rfl rfl (take_ofW HT_.out HW_.out (by kernel_rfl)) (fun _ _ _ h => h) (Or.inl ⟨by rfl, ?_⟩) hHeld ?_ ?_
                                  rotate_left
                                  · rintro w' ⟨s0, s1, s2, s3⟩
                                    go_simp
                                    with_reducible rfl
                                  rotate_left
                                  · simp only [Act.put, List.setIfInBounds_toArray, List.set_cons_zero, List.set_cons_succ, i64_w, i32_w]
                                    rfl
                                  refine pure_ (i := 25) (N := some 51) (v := ?_) (a' := ?_) #[true, true, true, true, true, true, true, true, true, true, true, true, true, true, true, true, true, true, true, true, true, true, true, true, true, true, false, false, false, false] rfl rfl (any_of HT_.out (by kernel_rfl)) (fun _ _ _ h => h) (Or.inl ⟨by rfl, ?_⟩) ?_ ?_
                                  rotate_left
                                  · intro w'
                                    go_simp
                                    with_reducible rfl
                                  rotate_left
                                  · simp only [Act.put, List.setIfInBounds_toArray, List.set_cons_zero, List.set_cons_succ, i64_w, i32_w]
                                    rfl
                                  refine take_ (i := 26) (N := some 52) (v := ?_) (a' := ?_) #[true, true, true, true, true, true, true, true, true, true, true, true, true, true, true, true, true, true, true, true, true, true, true, true, true, true, true, false, false, false] rfl rfl (take_ofW HT_.out HW_.out (by kernel_rfl)) (fun _ _ _ h => h) (Or.inl ⟨by rfl, ?_⟩) hHeld ?_ ?_
                                  rotate_left
                                  · rintro w' ⟨s0, s1, s2, s3⟩
                                    go_simp
                                    with_reducible rfl
                                  rotate_left
                                  · simp only [Act.put, List.setIfInBounds_toArray, List.set_cons_zero, List.set_cons_succ, i64_w, i32_w]
                                    rfl
                                  refine last_ (i := 27) (N := some 53) #[true, true, true, true, true, true, true, true, true, true, true, true, true, true, true, true, true, true, true, true, true, true, true, true, true, true, true, true, false, false] rfl rfl (one_of HT_.out (by kernel_rfl)) (by decide) (fun K hK => ?_)
                                  refine value_ (w1 := ?_) (v := ?_) (by rfl) rfl ?_ ?_
                                  rotate_left 2
                                  · go_simp
                                    constructor
                                    · rfl
                                    · rfl
                                  refine hK.out _ _ ?_
                                  clear hK K
                                  refine norm_ (a' := ?_) ?_ ?_
                                  rotate_left
                                  · show Act.put _ (some 53) _ = _
                                    simp only [Act.put, List.setIfInBounds_toArray, List.set_cons_zero, List.set_cons_succ, i64_w, i32_w]
                                    rfl
                                  refine last_ (i := 28) (N := some 54) #[true, true, true, true, true, true, true, true, true, true, true, true, true, true, true, true, true, true, true, true, true, true, true, true, true, true, true, true, true, false] rfl rfl (one_of HT_.out (by kernel_rfl)) (by decide) (fun K hK => ?_)
                                  refine Kd.R_append_step (Kd.int .u8) (w0 := w) w.heap.size (by rfl) (.tmp 26) (.tmp 53) 83 5 (.int .u8 0) 1 rfl Tryz.underlying83 info5 rfl (by decide) (by omega) u6 x6_2 (bt (⟨#[48, 49, 50, 51, 52, 53, 54, 55, 56, 57, 65, 66, 67, 68, 69, 70]⟩ : ByteArray) (ji20)) [.int .u8 (bt (⟨#[48, 49, 50, 51, 52, 53, 54, 55, 56, 57, 65, 66, 67, 68, 69, 70]⟩ : ByteArray) (ji20))] (fun _ => True) (fun _ => False) rfl rfl ?aP (fun _ hk => hk.elim) ?aF ?aO ?aB ?aS ?aL ?_
                                  (case aP => exact rfl)
                                  (case aB => exact (by repeat (first | (with_reducible first | exact HB.out | apply below_alloc | apply pw_below_drewN | apply below_drew1) | exact HB.out)))
                                  (case aF => exact (fun _ _ => trivial))
                                  (case aO => exact (by (with_reducible repeat (first | apply Kd.R_alloc | apply Kd.R_drewN | apply Kd.R_drew)); exact HO_6.out))
                                  (case aS => exact (below_size (by repeat (first | (with_reducible first | exact HB.out | apply below_alloc | apply pw_below_drewN | apply below_drew1) | exact HB.out))))
                                  (case aL => have := LMc24.out; omega)
                                  intro v877 w27 ho hb hg hat
                                  rw [← Ny876.out] at ho
                                  have n0_ := Aside0.mk (Kd.R_over' (by (with_reducible repeat (first | apply Kd.R_alloc | apply Kd.R_drewN | apply Kd.R_drew)); exact HO_4.out) (Kd.R_typed (by (with_reducible repeat (first | apply Kd.R_alloc | apply Kd.R_drewN | apply Kd.R_drew)); exact HO_6.out)) (by decide) hg)
                                  have n1_ := Aside0.mk (hb)
                                  have n2_ := Aside0.mk (ho)
                                  clear HO_4
                                  clear HB
                                  clear HO_6
                                  have HO_4 := n0_
                                  have HB := n1_
                                  have HO878 := n2_
                                  clear n0_ n1_ n2_
                                  clear ho hb hg hat
                                  refine hK.out _ _ ?_
                                  clear hK K
                                  refine norm_ (a' := ?_) ?_ ?_
                                  rotate_left
                                  · show Act.put _ (some 54) _ = _
                                    simp only [Act.put, List.setIfInBounds_toArray, List.set_cons_zero, List.set_cons_succ, i64_w, i32_w]
                                    rfl
                                  refine pure_ (i := 29) (N := some 6) (v := ?_) (a' := ?_) #[true, true, true, true, true, true, true, true, true, true, true, true, true, true, true, true, true, true, true, true, true, true, true, true, true, true, true, true, true, true] rfl rfl (any_of HT_.out (by kernel_rfl)) (fun _ _ _ h => h) (Or.inl ⟨by rfl, ?_⟩) ?_ ?_
                                  rotate_left
                                  · intro w'
                                    go_simp
                                    with_reducible rfl
                                  rotate_left
                                  · simp only [Act.put, List.setIfInBounds_toArray, List.set_cons_zero, List.set_cons_succ, i64_w, i32_w]
                                    rfl
                                  refine done_ (done_of HT_.out (by kernel_rfl)) ?_
                                  try go_wp2
                                  go_roundg k2
                                  case measure => have := HJ2.out; have := HK2.out; omega
                                  case rel => exact ⟨(y876), (wrap64 (x7_2 + 4)), (by first | rfl | (simp; done) | (simp [*]; done)), H', ⟨by have := HJ2.out; have := HK2.out; omega⟩, ⟨by (with_reducible repeat (first | apply Kd.R_alloc | apply Kd.R_drewN | apply Kd.R_drew)); exact HO_4.out⟩, ⟨by (with_reducible repeat (first | apply Kd.R_alloc | apply Kd.R_drewN | apply Kd.R_drew)); exact HO878.out⟩, ⟨by repeat (first | (with_reducible first | exact HB.out | apply below_alloc | apply pw_below_drewN | apply below_drew1) | exact HB.out)⟩⟩
                                · rw [if_neg c24] at H
                                  exact absurd H (by simp)
                              · rw [if_neg c22] at H
                                exact absurd H (by simp)
                            · rw [if_neg c21] at H
                              exact absurd H (by simp)
                          · rw [if_neg c19] at H
                            exact absurd H (by simp)
                        · rw [if_neg c18] at H
                          exact absurd H (by simp)
                      · rw [if_neg c16] at H
                        exact absurd H (by simp)
                    · rw [if_neg c15] at H
                      exact absurd H (by simp)
                  · rw [if_neg c13] at H
                    exact absurd H (by simp)
                · rw [if_neg c12] at H
                  exact absurd H (by simp)
              · rw [if_neg c10] at H
                exact absurd H (by simp)
            · rw [if_neg c9] at H
              have c9b0 : decide (x7_2 < (t867.length : Int)) = false := decide_eq_false c9
              clear c9
              replace H := Option.bind_eq_some_iff.mp H
              obtain ⟨⟨t879, t880⟩, A280, H⟩ := H
              replace H : (some (t879, t880)) = some (r1, r2) := H
              have A28 := Aside0.mk A280
              clear A280
              simp only [Option.some.injEq, Prod.mk.injEq] at H
              obtain ⟨rfl, rfl⟩ := H
              obtain ⟨Ao29, co29, eo29⟩ := Kd.R_slice HO_4.out
              subst eo29
              have hcv30 := own_string (P := Tryz.prog) Tryz.underlying83 Tryz.underlying5 Tryz.underlying9 (Kd.own_of_R HO_6.out)
              go_wp2_with (first | ((with_reducible refine gate_callee (f := 113) rfl ?_); refine goesL_ (some 57) rfl rfl Tryz.func113 (by kernel_rfl) rfl #[.string (strOfNums x6_2)] rfl (by (try simp only [List.map_toArray, List.map_cons, List.map_nil]); first | done | rfl | (simp only [List.length_drop, List.length_take]; rfl)) ?_; (with_reducible refine (text_made.calls (strOfNums x6_2) t879 t880 _ A28.out).mono ?_); rintro e w31 ⟨rfl, hb⟩; refine ⟨_, rfl, ?_⟩; have n0_ := Aside0.mk (Kd.R_below (by (with_reducible repeat (first | apply Kd.R_alloc | apply Kd.R_drewN | apply Kd.R_drew)); exact HO_4.out) hb); have n1_ := Aside0.mk (Kd.R_below (by (with_reducible repeat (first | apply Kd.R_alloc | apply Kd.R_drewN | apply Kd.R_drew)); exact HO_6.out) hb); have n2_ := Aside0.mk (below_step (by repeat (first | (with_reducible first | exact HB.out | apply below_alloc | apply pw_below_drewN | apply below_drew1) | exact HB.out)) hb); clear HO_4; clear HO_6; clear HB; have HO_4 := n0_; have HO_6 := n1_; have HB := n2_; clear n0_ n1_ n2_; (try clear hb); (try clear hb2); (try clear hk); (try clear hi)))
              go_ret2
              exact ⟨by first | rfl | (simp [errW_none, errW_some] <;> rfl) | (simp [*, errW_none, errW_some] <;> rfl), by repeat (first | (with_reducible first | exact HB.out | apply below_alloc | apply pw_below_drewN | apply below_drew1) | exact HB.out)⟩

end Go.Proofs.YtlekfhnlhdmekaaGreatDoor.T

/- shuffled returns what qanatlaw02_shuffled.f says: a map that counts. -/
namespace Go.Proofs.YtlekfhnlhdmekaaGreatDoor.T
set_option linter.unusedSimpArgs false
set_option linter.unusedVariables false
open Go.RowKit Go.Maps Go.Proofs.YtlekfhnlhdmekaaGreatDoorW.PrintWords Go.Proofs.YtlekfhnlhdmekaaGreatDoorW.PrintLast Go.Proofs.YtlekfhnlhdmekaaGreatDoorW.PrintMore

/-- Each of the numbers has been had once, and none of them twice. -/
def shGo : List Int → List Int → Bool
  | [], _ => true
  | y :: r, had => if had.count y = 1 then shGo r (had ++ [y]) else false
def qanatlaw02_shuffled.f (a0 a1 : ByteArray) : Option Bool :=
  if a0.size ≤ 100000 ∧ a1.size ≤ 100000 then some (shGo (bytesOf a1) (bytesOf a0) && decide (a0.size = a1.size)) else none
/-- The map tells how often each number stands in the list. -/
def CntAt (D : DataW Unit) (l : List Int) : Prop := ∀ y : Int, D.atKey (.int .u8 y) (.lit (.int .i64 0)) = .lit (.int .i64 (l.count y : Nat))
theorem CntAt.nil : CntAt (.map []) [] := fun y => rfl
theorem CntAt.put {D : DataW Unit} {l : List Int} (hm : IsMap D) (h : CntAt D l) (y : Int) : CntAt (D.put (.int .u8 y) (.lit (.int .i64 ((l.count y + 1 : Nat) : Int)))) (l ++ [y]) := by
  intro z
  by_cases e : z = y
  · subst e
    rw [atKey_put_same hm (by trivial), List.count_append, List.count_singleton_self]
  · rw [atKey_put_other (by intro h2; exact e (Lit.int.inj h2).2), h z, List.count_append, List.count_singleton, if_neg (by simpa using fun h2 => e h2.symm)]
    rfl
theorem sh_snoc (l : List Int) (k : Nat) (h : k < l.length) : l.take (k + 1) = l.take k ++ [l.getD k 0] := by
  rw [List.take_add_one, List.getElem?_eq_getElem h, List.getD_eq_getElem?_getD, List.getElem?_eq_getElem h]; rfl
theorem sh_hd (l : List Int) (k : Nat) (h : k < l.length) : l.drop k = l.getD k 0 :: l.drop (k + 1) := by
  rw [List.drop_eq_getElem_cons h, List.getD_eq_getElem?_getD, List.getElem?_eq_getElem h]; rfl

set_option maxRecDepth 100000 in
set_option maxHeartbeats 4000000 in
theorem qanatlaw02_shuffled.calls (a0 a1 : ByteArray) (r : Bool) (w : World) (h : qanatlaw02_shuffled.f a0 a1 = some r) :
    Calls Tryz.prog 83 #[.string a0, .string a1] w fun e w' => e = .returned (.bool r) ∧ Below w.heap.size w w' := by
  unfold qanatlaw02_shuffled.f at h
  by_cases hc : a0.size ≤ 100000 ∧ a1.size ≤ 100000
  · rw [if_pos hc] at h
    obtain ⟨ha, ha1⟩ := hc
    have hmm := @run_makeMap Tryz.prog
    obtain ⟨n, hn⟩ : ∃ n, a0.size = n := ⟨_, rfl⟩
    obtain ⟨m, hm⟩ : ∃ m, a1.size = m := ⟨_, rfl⟩
    have HR := Aside0.mk h
    rw [hn, hm] at HR
    have hb0 : (bytesOf a0).length = n := by rw [bytesOf_length, hn]
    have hb1 : (bytesOf a1).length = m := by rw [bytesOf_length, hm]
    have HB0 := Aside0.mk hb0
    have HB1 := Aside0.mk hb1
    have HN := Aside0.mk hn
    have HM1 := Aside0.mk hm
    clear h hb0 hb1
    go_enter Tryz.func83, Tryz.ntmps83
    go_wp2
    go_loopg [6] n (fun gg s6 wr => ∃ (kk : Nat) (D : DataW Unit), kk ≤ n ∧ n - kk ≤ gg ∧ s6 = .int .i64 kk ∧ Aside0 (Below w.heap.size w wr) ∧ Aside0 (wr.ownsMap Tryz.prog 5 (plainElem Tryz.prog 3) w.heap.size kk D) ∧ Aside0 (CntAt D ((bytesOf a0).take kk)))
    case atStart => exact ⟨0, .map [], Nat.zero_le _, by omega, rfl, ⟨below_alloc (Below.refl _ _) _⟩, ⟨World.ownsMap_made _ _ _ _⟩, ⟨CntAt.nil⟩⟩
    case round =>
      obtain ⟨kk, D, hkk, hg, rfl, HB, HM, HC⟩ := hrel
      by_cases hlt : kk < n
      · have hltz : (kk : Int) < (n : Int) := by omega
        have hl : kk < a0.size := by omega
        have hx : ((a0[kk]'hl).toNat : Int) = bt a0 (kk : Int) := by simp [bt, hl]
        have hy0 : bt a0 (kk : Int) = (bytesOf a0).getD kk 0 := bt_getD a0 kk hl
        have hr := bt_range a0 (kk : Int)
        have hnext := CntAt.put HM.out.isMap HC.out (bt a0 (kk : Int))
        have htake := sh_snoc (bytesOf a0) kk (by have := HB0.out; omega)
        rw [← hy0] at htake
        rw [← htake] at hnext
        have hat := HC.out (bt a0 (kk : Int))
        have hcl : ((bytesOf a0).take kk).count (bt a0 (kk : Int)) ≤ 100000 := Nat.le_trans List.count_le_length (by rw [List.length_take]; omega)
        generalize ((bytesOf a0).take kk).count (bt a0 (kk : Int)) = cc at hnext hat hcl
        obtain ⟨cn, hcn⟩ : ∃ cn : Nat, cn = cc + 1 := ⟨_, rfl⟩
        rw [← hcn] at hnext
        have hw : IntKind.i64.wrap ((cc : Int) + 1) = (cn : Int) := (i64_w _).trans (by unfold wrap64; omega)
        have hcl2 : (cn : Int) ≤ 9223372036854775807 := by omega
        have HNX := Aside0.mk hnext
        have HAT := Aside0.mk hat
        clear hnext hat hcn htake
        generalize bt a0 (kk : Int) = y at hx hr HNX HAT
        have hkey : keyOf Tryz.prog 5 (.int .u8 y) = some (.int .u8 y) := keyOf_int_mk Tryz.underlying5 (u8_wf hr.1 (by omega))
        clear hr hy0
        go_wp2_with (first
          | (at_lookup; refine wpList_lookup_own_int _ rfl _ _ 91 rfl 5 3 .i64 law5 Tryz.underlying91 Tryz.underlying3 (zero3 _) w.heap.size kk _ rfl HM.out _ _ rfl hkey ?_; intro c hat hwc; obtain rfl : c = (cc : Int) := (Lit.int.inj (DataW.lit.inj (hat.symm.trans HAT.out))).2; clear hat)
          | (at_mapUpdate; refine wpList_mapUpdate_own _ rfl _ _ _ 91 rfl 5 3 law5 Tryz.underlying91 (plainElem Tryz.prog 3) w.heap.size kk _ rfl HM.out (by unfold maxLen; omega) _ _ _ rfl rfl hkey _ [] (plainElem_int Tryz.underlying3 (WalkArith.wf_i64 (by omega))) ?_; intro w1 hown1 hgrow1))
        go_roundg (n - (kk + 1))
        case measure => omega
        case rel =>
          exact ⟨kk + 1, _, by omega, by omega, by go_num, ⟨HB.out.grown hgrow1 HB.out.size (fun j hj => by cases hj; exact Nat.le_refl _)⟩, ⟨hown1⟩, HNX⟩
      · obtain rfl : kk = n := by omega
        have hc0 := HC.out
        rw [List.take_of_length_le (by have := HB0.out; omega)] at hc0
        clear HC
        have HC0 := Aside0.mk hc0
        obtain ⟨sv, hsv⟩ : ∃ sv, shGo (bytesOf a1) (bytesOf a0) = sv := ⟨_, rfl⟩
        rw [hsv] at HR
        have HS0 := Aside0.mk hsv
        clear hsv hc0
        go_wp2
        go_loopg [7] m (fun gg s7 wi => ∃ (j : Nat) (E : DataW Unit), j ≤ m ∧ m - j ≤ gg ∧ s7 = .int .i64 j ∧ Aside0 (Below w.heap.size w wi) ∧ Aside0 (wi.ownsMap Tryz.prog 5 (plainElem Tryz.prog 3) w.heap.size (kk + j) E) ∧ Aside0 (CntAt E (bytesOf a0 ++ (bytesOf a1).take j)) ∧ Aside0 (shGo ((bytesOf a1).drop j) (bytesOf a0 ++ (bytesOf a1).take j) = sv))
        case atStart => exact ⟨0, D, Nat.zero_le _, by omega, rfl, HB, HM, ⟨by simpa using HC0.out⟩, ⟨by simpa using HS0.out⟩⟩
        case round =>
          clear HB HM HC0 HS0
          obtain ⟨j, E, hj, hg2, rfl, HB, HM, HC, HS⟩ := hrel
          by_cases hlt : j < m
          · have hltz : (j : Int) < (m : Int) := by omega
            have hl : j < a1.size := by omega
            have hx : ((a1[j]'hl).toNat : Int) = bt a1 (j : Int) := by simp [bt, hl]
            have hy0 : bt a1 (j : Int) = (bytesOf a1).getD j 0 := bt_getD a1 j hl
            have hr := bt_range a1 (j : Int)
            have hnext := CntAt.put HM.out.isMap HC.out (bt a1 (j : Int))
            have htake := sh_snoc (bytesOf a1) j (by have := HB1.out; omega)
            have hdrop := sh_hd (bytesOf a1) j (by have := HB1.out; omega)
            rw [← hy0] at htake hdrop
            rw [List.append_assoc, ← htake] at hnext
            have hsh := HS.out
            rw [hdrop, shGo, List.append_assoc, ← htake] at hsh
            have hat := HC.out (bt a1 (j : Int))
            have hcl : (bytesOf a0 ++ (bytesOf a1).take j).count (bt a1 (j : Int)) ≤ 300000 := Nat.le_trans List.count_le_length (by rw [List.length_append, List.length_take]; have := HB0.out; omega)
            generalize (bytesOf a0 ++ (bytesOf a1).take j).count (bt a1 (j : Int)) = cc at hnext hat hcl hsh
            obtain ⟨cn, hcn⟩ : ∃ cn : Nat, cn = cc + 1 := ⟨_, rfl⟩
            rw [← hcn] at hnext
            have hw : IntKind.i64.wrap ((cc : Int) + 1) = (cn : Int) := (i64_w _).trans (by unfold wrap64; omega)
            have hcl2 : (cn : Int) ≤ 9223372036854775807 := by omega
            have HNX := Aside0.mk hnext
            have HAT := Aside0.mk hat
            clear hnext hat hcn htake hdrop HS
            generalize bt a1 (j : Int) = y at hx hr HNX HAT
            have hkey : keyOf Tryz.prog 5 (.int .u8 y) = some (.int .u8 y) := keyOf_int_mk Tryz.underlying5 (u8_wf hr.1 (by omega))
            clear hr hy0
            by_cases h1 : cc = 1
            · rw [if_pos h1] at hsh
              have HSH := Aside0.mk hsh
              have e1 : ((cc : Int) != 1) = false := bne_eq_false_iff_eq.mpr (by omega)
              clear hsh h1
              go_wp2_with (first
                | (at_lookup; refine wpList_lookup_own_int _ rfl _ _ 91 rfl 5 3 .i64 law5 Tryz.underlying91 Tryz.underlying3 (zero3 _) w.heap.size (kk + j) _ rfl HM.out _ _ rfl hkey ?_; intro c hat hwc; obtain rfl : c = (cc : Int) := (Lit.int.inj (DataW.lit.inj (hat.symm.trans HAT.out))).2; clear hat)
                | (at_mapUpdate; refine wpList_mapUpdate_own _ rfl _ _ _ 91 rfl 5 3 law5 Tryz.underlying91 (plainElem Tryz.prog 3) w.heap.size (kk + j) _ rfl HM.out (by unfold maxLen; omega) _ _ _ rfl rfl hkey _ [] (plainElem_int Tryz.underlying3 (WalkArith.wf_i64 (by omega))) ?_; intro w1 hown1 hgrow1))
              go_roundg (m - (j + 1))
              case measure => omega
              case rel =>
                exact ⟨j + 1, _, by omega, by omega, by go_num, ⟨HB.out.grown hgrow1 HB.out.size (fun j hj => by cases hj; exact Nat.le_refl _)⟩, ⟨hown1⟩, HNX, HSH⟩
            · rw [if_neg h1] at hsh
              have e1 : ((cc : Int) != 1) = true := bne_iff_ne.mpr (by omega)
              subst hsh
              obtain rfl : false = r := by have := Option.some.inj HR.out; simpa using this
              clear h1
              go_wp2_with (at_lookup; refine wpList_lookup_own_int _ rfl _ _ 91 rfl 5 3 .i64 law5 Tryz.underlying91 Tryz.underlying3 (zero3 _) w.heap.size (kk + j) _ rfl HM.out _ _ rfl hkey ?_; intro c hat hwc; obtain rfl : c = (cc : Int) := (Lit.int.inj (DataW.lit.inj (hat.symm.trans HAT.out))).2; clear hat)
              go_ret
              exact ⟨rfl, HB.out⟩
          · obtain rfl : j = m := by omega
            obtain rfl : true = sv := by
              have h2 := HS.out
              rw [List.drop_of_length_le (by have := HB1.out; omega)] at h2
              exact h2
            have hres := Option.some.inj HR.out
            rw [Bool.true_and] at hres
            by_cases he : kk = j
            · have e9 : ((kk : Int) == (j : Int)) = true := beq_iff_eq.mpr (by omega)
              have e10 : (kk == j) = true := beq_iff_eq.mpr he
              rw [decide_eq_true he] at hres
              subst hres
              clear he HR
              go_wp2
              go_ret
              exact ⟨rfl, HB.out⟩
            · have e9 : ((kk : Int) == (j : Int)) = false := beq_eq_false_iff_ne.mpr (by omega)
              have e10 : (kk == j) = false := beq_eq_false_iff_ne.mpr he
              rw [decide_eq_false he] at hres
              subst hres
              clear he HR
              go_wp2
              go_ret
              exact ⟨rfl, HB.out⟩
  · rw [if_neg hc] at h
    cases h
end Go.Proofs.YtlekfhnlhdmekaaGreatDoor.T

/- text.X2B returns what text_X2B.f says. -/
namespace Go.Proofs.YtlekfhnlhdmekaaGreatDoor.T
set_option linter.unusedSimpArgs false
set_option linter.unusedVariables false
open Go.RowKit Go.Proofs.YtlekfhnlhdmekaaGreatDoorW.PrintWords Go.Proofs.YtlekfhnlhdmekaaGreatDoorW.PrintLast Go.Proofs.YtlekfhnlhdmekaaGreatDoorW.PrintMore
attribute [local go_sem] max2_int min2_int max_two min_two max_three min_three max_four min_four

/-- The digit for a bit. -/
def bit01 (n b : Int) : Int := if Go.bits .and .i64 n b < 1 then 48 else 49
def b4 (n : Int) : List Int := [bit01 n 8, bit01 n 4, bit01 n 2, bit01 n 1]
def nn4 (n : Int) : Bool := decide (0 ≤ Go.bits .and .i64 n 8) && decide (0 ≤ Go.bits .and .i64 n 4) && decide (0 ≤ Go.bits .and .i64 n 2) && decide (0 ≤ Go.bits .and .i64 n 1)
def text_X2B.f (k : Nat) (a0 : ByteArray) : Option (ByteArray × Int) := (text_digits.f k a0 16 2).bind fun t =>
  if t.2 = true then (if vld a0 = true then
    (strings_ReplaceAll.f a0 ⟨#[32]⟩ ⟨#[]⟩).bind fun r =>
      if t.1.length ≤ 5000 ∧ t.1.all nn4 = true then text_made.f (strOfNums ((if r.size < t.1.length then t.1.drop 1 else t.1).flatMap b4)) else none
    else some (⟨#[]⟩, 1)) else some (⟨#[]⟩, 1)
theorem digits_mono (k : Nat) (a0 : ByteArray) : LeO (text_X2B.f k a0) (text_X2B.f (k + 1) a0) := by
  unfold text_X2B.f
  exact LeO.bind (text_digits.mono _ _ _ _) (fun _ => LeO.refl _)
theorem text_X2B.mono (a0 : ByteArray) (k : Nat) : LeO (text_X2B.f k a0) (text_X2B.f (k + 1) a0) := digits_mono k a0
theorem nn4_at (l : List Int) (h : l.all nn4 = true) (i : Nat) (hi : i < l.length) : 0 ≤ Go.bits .and .i64 (rd l i) 8 ∧ 0 ≤ Go.bits .and .i64 (rd l i) 4 ∧ 0 ≤ Go.bits .and .i64 (rd l i) 2 ∧ 0 ≤ Go.bits .and .i64 (rd l i) 1 := by
  have hx : nn4 (rd l i) = true := by
    rw [show rd l (i : Int) = l[i] by unfold rd; rw [Int.toNat_natCast, List.getD_eq_getElem?_getD, List.getElem?_eq_getElem hi]; rfl]
    exact List.all_eq_true.1 h _ (List.getElem_mem hi)
  simp only [nn4, Bool.and_eq_true, decide_eq_true_eq] at hx
  exact ⟨hx.1.1.1, hx.1.1.2, hx.1.2, hx.2⟩
theorem flat_step (l xs z : List Int) (i : Nat) (h : xs ++ (l.drop i).flatMap b4 = z) (hi : i < l.length) : xs ++ b4 (rd l i) ++ (l.drop (i + 1)).flatMap b4 = z := by
  rw [show rd l (i : Int) = l[i] by unfold rd; rw [Int.toNat_natCast, List.getD_eq_getElem?_getD, List.getElem?_eq_getElem hi]; rfl, ← h, List.drop_eq_getElem_cons hi, List.flatMap_cons, List.append_assoc]
theorem ix144_0 (W : World) : Sem.run Tryz.prog (Instr.index 144 (Value.agg #[Value.int .i64 8, Value.int .i64 4, Value.int .i64 2, Value.int .i64 1]) (Value.int .i64 0)) W = .ok (.int .i64 8) W := by
  simp [Instr.index, asIntOf, part]
theorem ix144_1 (W : World) : Sem.run Tryz.prog (Instr.index 144 (Value.agg #[Value.int .i64 8, Value.int .i64 4, Value.int .i64 2, Value.int .i64 1]) (Value.int .i64 1)) W = .ok (.int .i64 4) W := by
  simp [Instr.index, asIntOf, part]
theorem ix144_2 (W : World) : Sem.run Tryz.prog (Instr.index 144 (Value.agg #[Value.int .i64 8, Value.int .i64 4, Value.int .i64 2, Value.int .i64 1]) (Value.int .i64 2)) W = .ok (.int .i64 2) W := by
  simp [Instr.index, asIntOf, part]
theorem ix144_3 (W : World) : Sem.run Tryz.prog (Instr.index 144 (Value.agg #[Value.int .i64 8, Value.int .i64 4, Value.int .i64 2, Value.int .i64 1]) (Value.int .i64 3)) W = .ok (.int .i64 1) W := by
  simp [Instr.index, asIntOf, part]
attribute [local go_sem] ix144_0 ix144_1 ix144_2 ix144_3
theorem flat_end (l xs z : List Int) (h : xs ++ (l.drop l.length).flatMap b4 = z) : xs = z := by
  rw [List.drop_length] at h; simpa using h

set_option maxRecDepth 100000 in
set_option maxHeartbeats 8000000 in
theorem text_X2B.calls (k : Nat) (a0 : ByteArray) (r1 : ByteArray) (r2 : Int) (w : World) (hT : TabOK w) (h : text_X2B.f k a0 = some (r1, r2)) :
    Calls Tryz.prog 77 #[.string a0] w fun e w' => e = .returned (.tuple #[.string r1, .int .i64 r2]) ∧ Below w.heap.size w w' := by
  unfold text_X2B.f at h
  obtain ⟨⟨l, is⟩, hd, h⟩ := Option.bind_eq_some_iff.mp h
  have HD := Lib.hid (fun (W : World) (hW : TabOK W) => text_digits.calls k a0 16 2 l is W hW hd)
  have HV := Lib.hid (fun (W : World) => text_Valid.calls a0 (vld a0) W rfl)
  clear hd
  simp only at h
  cases is with
  | false =>
    rw [if_neg (by decide)] at h
    obtain ⟨rfl, rfl⟩ : (⟨#[]⟩ : ByteArray) = r1 ∧ 1 = r2 := by simpa using h
    clear h
    go_enter Tryz.func77, Tryz.ntmps77
    go_wp2_with (first | (go_at_call 131; with_reducible refine (HD.out _ (by repeat (first | exact hT | refine TabOK.of_below hT ?_ | exact Below.refl _ _))).mono ?_; rintro e w1 ⟨v1, rfl, ho1, hb1⟩; obtain ⟨A1, c1, rfl⟩ := Kd.R_slice ho1; have HO1 := Aside0.mk ho1; have HB1 := Aside0.mk hb1; clear ho1 hb1))
    go_ret2
    exact ⟨rfl, HB1.out⟩
  | true =>
    rw [if_pos rfl] at h
    generalize vld a0 = bv at HV h
    cases bv with
    | false =>
      rw [if_neg (by decide)] at h
      obtain ⟨rfl, rfl⟩ : (⟨#[]⟩ : ByteArray) = r1 ∧ 1 = r2 := by simpa using h
      clear h
      go_enter Tryz.func77, Tryz.ntmps77
      go_wp2_with (first | (go_at_call 131; with_reducible refine (HD.out _ (by repeat (first | exact hT | refine TabOK.of_below hT ?_ | exact Below.refl _ _))).mono ?_; rintro e w1 ⟨v1, rfl, ho1, hb1⟩; obtain ⟨A1, c1, rfl⟩ := Kd.R_slice ho1; have HO1 := Aside0.mk ho1; have HB1 := Aside0.mk hb1; clear ho1 hb1) | (go_at_call 65; with_reducible refine (HV.out _).mono ?_; rintro e w2 ⟨rfl, hb2⟩; have HB2 := Aside0.mk (below_step HB1.out hb2); have HO2 := Aside0.mk (Kd.R_below HO1.out hb2); clear hb2))
      go_ret2
      exact ⟨rfl, HB2.out⟩
    | true =>
      rw [if_pos rfl] at h
      obtain ⟨r, hr, h⟩ := Option.bind_eq_some_iff.mp h
      have HR := Lib.hid (fun (W : World) (hW : TabOK W) => strings_ReplaceAll.calls a0 ⟨#[32]⟩ ⟨#[]⟩ r W hW hr)
      clear hr
      by_cases hc : l.length ≤ 5000 ∧ l.all nn4 = true
      · rw [if_pos hc] at h
        obtain ⟨hc1, hc2⟩ := hc
        obtain ⟨nl, hnl⟩ : ∃ nl, l.length = nl := ⟨_, rfl⟩
        have HN := Aside0.mk hnl
        rw [hnl] at hc1 h
        by_cases hrl : r.size < nl
        · rw [if_pos hrl] at h
          have d1 : decide (r.size < nl) = true := decide_eq_true hrl
          obtain ⟨z, hz⟩ : ∃ z, (l.drop 1).flatMap b4 = z := ⟨_, rfl⟩
          rw [hz] at h
          have HZ := Aside0.mk hz
          have HM := Lib.hid (fun (W : World) => text_made.calls (strOfNums z) r1 r2 W h)
          have HALL := Aside0.mk (nn4_at (l.drop 1) (by rw [List.all_eq_true]; intro x hx; exact List.all_eq_true.1 hc2 x (List.mem_of_mem_drop hx)))
          obtain ⟨nm, hnm⟩ : ∃ nm, nl = nm + 1 := ⟨nl - 1, by omega⟩
          have HLN : Aside0 ((l.drop 1).length = nm) := ⟨by rw [List.length_drop, hnl, hnm]; rfl⟩
          have hs1 : (1 : Int) ≤ (nl : Int) := by omega
          have HNM := Aside0.mk hnm
          clear hnm
          clear hz h hc2 hnl hrl
          go_enter Tryz.func77, Tryz.ntmps77
          go_upto_region 6 with (first | (go_at_call 131; with_reducible refine (HD.out _ (by repeat (first | exact hT | refine TabOK.of_below hT ?_ | exact Below.refl _ _))).mono ?_; rintro e w1 ⟨v1, rfl, ho1, hb1⟩; obtain ⟨A1, c1, rfl⟩ := Kd.R_slice ho1; have hcp := (Kd.R_reads' ho1).2.1; rw [HN.out] at hcp; rw [HN.out]; have HO1 := Aside0.mk ho1; have HB1 := Aside0.mk hb1; clear ho1 hb1) | (go_at_call 65; with_reducible refine (HV.out _).mono ?_; rintro e w2 ⟨rfl, hb2⟩; have HB2 := Aside0.mk (below_step HB1.out hb2); have HO2 := Aside0.mk (Kd.R_below HO1.out hb2); clear hb2) | (go_at_call 132; with_reducible refine (HR.out _ (TabOK.of_below hT HB2.out)).mono ?_; rintro e w3 ⟨rfl, hb3⟩; have HB3 := Aside0.mk (below_step HB2.out hb3); have HO3 := Aside0.mk (Kd.R_below HO2.out hb3); clear hb3))
          have HL : Aside0 (Kd.C (Kd.int .i64) w3 (if c1 = 1 then A1 else Option.map (fun x : Addr => (⟨x.block, x.off + 1, none⟩ : Addr)) A1) (l.drop 1).length (l.drop 1)) := ⟨Kd.C_drop (m := 1) (c := c1) (Kd.R_reads' HO3.out).2.2 (by have := HN.out; omega) (by have := HN.out; omega)⟩
          generalize (if c1 = 1 then A1 else Option.map (fun x : Addr => (⟨x.block, x.off + 1, none⟩ : Addr)) A1) = A4 at HL ⊢
          have hnm2 : nl - 1 = nm := by have := HNM.out; omega
          simp only [hnm2]
          clear hnm2 hs1 d1 hcp
          have hnm5 : nm ≤ 5000 := by have := HNM.out; omega
          clear hc1
          go_wp2
          go_loopg [6, 33] nm (fun gg s6 s33 wr => ∃ (i : Nat) (xs : List Int), nm - i ≤ gg ∧ i ≤ nm ∧ s33 = .int .i64 i ∧ Aside0 (xs ++ ((l.drop 1).drop i).flatMap b4 = z) ∧ Aside0 (xs.length = 4 * i) ∧ Aside0 (Kd.R (Kd.int .u8) 5 wr w3.heap.size (fun _ => True) s6 xs) ∧ Aside0 (Below w3.heap.size w3 wr))
          case atStart => exact ⟨0, [], by omega, by omega, rfl, ⟨by simpa using HZ.out⟩, ⟨rfl⟩, ⟨Kd.R_nil _ _ _ _ _⟩, ⟨Below.refl _ _⟩⟩
          case round =>
            obtain ⟨i, xs, hg, hi, rfl, HG, HX, HO, HB⟩ := hrel
            by_cases hlt : i < nm
            · have g1 : (i : Int) < (nm : Int) := by omega
              have hst := flat_step (l.drop 1) xs z i HG.out (by have := HLN.out; omega)
              obtain ⟨n8, n4, n2, n1⟩ := HALL.out i (by have := HLN.out; omega)
              obtain ⟨ad, ea, hu⟩ := Kd.at_int (Kd.C_below HL.out HB.out) (i : Int) (by omega) (by have := HLN.out; omega)
              rw [Int.toNat_natCast] at hu
              subst ea
              generalize rd (l.drop 1) (i : Int) = n at hst n8 n4 n2 n1 hu
              have HST := Aside0.mk hst
              have N8 := Aside0.mk n8; have N4 := Aside0.mk n4; have N2 := Aside0.mk n2; have N1 := Aside0.mk n1
              clear hst n8 n4 n2 n1 HG
              go_wp2
              go_loopg [6, 38] 4 (fun gg s6 s38 wi => ∃ (j : Nat) (ys : List Int), 4 - j ≤ gg ∧ j ≤ 4 ∧ s38 = .int .i64 j ∧ Aside0 (ys = xs ++ (b4 n).take j) ∧ Aside0 (Kd.R (Kd.int .u8) 5 wi w3.heap.size (fun _ => True) s6 ys) ∧ Aside0 (Below w3.heap.size w3 wi))
              case atStart => exact ⟨0, xs, by omega, by omega, rfl, ⟨by simp⟩, HO, HB⟩
              case round =>
                clear HO HB hu g1
                obtain ⟨j, ys, hg2, hj, rfl, HY, HO, HB⟩ := hrel
                have hyl : ys.length ≤ 100000 := by rw [HY.out, List.length_append, List.length_take, HX.out]; omega
                have HYL := Aside0.mk hyl
                clear hyl
                obtain rfl | rfl | rfl | rfl | rfl : j = 0 ∨ j = 1 ∨ j = 2 ∨ j = 3 ∨ j = 4 := by omega
                · by_cases hx : Go.bits .and .i64 n 8 < 1
                  · have hx0 : Go.bits .and .i64 n 8 = 0 := by have := N8.out; omega
                    have HBT : Aside0 (bit01 n 8 = 48) := ⟨by unfold bit01; rw [if_pos hx]⟩
                    clear hx
                    go_wp2_with (at_builtin; refine Kd.R_append (Kd.int .u8) (w0 := w3) w3.heap.size rfl (.tmp 41) (.tmp 47) 83 5 (.int .u8 0) 1 rfl Tryz.underlying83 info5 rfl (by decide) (by omega) _ ys 48 [.int .u8 48] (fun _ => True) (fun _ => False) rfl rfl ?aP (fun _ hk => hk.elim) ?aF ?aO ?aB ?aS ?aL ?_; (case aP => exact rfl); (case aB => exact HB.out); (case aF => exact (fun _ _ => trivial)); (case aO => exact HO.out); (case aS => exact HB.out.size); (case aL => have := HYL.out; omega); intro v7 w7 ho7 hb7 hg7 hat7; have HO7 := Aside0.mk ho7; have HB7 := Aside0.mk hb7; clear ho7 hb7 hg7 hat7)
                    go_roundg 3
                    case measure => omega
                    case rel => exact ⟨0 + 1, ys ++ [48], by omega, by omega, by go_num, ⟨by rw [HY.out, List.append_assoc, ← HBT.out]; rfl⟩, HO7, HB7⟩
                  · have hx0 := hx
                    have HBT : Aside0 (bit01 n 8 = 49) := ⟨by unfold bit01; rw [if_neg hx]⟩
                    clear hx0
                    go_wp2_with (at_builtin; refine Kd.R_append (Kd.int .u8) (w0 := w3) w3.heap.size rfl (.tmp 41) (.tmp 47) 83 5 (.int .u8 0) 1 rfl Tryz.underlying83 info5 rfl (by decide) (by omega) _ ys 49 [.int .u8 49] (fun _ => True) (fun _ => False) rfl rfl ?aP (fun _ hk => hk.elim) ?aF ?aO ?aB ?aS ?aL ?_; (case aP => exact rfl); (case aB => exact HB.out); (case aF => exact (fun _ _ => trivial)); (case aO => exact HO.out); (case aS => exact HB.out.size); (case aL => have := HYL.out; omega); intro v7 w7 ho7 hb7 hg7 hat7; have HO7 := Aside0.mk ho7; have HB7 := Aside0.mk hb7; clear ho7 hb7 hg7 hat7)
                    go_roundg 3
                    case measure => omega
                    case rel => exact ⟨0 + 1, ys ++ [49], by omega, by omega, by go_num, ⟨by rw [HY.out, List.append_assoc, ← HBT.out]; rfl⟩, HO7, HB7⟩
                · by_cases hx : Go.bits .and .i64 n 4 < 1
                  · have hx0 : Go.bits .and .i64 n 4 = 0 := by have := N4.out; omega
                    have HBT : Aside0 (bit01 n 4 = 48) := ⟨by unfold bit01; rw [if_pos hx]⟩
                    clear hx
                    go_wp2_with (at_builtin; refine Kd.R_append (Kd.int .u8) (w0 := w3) w3.heap.size rfl (.tmp 41) (.tmp 47) 83 5 (.int .u8 0) 1 rfl Tryz.underlying83 info5 rfl (by decide) (by omega) _ ys 48 [.int .u8 48] (fun _ => True) (fun _ => False) rfl rfl ?aP (fun _ hk => hk.elim) ?aF ?aO ?aB ?aS ?aL ?_; (case aP => exact rfl); (case aB => exact HB.out); (case aF => exact (fun _ _ => trivial)); (case aO => exact HO.out); (case aS => exact HB.out.size); (case aL => have := HYL.out; omega); intro v7 w7 ho7 hb7 hg7 hat7; have HO7 := Aside0.mk ho7; have HB7 := Aside0.mk hb7; clear ho7 hb7 hg7 hat7)
                    go_roundg 2
                    case measure => omega
                    case rel => exact ⟨1 + 1, ys ++ [48], by omega, by omega, by go_num, ⟨by rw [HY.out, List.append_assoc, ← HBT.out]; rfl⟩, HO7, HB7⟩
                  · have hx0 := hx
                    have HBT : Aside0 (bit01 n 4 = 49) := ⟨by unfold bit01; rw [if_neg hx]⟩
                    clear hx0
                    go_wp2_with (at_builtin; refine Kd.R_append (Kd.int .u8) (w0 := w3) w3.heap.size rfl (.tmp 41) (.tmp 47) 83 5 (.int .u8 0) 1 rfl Tryz.underlying83 info5 rfl (by decide) (by omega) _ ys 49 [.int .u8 49] (fun _ => True) (fun _ => False) rfl rfl ?aP (fun _ hk => hk.elim) ?aF ?aO ?aB ?aS ?aL ?_; (case aP => exact rfl); (case aB => exact HB.out); (case aF => exact (fun _ _ => trivial)); (case aO => exact HO.out); (case aS => exact HB.out.size); (case aL => have := HYL.out; omega); intro v7 w7 ho7 hb7 hg7 hat7; have HO7 := Aside0.mk ho7; have HB7 := Aside0.mk hb7; clear ho7 hb7 hg7 hat7)
                    go_roundg 2
                    case measure => omega
                    case rel => exact ⟨1 + 1, ys ++ [49], by omega, by omega, by go_num, ⟨by rw [HY.out, List.append_assoc, ← HBT.out]; rfl⟩, HO7, HB7⟩
                · by_cases hx : Go.bits .and .i64 n 2 < 1
                  · have hx0 : Go.bits .and .i64 n 2 = 0 := by have := N2.out; omega
                    have HBT : Aside0 (bit01 n 2 = 48) := ⟨by unfold bit01; rw [if_pos hx]⟩
                    clear hx
                    go_wp2_with (at_builtin; refine Kd.R_append (Kd.int .u8) (w0 := w3) w3.heap.size rfl (.tmp 41) (.tmp 47) 83 5 (.int .u8 0) 1 rfl Tryz.underlying83 info5 rfl (by decide) (by omega) _ ys 48 [.int .u8 48] (fun _ => True) (fun _ => False) rfl rfl ?aP (fun _ hk => hk.elim) ?aF ?aO ?aB ?aS ?aL ?_; (case aP => exact rfl); (case aB => exact HB.out); (case aF => exact (fun _ _ => trivial)); (case aO => exact HO.out); (case aS => exact HB.out.size); (case aL => have := HYL.out; omega); intro v7 w7 ho7 hb7 hg7 hat7; have HO7 := Aside0.mk ho7; have HB7 := Aside0.mk hb7; clear ho7 hb7 hg7 hat7)
                    go_roundg 1
                    case measure => omega
                    case rel => exact ⟨2 + 1, ys ++ [48], by omega, by omega, by go_num, ⟨by rw [HY.out, List.append_assoc, ← HBT.out]; rfl⟩, HO7, HB7⟩
                  · have hx0 := hx
                    have HBT : Aside0 (bit01 n 2 = 49) := ⟨by unfold bit01; rw [if_neg hx]⟩
                    clear hx0
                    go_wp2_with (at_builtin; refine Kd.R_append (Kd.int .u8) (w0 := w3) w3.heap.size rfl (.tmp 41) (.tmp 47) 83 5 (.int .u8 0) 1 rfl Tryz.underlying83 info5 rfl (by decide) (by omega) _ ys 49 [.int .u8 49] (fun _ => True) (fun _ => False) rfl rfl ?aP (fun _ hk => hk.elim) ?aF ?aO ?aB ?aS ?aL ?_; (case aP => exact rfl); (case aB => exact HB.out); (case aF => exact (fun _ _ => trivial)); (case aO => exact HO.out); (case aS => exact HB.out.size); (case aL => have := HYL.out; omega); intro v7 w7 ho7 hb7 hg7 hat7; have HO7 := Aside0.mk ho7; have HB7 := Aside0.mk hb7; clear ho7 hb7 hg7 hat7)
                    go_roundg 1
                    case measure => omega
                    case rel => exact ⟨2 + 1, ys ++ [49], by omega, by omega, by go_num, ⟨by rw [HY.out, List.append_assoc, ← HBT.out]; rfl⟩, HO7, HB7⟩
                · by_cases hx : Go.bits .and .i64 n 1 < 1
                  · have hx0 : Go.bits .and .i64 n 1 = 0 := by have := N1.out; omega
                    have HBT : Aside0 (bit01 n 1 = 48) := ⟨by unfold bit01; rw [if_pos hx]⟩
                    clear hx
                    go_wp2_with (at_builtin; refine Kd.R_append (Kd.int .u8) (w0 := w3) w3.heap.size rfl (.tmp 41) (.tmp 47) 83 5 (.int .u8 0) 1 rfl Tryz.underlying83 info5 rfl (by decide) (by omega) _ ys 48 [.int .u8 48] (fun _ => True) (fun _ => False) rfl rfl ?aP (fun _ hk => hk.elim) ?aF ?aO ?aB ?aS ?aL ?_; (case aP => exact rfl); (case aB => exact HB.out); (case aF => exact (fun _ _ => trivial)); (case aO => exact HO.out); (case aS => exact HB.out.size); (case aL => have := HYL.out; omega); intro v7 w7 ho7 hb7 hg7 hat7; have HO7 := Aside0.mk ho7; have HB7 := Aside0.mk hb7; clear ho7 hb7 hg7 hat7)
                    go_roundg 0
                    case measure => omega
                    case rel => exact ⟨3 + 1, ys ++ [48], by omega, by omega, by go_num, ⟨by rw [HY.out, List.append_assoc, ← HBT.out]; rfl⟩, HO7, HB7⟩
                  · have hx0 := hx
                    have HBT : Aside0 (bit01 n 1 = 49) := ⟨by unfold bit01; rw [if_neg hx]⟩
                    clear hx0
                    go_wp2_with (at_builtin; refine Kd.R_append (Kd.int .u8) (w0 := w3) w3.heap.size rfl (.tmp 41) (.tmp 47) 83 5 (.int .u8 0) 1 rfl Tryz.underlying83 info5 rfl (by decide) (by omega) _ ys 49 [.int .u8 49] (fun _ => True) (fun _ => False) rfl rfl ?aP (fun _ hk => hk.elim) ?aF ?aO ?aB ?aS ?aL ?_; (case aP => exact rfl); (case aB => exact HB.out); (case aF => exact (fun _ _ => trivial)); (case aO => exact HO.out); (case aS => exact HB.out.size); (case aL => have := HYL.out; omega); intro v7 w7 ho7 hb7 hg7 hat7; have HO7 := Aside0.mk ho7; have HB7 := Aside0.mk hb7; clear ho7 hb7 hg7 hat7)
                    go_roundg 0
                    case measure => omega
                    case rel => exact ⟨3 + 1, ys ++ [49], by omega, by omega, by go_num, ⟨by rw [HY.out, List.append_assoc, ← HBT.out]; rfl⟩, HO7, HB7⟩
                · go_wp2
                  go_roundg (nm - (i + 1))
                  case measure => omega
                  case rel => exact ⟨i + 1, ys, by omega, by omega, by go_num, ⟨by rw [HY.out]; exact HST.out⟩, ⟨by rw [HY.out, List.length_append, HX.out]; show 4 * i + 4 = _; omega⟩, HO, HB⟩
            · have g1 : ¬ (i : Int) < (nm : Int) := by omega
              obtain rfl : i = nm := by omega
              have hxz : xs = z := by have h2 := HG.out; rw [← HLN.out] at h2; exact flat_end (l.drop 1) xs z h2
              subst hxz
              have hcv := own_string (P := Tryz.prog) Tryz.underlying83 Tryz.underlying5 Tryz.underlying9 (Kd.own_of_R HO.out)
              go_wp2_with (go_at_call 113; with_reducible refine (HM.out _).mono ?_; rintro e w9 ⟨rfl, hb9⟩; have HB9 := Aside0.mk (below_step (below_step HB3.out HB.out) hb9); clear hb9)
              go_ret2
              exact ⟨rfl, HB9.out⟩
        · rw [if_neg hrl] at h
          have d1 : decide (r.size < nl) = false := decide_eq_false hrl
          obtain ⟨z, hz⟩ : ∃ z, l.flatMap b4 = z := ⟨_, rfl⟩
          rw [hz] at h
          have HZ := Aside0.mk hz
          have HM := Lib.hid (fun (W : World) => text_made.calls (strOfNums z) r1 r2 W h)
          have HALL := Aside0.mk (nn4_at l hc2)
          have HLN : Aside0 (l.length = nl) := HN
          clear hz h hc2 hnl hrl
          go_enter Tryz.func77, Tryz.ntmps77
          go_wp2_with (first | (go_at_call 131; with_reducible refine (HD.out _ (by repeat (first | exact hT | refine TabOK.of_below hT ?_ | exact Below.refl _ _))).mono ?_; rintro e w1 ⟨v1, rfl, ho1, hb1⟩; obtain ⟨A1, c1, rfl⟩ := Kd.R_slice ho1; have hcp := (Kd.R_reads' ho1).2.1; rw [HN.out] at hcp; rw [HN.out]; have HO1 := Aside0.mk ho1; have HB1 := Aside0.mk hb1; clear ho1 hb1) | (go_at_call 65; with_reducible refine (HV.out _).mono ?_; rintro e w2 ⟨rfl, hb2⟩; have HB2 := Aside0.mk (below_step HB1.out hb2); have HO2 := Aside0.mk (Kd.R_below HO1.out hb2); clear hb2) | (go_at_call 132; with_reducible refine (HR.out _ (TabOK.of_below hT HB2.out)).mono ?_; rintro e w3 ⟨rfl, hb3⟩; have HB3 := Aside0.mk (below_step HB2.out hb3); have HO3 := Aside0.mk (Kd.R_below HO2.out hb3); clear hb3))
          have HL := Aside0.mk (Kd.R_reads' HO3.out).2.2
          go_loopg [6, 33] nl (fun gg s6 s33 wr => ∃ (i : Nat) (xs : List Int), nl - i ≤ gg ∧ i ≤ nl ∧ s33 = .int .i64 i ∧ Aside0 (xs ++ (l.drop i).flatMap b4 = z) ∧ Aside0 (xs.length = 4 * i) ∧ Aside0 (Kd.R (Kd.int .u8) 5 wr w3.heap.size (fun _ => True) s6 xs) ∧ Aside0 (Below w3.heap.size w3 wr))
          case atStart => exact ⟨0, [], by omega, by omega, rfl, ⟨by simpa using HZ.out⟩, ⟨rfl⟩, ⟨Kd.R_nil _ _ _ _ _⟩, ⟨Below.refl _ _⟩⟩
          case round =>
            obtain ⟨i, xs, hg, hi, rfl, HG, HX, HO, HB⟩ := hrel
            by_cases hlt : i < nl
            · have g1 : (i : Int) < (nl : Int) := by omega
              have hst := flat_step l xs z i HG.out (by have := HLN.out; omega)
              obtain ⟨n8, n4, n2, n1⟩ := HALL.out i (by have := HLN.out; omega)
              obtain ⟨ad, ea, hu⟩ := Kd.at_int (Kd.C_below HL.out HB.out) (i : Int) (by omega) (by have := HLN.out; omega)
              rw [Int.toNat_natCast] at hu
              subst ea
              generalize rd l (i : Int) = n at hst n8 n4 n2 n1 hu
              have HST := Aside0.mk hst
              have N8 := Aside0.mk n8; have N4 := Aside0.mk n4; have N2 := Aside0.mk n2; have N1 := Aside0.mk n1
              clear hst n8 n4 n2 n1 HG
              go_wp2
              go_loopg [6, 38] 4 (fun gg s6 s38 wi => ∃ (j : Nat) (ys : List Int), 4 - j ≤ gg ∧ j ≤ 4 ∧ s38 = .int .i64 j ∧ Aside0 (ys = xs ++ (b4 n).take j) ∧ Aside0 (Kd.R (Kd.int .u8) 5 wi w3.heap.size (fun _ => True) s6 ys) ∧ Aside0 (Below w3.heap.size w3 wi))
              case atStart => exact ⟨0, xs, by omega, by omega, rfl, ⟨by simp⟩, HO, HB⟩
              case round =>
                clear HO HB hu g1
                obtain ⟨j, ys, hg2, hj, rfl, HY, HO, HB⟩ := hrel
                have hyl : ys.length ≤ 100000 := by rw [HY.out, List.length_append, List.length_take, HX.out]; omega
                have HYL := Aside0.mk hyl
                clear hyl
                obtain rfl | rfl | rfl | rfl | rfl : j = 0 ∨ j = 1 ∨ j = 2 ∨ j = 3 ∨ j = 4 := by omega
                · by_cases hx : Go.bits .and .i64 n 8 < 1
                  · have hx0 : Go.bits .and .i64 n 8 = 0 := by have := N8.out; omega
                    have HBT : Aside0 (bit01 n 8 = 48) := ⟨by unfold bit01; rw [if_pos hx]⟩
                    clear hx
                    go_wp2_with (at_builtin; refine Kd.R_append (Kd.int .u8) (w0 := w3) w3.heap.size rfl (.tmp 41) (.tmp 47) 83 5 (.int .u8 0) 1 rfl Tryz.underlying83 info5 rfl (by decide) (by omega) _ ys 48 [.int .u8 48] (fun _ => True) (fun _ => False) rfl rfl ?aP (fun _ hk => hk.elim) ?aF ?aO ?aB ?aS ?aL ?_; (case aP => exact rfl); (case aB => exact HB.out); (case aF => exact (fun _ _ => trivial)); (case aO => exact HO.out); (case aS => exact HB.out.size); (case aL => have := HYL.out; omega); intro v7 w7 ho7 hb7 hg7 hat7; have HO7 := Aside0.mk ho7; have HB7 := Aside0.mk hb7; clear ho7 hb7 hg7 hat7)
                    go_roundg 3
                    case measure => omega
                    case rel => exact ⟨0 + 1, ys ++ [48], by omega, by omega, by go_num, ⟨by rw [HY.out, List.append_assoc, ← HBT.out]; rfl⟩, HO7, HB7⟩
                  · have hx0 := hx
                    have HBT : Aside0 (bit01 n 8 = 49) := ⟨by unfold bit01; rw [if_neg hx]⟩
                    clear hx0
                    go_wp2_with (at_builtin; refine Kd.R_append (Kd.int .u8) (w0 := w3) w3.heap.size rfl (.tmp 41) (.tmp 47) 83 5 (.int .u8 0) 1 rfl Tryz.underlying83 info5 rfl (by decide) (by omega) _ ys 49 [.int .u8 49] (fun _ => True) (fun _ => False) rfl rfl ?aP (fun _ hk => hk.elim) ?aF ?aO ?aB ?aS ?aL ?_; (case aP => exact rfl); (case aB => exact HB.out); (case aF => exact (fun _ _ => trivial)); (case aO => exact HO.out); (case aS => exact HB.out.size); (case aL => have := HYL.out; omega); intro v7 w7 ho7 hb7 hg7 hat7; have HO7 := Aside0.mk ho7; have HB7 := Aside0.mk hb7; clear ho7 hb7 hg7 hat7)
                    go_roundg 3
                    case measure => omega
                    case rel => exact ⟨0 + 1, ys ++ [49], by omega, by omega, by go_num, ⟨by rw [HY.out, List.append_assoc, ← HBT.out]; rfl⟩, HO7, HB7⟩
                · by_cases hx : Go.bits .and .i64 n 4 < 1
                  · have hx0 : Go.bits .and .i64 n 4 = 0 := by have := N4.out; omega
                    have HBT : Aside0 (bit01 n 4 = 48) := ⟨by unfold bit01; rw [if_pos hx]⟩
                    clear hx
                    go_wp2_with (at_builtin; refine Kd.R_append (Kd.int .u8) (w0 := w3) w3.heap.size rfl (.tmp 41) (.tmp 47) 83 5 (.int .u8 0) 1 rfl Tryz.underlying83 info5 rfl (by decide) (by omega) _ ys 48 [.int .u8 48] (fun _ => True) (fun _ => False) rfl rfl ?aP (fun _ hk => hk.elim) ?aF ?aO ?aB ?aS ?aL ?_; (case aP => exact rfl); (case aB => exact HB.out); (case aF => exact (fun _ _ => trivial)); (case aO => exact HO.out); (case aS => exact HB.out.size); (case aL => have := HYL.out; omega); intro v7 w7 ho7 hb7 hg7 hat7; have HO7 := Aside0.mk ho7; have HB7 := Aside0.mk hb7; clear ho7 hb7 hg7 hat7)
                    go_roundg 2
                    case measure => omega
                    case rel => exact ⟨1 + 1, ys ++ [48], by omega, by omega, by go_num, ⟨by rw [HY.out, List.append_assoc, ← HBT.out]; rfl⟩, HO7, HB7⟩
                  · have hx0 := hx
                    have HBT : Aside0 (bit01 n 4 = 49) := ⟨by unfold bit01; rw [if_neg hx]⟩
                    clear hx0
                    go_wp2_with (at_builtin; refine Kd.R_append (Kd.int .u8) (w0 := w3) w3.heap.size rfl (.tmp 41) (.tmp 47) 83 5 (.int .u8 0) 1 rfl Tryz.underlying83 info5 rfl (by decide) (by omega) _ ys 49 [.int .u8 49] (fun _ => True) (fun _ => False) rfl rfl ?aP (fun _ hk => hk.elim) ?aF ?aO ?aB ?aS ?aL ?_; (case aP => exact rfl); (case aB => exact HB.out); (case aF => exact (fun _ _ => trivial)); (case aO => exact HO.out); (case aS => exact HB.out.size); (case aL => have := HYL.out; omega); intro v7 w7 ho7 hb7 hg7 hat7; have HO7 := Aside0.mk ho7; have HB7 := Aside0.mk hb7; clear ho7 hb7 hg7 hat7)
                    go_roundg 2
                    case measure => omega
                    case rel => exact ⟨1 + 1, ys ++ [49], by omega, by omega, by go_num, ⟨by rw [HY.out, List.append_assoc, ← HBT.out]; rfl⟩, HO7, HB7⟩
                · by_cases hx : Go.bits .and .i64 n 2 < 1
                  · have hx0 : Go.bits .and .i64 n 2 = 0 := by have := N2.out; omega
                    have HBT : Aside0 (bit01 n 2 = 48) := ⟨by unfold bit01; rw [if_pos hx]⟩
                    clear hx
                    go_wp2_with (at_builtin; refine Kd.R_append (Kd.int .u8) (w0 := w3) w3.heap.size rfl (.tmp 41) (.tmp 47) 83 5 (.int .u8 0) 1 rfl Tryz.underlying83 info5 rfl (by decide) (by omega) _ ys 48 [.int .u8 48] (fun _ => True) (fun _ => False) rfl rfl ?aP (fun _ hk => hk.elim) ?aF ?aO ?aB ?aS ?aL ?_; (case aP => exact rfl); (case aB => exact HB.out); (case aF => exact (fun _ _ => trivial)); (case aO => exact HO.out); (case aS => exact HB.out.size); (case aL => have := HYL.out; omega); intro v7 w7 ho7 hb7 hg7 hat7; have HO7 := Aside0.mk ho7; have HB7 := Aside0.mk hb7; clear ho7 hb7 hg7 hat7)
                    go_roundg 1
                    case measure => omega
                    case rel => exact ⟨2 + 1, ys ++ [48], by omega, by omega, by go_num, ⟨by rw [HY.out, List.append_assoc, ← HBT.out]; rfl⟩, HO7, HB7⟩
                  · have hx0 := hx
                    have HBT : Aside0 (bit01 n 2 = 49) := ⟨by unfold bit01; rw [if_neg hx]⟩
                    clear hx0
                    go_wp2_with (at_builtin; refine Kd.R_append (Kd.int .u8) (w0 := w3) w3.heap.size rfl (.tmp 41) (.tmp 47) 83 5 (.int .u8 0) 1 rfl Tryz.underlying83 info5 rfl (by decide) (by omega) _ ys 49 [.int .u8 49] (fun _ => True) (fun _ => False) rfl rfl ?aP (fun _ hk => hk.elim) ?aF ?aO ?aB ?aS ?aL ?_; (case aP => exact rfl); (case aB => exact HB.out); (case aF => exact (fun _ _ => trivial)); (case aO => exact HO.out); (case aS => exact HB.out.size); (case aL => have := HYL.out; omega); intro v7 w7 ho7 hb7 hg7 hat7; have HO7 := Aside0.mk ho7; have HB7 := Aside0.mk hb7; clear ho7 hb7 hg7 hat7)
                    go_roundg 1
                    case measure => omega
                    case rel => exact ⟨2 + 1, ys ++ [49], by omega, by omega, by go_num, ⟨by rw [HY.out, List.append_assoc, ← HBT.out]; rfl⟩, HO7, HB7⟩
                · by_cases hx : Go.bits .and .i64 n 1 < 1
                  · have hx0 : Go.bits .and .i64 n 1 = 0 := by have := N1.out; omega
                    have HBT : Aside0 (bit01 n 1 = 48) := ⟨by unfold bit01; rw [if_pos hx]⟩
                    clear hx
                    go_wp2_with (at_builtin; refine Kd.R_append (Kd.int .u8) (w0 := w3) w3.heap.size rfl (.tmp 41) (.tmp 47) 83 5 (.int .u8 0) 1 rfl Tryz.underlying83 info5 rfl (by decide) (by omega) _ ys 48 [.int .u8 48] (fun _ => True) (fun _ => False) rfl rfl ?aP (fun _ hk => hk.elim) ?aF ?aO ?aB ?aS ?aL ?_; (case aP => exact rfl); (case aB => exact HB.out); (case aF => exact (fun _ _ => trivial)); (case aO => exact HO.out); (case aS => exact HB.out.size); (case aL => have := HYL.out; omega); intro v7 w7 ho7 hb7 hg7 hat7; have HO7 := Aside0.mk ho7; have HB7 := Aside0.mk hb7; clear ho7 hb7 hg7 hat7)
                    go_roundg 0
                    case measure => omega
                    case rel => exact ⟨3 + 1, ys ++ [48], by omega, by omega, by go_num, ⟨by rw [HY.out, List.append_assoc, ← HBT.out]; rfl⟩, HO7, HB7⟩
                  · have hx0 := hx
                    have HBT : Aside0 (bit01 n 1 = 49) := ⟨by unfold bit01; rw [if_neg hx]⟩
                    clear hx0
                    go_wp2_with (at_builtin; refine Kd.R_append (Kd.int .u8) (w0 := w3) w3.heap.size rfl (.tmp 41) (.tmp 47) 83 5 (.int .u8 0) 1 rfl Tryz.underlying83 info5 rfl (by decide) (by omega) _ ys 49 [.int .u8 49] (fun _ => True) (fun _ => False) rfl rfl ?aP (fun _ hk => hk.elim) ?aF ?aO ?aB ?aS ?aL ?_; (case aP => exact rfl); (case aB => exact HB.out); (case aF => exact (fun _ _ => trivial)); (case aO => exact HO.out); (case aS => exact HB.out.size); (case aL => have := HYL.out; omega); intro v7 w7 ho7 hb7 hg7 hat7; have HO7 := Aside0.mk ho7; have HB7 := Aside0.mk hb7; clear ho7 hb7 hg7 hat7)
                    go_roundg 0
                    case measure => omega
                    case rel => exact ⟨3 + 1, ys ++ [49], by omega, by omega, by go_num, ⟨by rw [HY.out, List.append_assoc, ← HBT.out]; rfl⟩, HO7, HB7⟩
                · go_wp2
                  go_roundg (nl - (i + 1))
                  case measure => omega
                  case rel => exact ⟨i + 1, ys, by omega, by omega, by go_num, ⟨by rw [HY.out]; exact HST.out⟩, ⟨by rw [HY.out, List.length_append, HX.out]; show 4 * i + 4 = _; omega⟩, HO, HB⟩
            · have g1 : ¬ (i : Int) < (nl : Int) := by omega
              obtain rfl : i = nl := by omega
              have hxz : xs = z := by have h2 := HG.out; rw [← HLN.out] at h2; exact flat_end l xs z h2
              subst hxz
              have hcv := own_string (P := Tryz.prog) Tryz.underlying83 Tryz.underlying5 Tryz.underlying9 (Kd.own_of_R HO.out)
              go_wp2_with (go_at_call 113; with_reducible refine (HM.out _).mono ?_; rintro e w9 ⟨rfl, hb9⟩; have HB9 := Aside0.mk (below_step (below_step HB3.out HB.out) hb9); clear hb9)
              go_ret2
              exact ⟨rfl, HB9.out⟩
      · rw [if_neg hc] at h
        cases h
end Go.Proofs.YtlekfhnlhdmekaaGreatDoor.T
