/- Part 2 of the proof of TextBits: the functions that it calls return what their plain descriptions say. -/
import Derived.Test.YtlekfhnlhdmekaaGreatDoorCTextBits0
import Derived.Test.YtlekfhnlhdmekaaGreatDoorCTextBits1

-- Written by a program of this session (mp.py over the kit's print.py), out of the translation.
namespace Go.Proofs.YtlekfhnlhdmekaaGreatDoor.T
open Go.RowKit Go.Proofs.YtlekfhnlhdmekaaGreatDoorW.PrintWords Go.Proofs.YtlekfhnlhdmekaaGreatDoorW.PrintLast Go.Proofs.YtlekfhnlhdmekaaGreatDoorW.PrintMore
attribute [local go_sem] max2_int min2_int max_two min_two max_three min_three max_four min_four   -- for this text's walks alone
set_option linter.unusedVariables false
set_option linter.unusedSimpArgs false

/-! ### qanatlaw02_head: function 15 -/
def qanatlaw02_head.f (k : Nat)  : Option (Bool) := (text_Center.f (⟨#[97, 98, 99]⟩ : ByteArray) 8 45).bind fun bt171 => ((text_DelWord.f (⟨#[78, 111, 119, 32, 105, 115, 32, 116, 104, 101, 32, 32, 116, 105, 109, 101]⟩ : ByteArray) 2 2).bind fun bt173 => ((text_LastPos.f k (⟨#[32]⟩ : ByteArray) (⟨#[97, 98, 99, 32, 100, 101, 102, 32, 103, 104, 105]⟩ : ByteArray) 7).bind fun bt175 => ((text_Translate.f (⟨#[97, 98, 99, 100, 101, 102]⟩ : ByteArray) (⟨#[49, 50]⟩ : ByteArray) (⟨#[101, 99]⟩ : ByteArray) 46).bind fun bt177 => ((text_BitXor.f (⟨#[65]⟩ : ByteArray) (⟨#[65]⟩ : ByteArray) (-1)).bind fun bt179 => ((text_X2C.f k (⟨#[54, 49, 54, 50]⟩ : ByteArray)).bind fun bt181 => (if bt171.2 = 0 then (if bt171.1.toList = ([45, 45, 97, 98, 99, 45, 45, 45] : List UInt8) then (if bt173.2 = 0 then (if bt173.1.toList = ([78, 111, 119, 32, 116, 105, 109, 101] : List UInt8) then (if bt175.2 = 0 then (if bt175.1 = 4 then (if bt177.2 = 0 then (if bt177.1.toList = ([97, 98, 50, 100, 49, 102] : List UInt8) then (if bt179.2 = 8 then (if bt181.2 = 0 then (if bt181.1.toList = ([97, 98] : List UInt8) then ((text_Valid.f (⟨#[97]⟩ : ByteArray)).bind fun t183 => (if t183 = true then ((text_Valid.f (⟨#[10]⟩ : ByteArray)).bind fun t184 => (some (!t184))) else (some false))) else (some false)) else (some false)) else (some false)) else (some false)) else (some false)) else (some false)) else (some false)) else (some false)) else (some false)) else (some false)) else (some false)))))))
theorem qanatlaw02_head.mono : ∀ k, LeO (qanatlaw02_head.f k ) (qanatlaw02_head.f (k + 1) ) := by
  intro  k
  unfold qanatlaw02_head.f
  repeat' first
      | (with_reducible exact text_LastPos.mono _ _ _ _)
      | (with_reducible exact text_X2C.mono _ _)
      | (with_reducible exact LeO.refl _)
      | (with_reducible exact LeO.none _)
      | (with_reducible refine LeO.ite ?_ ?_)
      | (with_reducible refine LeO.bind ?_ (fun _ => ?_))
      | exact text_LastPos.mono _ _ _ _
      | exact text_X2C.mono _ _
      | exact LeO.none _
      | refine LeO.ite ?_ ?_
      | refine LeO.bind ?_ (fun _ => ?_)
set_option maxHeartbeats 8000000 in
set_option maxRecDepth 100000 in
theorem qanatlaw02_head.calls (k : Nat)  (r : Bool) (w : World) (hT : TabOK w) (h : qanatlaw02_head.f k  = some r) :
    Calls Tryz.prog 15 #[] w fun e w' => e = .returned (.bool r) ∧ Below w.heap.size w w' := by
  have HB := Aside0.mk (Below.refl w.heap.size w)
  have H : ((text_Center.f (⟨#[97, 98, 99]⟩ : ByteArray) 8 45).bind fun bt171 => ((text_DelWord.f (⟨#[78, 111, 119, 32, 105, 115, 32, 116, 104, 101, 32, 32, 116, 105, 109, 101]⟩ : ByteArray) 2 2).bind fun bt173 => ((text_LastPos.f k (⟨#[32]⟩ : ByteArray) (⟨#[97, 98, 99, 32, 100, 101, 102, 32, 103, 104, 105]⟩ : ByteArray) 7).bind fun bt175 => ((text_Translate.f (⟨#[97, 98, 99, 100, 101, 102]⟩ : ByteArray) (⟨#[49, 50]⟩ : ByteArray) (⟨#[101, 99]⟩ : ByteArray) 46).bind fun bt177 => ((text_BitXor.f (⟨#[65]⟩ : ByteArray) (⟨#[65]⟩ : ByteArray) (-1)).bind fun bt179 => ((text_X2C.f k (⟨#[54, 49, 54, 50]⟩ : ByteArray)).bind fun bt181 => (if bt171.2 = 0 then (if bt171.1.toList = ([45, 45, 97, 98, 99, 45, 45, 45] : List UInt8) then (if bt173.2 = 0 then (if bt173.1.toList = ([78, 111, 119, 32, 116, 105, 109, 101] : List UInt8) then (if bt175.2 = 0 then (if bt175.1 = 4 then (if bt177.2 = 0 then (if bt177.1.toList = ([97, 98, 50, 100, 49, 102] : List UInt8) then (if bt179.2 = 8 then (if bt181.2 = 0 then (if bt181.1.toList = ([97, 98] : List UInt8) then ((text_Valid.f (⟨#[97]⟩ : ByteArray)).bind fun t183 => (if t183 = true then ((text_Valid.f (⟨#[10]⟩ : ByteArray)).bind fun t184 => (some (!t184))) else (some false))) else (some false)) else (some false)) else (some false)) else (some false)) else (some false)) else (some false)) else (some false)) else (some false)) else (some false)) else (some false)) else (some false)))))))) = some r := h
  clear h
  replace H := Option.bind_eq_some_iff.mp H
  obtain ⟨⟨t171, t172⟩, A10, H⟩ := H
  replace H : ((text_DelWord.f (⟨#[78, 111, 119, 32, 105, 115, 32, 116, 104, 101, 32, 32, 116, 105, 109, 101]⟩ : ByteArray) 2 2).bind fun bt173 => ((text_LastPos.f k (⟨#[32]⟩ : ByteArray) (⟨#[97, 98, 99, 32, 100, 101, 102, 32, 103, 104, 105]⟩ : ByteArray) 7).bind fun bt175 => ((text_Translate.f (⟨#[97, 98, 99, 100, 101, 102]⟩ : ByteArray) (⟨#[49, 50]⟩ : ByteArray) (⟨#[101, 99]⟩ : ByteArray) 46).bind fun bt177 => ((text_BitXor.f (⟨#[65]⟩ : ByteArray) (⟨#[65]⟩ : ByteArray) (-1)).bind fun bt179 => ((text_X2C.f k (⟨#[54, 49, 54, 50]⟩ : ByteArray)).bind fun bt181 => (if t172 = 0 then (if t171.toList = ([45, 45, 97, 98, 99, 45, 45, 45] : List UInt8) then (if bt173.2 = 0 then (if bt173.1.toList = ([78, 111, 119, 32, 116, 105, 109, 101] : List UInt8) then (if bt175.2 = 0 then (if bt175.1 = 4 then (if bt177.2 = 0 then (if bt177.1.toList = ([97, 98, 50, 100, 49, 102] : List UInt8) then (if bt179.2 = 8 then (if bt181.2 = 0 then (if bt181.1.toList = ([97, 98] : List UInt8) then ((text_Valid.f (⟨#[97]⟩ : ByteArray)).bind fun t183 => (if t183 = true then ((text_Valid.f (⟨#[10]⟩ : ByteArray)).bind fun t184 => (some (!t184))) else (some false))) else (some false)) else (some false)) else (some false)) else (some false)) else (some false)) else (some false)) else (some false)) else (some false)) else (some false)) else (some false)) else (some false))))))) = some r := H
  have A1 := Aside0.mk A10
  clear A10
  replace H := Option.bind_eq_some_iff.mp H
  obtain ⟨⟨t173, t174⟩, A20, H⟩ := H
  replace H : ((text_LastPos.f k (⟨#[32]⟩ : ByteArray) (⟨#[97, 98, 99, 32, 100, 101, 102, 32, 103, 104, 105]⟩ : ByteArray) 7).bind fun bt175 => ((text_Translate.f (⟨#[97, 98, 99, 100, 101, 102]⟩ : ByteArray) (⟨#[49, 50]⟩ : ByteArray) (⟨#[101, 99]⟩ : ByteArray) 46).bind fun bt177 => ((text_BitXor.f (⟨#[65]⟩ : ByteArray) (⟨#[65]⟩ : ByteArray) (-1)).bind fun bt179 => ((text_X2C.f k (⟨#[54, 49, 54, 50]⟩ : ByteArray)).bind fun bt181 => (if t172 = 0 then (if t171.toList = ([45, 45, 97, 98, 99, 45, 45, 45] : List UInt8) then (if t174 = 0 then (if t173.toList = ([78, 111, 119, 32, 116, 105, 109, 101] : List UInt8) then (if bt175.2 = 0 then (if bt175.1 = 4 then (if bt177.2 = 0 then (if bt177.1.toList = ([97, 98, 50, 100, 49, 102] : List UInt8) then (if bt179.2 = 8 then (if bt181.2 = 0 then (if bt181.1.toList = ([97, 98] : List UInt8) then ((text_Valid.f (⟨#[97]⟩ : ByteArray)).bind fun t183 => (if t183 = true then ((text_Valid.f (⟨#[10]⟩ : ByteArray)).bind fun t184 => (some (!t184))) else (some false))) else (some false)) else (some false)) else (some false)) else (some false)) else (some false)) else (some false)) else (some false)) else (some false)) else (some false)) else (some false)) else (some false)))))) = some r := H
  have A2 := Aside0.mk A20
  clear A20
  replace H := Option.bind_eq_some_iff.mp H
  obtain ⟨⟨t175, t176⟩, A30, H⟩ := H
  replace H : ((text_Translate.f (⟨#[97, 98, 99, 100, 101, 102]⟩ : ByteArray) (⟨#[49, 50]⟩ : ByteArray) (⟨#[101, 99]⟩ : ByteArray) 46).bind fun bt177 => ((text_BitXor.f (⟨#[65]⟩ : ByteArray) (⟨#[65]⟩ : ByteArray) (-1)).bind fun bt179 => ((text_X2C.f k (⟨#[54, 49, 54, 50]⟩ : ByteArray)).bind fun bt181 => (if t172 = 0 then (if t171.toList = ([45, 45, 97, 98, 99, 45, 45, 45] : List UInt8) then (if t174 = 0 then (if t173.toList = ([78, 111, 119, 32, 116, 105, 109, 101] : List UInt8) then (if t176 = 0 then (if t175 = 4 then (if bt177.2 = 0 then (if bt177.1.toList = ([97, 98, 50, 100, 49, 102] : List UInt8) then (if bt179.2 = 8 then (if bt181.2 = 0 then (if bt181.1.toList = ([97, 98] : List UInt8) then ((text_Valid.f (⟨#[97]⟩ : ByteArray)).bind fun t183 => (if t183 = true then ((text_Valid.f (⟨#[10]⟩ : ByteArray)).bind fun t184 => (some (!t184))) else (some false))) else (some false)) else (some false)) else (some false)) else (some false)) else (some false)) else (some false)) else (some false)) else (some false)) else (some false)) else (some false)) else (some false))))) = some r := H
  have A3 := Aside0.mk A30
  clear A30
  replace H := Option.bind_eq_some_iff.mp H
  obtain ⟨⟨t177, t178⟩, A40, H⟩ := H
  replace H : ((text_BitXor.f (⟨#[65]⟩ : ByteArray) (⟨#[65]⟩ : ByteArray) (-1)).bind fun bt179 => ((text_X2C.f k (⟨#[54, 49, 54, 50]⟩ : ByteArray)).bind fun bt181 => (if t172 = 0 then (if t171.toList = ([45, 45, 97, 98, 99, 45, 45, 45] : List UInt8) then (if t174 = 0 then (if t173.toList = ([78, 111, 119, 32, 116, 105, 109, 101] : List UInt8) then (if t176 = 0 then (if t175 = 4 then (if t178 = 0 then (if t177.toList = ([97, 98, 50, 100, 49, 102] : List UInt8) then (if bt179.2 = 8 then (if bt181.2 = 0 then (if bt181.1.toList = ([97, 98] : List UInt8) then ((text_Valid.f (⟨#[97]⟩ : ByteArray)).bind fun t183 => (if t183 = true then ((text_Valid.f (⟨#[10]⟩ : ByteArray)).bind fun t184 => (some (!t184))) else (some false))) else (some false)) else (some false)) else (some false)) else (some false)) else (some false)) else (some false)) else (some false)) else (some false)) else (some false)) else (some false)) else (some false)))) = some r := H
  have A4 := Aside0.mk A40
  clear A40
  replace H := Option.bind_eq_some_iff.mp H
  obtain ⟨⟨t179, t180⟩, A50, H⟩ := H
  replace H : ((text_X2C.f k (⟨#[54, 49, 54, 50]⟩ : ByteArray)).bind fun bt181 => (if t172 = 0 then (if t171.toList = ([45, 45, 97, 98, 99, 45, 45, 45] : List UInt8) then (if t174 = 0 then (if t173.toList = ([78, 111, 119, 32, 116, 105, 109, 101] : List UInt8) then (if t176 = 0 then (if t175 = 4 then (if t178 = 0 then (if t177.toList = ([97, 98, 50, 100, 49, 102] : List UInt8) then (if t180 = 8 then (if bt181.2 = 0 then (if bt181.1.toList = ([97, 98] : List UInt8) then ((text_Valid.f (⟨#[97]⟩ : ByteArray)).bind fun t183 => (if t183 = true then ((text_Valid.f (⟨#[10]⟩ : ByteArray)).bind fun t184 => (some (!t184))) else (some false))) else (some false)) else (some false)) else (some false)) else (some false)) else (some false)) else (some false)) else (some false)) else (some false)) else (some false)) else (some false)) else (some false))) = some r := H
  have A5 := Aside0.mk A50
  clear A50
  replace H := Option.bind_eq_some_iff.mp H
  obtain ⟨⟨t181, t182⟩, A60, H⟩ := H
  replace H : (if t172 = 0 then (if t171.toList = ([45, 45, 97, 98, 99, 45, 45, 45] : List UInt8) then (if t174 = 0 then (if t173.toList = ([78, 111, 119, 32, 116, 105, 109, 101] : List UInt8) then (if t176 = 0 then (if t175 = 4 then (if t178 = 0 then (if t177.toList = ([97, 98, 50, 100, 49, 102] : List UInt8) then (if t180 = 8 then (if t182 = 0 then (if t181.toList = ([97, 98] : List UInt8) then ((text_Valid.f (⟨#[97]⟩ : ByteArray)).bind fun t183 => (if t183 = true then ((text_Valid.f (⟨#[10]⟩ : ByteArray)).bind fun t184 => (some (!t184))) else (some false))) else (some false)) else (some false)) else (some false)) else (some false)) else (some false)) else (some false)) else (some false)) else (some false)) else (some false)) else (some false)) else (some false)) = some r := H
  have A6 := Aside0.mk A60
  clear A60
  by_cases c7 : t172 = 0
  · rw [if_pos c7] at H
    have c7b0 : (t172 == 0) = true := beq_iff_eq.mpr c7
    have c7b1 : (t172 != 0) = false := bne_eq_false_iff_eq.mpr c7
    clear c7
    by_cases c8 : t171.toList = ([45, 45, 97, 98, 99, 45, 45, 45] : List UInt8)
    · rw [if_pos c8] at H
      have c8b0 : (t171.toList == ([45, 45, 97, 98, 99, 45, 45, 45] : List UInt8)) = true := beq_iff_eq.mpr c8
      have c8b1 : (t171.toList != ([45, 45, 97, 98, 99, 45, 45, 45] : List UInt8)) = false := bne_eq_false_iff_eq.mpr c8
      clear c8
      by_cases c9 : t174 = 0
      · rw [if_pos c9] at H
        have c9b0 : (t174 == 0) = true := beq_iff_eq.mpr c9
        have c9b1 : (t174 != 0) = false := bne_eq_false_iff_eq.mpr c9
        clear c9
        by_cases c10 : t173.toList = ([78, 111, 119, 32, 116, 105, 109, 101] : List UInt8)
        · rw [if_pos c10] at H
          have c10b0 : (t173.toList == ([78, 111, 119, 32, 116, 105, 109, 101] : List UInt8)) = true := beq_iff_eq.mpr c10
          have c10b1 : (t173.toList != ([78, 111, 119, 32, 116, 105, 109, 101] : List UInt8)) = false := bne_eq_false_iff_eq.mpr c10
          clear c10
          by_cases c11 : t176 = 0
          · rw [if_pos c11] at H
            have c11b0 : (t176 == 0) = true := beq_iff_eq.mpr c11
            have c11b1 : (t176 != 0) = false := bne_eq_false_iff_eq.mpr c11
            clear c11
            by_cases c12 : t175 = 4
            · rw [if_pos c12] at H
              have c12b0 : (t175 == 4) = true := beq_iff_eq.mpr c12
              have c12b1 : (t175 != 4) = false := bne_eq_false_iff_eq.mpr c12
              clear c12
              by_cases c13 : t178 = 0
              · rw [if_pos c13] at H
                have c13b0 : (t178 == 0) = true := beq_iff_eq.mpr c13
                have c13b1 : (t178 != 0) = false := bne_eq_false_iff_eq.mpr c13
                clear c13
                by_cases c14 : t177.toList = ([97, 98, 50, 100, 49, 102] : List UInt8)
                · rw [if_pos c14] at H
                  have c14b0 : (t177.toList == ([97, 98, 50, 100, 49, 102] : List UInt8)) = true := beq_iff_eq.mpr c14
                  have c14b1 : (t177.toList != ([97, 98, 50, 100, 49, 102] : List UInt8)) = false := bne_eq_false_iff_eq.mpr c14
                  clear c14
                  by_cases c15 : t180 = 8
                  · rw [if_pos c15] at H
                    have c15b0 : (t180 == 8) = true := beq_iff_eq.mpr c15
                    have c15b1 : (t180 != 8) = false := bne_eq_false_iff_eq.mpr c15
                    clear c15
                    by_cases c16 : t182 = 0
                    · rw [if_pos c16] at H
                      have c16b0 : (t182 == 0) = true := beq_iff_eq.mpr c16
                      have c16b1 : (t182 != 0) = false := bne_eq_false_iff_eq.mpr c16
                      clear c16
                      by_cases c17 : t181.toList = ([97, 98] : List UInt8)
                      · rw [if_pos c17] at H
                        have c17b0 : (t181.toList == ([97, 98] : List UInt8)) = true := beq_iff_eq.mpr c17
                        have c17b1 : (t181.toList != ([97, 98] : List UInt8)) = false := bne_eq_false_iff_eq.mpr c17
                        clear c17
                        replace H := Option.bind_eq_some_iff.mp H
                        obtain ⟨t183, A180, H⟩ := H
                        replace H : (if t183 = true then ((text_Valid.f (⟨#[10]⟩ : ByteArray)).bind fun t184 => (some (!t184))) else (some false)) = some r := H
                        have A18 := Aside0.mk A180
                        clear A180
                        by_cases c19 : t183 = true
                        · subst c19
                          have H1 : ((text_Valid.f (⟨#[10]⟩ : ByteArray)).bind fun t184 => (some (!t184))) = some r := by rw [if_pos rfl] at H; exact H
                          clear H
                          have H := H1
                          clear H1
                          replace H := Option.bind_eq_some_iff.mp H
                          obtain ⟨t184, A200, H⟩ := H
                          replace H : (some (!t184)) = some r := H
                          have A20 := Aside0.mk A200
                          clear A200
                          obtain rfl := Option.some.inj H
                          go_enter Tryz.func15, Tryz.ntmps15
                          go_wp2_with (first | ((with_reducible refine gate_callee (f := 84) rfl ?_); refine goesL_ (some 15) rfl rfl Tryz.func84 (by kernel_rfl) rfl #[.string (⟨#[97, 98, 99]⟩ : ByteArray), .int .i64 8, .int .u8 45] rfl (by (try simp only [List.map_toArray, List.map_cons, List.map_nil]); first | done | rfl | (simp only [List.length_drop, List.length_take]; rfl)) ?_; (with_reducible refine (text_Center.calls (⟨#[97, 98, 99]⟩ : ByteArray) 8 45 t171 t172 _ A1.out).mono ?_); rintro e w21 ⟨rfl, hb⟩; refine ⟨_, rfl, ?_⟩; have n0_ := Aside0.mk (below_step (by repeat (first | (with_reducible first | exact HB.out | apply below_alloc | apply pw_below_drewN | apply below_drew1) | exact HB.out)) hb); clear HB; have HB := n0_; clear n0_; (try clear hb); (try clear hb2); (try clear hk); (try clear hi)) | ((with_reducible refine gate_callee (f := 42) rfl ?_); refine goesL_ (some 19) rfl rfl Tryz.func42 (by kernel_rfl) rfl #[.string (⟨#[78, 111, 119, 32, 105, 115, 32, 116, 104, 101, 32, 32, 116, 105, 109, 101]⟩ : ByteArray), .int .i64 2, .int .i64 2] rfl (by (try simp only [List.map_toArray, List.map_cons, List.map_nil]); first | done | rfl | (simp only [List.length_drop, List.length_take]; rfl)) ?_; (with_reducible refine (text_DelWord.calls (⟨#[78, 111, 119, 32, 105, 115, 32, 116, 104, 101, 32, 32, 116, 105, 109, 101]⟩ : ByteArray) 2 2 t173 t174 _ A2.out).mono ?_); rintro e w22 ⟨rfl, hb⟩; refine ⟨_, rfl, ?_⟩; have n0_ := Aside0.mk (below_step (by repeat (first | (with_reducible first | exact HB.out | apply below_alloc | apply pw_below_drewN | apply below_drew1) | exact HB.out)) hb); clear HB; have HB := n0_; clear n0_; (try clear hb); (try clear hb2); (try clear hk); (try clear hi)) | ((with_reducible refine gate_callee (f := 58) rfl ?_); refine goesL_ (some 23) rfl rfl Tryz.func58 (by kernel_rfl) rfl #[.string (⟨#[32]⟩ : ByteArray), .string (⟨#[97, 98, 99, 32, 100, 101, 102, 32, 103, 104, 105]⟩ : ByteArray), .int .i64 7] rfl (by (try simp only [List.map_toArray, List.map_cons, List.map_nil]); first | done | rfl | (simp only [List.length_drop, List.length_take]; rfl)) ?_; (with_reducible refine (text_LastPos.calls k (⟨#[32]⟩ : ByteArray) (⟨#[97, 98, 99, 32, 100, 101, 102, 32, 103, 104, 105]⟩ : ByteArray) 7 t175 t176 _ A3.out).mono ?_); rintro e w23 ⟨rfl, hb⟩; refine ⟨_, rfl, ?_⟩; have n0_ := Aside0.mk (below_step (by repeat (first | (with_reducible first | exact HB.out | apply below_alloc | apply pw_below_drewN | apply below_drew1) | exact HB.out)) hb); clear HB; have HB := n0_; clear n0_; (try clear hb); (try clear hb2); (try clear hk); (try clear hi)) | ((with_reducible refine gate_callee (f := 24) rfl ?_); refine goesL_ (some 27) rfl rfl Tryz.func24 (by kernel_rfl) rfl #[.string (⟨#[97, 98, 99, 100, 101, 102]⟩ : ByteArray), .string (⟨#[49, 50]⟩ : ByteArray), .string (⟨#[101, 99]⟩ : ByteArray), .int .u8 46] rfl (by (try simp only [List.map_toArray, List.map_cons, List.map_nil]); first | done | rfl | (simp only [List.length_drop, List.length_take]; rfl)) ?_; (with_reducible refine (text_Translate.calls (⟨#[97, 98, 99, 100, 101, 102]⟩ : ByteArray) (⟨#[49, 50]⟩ : ByteArray) (⟨#[101, 99]⟩ : ByteArray) 46 t177 t178 _ A4.out).mono ?_); rintro e w24 ⟨rfl, hb⟩; refine ⟨_, rfl, ?_⟩; have n0_ := Aside0.mk (below_step (by repeat (first | (with_reducible first | exact HB.out | apply below_alloc | apply pw_below_drewN | apply below_drew1) | exact HB.out)) hb); clear HB; have HB := n0_; clear n0_; (try clear hb); (try clear hb2); (try clear hk); (try clear hi)) | ((with_reducible refine gate_callee (f := 19) rfl ?_); refine goesL_ (some 31) rfl rfl Tryz.func19 (by kernel_rfl) rfl #[.string (⟨#[65]⟩ : ByteArray), .string (⟨#[65]⟩ : ByteArray), .int .i64 (-1)] rfl (by (try simp only [List.map_toArray, List.map_cons, List.map_nil]); first | done | rfl | (simp only [List.length_drop, List.length_take]; rfl)) ?_; (with_reducible refine (text_BitXor.calls (⟨#[65]⟩ : ByteArray) (⟨#[65]⟩ : ByteArray) (-1) t179 t180 _ A5.out).mono ?_); rintro e w25 ⟨rfl, hb⟩; refine ⟨_, rfl, ?_⟩; have n0_ := Aside0.mk (below_step (by repeat (first | (with_reducible first | exact HB.out | apply below_alloc | apply pw_below_drewN | apply below_drew1) | exact HB.out)) hb); clear HB; have HB := n0_; clear n0_; (try clear hb); (try clear hb2); (try clear hk); (try clear hi)) | ((with_reducible refine gate_callee (f := 76) rfl ?_); refine goesL_ (some 35) rfl rfl Tryz.func76 (by kernel_rfl) rfl #[.string (⟨#[54, 49, 54, 50]⟩ : ByteArray)] rfl (by (try simp only [List.map_toArray, List.map_cons, List.map_nil]); first | done | rfl | (simp only [List.length_drop, List.length_take]; rfl)) ?_; (with_reducible refine (text_X2C.calls k (⟨#[54, 49, 54, 50]⟩ : ByteArray) t181 t182 _ (TabOK.of_below hT (by repeat (first | (with_reducible first | exact HB.out | apply below_alloc | apply pw_below_drewN | apply below_drew1) | exact HB.out))) A6.out).mono ?_); rintro e w26 ⟨rfl, hb⟩; refine ⟨_, rfl, ?_⟩; have n0_ := Aside0.mk (below_step (by repeat (first | (with_reducible first | exact HB.out | apply below_alloc | apply pw_below_drewN | apply below_drew1) | exact HB.out)) hb); clear HB; have HB := n0_; clear n0_; (try clear hb); (try clear hb2); (try clear hk); (try clear hi)) | (go_at_call 65; (with_reducible refine (text_Valid.calls (⟨#[97]⟩ : ByteArray) true _ A18.out).mono ?_); rintro e w27 ⟨rfl, hb⟩; have n0_ := Aside0.mk (below_step (by repeat (first | (with_reducible first | exact HB.out | apply below_alloc | apply pw_below_drewN | apply below_drew1) | exact HB.out)) hb); clear HB; have HB := n0_; clear n0_; (try clear hb); (try clear hb2); (try clear hk); (try clear hi)) | (go_at_call 65; (with_reducible refine (text_Valid.calls (⟨#[10]⟩ : ByteArray) t184 _ A20.out).mono ?_); rintro e w28 ⟨rfl, hb⟩; have n0_ := Aside0.mk (below_step (by repeat (first | (with_reducible first | exact HB.out | apply below_alloc | apply pw_below_drewN | apply below_drew1) | exact HB.out)) hb); clear HB; have HB := n0_; clear n0_; (try clear hb); (try clear hb2); (try clear hk); (try clear hi)))
                          go_ret
                          exact ⟨by first | rfl | (simp [errW_none, errW_some] <;> rfl) | (simp [*, errW_none, errW_some] <;> rfl), by repeat (first | (with_reducible first | exact HB.out | apply below_alloc | apply pw_below_drewN | apply below_drew1) | exact HB.out)⟩
                        · replace c19 := Bool.eq_false_iff.mpr c19
                          subst c19
                          have H1 : (some false) = some r := by rw [if_neg (show ¬ (false = true) by decide)] at H; exact H
                          clear H
                          have H := H1
                          clear H1
                          obtain rfl := Option.some.inj H
                          go_enter Tryz.func15, Tryz.ntmps15
                          go_wp2_with (first | ((with_reducible refine gate_callee (f := 84) rfl ?_); refine goesL_ (some 15) rfl rfl Tryz.func84 (by kernel_rfl) rfl #[.string (⟨#[97, 98, 99]⟩ : ByteArray), .int .i64 8, .int .u8 45] rfl (by (try simp only [List.map_toArray, List.map_cons, List.map_nil]); first | done | rfl | (simp only [List.length_drop, List.length_take]; rfl)) ?_; (with_reducible refine (text_Center.calls (⟨#[97, 98, 99]⟩ : ByteArray) 8 45 t171 t172 _ A1.out).mono ?_); rintro e w29 ⟨rfl, hb⟩; refine ⟨_, rfl, ?_⟩; have n0_ := Aside0.mk (below_step (by repeat (first | (with_reducible first | exact HB.out | apply below_alloc | apply pw_below_drewN | apply below_drew1) | exact HB.out)) hb); clear HB; have HB := n0_; clear n0_; (try clear hb); (try clear hb2); (try clear hk); (try clear hi)) | ((with_reducible refine gate_callee (f := 42) rfl ?_); refine goesL_ (some 19) rfl rfl Tryz.func42 (by kernel_rfl) rfl #[.string (⟨#[78, 111, 119, 32, 105, 115, 32, 116, 104, 101, 32, 32, 116, 105, 109, 101]⟩ : ByteArray), .int .i64 2, .int .i64 2] rfl (by (try simp only [List.map_toArray, List.map_cons, List.map_nil]); first | done | rfl | (simp only [List.length_drop, List.length_take]; rfl)) ?_; (with_reducible refine (text_DelWord.calls (⟨#[78, 111, 119, 32, 105, 115, 32, 116, 104, 101, 32, 32, 116, 105, 109, 101]⟩ : ByteArray) 2 2 t173 t174 _ A2.out).mono ?_); rintro e w30 ⟨rfl, hb⟩; refine ⟨_, rfl, ?_⟩; have n0_ := Aside0.mk (below_step (by repeat (first | (with_reducible first | exact HB.out | apply below_alloc | apply pw_below_drewN | apply below_drew1) | exact HB.out)) hb); clear HB; have HB := n0_; clear n0_; (try clear hb); (try clear hb2); (try clear hk); (try clear hi)) | ((with_reducible refine gate_callee (f := 58) rfl ?_); refine goesL_ (some 23) rfl rfl Tryz.func58 (by kernel_rfl) rfl #[.string (⟨#[32]⟩ : ByteArray), .string (⟨#[97, 98, 99, 32, 100, 101, 102, 32, 103, 104, 105]⟩ : ByteArray), .int .i64 7] rfl (by (try simp only [List.map_toArray, List.map_cons, List.map_nil]); first | done | rfl | (simp only [List.length_drop, List.length_take]; rfl)) ?_; (with_reducible refine (text_LastPos.calls k (⟨#[32]⟩ : ByteArray) (⟨#[97, 98, 99, 32, 100, 101, 102, 32, 103, 104, 105]⟩ : ByteArray) 7 t175 t176 _ A3.out).mono ?_); rintro e w31 ⟨rfl, hb⟩; refine ⟨_, rfl, ?_⟩; have n0_ := Aside0.mk (below_step (by repeat (first | (with_reducible first | exact HB.out | apply below_alloc | apply pw_below_drewN | apply below_drew1) | exact HB.out)) hb); clear HB; have HB := n0_; clear n0_; (try clear hb); (try clear hb2); (try clear hk); (try clear hi)) | ((with_reducible refine gate_callee (f := 24) rfl ?_); refine goesL_ (some 27) rfl rfl Tryz.func24 (by kernel_rfl) rfl #[.string (⟨#[97, 98, 99, 100, 101, 102]⟩ : ByteArray), .string (⟨#[49, 50]⟩ : ByteArray), .string (⟨#[101, 99]⟩ : ByteArray), .int .u8 46] rfl (by (try simp only [List.map_toArray, List.map_cons, List.map_nil]); first | done | rfl | (simp only [List.length_drop, List.length_take]; rfl)) ?_; (with_reducible refine (text_Translate.calls (⟨#[97, 98, 99, 100, 101, 102]⟩ : ByteArray) (⟨#[49, 50]⟩ : ByteArray) (⟨#[101, 99]⟩ : ByteArray) 46 t177 t178 _ A4.out).mono ?_); rintro e w32 ⟨rfl, hb⟩; refine ⟨_, rfl, ?_⟩; have n0_ := Aside0.mk (below_step (by repeat (first | (with_reducible first | exact HB.out | apply below_alloc | apply pw_below_drewN | apply below_drew1) | exact HB.out)) hb); clear HB; have HB := n0_; clear n0_; (try clear hb); (try clear hb2); (try clear hk); (try clear hi)) | ((with_reducible refine gate_callee (f := 19) rfl ?_); refine goesL_ (some 31) rfl rfl Tryz.func19 (by kernel_rfl) rfl #[.string (⟨#[65]⟩ : ByteArray), .string (⟨#[65]⟩ : ByteArray), .int .i64 (-1)] rfl (by (try simp only [List.map_toArray, List.map_cons, List.map_nil]); first | done | rfl | (simp only [List.length_drop, List.length_take]; rfl)) ?_; (with_reducible refine (text_BitXor.calls (⟨#[65]⟩ : ByteArray) (⟨#[65]⟩ : ByteArray) (-1) t179 t180 _ A5.out).mono ?_); rintro e w33 ⟨rfl, hb⟩; refine ⟨_, rfl, ?_⟩; have n0_ := Aside0.mk (below_step (by repeat (first | (with_reducible first | exact HB.out | apply below_alloc | apply pw_below_drewN | apply below_drew1) | exact HB.out)) hb); clear HB; have HB := n0_; clear n0_; (try clear hb); (try clear hb2); (try clear hk); (try clear hi)) | ((with_reducible refine gate_callee (f := 76) rfl ?_); refine goesL_ (some 35) rfl rfl Tryz.func76 (by kernel_rfl) rfl #[.string (⟨#[54, 49, 54, 50]⟩ : ByteArray)] rfl (by (try simp only [List.map_toArray, List.map_cons, List.map_nil]); first | done | rfl | (simp only [List.length_drop, List.length_take]; rfl)) ?_; (with_reducible refine (text_X2C.calls k (⟨#[54, 49, 54, 50]⟩ : ByteArray) t181 t182 _ (TabOK.of_below hT (by repeat (first | (with_reducible first | exact HB.out | apply below_alloc | apply pw_below_drewN | apply below_drew1) | exact HB.out))) A6.out).mono ?_); rintro e w34 ⟨rfl, hb⟩; refine ⟨_, rfl, ?_⟩; have n0_ := Aside0.mk (below_step (by repeat (first | (with_reducible first | exact HB.out | apply below_alloc | apply pw_below_drewN | apply below_drew1) | exact HB.out)) hb); clear HB; have HB := n0_; clear n0_; (try clear hb); (try clear hb2); (try clear hk); (try clear hi)) | (go_at_call 65; (with_reducible refine (text_Valid.calls (⟨#[97]⟩ : ByteArray) false _ A18.out).mono ?_); rintro e w35 ⟨rfl, hb⟩; have n0_ := Aside0.mk (below_step (by repeat (first | (with_reducible first | exact HB.out | apply below_alloc | apply pw_below_drewN | apply below_drew1) | exact HB.out)) hb); clear HB; have HB := n0_; clear n0_; (try clear hb); (try clear hb2); (try clear hk); (try clear hi)))
                          go_ret
                          exact ⟨by first | rfl | (simp [errW_none, errW_some] <;> rfl) | (simp [*, errW_none, errW_some] <;> rfl), by repeat (first | (with_reducible first | exact HB.out | apply below_alloc | apply pw_below_drewN | apply below_drew1) | exact HB.out)⟩
                      · rw [if_neg c17] at H
                        have c17b0 : (t181.toList == ([97, 98] : List UInt8)) = false := beq_eq_false_iff_ne.mpr c17
                        have c17b1 : (t181.toList != ([97, 98] : List UInt8)) = true := bne_iff_ne.mpr c17
                        obtain rfl := Option.some.inj H
                        go_enter Tryz.func15, Tryz.ntmps15
                        go_wp2_with (first | ((with_reducible refine gate_callee (f := 84) rfl ?_); refine goesL_ (some 15) rfl rfl Tryz.func84 (by kernel_rfl) rfl #[.string (⟨#[97, 98, 99]⟩ : ByteArray), .int .i64 8, .int .u8 45] rfl (by (try simp only [List.map_toArray, List.map_cons, List.map_nil]); first | done | rfl | (simp only [List.length_drop, List.length_take]; rfl)) ?_; (with_reducible refine (text_Center.calls (⟨#[97, 98, 99]⟩ : ByteArray) 8 45 t171 t172 _ A1.out).mono ?_); rintro e w36 ⟨rfl, hb⟩; refine ⟨_, rfl, ?_⟩; have n0_ := Aside0.mk (below_step (by repeat (first | (with_reducible first | exact HB.out | apply below_alloc | apply pw_below_drewN | apply below_drew1) | exact HB.out)) hb); clear HB; have HB := n0_; clear n0_; (try clear hb); (try clear hb2); (try clear hk); (try clear hi)) | ((with_reducible refine gate_callee (f := 42) rfl ?_); refine goesL_ (some 19) rfl rfl Tryz.func42 (by kernel_rfl) rfl #[.string (⟨#[78, 111, 119, 32, 105, 115, 32, 116, 104, 101, 32, 32, 116, 105, 109, 101]⟩ : ByteArray), .int .i64 2, .int .i64 2] rfl (by (try simp only [List.map_toArray, List.map_cons, List.map_nil]); first | done | rfl | (simp only [List.length_drop, List.length_take]; rfl)) ?_; (with_reducible refine (text_DelWord.calls (⟨#[78, 111, 119, 32, 105, 115, 32, 116, 104, 101, 32, 32, 116, 105, 109, 101]⟩ : ByteArray) 2 2 t173 t174 _ A2.out).mono ?_); rintro e w37 ⟨rfl, hb⟩; refine ⟨_, rfl, ?_⟩; have n0_ := Aside0.mk (below_step (by repeat (first | (with_reducible first | exact HB.out | apply below_alloc | apply pw_below_drewN | apply below_drew1) | exact HB.out)) hb); clear HB; have HB := n0_; clear n0_; (try clear hb); (try clear hb2); (try clear hk); (try clear hi)) | ((with_reducible refine gate_callee (f := 58) rfl ?_); refine goesL_ (some 23) rfl rfl Tryz.func58 (by kernel_rfl) rfl #[.string (⟨#[32]⟩ : ByteArray), .string (⟨#[97, 98, 99, 32, 100, 101, 102, 32, 103, 104, 105]⟩ : ByteArray), .int .i64 7] rfl (by (try simp only [List.map_toArray, List.map_cons, List.map_nil]); first | done | rfl | (simp only [List.length_drop, List.length_take]; rfl)) ?_; (with_reducible refine (text_LastPos.calls k (⟨#[32]⟩ : ByteArray) (⟨#[97, 98, 99, 32, 100, 101, 102, 32, 103, 104, 105]⟩ : ByteArray) 7 t175 t176 _ A3.out).mono ?_); rintro e w38 ⟨rfl, hb⟩; refine ⟨_, rfl, ?_⟩; have n0_ := Aside0.mk (below_step (by repeat (first | (with_reducible first | exact HB.out | apply below_alloc | apply pw_below_drewN | apply below_drew1) | exact HB.out)) hb); clear HB; have HB := n0_; clear n0_; (try clear hb); (try clear hb2); (try clear hk); (try clear hi)) | ((with_reducible refine gate_callee (f := 24) rfl ?_); refine goesL_ (some 27) rfl rfl Tryz.func24 (by kernel_rfl) rfl #[.string (⟨#[97, 98, 99, 100, 101, 102]⟩ : ByteArray), .string (⟨#[49, 50]⟩ : ByteArray), .string (⟨#[101, 99]⟩ : ByteArray), .int .u8 46] rfl (by (try simp only [List.map_toArray, List.map_cons, List.map_nil]); first | done | rfl | (simp only [List.length_drop, List.length_take]; rfl)) ?_; (with_reducible refine (text_Translate.calls (⟨#[97, 98, 99, 100, 101, 102]⟩ : ByteArray) (⟨#[49, 50]⟩ : ByteArray) (⟨#[101, 99]⟩ : ByteArray) 46 t177 t178 _ A4.out).mono ?_); rintro e w39 ⟨rfl, hb⟩; refine ⟨_, rfl, ?_⟩; have n0_ := Aside0.mk (below_step (by repeat (first | (with_reducible first | exact HB.out | apply below_alloc | apply pw_below_drewN | apply below_drew1) | exact HB.out)) hb); clear HB; have HB := n0_; clear n0_; (try clear hb); (try clear hb2); (try clear hk); (try clear hi)) | ((with_reducible refine gate_callee (f := 19) rfl ?_); refine goesL_ (some 31) rfl rfl Tryz.func19 (by kernel_rfl) rfl #[.string (⟨#[65]⟩ : ByteArray), .string (⟨#[65]⟩ : ByteArray), .int .i64 (-1)] rfl (by (try simp only [List.map_toArray, List.map_cons, List.map_nil]); first | done | rfl | (simp only [List.length_drop, List.length_take]; rfl)) ?_; (with_reducible refine (text_BitXor.calls (⟨#[65]⟩ : ByteArray) (⟨#[65]⟩ : ByteArray) (-1) t179 t180 _ A5.out).mono ?_); rintro e w40 ⟨rfl, hb⟩; refine ⟨_, rfl, ?_⟩; have n0_ := Aside0.mk (below_step (by repeat (first | (with_reducible first | exact HB.out | apply below_alloc | apply pw_below_drewN | apply below_drew1) | exact HB.out)) hb); clear HB; have HB := n0_; clear n0_; (try clear hb); (try clear hb2); (try clear hk); (try clear hi)) | ((with_reducible refine gate_callee (f := 76) rfl ?_); refine goesL_ (some 35) rfl rfl Tryz.func76 (by kernel_rfl) rfl #[.string (⟨#[54, 49, 54, 50]⟩ : ByteArray)] rfl (by (try simp only [List.map_toArray, List.map_cons, List.map_nil]); first | done | rfl | (simp only [List.length_drop, List.length_take]; rfl)) ?_; (with_reducible refine (text_X2C.calls k (⟨#[54, 49, 54, 50]⟩ : ByteArray) t181 t182 _ (TabOK.of_below hT (by repeat (first | (with_reducible first | exact HB.out | apply below_alloc | apply pw_below_drewN | apply below_drew1) | exact HB.out))) A6.out).mono ?_); rintro e w41 ⟨rfl, hb⟩; refine ⟨_, rfl, ?_⟩; have n0_ := Aside0.mk (below_step (by repeat (first | (with_reducible first | exact HB.out | apply below_alloc | apply pw_below_drewN | apply below_drew1) | exact HB.out)) hb); clear HB; have HB := n0_; clear n0_; (try clear hb); (try clear hb2); (try clear hk); (try clear hi)))
                        go_ret
                        exact ⟨by first | rfl | (simp [errW_none, errW_some] <;> rfl) | (simp [*, errW_none, errW_some] <;> rfl), by repeat (first | (with_reducible first | exact HB.out | apply below_alloc | apply pw_below_drewN | apply below_drew1) | exact HB.out)⟩
                    · rw [if_neg c16] at H
                      have c16b0 : (t182 == 0) = false := beq_eq_false_iff_ne.mpr c16
                      have c16b1 : (t182 != 0) = true := bne_iff_ne.mpr c16
                      obtain rfl := Option.some.inj H
                      go_enter Tryz.func15, Tryz.ntmps15
                      go_wp2_with (first | ((with_reducible refine gate_callee (f := 84) rfl ?_); refine goesL_ (some 15) rfl rfl Tryz.func84 (by kernel_rfl) rfl #[.string (⟨#[97, 98, 99]⟩ : ByteArray), .int .i64 8, .int .u8 45] rfl (by (try simp only [List.map_toArray, List.map_cons, List.map_nil]); first | done | rfl | (simp only [List.length_drop, List.length_take]; rfl)) ?_; (with_reducible refine (text_Center.calls (⟨#[97, 98, 99]⟩ : ByteArray) 8 45 t171 t172 _ A1.out).mono ?_); rintro e w42 ⟨rfl, hb⟩; refine ⟨_, rfl, ?_⟩; have n0_ := Aside0.mk (below_step (by repeat (first | (with_reducible first | exact HB.out | apply below_alloc | apply pw_below_drewN | apply below_drew1) | exact HB.out)) hb); clear HB; have HB := n0_; clear n0_; (try clear hb); (try clear hb2); (try clear hk); (try clear hi)) | ((with_reducible refine gate_callee (f := 42) rfl ?_); refine goesL_ (some 19) rfl rfl Tryz.func42 (by kernel_rfl) rfl #[.string (⟨#[78, 111, 119, 32, 105, 115, 32, 116, 104, 101, 32, 32, 116, 105, 109, 101]⟩ : ByteArray), .int .i64 2, .int .i64 2] rfl (by (try simp only [List.map_toArray, List.map_cons, List.map_nil]); first | done | rfl | (simp only [List.length_drop, List.length_take]; rfl)) ?_; (with_reducible refine (text_DelWord.calls (⟨#[78, 111, 119, 32, 105, 115, 32, 116, 104, 101, 32, 32, 116, 105, 109, 101]⟩ : ByteArray) 2 2 t173 t174 _ A2.out).mono ?_); rintro e w43 ⟨rfl, hb⟩; refine ⟨_, rfl, ?_⟩; have n0_ := Aside0.mk (below_step (by repeat (first | (with_reducible first | exact HB.out | apply below_alloc | apply pw_below_drewN | apply below_drew1) | exact HB.out)) hb); clear HB; have HB := n0_; clear n0_; (try clear hb); (try clear hb2); (try clear hk); (try clear hi)) | ((with_reducible refine gate_callee (f := 58) rfl ?_); refine goesL_ (some 23) rfl rfl Tryz.func58 (by kernel_rfl) rfl #[.string (⟨#[32]⟩ : ByteArray), .string (⟨#[97, 98, 99, 32, 100, 101, 102, 32, 103, 104, 105]⟩ : ByteArray), .int .i64 7] rfl (by (try simp only [List.map_toArray, List.map_cons, List.map_nil]); first | done | rfl | (simp only [List.length_drop, List.length_take]; rfl)) ?_; (with_reducible refine (text_LastPos.calls k (⟨#[32]⟩ : ByteArray) (⟨#[97, 98, 99, 32, 100, 101, 102, 32, 103, 104, 105]⟩ : ByteArray) 7 t175 t176 _ A3.out).mono ?_); rintro e w44 ⟨rfl, hb⟩; refine ⟨_, rfl, ?_⟩; have n0_ := Aside0.mk (below_step (by repeat (first | (with_reducible first | exact HB.out | apply below_alloc | apply pw_below_drewN | apply below_drew1) | exact HB.out)) hb); clear HB; have HB := n0_; clear n0_; (try clear hb); (try clear hb2); (try clear hk); (try clear hi)) | ((with_reducible refine gate_callee (f := 24) rfl ?_); refine goesL_ (some 27) rfl rfl Tryz.func24 (by kernel_rfl) rfl #[.string (⟨#[97, 98, 99, 100, 101, 102]⟩ : ByteArray), .string (⟨#[49, 50]⟩ : ByteArray), .string (⟨#[101, 99]⟩ : ByteArray), .int .u8 46] rfl (by (try simp only [List.map_toArray, List.map_cons, List.map_nil]); first | done | rfl | (simp only [List.length_drop, List.length_take]; rfl)) ?_; (with_reducible refine (text_Translate.calls (⟨#[97, 98, 99, 100, 101, 102]⟩ : ByteArray) (⟨#[49, 50]⟩ : ByteArray) (⟨#[101, 99]⟩ : ByteArray) 46 t177 t178 _ A4.out).mono ?_); rintro e w45 ⟨rfl, hb⟩; refine ⟨_, rfl, ?_⟩; have n0_ := Aside0.mk (below_step (by repeat (first | (with_reducible first | exact HB.out | apply below_alloc | apply pw_below_drewN | apply below_drew1) | exact HB.out)) hb); clear HB; have HB := n0_; clear n0_; (try clear hb); (try clear hb2); (try clear hk); (try clear hi)) | ((with_reducible refine gate_callee (f := 19) rfl ?_); refine goesL_ (some 31) rfl rfl Tryz.func19 (by kernel_rfl) rfl #[.string (⟨#[65]⟩ : ByteArray), .string (⟨#[65]⟩ : ByteArray), .int .i64 (-1)] rfl (by (try simp only [List.map_toArray, List.map_cons, List.map_nil]); first | done | rfl | (simp only [List.length_drop, List.length_take]; rfl)) ?_; (with_reducible refine (text_BitXor.calls (⟨#[65]⟩ : ByteArray) (⟨#[65]⟩ : ByteArray) (-1) t179 t180 _ A5.out).mono ?_); rintro e w46 ⟨rfl, hb⟩; refine ⟨_, rfl, ?_⟩; have n0_ := Aside0.mk (below_step (by repeat (first | (with_reducible first | exact HB.out | apply below_alloc | apply pw_below_drewN | apply below_drew1) | exact HB.out)) hb); clear HB; have HB := n0_; clear n0_; (try clear hb); (try clear hb2); (try clear hk); (try clear hi)) | ((with_reducible refine gate_callee (f := 76) rfl ?_); refine goesL_ (some 35) rfl rfl Tryz.func76 (by kernel_rfl) rfl #[.string (⟨#[54, 49, 54, 50]⟩ : ByteArray)] rfl (by (try simp only [List.map_toArray, List.map_cons, List.map_nil]); first | done | rfl | (simp only [List.length_drop, List.length_take]; rfl)) ?_; (with_reducible refine (text_X2C.calls k (⟨#[54, 49, 54, 50]⟩ : ByteArray) t181 t182 _ (TabOK.of_below hT (by repeat (first | (with_reducible first | exact HB.out | apply below_alloc | apply pw_below_drewN | apply below_drew1) | exact HB.out))) A6.out).mono ?_); rintro e w47 ⟨rfl, hb⟩; refine ⟨_, rfl, ?_⟩; have n0_ := Aside0.mk (below_step (by repeat (first | (with_reducible first | exact HB.out | apply below_alloc | apply pw_below_drewN | apply below_drew1) | exact HB.out)) hb); clear HB; have HB := n0_; clear n0_; (try clear hb); (try clear hb2); (try clear hk); (try clear hi)))
                      go_ret
                      exact ⟨by first | rfl | (simp [errW_none, errW_some] <;> rfl) | (simp [*, errW_none, errW_some] <;> rfl), by repeat (first | (with_reducible first | exact HB.out | apply below_alloc | apply pw_below_drewN | apply below_drew1) | exact HB.out)⟩
                  · rw [if_neg c15] at H
                    have c15b0 : (t180 == 8) = false := beq_eq_false_iff_ne.mpr c15
                    have c15b1 : (t180 != 8) = true := bne_iff_ne.mpr c15
                    obtain rfl := Option.some.inj H
                    go_enter Tryz.func15, Tryz.ntmps15
                    go_wp2_with (first | ((with_reducible refine gate_callee (f := 84) rfl ?_); refine goesL_ (some 15) rfl rfl Tryz.func84 (by kernel_rfl) rfl #[.string (⟨#[97, 98, 99]⟩ : ByteArray), .int .i64 8, .int .u8 45] rfl (by (try simp only [List.map_toArray, List.map_cons, List.map_nil]); first | done | rfl | (simp only [List.length_drop, List.length_take]; rfl)) ?_; (with_reducible refine (text_Center.calls (⟨#[97, 98, 99]⟩ : ByteArray) 8 45 t171 t172 _ A1.out).mono ?_); rintro e w48 ⟨rfl, hb⟩; refine ⟨_, rfl, ?_⟩; have n0_ := Aside0.mk (below_step (by repeat (first | (with_reducible first | exact HB.out | apply below_alloc | apply pw_below_drewN | apply below_drew1) | exact HB.out)) hb); clear HB; have HB := n0_; clear n0_; (try clear hb); (try clear hb2); (try clear hk); (try clear hi)) | ((with_reducible refine gate_callee (f := 42) rfl ?_); refine goesL_ (some 19) rfl rfl Tryz.func42 (by kernel_rfl) rfl #[.string (⟨#[78, 111, 119, 32, 105, 115, 32, 116, 104, 101, 32, 32, 116, 105, 109, 101]⟩ : ByteArray), .int .i64 2, .int .i64 2] rfl (by (try simp only [List.map_toArray, List.map_cons, List.map_nil]); first | done | rfl | (simp only [List.length_drop, List.length_take]; rfl)) ?_; (with_reducible refine (text_DelWord.calls (⟨#[78, 111, 119, 32, 105, 115, 32, 116, 104, 101, 32, 32, 116, 105, 109, 101]⟩ : ByteArray) 2 2 t173 t174 _ A2.out).mono ?_); rintro e w49 ⟨rfl, hb⟩; refine ⟨_, rfl, ?_⟩; have n0_ := Aside0.mk (below_step (by repeat (first | (with_reducible first | exact HB.out | apply below_alloc | apply pw_below_drewN | apply below_drew1) | exact HB.out)) hb); clear HB; have HB := n0_; clear n0_; (try clear hb); (try clear hb2); (try clear hk); (try clear hi)) | ((with_reducible refine gate_callee (f := 58) rfl ?_); refine goesL_ (some 23) rfl rfl Tryz.func58 (by kernel_rfl) rfl #[.string (⟨#[32]⟩ : ByteArray), .string (⟨#[97, 98, 99, 32, 100, 101, 102, 32, 103, 104, 105]⟩ : ByteArray), .int .i64 7] rfl (by (try simp only [List.map_toArray, List.map_cons, List.map_nil]); first | done | rfl | (simp only [List.length_drop, List.length_take]; rfl)) ?_; (with_reducible refine (text_LastPos.calls k (⟨#[32]⟩ : ByteArray) (⟨#[97, 98, 99, 32, 100, 101, 102, 32, 103, 104, 105]⟩ : ByteArray) 7 t175 t176 _ A3.out).mono ?_); rintro e w50 ⟨rfl, hb⟩; refine ⟨_, rfl, ?_⟩; have n0_ := Aside0.mk (below_step (by repeat (first | (with_reducible first | exact HB.out | apply below_alloc | apply pw_below_drewN | apply below_drew1) | exact HB.out)) hb); clear HB; have HB := n0_; clear n0_; (try clear hb); (try clear hb2); (try clear hk); (try clear hi)) | ((with_reducible refine gate_callee (f := 24) rfl ?_); refine goesL_ (some 27) rfl rfl Tryz.func24 (by kernel_rfl) rfl #[.string (⟨#[97, 98, 99, 100, 101, 102]⟩ : ByteArray), .string (⟨#[49, 50]⟩ : ByteArray), .string (⟨#[101, 99]⟩ : ByteArray), .int .u8 46] rfl (by (try simp only [List.map_toArray, List.map_cons, List.map_nil]); first | done | rfl | (simp only [List.length_drop, List.length_take]; rfl)) ?_; (with_reducible refine (text_Translate.calls (⟨#[97, 98, 99, 100, 101, 102]⟩ : ByteArray) (⟨#[49, 50]⟩ : ByteArray) (⟨#[101, 99]⟩ : ByteArray) 46 t177 t178 _ A4.out).mono ?_); rintro e w51 ⟨rfl, hb⟩; refine ⟨_, rfl, ?_⟩; have n0_ := Aside0.mk (below_step (by repeat (first | (with_reducible first | exact HB.out | apply below_alloc | apply pw_below_drewN | apply below_drew1) | exact HB.out)) hb); clear HB; have HB := n0_; clear n0_; (try clear hb); (try clear hb2); (try clear hk); (try clear hi)) | ((with_reducible refine gate_callee (f := 19) rfl ?_); refine goesL_ (some 31) rfl rfl Tryz.func19 (by kernel_rfl) rfl #[.string (⟨#[65]⟩ : ByteArray), .string (⟨#[65]⟩ : ByteArray), .int .i64 (-1)] rfl (by (try simp only [List.map_toArray, List.map_cons, List.map_nil]); first | done | rfl | (simp only [List.length_drop, List.length_take]; rfl)) ?_; (with_reducible refine (text_BitXor.calls (⟨#[65]⟩ : ByteArray) (⟨#[65]⟩ : ByteArray) (-1) t179 t180 _ A5.out).mono ?_); rintro e w52 ⟨rfl, hb⟩; refine ⟨_, rfl, ?_⟩; have n0_ := Aside0.mk (below_step (by repeat (first | (with_reducible first | exact HB.out | apply below_alloc | apply pw_below_drewN | apply below_drew1) | exact HB.out)) hb); clear HB; have HB := n0_; clear n0_; (try clear hb); (try clear hb2); (try clear hk); (try clear hi)) | ((with_reducible refine gate_callee (f := 76) rfl ?_); refine goesL_ (some 35) rfl rfl Tryz.func76 (by kernel_rfl) rfl #[.string (⟨#[54, 49, 54, 50]⟩ : ByteArray)] rfl (by (try simp only [List.map_toArray, List.map_cons, List.map_nil]); first | done | rfl | (simp only [List.length_drop, List.length_take]; rfl)) ?_; (with_reducible refine (text_X2C.calls k (⟨#[54, 49, 54, 50]⟩ : ByteArray) t181 t182 _ (TabOK.of_below hT (by repeat (first | (with_reducible first | exact HB.out | apply below_alloc | apply pw_below_drewN | apply below_drew1) | exact HB.out))) A6.out).mono ?_); rintro e w53 ⟨rfl, hb⟩; refine ⟨_, rfl, ?_⟩; have n0_ := Aside0.mk (below_step (by repeat (first | (with_reducible first | exact HB.out | apply below_alloc | apply pw_below_drewN | apply below_drew1) | exact HB.out)) hb); clear HB; have HB := n0_; clear n0_; (try clear hb); (try clear hb2); (try clear hk); (try clear hi)))
                    go_ret
                    exact ⟨by first | rfl | (simp [errW_none, errW_some] <;> rfl) | (simp [*, errW_none, errW_some] <;> rfl), by repeat (first | (with_reducible first | exact HB.out | apply below_alloc | apply pw_below_drewN | apply below_drew1) | exact HB.out)⟩
                · rw [if_neg c14] at H
                  have c14b0 : (t177.toList == ([97, 98, 50, 100, 49, 102] : List UInt8)) = false := beq_eq_false_iff_ne.mpr c14
                  have c14b1 : (t177.toList != ([97, 98, 50, 100, 49, 102] : List UInt8)) = true := bne_iff_ne.mpr c14
                  obtain rfl := Option.some.inj H
                  go_enter Tryz.func15, Tryz.ntmps15
                  go_wp2_with (first | ((with_reducible refine gate_callee (f := 84) rfl ?_); refine goesL_ (some 15) rfl rfl Tryz.func84 (by kernel_rfl) rfl #[.string (⟨#[97, 98, 99]⟩ : ByteArray), .int .i64 8, .int .u8 45] rfl (by (try simp only [List.map_toArray, List.map_cons, List.map_nil]); first | done | rfl | (simp only [List.length_drop, List.length_take]; rfl)) ?_; (with_reducible refine (text_Center.calls (⟨#[97, 98, 99]⟩ : ByteArray) 8 45 t171 t172 _ A1.out).mono ?_); rintro e w54 ⟨rfl, hb⟩; refine ⟨_, rfl, ?_⟩; have n0_ := Aside0.mk (below_step (by repeat (first | (with_reducible first | exact HB.out | apply below_alloc | apply pw_below_drewN | apply below_drew1) | exact HB.out)) hb); clear HB; have HB := n0_; clear n0_; (try clear hb); (try clear hb2); (try clear hk); (try clear hi)) | ((with_reducible refine gate_callee (f := 42) rfl ?_); refine goesL_ (some 19) rfl rfl Tryz.func42 (by kernel_rfl) rfl #[.string (⟨#[78, 111, 119, 32, 105, 115, 32, 116, 104, 101, 32, 32, 116, 105, 109, 101]⟩ : ByteArray), .int .i64 2, .int .i64 2] rfl (by (try simp only [List.map_toArray, List.map_cons, List.map_nil]); first | done | rfl | (simp only [List.length_drop, List.length_take]; rfl)) ?_; (with_reducible refine (text_DelWord.calls (⟨#[78, 111, 119, 32, 105, 115, 32, 116, 104, 101, 32, 32, 116, 105, 109, 101]⟩ : ByteArray) 2 2 t173 t174 _ A2.out).mono ?_); rintro e w55 ⟨rfl, hb⟩; refine ⟨_, rfl, ?_⟩; have n0_ := Aside0.mk (below_step (by repeat (first | (with_reducible first | exact HB.out | apply below_alloc | apply pw_below_drewN | apply below_drew1) | exact HB.out)) hb); clear HB; have HB := n0_; clear n0_; (try clear hb); (try clear hb2); (try clear hk); (try clear hi)) | ((with_reducible refine gate_callee (f := 58) rfl ?_); refine goesL_ (some 23) rfl rfl Tryz.func58 (by kernel_rfl) rfl #[.string (⟨#[32]⟩ : ByteArray), .string (⟨#[97, 98, 99, 32, 100, 101, 102, 32, 103, 104, 105]⟩ : ByteArray), .int .i64 7] rfl (by (try simp only [List.map_toArray, List.map_cons, List.map_nil]); first | done | rfl | (simp only [List.length_drop, List.length_take]; rfl)) ?_; (with_reducible refine (text_LastPos.calls k (⟨#[32]⟩ : ByteArray) (⟨#[97, 98, 99, 32, 100, 101, 102, 32, 103, 104, 105]⟩ : ByteArray) 7 t175 t176 _ A3.out).mono ?_); rintro e w56 ⟨rfl, hb⟩; refine ⟨_, rfl, ?_⟩; have n0_ := Aside0.mk (below_step (by repeat (first | (with_reducible first | exact HB.out | apply below_alloc | apply pw_below_drewN | apply below_drew1) | exact HB.out)) hb); clear HB; have HB := n0_; clear n0_; (try clear hb); (try clear hb2); (try clear hk); (try clear hi)) | ((with_reducible refine gate_callee (f := 24) rfl ?_); refine goesL_ (some 27) rfl rfl Tryz.func24 (by kernel_rfl) rfl #[.string (⟨#[97, 98, 99, 100, 101, 102]⟩ : ByteArray), .string (⟨#[49, 50]⟩ : ByteArray), .string (⟨#[101, 99]⟩ : ByteArray), .int .u8 46] rfl (by (try simp only [List.map_toArray, List.map_cons, List.map_nil]); first | done | rfl | (simp only [List.length_drop, List.length_take]; rfl)) ?_; (with_reducible refine (text_Translate.calls (⟨#[97, 98, 99, 100, 101, 102]⟩ : ByteArray) (⟨#[49, 50]⟩ : ByteArray) (⟨#[101, 99]⟩ : ByteArray) 46 t177 t178 _ A4.out).mono ?_); rintro e w57 ⟨rfl, hb⟩; refine ⟨_, rfl, ?_⟩; have n0_ := Aside0.mk (below_step (by repeat (first | (with_reducible first | exact HB.out | apply below_alloc | apply pw_below_drewN | apply below_drew1) | exact HB.out)) hb); clear HB; have HB := n0_; clear n0_; (try clear hb); (try clear hb2); (try clear hk); (try clear hi)) | ((with_reducible refine gate_callee (f := 19) rfl ?_); refine goesL_ (some 31) rfl rfl Tryz.func19 (by kernel_rfl) rfl #[.string (⟨#[65]⟩ : ByteArray), .string (⟨#[65]⟩ : ByteArray), .int .i64 (-1)] rfl (by (try simp only [List.map_toArray, List.map_cons, List.map_nil]); first | done | rfl | (simp only [List.length_drop, List.length_take]; rfl)) ?_; (with_reducible refine (text_BitXor.calls (⟨#[65]⟩ : ByteArray) (⟨#[65]⟩ : ByteArray) (-1) t179 t180 _ A5.out).mono ?_); rintro e w58 ⟨rfl, hb⟩; refine ⟨_, rfl, ?_⟩; have n0_ := Aside0.mk (below_step (by repeat (first | (with_reducible first | exact HB.out | apply below_alloc | apply pw_below_drewN | apply below_drew1) | exact HB.out)) hb); clear HB; have HB := n0_; clear n0_; (try clear hb); (try clear hb2); (try clear hk); (try clear hi)) | ((with_reducible refine gate_callee (f := 76) rfl ?_); refine goesL_ (some 35) rfl rfl Tryz.func76 (by kernel_rfl) rfl #[.string (⟨#[54, 49, 54, 50]⟩ : ByteArray)] rfl (by (try simp only [List.map_toArray, List.map_cons, List.map_nil]); first | done | rfl | (simp only [List.length_drop, List.length_take]; rfl)) ?_; (with_reducible refine (text_X2C.calls k (⟨#[54, 49, 54, 50]⟩ : ByteArray) t181 t182 _ (TabOK.of_below hT (by repeat (first | (with_reducible first | exact HB.out | apply below_alloc | apply pw_below_drewN | apply below_drew1) | exact HB.out))) A6.out).mono ?_); rintro e w59 ⟨rfl, hb⟩; refine ⟨_, rfl, ?_⟩; have n0_ := Aside0.mk (below_step (by repeat (first | (with_reducible first | exact HB.out | apply below_alloc | apply pw_below_drewN | apply below_drew1) | exact HB.out)) hb); clear HB; have HB := n0_; clear n0_; (try clear hb); (try clear hb2); (try clear hk); (try clear hi)))
                  go_ret
                  exact ⟨by first | rfl | (simp [errW_none, errW_some] <;> rfl) | (simp [*, errW_none, errW_some] <;> rfl), by repeat (first | (with_reducible first | exact HB.out | apply below_alloc | apply pw_below_drewN | apply below_drew1) | exact HB.out)⟩
              · rw [if_neg c13] at H
                have c13b0 : (t178 == 0) = false := beq_eq_false_iff_ne.mpr c13
                have c13b1 : (t178 != 0) = true := bne_iff_ne.mpr c13
                obtain rfl := Option.some.inj H
                go_enter Tryz.func15, Tryz.ntmps15
                go_wp2_with (first | ((with_reducible refine gate_callee (f := 84) rfl ?_); refine goesL_ (some 15) rfl rfl Tryz.func84 (by kernel_rfl) rfl #[.string (⟨#[97, 98, 99]⟩ : ByteArray), .int .i64 8, .int .u8 45] rfl (by (try simp only [List.map_toArray, List.map_cons, List.map_nil]); first | done | rfl | (simp only [List.length_drop, List.length_take]; rfl)) ?_; (with_reducible refine (text_Center.calls (⟨#[97, 98, 99]⟩ : ByteArray) 8 45 t171 t172 _ A1.out).mono ?_); rintro e w60 ⟨rfl, hb⟩; refine ⟨_, rfl, ?_⟩; have n0_ := Aside0.mk (below_step (by repeat (first | (with_reducible first | exact HB.out | apply below_alloc | apply pw_below_drewN | apply below_drew1) | exact HB.out)) hb); clear HB; have HB := n0_; clear n0_; (try clear hb); (try clear hb2); (try clear hk); (try clear hi)) | ((with_reducible refine gate_callee (f := 42) rfl ?_); refine goesL_ (some 19) rfl rfl Tryz.func42 (by kernel_rfl) rfl #[.string (⟨#[78, 111, 119, 32, 105, 115, 32, 116, 104, 101, 32, 32, 116, 105, 109, 101]⟩ : ByteArray), .int .i64 2, .int .i64 2] rfl (by (try simp only [List.map_toArray, List.map_cons, List.map_nil]); first | done | rfl | (simp only [List.length_drop, List.length_take]; rfl)) ?_; (with_reducible refine (text_DelWord.calls (⟨#[78, 111, 119, 32, 105, 115, 32, 116, 104, 101, 32, 32, 116, 105, 109, 101]⟩ : ByteArray) 2 2 t173 t174 _ A2.out).mono ?_); rintro e w61 ⟨rfl, hb⟩; refine ⟨_, rfl, ?_⟩; have n0_ := Aside0.mk (below_step (by repeat (first | (with_reducible first | exact HB.out | apply below_alloc | apply pw_below_drewN | apply below_drew1) | exact HB.out)) hb); clear HB; have HB := n0_; clear n0_; (try clear hb); (try clear hb2); (try clear hk); (try clear hi)) | ((with_reducible refine gate_callee (f := 58) rfl ?_); refine goesL_ (some 23) rfl rfl Tryz.func58 (by kernel_rfl) rfl #[.string (⟨#[32]⟩ : ByteArray), .string (⟨#[97, 98, 99, 32, 100, 101, 102, 32, 103, 104, 105]⟩ : ByteArray), .int .i64 7] rfl (by (try simp only [List.map_toArray, List.map_cons, List.map_nil]); first | done | rfl | (simp only [List.length_drop, List.length_take]; rfl)) ?_; (with_reducible refine (text_LastPos.calls k (⟨#[32]⟩ : ByteArray) (⟨#[97, 98, 99, 32, 100, 101, 102, 32, 103, 104, 105]⟩ : ByteArray) 7 t175 t176 _ A3.out).mono ?_); rintro e w62 ⟨rfl, hb⟩; refine ⟨_, rfl, ?_⟩; have n0_ := Aside0.mk (below_step (by repeat (first | (with_reducible first | exact HB.out | apply below_alloc | apply pw_below_drewN | apply below_drew1) | exact HB.out)) hb); clear HB; have HB := n0_; clear n0_; (try clear hb); (try clear hb2); (try clear hk); (try clear hi)) | ((with_reducible refine gate_callee (f := 24) rfl ?_); refine goesL_ (some 27) rfl rfl Tryz.func24 (by kernel_rfl) rfl #[.string (⟨#[97, 98, 99, 100, 101, 102]⟩ : ByteArray), .string (⟨#[49, 50]⟩ : ByteArray), .string (⟨#[101, 99]⟩ : ByteArray), .int .u8 46] rfl (by (try simp only [List.map_toArray, List.map_cons, List.map_nil]); first | done | rfl | (simp only [List.length_drop, List.length_take]; rfl)) ?_; (with_reducible refine (text_Translate.calls (⟨#[97, 98, 99, 100, 101, 102]⟩ : ByteArray) (⟨#[49, 50]⟩ : ByteArray) (⟨#[101, 99]⟩ : ByteArray) 46 t177 t178 _ A4.out).mono ?_); rintro e w63 ⟨rfl, hb⟩; refine ⟨_, rfl, ?_⟩; have n0_ := Aside0.mk (below_step (by repeat (first | (with_reducible first | exact HB.out | apply below_alloc | apply pw_below_drewN | apply below_drew1) | exact HB.out)) hb); clear HB; have HB := n0_; clear n0_; (try clear hb); (try clear hb2); (try clear hk); (try clear hi)) | ((with_reducible refine gate_callee (f := 19) rfl ?_); refine goesL_ (some 31) rfl rfl Tryz.func19 (by kernel_rfl) rfl #[.string (⟨#[65]⟩ : ByteArray), .string (⟨#[65]⟩ : ByteArray), .int .i64 (-1)] rfl (by (try simp only [List.map_toArray, List.map_cons, List.map_nil]); first | done | rfl | (simp only [List.length_drop, List.length_take]; rfl)) ?_; (with_reducible refine (text_BitXor.calls (⟨#[65]⟩ : ByteArray) (⟨#[65]⟩ : ByteArray) (-1) t179 t180 _ A5.out).mono ?_); rintro e w64 ⟨rfl, hb⟩; refine ⟨_, rfl, ?_⟩; have n0_ := Aside0.mk (below_step (by repeat (first | (with_reducible first | exact HB.out | apply below_alloc | apply pw_below_drewN | apply below_drew1) | exact HB.out)) hb); clear HB; have HB := n0_; clear n0_; (try clear hb); (try clear hb2); (try clear hk); (try clear hi)) | ((with_reducible refine gate_callee (f := 76) rfl ?_); refine goesL_ (some 35) rfl rfl Tryz.func76 (by kernel_rfl) rfl #[.string (⟨#[54, 49, 54, 50]⟩ : ByteArray)] rfl (by (try simp only [List.map_toArray, List.map_cons, List.map_nil]); first | done | rfl | (simp only [List.length_drop, List.length_take]; rfl)) ?_; (with_reducible refine (text_X2C.calls k (⟨#[54, 49, 54, 50]⟩ : ByteArray) t181 t182 _ (TabOK.of_below hT (by repeat (first | (with_reducible first | exact HB.out | apply below_alloc | apply pw_below_drewN | apply below_drew1) | exact HB.out))) A6.out).mono ?_); rintro e w65 ⟨rfl, hb⟩; refine ⟨_, rfl, ?_⟩; have n0_ := Aside0.mk (below_step (by repeat (first | (with_reducible first | exact HB.out | apply below_alloc | apply pw_below_drewN | apply below_drew1) | exact HB.out)) hb); clear HB; have HB := n0_; clear n0_; (try clear hb); (try clear hb2); (try clear hk); (try clear hi)))
                go_ret
                exact ⟨by first | rfl | (simp [errW_none, errW_some] <;> rfl) | (simp [*, errW_none, errW_some] <;> rfl), by repeat (first | (with_reducible first | exact HB.out | apply below_alloc | apply pw_below_drewN | apply below_drew1) | exact HB.out)⟩
            · rw [if_neg c12] at H
              have c12b0 : (t175 == 4) = false := beq_eq_false_iff_ne.mpr c12
              have c12b1 : (t175 != 4) = true := bne_iff_ne.mpr c12
              obtain rfl := Option.some.inj H
              go_enter Tryz.func15, Tryz.ntmps15
              go_wp2_with (first | ((with_reducible refine gate_callee (f := 84) rfl ?_); refine goesL_ (some 15) rfl rfl Tryz.func84 (by kernel_rfl) rfl #[.string (⟨#[97, 98, 99]⟩ : ByteArray), .int .i64 8, .int .u8 45] rfl (by (try simp only [List.map_toArray, List.map_cons, List.map_nil]); first | done | rfl | (simp only [List.length_drop, List.length_take]; rfl)) ?_; (with_reducible refine (text_Center.calls (⟨#[97, 98, 99]⟩ : ByteArray) 8 45 t171 t172 _ A1.out).mono ?_); rintro e w66 ⟨rfl, hb⟩; refine ⟨_, rfl, ?_⟩; have n0_ := Aside0.mk (below_step (by repeat (first | (with_reducible first | exact HB.out | apply below_alloc | apply pw_below_drewN | apply below_drew1) | exact HB.out)) hb); clear HB; have HB := n0_; clear n0_; (try clear hb); (try clear hb2); (try clear hk); (try clear hi)) | ((with_reducible refine gate_callee (f := 42) rfl ?_); refine goesL_ (some 19) rfl rfl Tryz.func42 (by kernel_rfl) rfl #[.string (⟨#[78, 111, 119, 32, 105, 115, 32, 116, 104, 101, 32, 32, 116, 105, 109, 101]⟩ : ByteArray), .int .i64 2, .int .i64 2] rfl (by (try simp only [List.map_toArray, List.map_cons, List.map_nil]); first | done | rfl | (simp only [List.length_drop, List.length_take]; rfl)) ?_; (with_reducible refine (text_DelWord.calls (⟨#[78, 111, 119, 32, 105, 115, 32, 116, 104, 101, 32, 32, 116, 105, 109, 101]⟩ : ByteArray) 2 2 t173 t174 _ A2.out).mono ?_); rintro e w67 ⟨rfl, hb⟩; refine ⟨_, rfl, ?_⟩; have n0_ := Aside0.mk (below_step (by repeat (first | (with_reducible first | exact HB.out | apply below_alloc | apply pw_below_drewN | apply below_drew1) | exact HB.out)) hb); clear HB; have HB := n0_; clear n0_; (try clear hb); (try clear hb2); (try clear hk); (try clear hi)) | ((with_reducible refine gate_callee (f := 58) rfl ?_); refine goesL_ (some 23) rfl rfl Tryz.func58 (by kernel_rfl) rfl #[.string (⟨#[32]⟩ : ByteArray), .string (⟨#[97, 98, 99, 32, 100, 101, 102, 32, 103, 104, 105]⟩ : ByteArray), .int .i64 7] rfl (by (try simp only [List.map_toArray, List.map_cons, List.map_nil]); first | done | rfl | (simp only [List.length_drop, List.length_take]; rfl)) ?_; (with_reducible refine (text_LastPos.calls k (⟨#[32]⟩ : ByteArray) (⟨#[97, 98, 99, 32, 100, 101, 102, 32, 103, 104, 105]⟩ : ByteArray) 7 t175 t176 _ A3.out).mono ?_); rintro e w68 ⟨rfl, hb⟩; refine ⟨_, rfl, ?_⟩; have n0_ := Aside0.mk (below_step (by repeat (first | (with_reducible first | exact HB.out | apply below_alloc | apply pw_below_drewN | apply below_drew1) | exact HB.out)) hb); clear HB; have HB := n0_; clear n0_; (try clear hb); (try clear hb2); (try clear hk); (try clear hi)) | ((with_reducible refine gate_callee (f := 24) rfl ?_); refine goesL_ (some 27) rfl rfl Tryz.func24 (by kernel_rfl) rfl #[.string (⟨#[97, 98, 99, 100, 101, 102]⟩ : ByteArray), .string (⟨#[49, 50]⟩ : ByteArray), .string (⟨#[101, 99]⟩ : ByteArray), .int .u8 46] rfl (by (try simp only [List.map_toArray, List.map_cons, List.map_nil]); first | done | rfl | (simp only [List.length_drop, List.length_take]; rfl)) ?_; (with_reducible refine (text_Translate.calls (⟨#[97, 98, 99, 100, 101, 102]⟩ : ByteArray) (⟨#[49, 50]⟩ : ByteArray) (⟨#[101, 99]⟩ : ByteArray) 46 t177 t178 _ A4.out).mono ?_); rintro e w69 ⟨rfl, hb⟩; refine ⟨_, rfl, ?_⟩; have n0_ := Aside0.mk (below_step (by repeat (first | (with_reducible first | exact HB.out | apply below_alloc | apply pw_below_drewN | apply below_drew1) | exact HB.out)) hb); clear HB; have HB := n0_; clear n0_; (try clear hb); (try clear hb2); (try clear hk); (try clear hi)) | ((with_reducible refine gate_callee (f := 19) rfl ?_); refine goesL_ (some 31) rfl rfl Tryz.func19 (by kernel_rfl) rfl #[.string (⟨#[65]⟩ : ByteArray), .string (⟨#[65]⟩ : ByteArray), .int .i64 (-1)] rfl (by (try simp only [List.map_toArray, List.map_cons, List.map_nil]); first | done | rfl | (simp only [List.length_drop, List.length_take]; rfl)) ?_; (with_reducible refine (text_BitXor.calls (⟨#[65]⟩ : ByteArray) (⟨#[65]⟩ : ByteArray) (-1) t179 t180 _ A5.out).mono ?_); rintro e w70 ⟨rfl, hb⟩; refine ⟨_, rfl, ?_⟩; have n0_ := Aside0.mk (below_step (by repeat (first | (with_reducible first | exact HB.out | apply below_alloc | apply pw_below_drewN | apply below_drew1) | exact HB.out)) hb); clear HB; have HB := n0_; clear n0_; (try clear hb); (try clear hb2); (try clear hk); (try clear hi)) | ((with_reducible refine gate_callee (f := 76) rfl ?_); refine goesL_ (some 35) rfl rfl Tryz.func76 (by kernel_rfl) rfl #[.string (⟨#[54, 49, 54, 50]⟩ : ByteArray)] rfl (by (try simp only [List.map_toArray, List.map_cons, List.map_nil]); first | done | rfl | (simp only [List.length_drop, List.length_take]; rfl)) ?_; (with_reducible refine (text_X2C.calls k (⟨#[54, 49, 54, 50]⟩ : ByteArray) t181 t182 _ (TabOK.of_below hT (by repeat (first | (with_reducible first | exact HB.out | apply below_alloc | apply pw_below_drewN | apply below_drew1) | exact HB.out))) A6.out).mono ?_); rintro e w71 ⟨rfl, hb⟩; refine ⟨_, rfl, ?_⟩; have n0_ := Aside0.mk (below_step (by repeat (first | (with_reducible first | exact HB.out | apply below_alloc | apply pw_below_drewN | apply below_drew1) | exact HB.out)) hb); clear HB; have HB := n0_; clear n0_; (try clear hb); (try clear hb2); (try clear hk); (try clear hi)))
              go_ret
              exact ⟨by first | rfl | (simp [errW_none, errW_some] <;> rfl) | (simp [*, errW_none, errW_some] <;> rfl), by repeat (first | (with_reducible first | exact HB.out | apply below_alloc | apply pw_below_drewN | apply below_drew1) | exact HB.out)⟩
          · rw [if_neg c11] at H
            have c11b0 : (t176 == 0) = false := beq_eq_false_iff_ne.mpr c11
            have c11b1 : (t176 != 0) = true := bne_iff_ne.mpr c11
            obtain rfl := Option.some.inj H
            go_enter Tryz.func15, Tryz.ntmps15
            go_wp2_with (first | ((with_reducible refine gate_callee (f := 84) rfl ?_); refine goesL_ (some 15) rfl rfl Tryz.func84 (by kernel_rfl) rfl #[.string (⟨#[97, 98, 99]⟩ : ByteArray), .int .i64 8, .int .u8 45] rfl (by (try simp only [List.map_toArray, List.map_cons, List.map_nil]); first | done | rfl | (simp only [List.length_drop, List.length_take]; rfl)) ?_; (with_reducible refine (text_Center.calls (⟨#[97, 98, 99]⟩ : ByteArray) 8 45 t171 t172 _ A1.out).mono ?_); rintro e w72 ⟨rfl, hb⟩; refine ⟨_, rfl, ?_⟩; have n0_ := Aside0.mk (below_step (by repeat (first | (with_reducible first | exact HB.out | apply below_alloc | apply pw_below_drewN | apply below_drew1) | exact HB.out)) hb); clear HB; have HB := n0_; clear n0_; (try clear hb); (try clear hb2); (try clear hk); (try clear hi)) | ((with_reducible refine gate_callee (f := 42) rfl ?_); refine goesL_ (some 19) rfl rfl Tryz.func42 (by kernel_rfl) rfl #[.string (⟨#[78, 111, 119, 32, 105, 115, 32, 116, 104, 101, 32, 32, 116, 105, 109, 101]⟩ : ByteArray), .int .i64 2, .int .i64 2] rfl (by (try simp only [List.map_toArray, List.map_cons, List.map_nil]); first | done | rfl | (simp only [List.length_drop, List.length_take]; rfl)) ?_; (with_reducible refine (text_DelWord.calls (⟨#[78, 111, 119, 32, 105, 115, 32, 116, 104, 101, 32, 32, 116, 105, 109, 101]⟩ : ByteArray) 2 2 t173 t174 _ A2.out).mono ?_); rintro e w73 ⟨rfl, hb⟩; refine ⟨_, rfl, ?_⟩; have n0_ := Aside0.mk (below_step (by repeat (first | (with_reducible first | exact HB.out | apply below_alloc | apply pw_below_drewN | apply below_drew1) | exact HB.out)) hb); clear HB; have HB := n0_; clear n0_; (try clear hb); (try clear hb2); (try clear hk); (try clear hi)) | ((with_reducible refine gate_callee (f := 58) rfl ?_); refine goesL_ (some 23) rfl rfl Tryz.func58 (by kernel_rfl) rfl #[.string (⟨#[32]⟩ : ByteArray), .string (⟨#[97, 98, 99, 32, 100, 101, 102, 32, 103, 104, 105]⟩ : ByteArray), .int .i64 7] rfl (by (try simp only [List.map_toArray, List.map_cons, List.map_nil]); first | done | rfl | (simp only [List.length_drop, List.length_take]; rfl)) ?_; (with_reducible refine (text_LastPos.calls k (⟨#[32]⟩ : ByteArray) (⟨#[97, 98, 99, 32, 100, 101, 102, 32, 103, 104, 105]⟩ : ByteArray) 7 t175 t176 _ A3.out).mono ?_); rintro e w74 ⟨rfl, hb⟩; refine ⟨_, rfl, ?_⟩; have n0_ := Aside0.mk (below_step (by repeat (first | (with_reducible first | exact HB.out | apply below_alloc | apply pw_below_drewN | apply below_drew1) | exact HB.out)) hb); clear HB; have HB := n0_; clear n0_; (try clear hb); (try clear hb2); (try clear hk); (try clear hi)) | ((with_reducible refine gate_callee (f := 24) rfl ?_); refine goesL_ (some 27) rfl rfl Tryz.func24 (by kernel_rfl) rfl #[.string (⟨#[97, 98, 99, 100, 101, 102]⟩ : ByteArray), .string (⟨#[49, 50]⟩ : ByteArray), .string (⟨#[101, 99]⟩ : ByteArray), .int .u8 46] rfl (by (try simp only [List.map_toArray, List.map_cons, List.map_nil]); first | done | rfl | (simp only [List.length_drop, List.length_take]; rfl)) ?_; (with_reducible refine (text_Translate.calls (⟨#[97, 98, 99, 100, 101, 102]⟩ : ByteArray) (⟨#[49, 50]⟩ : ByteArray) (⟨#[101, 99]⟩ : ByteArray) 46 t177 t178 _ A4.out).mono ?_); rintro e w75 ⟨rfl, hb⟩; refine ⟨_, rfl, ?_⟩; have n0_ := Aside0.mk (below_step (by repeat (first | (with_reducible first | exact HB.out | apply below_alloc | apply pw_below_drewN | apply below_drew1) | exact HB.out)) hb); clear HB; have HB := n0_; clear n0_; (try clear hb); (try clear hb2); (try clear hk); (try clear hi)) | ((with_reducible refine gate_callee (f := 19) rfl ?_); refine goesL_ (some 31) rfl rfl Tryz.func19 (by kernel_rfl) rfl #[.string (⟨#[65]⟩ : ByteArray), .string (⟨#[65]⟩ : ByteArray), .int .i64 (-1)] rfl (by (try simp only [List.map_toArray, List.map_cons, List.map_nil]); first | done | rfl | (simp only [List.length_drop, List.length_take]; rfl)) ?_; (with_reducible refine (text_BitXor.calls (⟨#[65]⟩ : ByteArray) (⟨#[65]⟩ : ByteArray) (-1) t179 t180 _ A5.out).mono ?_); rintro e w76 ⟨rfl, hb⟩; refine ⟨_, rfl, ?_⟩; have n0_ := Aside0.mk (below_step (by repeat (first | (with_reducible first | exact HB.out | apply below_alloc | apply pw_below_drewN | apply below_drew1) | exact HB.out)) hb); clear HB; have HB := n0_; clear n0_; (try clear hb); (try clear hb2); (try clear hk); (try clear hi)) | ((with_reducible refine gate_callee (f := 76) rfl ?_); refine goesL_ (some 35) rfl rfl Tryz.func76 (by kernel_rfl) rfl #[.string (⟨#[54, 49, 54, 50]⟩ : ByteArray)] rfl (by (try simp only [List.map_toArray, List.map_cons, List.map_nil]); first | done | rfl | (simp only [List.length_drop, List.length_take]; rfl)) ?_; (with_reducible refine (text_X2C.calls k (⟨#[54, 49, 54, 50]⟩ : ByteArray) t181 t182 _ (TabOK.of_below hT (by repeat (first | (with_reducible first | exact HB.out | apply below_alloc | apply pw_below_drewN | apply below_drew1) | exact HB.out))) A6.out).mono ?_); rintro e w77 ⟨rfl, hb⟩; refine ⟨_, rfl, ?_⟩; have n0_ := Aside0.mk (below_step (by repeat (first | (with_reducible first | exact HB.out | apply below_alloc | apply pw_below_drewN | apply below_drew1) | exact HB.out)) hb); clear HB; have HB := n0_; clear n0_; (try clear hb); (try clear hb2); (try clear hk); (try clear hi)))
            go_ret
            exact ⟨by first | rfl | (simp [errW_none, errW_some] <;> rfl) | (simp [*, errW_none, errW_some] <;> rfl), by repeat (first | (with_reducible first | exact HB.out | apply below_alloc | apply pw_below_drewN | apply below_drew1) | exact HB.out)⟩
        · rw [if_neg c10] at H
          have c10b0 : (t173.toList == ([78, 111, 119, 32, 116, 105, 109, 101] : List UInt8)) = false := beq_eq_false_iff_ne.mpr c10
          have c10b1 : (t173.toList != ([78, 111, 119, 32, 116, 105, 109, 101] : List UInt8)) = true := bne_iff_ne.mpr c10
          obtain rfl := Option.some.inj H
          go_enter Tryz.func15, Tryz.ntmps15
          go_wp2_with (first | ((with_reducible refine gate_callee (f := 84) rfl ?_); refine goesL_ (some 15) rfl rfl Tryz.func84 (by kernel_rfl) rfl #[.string (⟨#[97, 98, 99]⟩ : ByteArray), .int .i64 8, .int .u8 45] rfl (by (try simp only [List.map_toArray, List.map_cons, List.map_nil]); first | done | rfl | (simp only [List.length_drop, List.length_take]; rfl)) ?_; (with_reducible refine (text_Center.calls (⟨#[97, 98, 99]⟩ : ByteArray) 8 45 t171 t172 _ A1.out).mono ?_); rintro e w78 ⟨rfl, hb⟩; refine ⟨_, rfl, ?_⟩; have n0_ := Aside0.mk (below_step (by repeat (first | (with_reducible first | exact HB.out | apply below_alloc | apply pw_below_drewN | apply below_drew1) | exact HB.out)) hb); clear HB; have HB := n0_; clear n0_; (try clear hb); (try clear hb2); (try clear hk); (try clear hi)) | ((with_reducible refine gate_callee (f := 42) rfl ?_); refine goesL_ (some 19) rfl rfl Tryz.func42 (by kernel_rfl) rfl #[.string (⟨#[78, 111, 119, 32, 105, 115, 32, 116, 104, 101, 32, 32, 116, 105, 109, 101]⟩ : ByteArray), .int .i64 2, .int .i64 2] rfl (by (try simp only [List.map_toArray, List.map_cons, List.map_nil]); first | done | rfl | (simp only [List.length_drop, List.length_take]; rfl)) ?_; (with_reducible refine (text_DelWord.calls (⟨#[78, 111, 119, 32, 105, 115, 32, 116, 104, 101, 32, 32, 116, 105, 109, 101]⟩ : ByteArray) 2 2 t173 t174 _ A2.out).mono ?_); rintro e w79 ⟨rfl, hb⟩; refine ⟨_, rfl, ?_⟩; have n0_ := Aside0.mk (below_step (by repeat (first | (with_reducible first | exact HB.out | apply below_alloc | apply pw_below_drewN | apply below_drew1) | exact HB.out)) hb); clear HB; have HB := n0_; clear n0_; (try clear hb); (try clear hb2); (try clear hk); (try clear hi)) | ((with_reducible refine gate_callee (f := 58) rfl ?_); refine goesL_ (some 23) rfl rfl Tryz.func58 (by kernel_rfl) rfl #[.string (⟨#[32]⟩ : ByteArray), .string (⟨#[97, 98, 99, 32, 100, 101, 102, 32, 103, 104, 105]⟩ : ByteArray), .int .i64 7] rfl (by (try simp only [List.map_toArray, List.map_cons, List.map_nil]); first | done | rfl | (simp only [List.length_drop, List.length_take]; rfl)) ?_; (with_reducible refine (text_LastPos.calls k (⟨#[32]⟩ : ByteArray) (⟨#[97, 98, 99, 32, 100, 101, 102, 32, 103, 104, 105]⟩ : ByteArray) 7 t175 t176 _ A3.out).mono ?_); rintro e w80 ⟨rfl, hb⟩; refine ⟨_, rfl, ?_⟩; have n0_ := Aside0.mk (below_step (by repeat (first | (with_reducible first | exact HB.out | apply below_alloc | apply pw_below_drewN | apply below_drew1) | exact HB.out)) hb); clear HB; have HB := n0_; clear n0_; (try clear hb); (try clear hb2); (try clear hk); (try clear hi)) | ((with_reducible refine gate_callee (f := 24) rfl ?_); refine goesL_ (some 27) rfl rfl Tryz.func24 (by kernel_rfl) rfl #[.string (⟨#[97, 98, 99, 100, 101, 102]⟩ : ByteArray), .string (⟨#[49, 50]⟩ : ByteArray), .string (⟨#[101, 99]⟩ : ByteArray), .int .u8 46] rfl (by (try simp only [List.map_toArray, List.map_cons, List.map_nil]); first | done | rfl | (simp only [List.length_drop, List.length_take]; rfl)) ?_; (with_reducible refine (text_Translate.calls (⟨#[97, 98, 99, 100, 101, 102]⟩ : ByteArray) (⟨#[49, 50]⟩ : ByteArray) (⟨#[101, 99]⟩ : ByteArray) 46 t177 t178 _ A4.out).mono ?_); rintro e w81 ⟨rfl, hb⟩; refine ⟨_, rfl, ?_⟩; have n0_ := Aside0.mk (below_step (by repeat (first | (with_reducible first | exact HB.out | apply below_alloc | apply pw_below_drewN | apply below_drew1) | exact HB.out)) hb); clear HB; have HB := n0_; clear n0_; (try clear hb); (try clear hb2); (try clear hk); (try clear hi)) | ((with_reducible refine gate_callee (f := 19) rfl ?_); refine goesL_ (some 31) rfl rfl Tryz.func19 (by kernel_rfl) rfl #[.string (⟨#[65]⟩ : ByteArray), .string (⟨#[65]⟩ : ByteArray), .int .i64 (-1)] rfl (by (try simp only [List.map_toArray, List.map_cons, List.map_nil]); first | done | rfl | (simp only [List.length_drop, List.length_take]; rfl)) ?_; (with_reducible refine (text_BitXor.calls (⟨#[65]⟩ : ByteArray) (⟨#[65]⟩ : ByteArray) (-1) t179 t180 _ A5.out).mono ?_); rintro e w82 ⟨rfl, hb⟩; refine ⟨_, rfl, ?_⟩; have n0_ := Aside0.mk (below_step (by repeat (first | (with_reducible first | exact HB.out | apply below_alloc | apply pw_below_drewN | apply below_drew1) | exact HB.out)) hb); clear HB; have HB := n0_; clear n0_; (try clear hb); (try clear hb2); (try clear hk); (try clear hi)) | ((with_reducible refine gate_callee (f := 76) rfl ?_); refine goesL_ (some 35) rfl rfl Tryz.func76 (by kernel_rfl) rfl #[.string (⟨#[54, 49, 54, 50]⟩ : ByteArray)] rfl (by (try simp only [List.map_toArray, List.map_cons, List.map_nil]); first | done | rfl | (simp only [List.length_drop, List.length_take]; rfl)) ?_; (with_reducible refine (text_X2C.calls k (⟨#[54, 49, 54, 50]⟩ : ByteArray) t181 t182 _ (TabOK.of_below hT (by repeat (first | (with_reducible first | exact HB.out | apply below_alloc | apply pw_below_drewN | apply below_drew1) | exact HB.out))) A6.out).mono ?_); rintro e w83 ⟨rfl, hb⟩; refine ⟨_, rfl, ?_⟩; have n0_ := Aside0.mk (below_step (by repeat (first | (with_reducible first | exact HB.out | apply below_alloc | apply pw_below_drewN | apply below_drew1) | exact HB.out)) hb); clear HB; have HB := n0_; clear n0_; (try clear hb); (try clear hb2); (try clear hk); (try clear hi)))
          go_ret
          exact ⟨by first | rfl | (simp [errW_none, errW_some] <;> rfl) | (simp [*, errW_none, errW_some] <;> rfl), by repeat (first | (with_reducible first | exact HB.out | apply below_alloc | apply pw_below_drewN | apply below_drew1) | exact HB.out)⟩
      · rw [if_neg c9] at H
        have c9b0 : (t174 == 0) = false := beq_eq_false_iff_ne.mpr c9
        have c9b1 : (t174 != 0) = true := bne_iff_ne.mpr c9
        obtain rfl := Option.some.inj H
        go_enter Tryz.func15, Tryz.ntmps15
        go_wp2_with (first | ((with_reducible refine gate_callee (f := 84) rfl ?_); refine goesL_ (some 15) rfl rfl Tryz.func84 (by kernel_rfl) rfl #[.string (⟨#[97, 98, 99]⟩ : ByteArray), .int .i64 8, .int .u8 45] rfl (by (try simp only [List.map_toArray, List.map_cons, List.map_nil]); first | done | rfl | (simp only [List.length_drop, List.length_take]; rfl)) ?_; (with_reducible refine (text_Center.calls (⟨#[97, 98, 99]⟩ : ByteArray) 8 45 t171 t172 _ A1.out).mono ?_); rintro e w84 ⟨rfl, hb⟩; refine ⟨_, rfl, ?_⟩; have n0_ := Aside0.mk (below_step (by repeat (first | (with_reducible first | exact HB.out | apply below_alloc | apply pw_below_drewN | apply below_drew1) | exact HB.out)) hb); clear HB; have HB := n0_; clear n0_; (try clear hb); (try clear hb2); (try clear hk); (try clear hi)) | ((with_reducible refine gate_callee (f := 42) rfl ?_); refine goesL_ (some 19) rfl rfl Tryz.func42 (by kernel_rfl) rfl #[.string (⟨#[78, 111, 119, 32, 105, 115, 32, 116, 104, 101, 32, 32, 116, 105, 109, 101]⟩ : ByteArray), .int .i64 2, .int .i64 2] rfl (by (try simp only [List.map_toArray, List.map_cons, List.map_nil]); first | done | rfl | (simp only [List.length_drop, List.length_take]; rfl)) ?_; (with_reducible refine (text_DelWord.calls (⟨#[78, 111, 119, 32, 105, 115, 32, 116, 104, 101, 32, 32, 116, 105, 109, 101]⟩ : ByteArray) 2 2 t173 t174 _ A2.out).mono ?_); rintro e w85 ⟨rfl, hb⟩; refine ⟨_, rfl, ?_⟩; have n0_ := Aside0.mk (below_step (by repeat (first | (with_reducible first | exact HB.out | apply below_alloc | apply pw_below_drewN | apply below_drew1) | exact HB.out)) hb); clear HB; have HB := n0_; clear n0_; (try clear hb); (try clear hb2); (try clear hk); (try clear hi)) | ((with_reducible refine gate_callee (f := 58) rfl ?_); refine goesL_ (some 23) rfl rfl Tryz.func58 (by kernel_rfl) rfl #[.string (⟨#[32]⟩ : ByteArray), .string (⟨#[97, 98, 99, 32, 100, 101, 102, 32, 103, 104, 105]⟩ : ByteArray), .int .i64 7] rfl (by (try simp only [List.map_toArray, List.map_cons, List.map_nil]); first | done | rfl | (simp only [List.length_drop, List.length_take]; rfl)) ?_; (with_reducible refine (text_LastPos.calls k (⟨#[32]⟩ : ByteArray) (⟨#[97, 98, 99, 32, 100, 101, 102, 32, 103, 104, 105]⟩ : ByteArray) 7 t175 t176 _ A3.out).mono ?_); rintro e w86 ⟨rfl, hb⟩; refine ⟨_, rfl, ?_⟩; have n0_ := Aside0.mk (below_step (by repeat (first | (with_reducible first | exact HB.out | apply below_alloc | apply pw_below_drewN | apply below_drew1) | exact HB.out)) hb); clear HB; have HB := n0_; clear n0_; (try clear hb); (try clear hb2); (try clear hk); (try clear hi)) | ((with_reducible refine gate_callee (f := 24) rfl ?_); refine goesL_ (some 27) rfl rfl Tryz.func24 (by kernel_rfl) rfl #[.string (⟨#[97, 98, 99, 100, 101, 102]⟩ : ByteArray), .string (⟨#[49, 50]⟩ : ByteArray), .string (⟨#[101, 99]⟩ : ByteArray), .int .u8 46] rfl (by (try simp only [List.map_toArray, List.map_cons, List.map_nil]); first | done | rfl | (simp only [List.length_drop, List.length_take]; rfl)) ?_; (with_reducible refine (text_Translate.calls (⟨#[97, 98, 99, 100, 101, 102]⟩ : ByteArray) (⟨#[49, 50]⟩ : ByteArray) (⟨#[101, 99]⟩ : ByteArray) 46 t177 t178 _ A4.out).mono ?_); rintro e w87 ⟨rfl, hb⟩; refine ⟨_, rfl, ?_⟩; have n0_ := Aside0.mk (below_step (by repeat (first | (with_reducible first | exact HB.out | apply below_alloc | apply pw_below_drewN | apply below_drew1) | exact HB.out)) hb); clear HB; have HB := n0_; clear n0_; (try clear hb); (try clear hb2); (try clear hk); (try clear hi)) | ((with_reducible refine gate_callee (f := 19) rfl ?_); refine goesL_ (some 31) rfl rfl Tryz.func19 (by kernel_rfl) rfl #[.string (⟨#[65]⟩ : ByteArray), .string (⟨#[65]⟩ : ByteArray), .int .i64 (-1)] rfl (by (try simp only [List.map_toArray, List.map_cons, List.map_nil]); first | done | rfl | (simp only [List.length_drop, List.length_take]; rfl)) ?_; (with_reducible refine (text_BitXor.calls (⟨#[65]⟩ : ByteArray) (⟨#[65]⟩ : ByteArray) (-1) t179 t180 _ A5.out).mono ?_); rintro e w88 ⟨rfl, hb⟩; refine ⟨_, rfl, ?_⟩; have n0_ := Aside0.mk (below_step (by repeat (first | (with_reducible first | exact HB.out | apply below_alloc | apply pw_below_drewN | apply below_drew1) | exact HB.out)) hb); clear HB; have HB := n0_; clear n0_; (try clear hb); (try clear hb2); (try clear hk); (try clear hi)) | ((with_reducible refine gate_callee (f := 76) rfl ?_); refine goesL_ (some 35) rfl rfl Tryz.func76 (by kernel_rfl) rfl #[.string (⟨#[54, 49, 54, 50]⟩ : ByteArray)] rfl (by (try simp only [List.map_toArray, List.map_cons, List.map_nil]); first | done | rfl | (simp only [List.length_drop, List.length_take]; rfl)) ?_; (with_reducible refine (text_X2C.calls k (⟨#[54, 49, 54, 50]⟩ : ByteArray) t181 t182 _ (TabOK.of_below hT (by repeat (first | (with_reducible first | exact HB.out | apply below_alloc | apply pw_below_drewN | apply below_drew1) | exact HB.out))) A6.out).mono ?_); rintro e w89 ⟨rfl, hb⟩; refine ⟨_, rfl, ?_⟩; have n0_ := Aside0.mk (below_step (by repeat (first | (with_reducible first | exact HB.out | apply below_alloc | apply pw_below_drewN | apply below_drew1) | exact HB.out)) hb); clear HB; have HB := n0_; clear n0_; (try clear hb); (try clear hb2); (try clear hk); (try clear hi)))
        go_ret
        exact ⟨by first | rfl | (simp [errW_none, errW_some] <;> rfl) | (simp [*, errW_none, errW_some] <;> rfl), by repeat (first | (with_reducible first | exact HB.out | apply below_alloc | apply pw_below_drewN | apply below_drew1) | exact HB.out)⟩
    · rw [if_neg c8] at H
      have c8b0 : (t171.toList == ([45, 45, 97, 98, 99, 45, 45, 45] : List UInt8)) = false := beq_eq_false_iff_ne.mpr c8
      have c8b1 : (t171.toList != ([45, 45, 97, 98, 99, 45, 45, 45] : List UInt8)) = true := bne_iff_ne.mpr c8
      obtain rfl := Option.some.inj H
      go_enter Tryz.func15, Tryz.ntmps15
      go_wp2_with (first | ((with_reducible refine gate_callee (f := 84) rfl ?_); refine goesL_ (some 15) rfl rfl Tryz.func84 (by kernel_rfl) rfl #[.string (⟨#[97, 98, 99]⟩ : ByteArray), .int .i64 8, .int .u8 45] rfl (by (try simp only [List.map_toArray, List.map_cons, List.map_nil]); first | done | rfl | (simp only [List.length_drop, List.length_take]; rfl)) ?_; (with_reducible refine (text_Center.calls (⟨#[97, 98, 99]⟩ : ByteArray) 8 45 t171 t172 _ A1.out).mono ?_); rintro e w90 ⟨rfl, hb⟩; refine ⟨_, rfl, ?_⟩; have n0_ := Aside0.mk (below_step (by repeat (first | (with_reducible first | exact HB.out | apply below_alloc | apply pw_below_drewN | apply below_drew1) | exact HB.out)) hb); clear HB; have HB := n0_; clear n0_; (try clear hb); (try clear hb2); (try clear hk); (try clear hi)) | ((with_reducible refine gate_callee (f := 42) rfl ?_); refine goesL_ (some 19) rfl rfl Tryz.func42 (by kernel_rfl) rfl #[.string (⟨#[78, 111, 119, 32, 105, 115, 32, 116, 104, 101, 32, 32, 116, 105, 109, 101]⟩ : ByteArray), .int .i64 2, .int .i64 2] rfl (by (try simp only [List.map_toArray, List.map_cons, List.map_nil]); first | done | rfl | (simp only [List.length_drop, List.length_take]; rfl)) ?_; (with_reducible refine (text_DelWord.calls (⟨#[78, 111, 119, 32, 105, 115, 32, 116, 104, 101, 32, 32, 116, 105, 109, 101]⟩ : ByteArray) 2 2 t173 t174 _ A2.out).mono ?_); rintro e w91 ⟨rfl, hb⟩; refine ⟨_, rfl, ?_⟩; have n0_ := Aside0.mk (below_step (by repeat (first | (with_reducible first | exact HB.out | apply below_alloc | apply pw_below_drewN | apply below_drew1) | exact HB.out)) hb); clear HB; have HB := n0_; clear n0_; (try clear hb); (try clear hb2); (try clear hk); (try clear hi)) | ((with_reducible refine gate_callee (f := 58) rfl ?_); refine goesL_ (some 23) rfl rfl Tryz.func58 (by kernel_rfl) rfl #[.string (⟨#[32]⟩ : ByteArray), .string (⟨#[97, 98, 99, 32, 100, 101, 102, 32, 103, 104, 105]⟩ : ByteArray), .int .i64 7] rfl (by (try simp only [List.map_toArray, List.map_cons, List.map_nil]); first | done | rfl | (simp only [List.length_drop, List.length_take]; rfl)) ?_; (with_reducible refine (text_LastPos.calls k (⟨#[32]⟩ : ByteArray) (⟨#[97, 98, 99, 32, 100, 101, 102, 32, 103, 104, 105]⟩ : ByteArray) 7 t175 t176 _ A3.out).mono ?_); rintro e w92 ⟨rfl, hb⟩; refine ⟨_, rfl, ?_⟩; have n0_ := Aside0.mk (below_step (by repeat (first | (with_reducible first | exact HB.out | apply below_alloc | apply pw_below_drewN | apply below_drew1) | exact HB.out)) hb); clear HB; have HB := n0_; clear n0_; (try clear hb); (try clear hb2); (try clear hk); (try clear hi)) | ((with_reducible refine gate_callee (f := 24) rfl ?_); refine goesL_ (some 27) rfl rfl Tryz.func24 (by kernel_rfl) rfl #[.string (⟨#[97, 98, 99, 100, 101, 102]⟩ : ByteArray), .string (⟨#[49, 50]⟩ : ByteArray), .string (⟨#[101, 99]⟩ : ByteArray), .int .u8 46] rfl (by (try simp only [List.map_toArray, List.map_cons, List.map_nil]); first | done | rfl | (simp only [List.length_drop, List.length_take]; rfl)) ?_; (with_reducible refine (text_Translate.calls (⟨#[97, 98, 99, 100, 101, 102]⟩ : ByteArray) (⟨#[49, 50]⟩ : ByteArray) (⟨#[101, 99]⟩ : ByteArray) 46 t177 t178 _ A4.out).mono ?_); rintro e w93 ⟨rfl, hb⟩; refine ⟨_, rfl, ?_⟩; have n0_ := Aside0.mk (below_step (by repeat (first | (with_reducible first | exact HB.out | apply below_alloc | apply pw_below_drewN | apply below_drew1) | exact HB.out)) hb); clear HB; have HB := n0_; clear n0_; (try clear hb); (try clear hb2); (try clear hk); (try clear hi)) | ((with_reducible refine gate_callee (f := 19) rfl ?_); refine goesL_ (some 31) rfl rfl Tryz.func19 (by kernel_rfl) rfl #[.string (⟨#[65]⟩ : ByteArray), .string (⟨#[65]⟩ : ByteArray), .int .i64 (-1)] rfl (by (try simp only [List.map_toArray, List.map_cons, List.map_nil]); first | done | rfl | (simp only [List.length_drop, List.length_take]; rfl)) ?_; (with_reducible refine (text_BitXor.calls (⟨#[65]⟩ : ByteArray) (⟨#[65]⟩ : ByteArray) (-1) t179 t180 _ A5.out).mono ?_); rintro e w94 ⟨rfl, hb⟩; refine ⟨_, rfl, ?_⟩; have n0_ := Aside0.mk (below_step (by repeat (first | (with_reducible first | exact HB.out | apply below_alloc | apply pw_below_drewN | apply below_drew1) | exact HB.out)) hb); clear HB; have HB := n0_; clear n0_; (try clear hb); (try clear hb2); (try clear hk); (try clear hi)) | ((with_reducible refine gate_callee (f := 76) rfl ?_); refine goesL_ (some 35) rfl rfl Tryz.func76 (by kernel_rfl) rfl #[.string (⟨#[54, 49, 54, 50]⟩ : ByteArray)] rfl (by (try simp only [List.map_toArray, List.map_cons, List.map_nil]); first | done | rfl | (simp only [List.length_drop, List.length_take]; rfl)) ?_; (with_reducible refine (text_X2C.calls k (⟨#[54, 49, 54, 50]⟩ : ByteArray) t181 t182 _ (TabOK.of_below hT (by repeat (first | (with_reducible first | exact HB.out | apply below_alloc | apply pw_below_drewN | apply below_drew1) | exact HB.out))) A6.out).mono ?_); rintro e w95 ⟨rfl, hb⟩; refine ⟨_, rfl, ?_⟩; have n0_ := Aside0.mk (below_step (by repeat (first | (with_reducible first | exact HB.out | apply below_alloc | apply pw_below_drewN | apply below_drew1) | exact HB.out)) hb); clear HB; have HB := n0_; clear n0_; (try clear hb); (try clear hb2); (try clear hk); (try clear hi)))
      go_ret
      exact ⟨by first | rfl | (simp [errW_none, errW_some] <;> rfl) | (simp [*, errW_none, errW_some] <;> rfl), by repeat (first | (with_reducible first | exact HB.out | apply below_alloc | apply pw_below_drewN | apply below_drew1) | exact HB.out)⟩
  · rw [if_neg c7] at H
    have c7b0 : (t172 == 0) = false := beq_eq_false_iff_ne.mpr c7
    have c7b1 : (t172 != 0) = true := bne_iff_ne.mpr c7
    obtain rfl := Option.some.inj H
    go_enter Tryz.func15, Tryz.ntmps15
    go_wp2_with (first | ((with_reducible refine gate_callee (f := 84) rfl ?_); refine goesL_ (some 15) rfl rfl Tryz.func84 (by kernel_rfl) rfl #[.string (⟨#[97, 98, 99]⟩ : ByteArray), .int .i64 8, .int .u8 45] rfl (by (try simp only [List.map_toArray, List.map_cons, List.map_nil]); first | done | rfl | (simp only [List.length_drop, List.length_take]; rfl)) ?_; (with_reducible refine (text_Center.calls (⟨#[97, 98, 99]⟩ : ByteArray) 8 45 t171 t172 _ A1.out).mono ?_); rintro e w96 ⟨rfl, hb⟩; refine ⟨_, rfl, ?_⟩; have n0_ := Aside0.mk (below_step (by repeat (first | (with_reducible first | exact HB.out | apply below_alloc | apply pw_below_drewN | apply below_drew1) | exact HB.out)) hb); clear HB; have HB := n0_; clear n0_; (try clear hb); (try clear hb2); (try clear hk); (try clear hi)) | ((with_reducible refine gate_callee (f := 42) rfl ?_); refine goesL_ (some 19) rfl rfl Tryz.func42 (by kernel_rfl) rfl #[.string (⟨#[78, 111, 119, 32, 105, 115, 32, 116, 104, 101, 32, 32, 116, 105, 109, 101]⟩ : ByteArray), .int .i64 2, .int .i64 2] rfl (by (try simp only [List.map_toArray, List.map_cons, List.map_nil]); first | done | rfl | (simp only [List.length_drop, List.length_take]; rfl)) ?_; (with_reducible refine (text_DelWord.calls (⟨#[78, 111, 119, 32, 105, 115, 32, 116, 104, 101, 32, 32, 116, 105, 109, 101]⟩ : ByteArray) 2 2 t173 t174 _ A2.out).mono ?_); rintro e w97 ⟨rfl, hb⟩; refine ⟨_, rfl, ?_⟩; have n0_ := Aside0.mk (below_step (by repeat (first | (with_reducible first | exact HB.out | apply below_alloc | apply pw_below_drewN | apply below_drew1) | exact HB.out)) hb); clear HB; have HB := n0_; clear n0_; (try clear hb); (try clear hb2); (try clear hk); (try clear hi)) | ((with_reducible refine gate_callee (f := 58) rfl ?_); refine goesL_ (some 23) rfl rfl Tryz.func58 (by kernel_rfl) rfl #[.string (⟨#[32]⟩ : ByteArray), .string (⟨#[97, 98, 99, 32, 100, 101, 102, 32, 103, 104, 105]⟩ : ByteArray), .int .i64 7] rfl (by (try simp only [List.map_toArray, List.map_cons, List.map_nil]); first | done | rfl | (simp only [List.length_drop, List.length_take]; rfl)) ?_; (with_reducible refine (text_LastPos.calls k (⟨#[32]⟩ : ByteArray) (⟨#[97, 98, 99, 32, 100, 101, 102, 32, 103, 104, 105]⟩ : ByteArray) 7 t175 t176 _ A3.out).mono ?_); rintro e w98 ⟨rfl, hb⟩; refine ⟨_, rfl, ?_⟩; have n0_ := Aside0.mk (below_step (by repeat (first | (with_reducible first | exact HB.out | apply below_alloc | apply pw_below_drewN | apply below_drew1) | exact HB.out)) hb); clear HB; have HB := n0_; clear n0_; (try clear hb); (try clear hb2); (try clear hk); (try clear hi)) | ((with_reducible refine gate_callee (f := 24) rfl ?_); refine goesL_ (some 27) rfl rfl Tryz.func24 (by kernel_rfl) rfl #[.string (⟨#[97, 98, 99, 100, 101, 102]⟩ : ByteArray), .string (⟨#[49, 50]⟩ : ByteArray), .string (⟨#[101, 99]⟩ : ByteArray), .int .u8 46] rfl (by (try simp only [List.map_toArray, List.map_cons, List.map_nil]); first | done | rfl | (simp only [List.length_drop, List.length_take]; rfl)) ?_; (with_reducible refine (text_Translate.calls (⟨#[97, 98, 99, 100, 101, 102]⟩ : ByteArray) (⟨#[49, 50]⟩ : ByteArray) (⟨#[101, 99]⟩ : ByteArray) 46 t177 t178 _ A4.out).mono ?_); rintro e w99 ⟨rfl, hb⟩; refine ⟨_, rfl, ?_⟩; have n0_ := Aside0.mk (below_step (by repeat (first | (with_reducible first | exact HB.out | apply below_alloc | apply pw_below_drewN | apply below_drew1) | exact HB.out)) hb); clear HB; have HB := n0_; clear n0_; (try clear hb); (try clear hb2); (try clear hk); (try clear hi)) | ((with_reducible refine gate_callee (f := 19) rfl ?_); refine goesL_ (some 31) rfl rfl Tryz.func19 (by kernel_rfl) rfl #[.string (⟨#[65]⟩ : ByteArray), .string (⟨#[65]⟩ : ByteArray), .int .i64 (-1)] rfl (by (try simp only [List.map_toArray, List.map_cons, List.map_nil]); first | done | rfl | (simp only [List.length_drop, List.length_take]; rfl)) ?_; (with_reducible refine (text_BitXor.calls (⟨#[65]⟩ : ByteArray) (⟨#[65]⟩ : ByteArray) (-1) t179 t180 _ A5.out).mono ?_); rintro e w100 ⟨rfl, hb⟩; refine ⟨_, rfl, ?_⟩; have n0_ := Aside0.mk (below_step (by repeat (first | (with_reducible first | exact HB.out | apply below_alloc | apply pw_below_drewN | apply below_drew1) | exact HB.out)) hb); clear HB; have HB := n0_; clear n0_; (try clear hb); (try clear hb2); (try clear hk); (try clear hi)) | ((with_reducible refine gate_callee (f := 76) rfl ?_); refine goesL_ (some 35) rfl rfl Tryz.func76 (by kernel_rfl) rfl #[.string (⟨#[54, 49, 54, 50]⟩ : ByteArray)] rfl (by (try simp only [List.map_toArray, List.map_cons, List.map_nil]); first | done | rfl | (simp only [List.length_drop, List.length_take]; rfl)) ?_; (with_reducible refine (text_X2C.calls k (⟨#[54, 49, 54, 50]⟩ : ByteArray) t181 t182 _ (TabOK.of_below hT (by repeat (first | (with_reducible first | exact HB.out | apply below_alloc | apply pw_below_drewN | apply below_drew1) | exact HB.out))) A6.out).mono ?_); rintro e w101 ⟨rfl, hb⟩; refine ⟨_, rfl, ?_⟩; have n0_ := Aside0.mk (below_step (by repeat (first | (with_reducible first | exact HB.out | apply below_alloc | apply pw_below_drewN | apply below_drew1) | exact HB.out)) hb); clear HB; have HB := n0_; clear n0_; (try clear hb); (try clear hb2); (try clear hk); (try clear hi)))
    go_ret
    exact ⟨by first | rfl | (simp [errW_none, errW_some] <;> rfl) | (simp [*, errW_none, errW_some] <;> rfl), by repeat (first | (with_reducible first | exact HB.out | apply below_alloc | apply pw_below_drewN | apply below_drew1) | exact HB.out)⟩

end Go.Proofs.YtlekfhnlhdmekaaGreatDoor.T

-- Written by a program of this session (mp.py over the kit's print.py), out of the translation.
namespace Go.Proofs.YtlekfhnlhdmekaaGreatDoor.T
open Go.RowKit Go.Proofs.YtlekfhnlhdmekaaGreatDoorW.PrintWords Go.Proofs.YtlekfhnlhdmekaaGreatDoorW.PrintLast Go.Proofs.YtlekfhnlhdmekaaGreatDoorW.PrintMore
attribute [local go_sem] max2_int min2_int max_two min_two max_three min_three max_four min_four   -- for this text's walks alone
set_option linter.unusedVariables false
set_option linter.unusedSimpArgs false

/-! ### qanatlaw02_long: function 16 -/
def qanatlaw02_long.f (a0 : ByteArray) : Option (Bool) := some (decide ((a0.size : Int) > 1200))
set_option maxHeartbeats 8000000 in
set_option maxRecDepth 100000 in
theorem qanatlaw02_long.calls (a0 : ByteArray) (r : Bool) (w : World) (h : qanatlaw02_long.f a0 = some r) :
    Calls Tryz.prog 16 #[.string a0] w fun e w' => e = .returned (.bool r) ∧ Drawn0 w w' := by
  have H : (some (decide ((a0.size : Int) > 1200))) = some r := h
  clear h
  obtain rfl := Option.some.inj H
  go_enter Tryz.func16, Tryz.ntmps16
  go_wp2
  go_ret
  exact ⟨by first | rfl | (simp; done) | (simp [*]; done), by repeat (first | exact Drawn0.refl _ | apply Drawn0.step)⟩

end Go.Proofs.YtlekfhnlhdmekaaGreatDoor.T

-- Written by a program of this session (mp.py over the kit's print.py), out of the translation.
namespace Go.Proofs.YtlekfhnlhdmekaaGreatDoor.T
open Go.RowKit Go.Proofs.YtlekfhnlhdmekaaGreatDoorW.PrintWords Go.Proofs.YtlekfhnlhdmekaaGreatDoorW.PrintLast Go.Proofs.YtlekfhnlhdmekaaGreatDoorW.PrintMore
attribute [local go_sem] max2_int min2_int max_two min_two max_three min_three max_four min_four   -- for this text's walks alone
set_option linter.unusedVariables false
set_option linter.unusedSimpArgs false

/-! ### qanatlaw02_str: function 20 -/
def qanatlaw02_str.f (a0 : ByteArray) (a1 : Int) (a2_0 : ByteArray) (a2_1 : Int) : Option (Bool) := if a0.toList = a2_0.toList then (some (a1 == a2_1)) else (some false)
set_option maxHeartbeats 8000000 in
set_option maxRecDepth 100000 in
theorem qanatlaw02_str.calls (a0 : ByteArray) (a1 : Int) (a2_0 : ByteArray) (a2_1 : Int) (r : Bool) (w : World) (h : qanatlaw02_str.f a0 a1 a2_0 a2_1 = some r) :
    Calls Tryz.prog 20 #[.string a0, .int .i64 a1, .agg #[.string a2_0, .int .i64 a2_1]] w fun e w' => e = .returned (.bool r) ∧ Below w.heap.size w w' := by
  have hu29 := Tryz.underlying29
  have HB := Aside0.mk (Below.refl w.heap.size w)
  have H : (if a0.toList = a2_0.toList then (some (a1 == a2_1)) else (some false)) = some r := h
  clear h
  by_cases c4 : a0.toList = a2_0.toList
  · rw [if_pos c4] at H
    have c4b0 : (a0.toList == a2_0.toList) = true := beq_iff_eq.mpr c4
    have c4b1 : (a0.toList != a2_0.toList) = false := bne_eq_false_iff_eq.mpr c4
    clear c4
    obtain rfl := Option.some.inj H
    go_enter Tryz.func20, Tryz.ntmps20
    go_wp2_with (first | ((with_reducible refine gate_dst (N := 5) rfl ?_); refine box_event ?hg (N := 5) ?hd (cs := #[.string a2_0, .int .i64 a2_1]) (t := 29) ?hr ?_; (case hd => rfl); (case hg => rfl); (case hr => first | (go_simp; done) | (go_simp; rfl)); intro gb185 hg w5 hbox hb; have n0_ := Aside0.mk (below_step (by repeat (first | (with_reducible first | exact HB.out | apply below_alloc | apply pw_below_drewN | apply below_drew1) | exact HB.out)) hb); have n1_ := Aside0.mk (hbox); have n2_ := Aside0.mk ((by rw [hg]; exact (below_size (by repeat (first | (with_reducible first | exact HB.out | apply below_alloc | apply pw_below_drewN | apply below_drew1) | exact HB.out))) : w.heap.size ≤ gb185)); have n3_ := Aside0.mk ((by rw [hg]; exact (below_size (by repeat (first | (with_reducible first | exact HB.out | apply below_alloc | apply pw_below_drewN | apply below_drew1) | exact HB.out))) : w.heap.size ≤ gb185)); clear HB; have HB := n0_; have BK185 := n1_; have GW185 := n2_; have GE185 := n3_; clear n0_ n1_ n2_ n3_; clear hb hbox hg; have hcz6_0 : w5.cell? ⟨gb185, 0, none⟩ = some (.string a2_0) := (blk_cell BK185.out 0).trans rfl; have hcz6_1 : w5.cell? ⟨gb185, 1, none⟩ = some (.int .i64 a2_1) := (blk_cell BK185.out 1).trans rfl; have hfz6_0 := blk_frozen BK185.out 0; have hfz6_1 := blk_frozen BK185.out 1))
    go_ret
    exact ⟨by first | rfl | (simp [errW_none, errW_some] <;> rfl) | (simp [*, errW_none, errW_some] <;> rfl), by repeat (first | (with_reducible first | exact HB.out | apply below_alloc | apply pw_below_drewN | apply below_drew1 | refine below_set ?_ GE185.out) | exact HB.out)⟩
  · rw [if_neg c4] at H
    have c4b0 : (a0.toList == a2_0.toList) = false := beq_eq_false_iff_ne.mpr c4
    have c4b1 : (a0.toList != a2_0.toList) = true := bne_iff_ne.mpr c4
    obtain rfl := Option.some.inj H
    go_enter Tryz.func20, Tryz.ntmps20
    go_wp2_with (first | ((with_reducible refine gate_dst (N := 5) rfl ?_); refine box_event ?hg (N := 5) ?hd (cs := #[.string a2_0, .int .i64 a2_1]) (t := 29) ?hr ?_; (case hd => rfl); (case hg => rfl); (case hr => first | (go_simp; done) | (go_simp; rfl)); intro gb185 hg w7 hbox hb; have n0_ := Aside0.mk (below_step (by repeat (first | (with_reducible first | exact HB.out | apply below_alloc | apply pw_below_drewN | apply below_drew1) | exact HB.out)) hb); have n1_ := Aside0.mk (hbox); have n2_ := Aside0.mk ((by rw [hg]; exact (below_size (by repeat (first | (with_reducible first | exact HB.out | apply below_alloc | apply pw_below_drewN | apply below_drew1) | exact HB.out))) : w.heap.size ≤ gb185)); have n3_ := Aside0.mk ((by rw [hg]; exact (below_size (by repeat (first | (with_reducible first | exact HB.out | apply below_alloc | apply pw_below_drewN | apply below_drew1) | exact HB.out))) : w.heap.size ≤ gb185)); clear HB; have HB := n0_; have BK185 := n1_; have GW185 := n2_; have GE185 := n3_; clear n0_ n1_ n2_ n3_; clear hb hbox hg; have hcz8_0 : w7.cell? ⟨gb185, 0, none⟩ = some (.string a2_0) := (blk_cell BK185.out 0).trans rfl; have hcz8_1 : w7.cell? ⟨gb185, 1, none⟩ = some (.int .i64 a2_1) := (blk_cell BK185.out 1).trans rfl; have hfz8_0 := blk_frozen BK185.out 0; have hfz8_1 := blk_frozen BK185.out 1))
    go_ret
    exact ⟨by first | rfl | (simp [errW_none, errW_some] <;> rfl) | (simp [*, errW_none, errW_some] <;> rfl), by repeat (first | (with_reducible first | exact HB.out | apply below_alloc | apply pw_below_drewN | apply below_drew1 | refine below_set ?_ GE185.out) | exact HB.out)⟩

end Go.Proofs.YtlekfhnlhdmekaaGreatDoor.T

/- text.BitAnd returns what text_BitAnd.f says. -/
namespace Go.Proofs.YtlekfhnlhdmekaaGreatDoor.T
set_option linter.unusedVariables false
open Go.RowKit Go.Proofs.YtlekfhnlhdmekaaGreatDoorW.PrintWords Go.Proofs.YtlekfhnlhdmekaaGreatDoorW.PrintLast Go.Proofs.YtlekfhnlhdmekaaGreatDoorW.PrintMore

theorem and86.calls (x y : Int) (w : World) :
    Calls Tryz.prog 86 #[.int .u8 x, .int .u8 y] w fun e w' => e = .returned (.int .u8 (Go.bits BinOp.and .u8 x y)) ∧ w' = w := by
  go_enter Tryz.func86, Tryz.ntmps86
  go_wp2
  go_ret
  exact ⟨rfl, rfl⟩
set_option maxRecDepth 100000 in
set_option maxHeartbeats 4000000 in
/-- The loop of text.bits and what follows it, at strings in their order. -/
theorem bits_in86 (a0 a1 : ByteArray) (a2 : Int) (s0 s1 : ByteArray) (r1 : ByteArray) (r2 : Int) (w : World) (hz0 : a0.size ≤ 100000) (hz1 : a1.size ≤ 100000)
    (hv : vld a0 = true ∧ vld a1 = true) (hp : a2 = -1 ∨ 32 ≤ a2 ∧ a2 ≤ 126) (hs : s0 = (if a0.size < a1.size then a1 else a0)) (hs1 : s1 = (if a0.size < a1.size then a0 else a1))
    (h : text_made.f (bitS .and s0 s1 a2) = some (r1, r2)) :
    Calls Tryz.prog 85 #[.string a0, .string a1, .int .i64 a2, .func (.func 86) #[] #[]] w fun e w' => e = .returned (.tuple #[.string r1, .int .i64 r2]) ∧ Below w.heap.size w w' := by
  have H1 := fun W0 => pre93 [a0, a1] W0
  rw [if_pos (show ([a0, a1] : List ByteArray).all vld = true by simpa using hv)] at H1
  have H1 := Lib.hid H1
  unfold bitS at h
  have HM := Lib.hid (fun W => text_made.calls _ r1 r2 W h)
  have kb := fun W => print_bytes (P := Tryz.prog) 9 83 5 Tryz.underlying9 Tryz.underlying83 Tryz.underlying5 s0 W
  have hz : s0.size ≤ 100000 := by rw [hs]; split <;> assumption
  have HZ := Aside0.mk hz
  have HS0 := Aside0.mk hs
  have HS1 := Aside0.mk hs1
  obtain ⟨n, hn⟩ : ∃ n, s0.size = n := ⟨_, rfl⟩
  have hn2 : n ≤ 100000 := by omega
  have HLE : Aside0 (s1.size ≤ n) := ⟨by rw [← hn, hs, hs1]; split <;> omega⟩
  have HN : Aside0 ((bytesOf s0).length = n) := ⟨by rw [bytesOf_length]; exact hn⟩
  rw [hn] at kb
  clear hz h hv hs hs1 hz0 hz1
  have loop : True := trivial
  by_cases hlen : a0.size < a1.size
  · have d0 : decide ((a0.size : Int) < (a1.size : Int)) = true := decide_eq_true (by omega)
    obtain rfl : s0 = a1 := by rw [HS0.out, if_pos hlen]
    obtain rfl : s1 = a0 := by rw [HS1.out, if_pos hlen]
    have d1 : decide (s1.size < n) = true := decide_eq_true (by omega)
    have d2 : decide ((s1.size : Int) < (n : Int)) = true := decide_eq_true (by omega)
    by_cases hp1 : a2 = -1
    · subst hp1
      go_enter Tryz.func85, Tryz.ntmps85
      go_wp2_with (go_at_call 93; refine (H1.out _).mono ?_; rintro e w1 ⟨rfl, hb1⟩)
      have HB0 := Aside0.mk (bytes_below (B := w.heap.size) hb1 hb1.size 5 s0)
      have HF0 := Aside0.mk (Buf.new w1 s0)
      have hg0 : w.heap.size ≤ w1.heap.size := hb1.size
      clear hb1
      generalize w1.heap.size = g0 at HF0 hg0 ⊢
      generalize grownCap w1 n 0 5 = cp
      generalize Lib.bytesWorld w1 5 s0 = w2 at HF0 HB0 ⊢
      go_loopg [12, 41] n (fun gg _ s41 wr => ∃ kk : Nat, kk ≤ n ∧ n - kk ≤ gg ∧ s41 = .int .i64 kk ∧ Aside0 (Below w.heap.size w wr) ∧ Aside0 (Buf g0 (pmi (bitF .and s1 (-1)) kk (bytesOf s0)) wr))
      case atStart => exact ⟨0, Nat.zero_le _, by omega, rfl, HB0, ⟨by rw [pmi_zero]; exact HF0.out⟩⟩
      case round =>
        obtain ⟨kk, hkk, hg, rfl, HB, HF⟩ := hrel
        by_cases hlt : kk < n
        · have hltz : (kk : Int) < (n : Int) := by omega
          have hl : kk < (bytesOf s0).length := by have := HN.out; omega
          have hcell := HF.out.cell kk (by rw [pmi_length]; exact hl)
          rw [pmi_at _ kk _ hl] at hcell
          have hfree := HF.out.free kk (by rw [pmi_length]; exact hl)
          have HS := Aside0.mk (HF.out.set kk (bitF .and s1 (-1) kk ((bytesOf s0).getD kk 0)) (by rw [pmi_length]; exact hl))
          rw [pmi_set _ kk _ hl] at HS
          have hkeep := fun h => pmi_keep (bitF .and s1 (-1)) kk (bytesOf s0) hl h
          generalize (bytesOf s0).getD kk 0 = y at hcell HS hkeep
          have HK := Lib.hid hkeep
          clear hl hkeep
          by_cases hj : kk < s1.size
          · have dj : decide ((kk : Int) < (s1.size : Int)) = true := decide_eq_true (by omega)
            have hx : ((s1[kk]'hj).toNat : Int) = bt s1 (kk : Int) := by simp [bt, hj]
            rw [bitF, if_pos hj] at HS
            go_upto_region 13 with fail
            refine wp_region_still_tail 12 (by kernel_rfl) (by kernel_rfl) ?_
            simp only [List.take_succ_cons, List.take_zero, List.drop_succ_cons, List.drop_zero]
            repeat still_step
            still_call (and86.calls _ _ _)
            repeat still_step
            refine wpStill_nil ?_
            go_wp2
            go_roundg (n - (kk + 1))
            case measure => omega
            case rel =>
              refine ⟨kk + 1, by omega, by omega, by go_num, ⟨below_set (pw_below_drewN HB.out 1) hg0⟩, HS⟩
          · have dj : decide ((kk : Int) < (s1.size : Int)) = false := decide_eq_false (by omega)
            have HK2 := Aside0.mk (HK.out (by rw [bitF, if_neg hj, if_pos rfl]))
            clear HS
            go_wp2
            go_roundg (n - (kk + 1))
            case measure => omega
            case rel =>
              refine ⟨kk + 1, by omega, by omega, by go_num, HB, ⟨by rw [HK2.out]; exact HF.out⟩⟩
        · obtain rfl : kk = n := by omega
          have HR := HF.out
          rw [← HN.out, pmi_all] at HR
          have hconv := fun c => string_of_reads (P := Tryz.prog) (w := wr) (src := 83) (dst := 9) (e := 5) (A := some ⟨g0, 0, none⟩) (n := kk) (c := c) (xs := (bytesOf s0).mapIdx (bitF .and s1 (-1))) Tryz.underlying83 Tryz.underlying5 Tryz.underlying9 (by
            have := HR.reads (by simp; have := HN.out; omega); rw [List.length_mapIdx, HN.out] at this; exact this)
          clear HR
          go_wp2_with (go_at_call 113; refine (HM.out _).mono ?_; rintro e w3 ⟨rfl, hb3⟩)
          go_ret2
          exact ⟨rfl, below_step HB.out hb3⟩
    · have e1 : (a2 != -1) = true := bne_iff_ne.mpr hp1
      have hp2 : 32 ≤ a2 ∧ a2 ≤ 126 := hp.resolve_left hp1
      have e3 : decide (a2 < 32) = false := decide_eq_false (by omega)
      have e4 : decide (126 < a2) = false := decide_eq_false (by omega)
      have e5 : IntKind.u8.wrap a2 = a2 := u8w _ (by omega) (by omega)
      clear hp hp2
      go_enter Tryz.func85, Tryz.ntmps85
      go_wp2_with (go_at_call 93; refine (H1.out _).mono ?_; rintro e w1 ⟨rfl, hb1⟩)
      have HB0 := Aside0.mk (bytes_below (B := w.heap.size) hb1 hb1.size 5 s0)
      have HF0 := Aside0.mk (Buf.new w1 s0)
      have hg0 : w.heap.size ≤ w1.heap.size := hb1.size
      clear hb1
      generalize w1.heap.size = g0 at HF0 hg0 ⊢
      generalize grownCap w1 n 0 5 = cp
      generalize Lib.bytesWorld w1 5 s0 = w2 at HF0 HB0 ⊢
      go_loopg [12, 41] n (fun gg _ s41 wr => ∃ kk : Nat, kk ≤ n ∧ n - kk ≤ gg ∧ s41 = .int .i64 kk ∧ Aside0 (Below w.heap.size w wr) ∧ Aside0 (Buf g0 (pmi (bitF .and s1 a2) kk (bytesOf s0)) wr))
      case atStart => exact ⟨0, Nat.zero_le _, by omega, rfl, HB0, ⟨by rw [pmi_zero]; exact HF0.out⟩⟩
      case round =>
        obtain ⟨kk, hkk, hg, rfl, HB, HF⟩ := hrel
        by_cases hlt : kk < n
        · have hltz : (kk : Int) < (n : Int) := by omega
          have hl : kk < (bytesOf s0).length := by have := HN.out; omega
          have hcell := HF.out.cell kk (by rw [pmi_length]; exact hl)
          rw [pmi_at _ kk _ hl] at hcell
          have hfree := HF.out.free kk (by rw [pmi_length]; exact hl)
          have HS := Aside0.mk (HF.out.set kk (bitF .and s1 a2 kk ((bytesOf s0).getD kk 0)) (by rw [pmi_length]; exact hl))
          rw [pmi_set _ kk _ hl] at HS
          have hkeep := fun h => pmi_keep (bitF .and s1 a2) kk (bytesOf s0) hl h
          generalize (bytesOf s0).getD kk 0 = y at hcell HS hkeep
          have HK := Lib.hid hkeep
          clear hl hkeep
          by_cases hj : kk < s1.size
          · have dj : decide ((kk : Int) < (s1.size : Int)) = true := decide_eq_true (by omega)
            have hx : ((s1[kk]'hj).toNat : Int) = bt s1 (kk : Int) := by simp [bt, hj]
            rw [bitF, if_pos hj] at HS
            go_upto_region 13 with fail
            refine wp_region_still_tail 12 (by kernel_rfl) (by kernel_rfl) ?_
            simp only [List.take_succ_cons, List.take_zero, List.drop_succ_cons, List.drop_zero]
            repeat still_step
            still_call (and86.calls _ _ _)
            repeat still_step
            refine wpStill_nil ?_
            go_wp2
            go_roundg (n - (kk + 1))
            case measure => omega
            case rel =>
              refine ⟨kk + 1, by omega, by omega, by go_num, ⟨below_set (pw_below_drewN HB.out 1) hg0⟩, HS⟩
          · have dj : decide ((kk : Int) < (s1.size : Int)) = false := decide_eq_false (by omega)
            rw [bitF, if_neg hj, if_neg hp1, e5] at HS
            go_wp2_with (go_at_call 86; refine (and86.calls _ _ _).mono ?_; rintro e w' ⟨rfl, rfl⟩)
            go_roundg (n - (kk + 1))
            case measure => omega
            case rel =>
              refine ⟨kk + 1, by omega, by omega, by go_num, ⟨below_set HB.out hg0⟩, HS⟩
        · obtain rfl : kk = n := by omega
          have HR := HF.out
          rw [← HN.out, pmi_all] at HR
          have hconv := fun c => string_of_reads (P := Tryz.prog) (w := wr) (src := 83) (dst := 9) (e := 5) (A := some ⟨g0, 0, none⟩) (n := kk) (c := c) (xs := (bytesOf s0).mapIdx (bitF .and s1 a2)) Tryz.underlying83 Tryz.underlying5 Tryz.underlying9 (by
            have := HR.reads (by simp; have := HN.out; omega); rw [List.length_mapIdx, HN.out] at this; exact this)
          clear HR
          go_wp2_with (go_at_call 113; refine (HM.out _).mono ?_; rintro e w3 ⟨rfl, hb3⟩)
          go_ret2
          exact ⟨rfl, below_step HB.out hb3⟩
  · have d0 : decide ((a0.size : Int) < (a1.size : Int)) = false := decide_eq_false (by omega)
    obtain rfl : s0 = a0 := by rw [HS0.out, if_neg hlen]
    obtain rfl : s1 = a1 := by rw [HS1.out, if_neg hlen]
    have d1 : decide (n < s1.size) = false := decide_eq_false (by omega)
    have d2 : decide ((n : Int) < (s1.size : Int)) = false := decide_eq_false (by omega)
    by_cases hp1 : a2 = -1
    · subst hp1
      go_enter Tryz.func85, Tryz.ntmps85
      go_wp2_with (go_at_call 93; refine (H1.out _).mono ?_; rintro e w1 ⟨rfl, hb1⟩)
      have HB0 := Aside0.mk (bytes_below (B := w.heap.size) hb1 hb1.size 5 s0)
      have HF0 := Aside0.mk (Buf.new w1 s0)
      have hg0 : w.heap.size ≤ w1.heap.size := hb1.size
      clear hb1
      generalize w1.heap.size = g0 at HF0 hg0 ⊢
      generalize grownCap w1 n 0 5 = cp
      generalize Lib.bytesWorld w1 5 s0 = w2 at HF0 HB0 ⊢
      go_loopg [12, 41] n (fun gg _ s41 wr => ∃ kk : Nat, kk ≤ n ∧ n - kk ≤ gg ∧ s41 = .int .i64 kk ∧ Aside0 (Below w.heap.size w wr) ∧ Aside0 (Buf g0 (pmi (bitF .and s1 (-1)) kk (bytesOf s0)) wr))
      case atStart => exact ⟨0, Nat.zero_le _, by omega, rfl, HB0, ⟨by rw [pmi_zero]; exact HF0.out⟩⟩
      case round =>
        obtain ⟨kk, hkk, hg, rfl, HB, HF⟩ := hrel
        by_cases hlt : kk < n
        · have hltz : (kk : Int) < (n : Int) := by omega
          have hl : kk < (bytesOf s0).length := by have := HN.out; omega
          have hcell := HF.out.cell kk (by rw [pmi_length]; exact hl)
          rw [pmi_at _ kk _ hl] at hcell
          have hfree := HF.out.free kk (by rw [pmi_length]; exact hl)
          have HS := Aside0.mk (HF.out.set kk (bitF .and s1 (-1) kk ((bytesOf s0).getD kk 0)) (by rw [pmi_length]; exact hl))
          rw [pmi_set _ kk _ hl] at HS
          have hkeep := fun h => pmi_keep (bitF .and s1 (-1)) kk (bytesOf s0) hl h
          generalize (bytesOf s0).getD kk 0 = y at hcell HS hkeep
          have HK := Lib.hid hkeep
          clear hl hkeep
          by_cases hj : kk < s1.size
          · have dj : decide ((kk : Int) < (s1.size : Int)) = true := decide_eq_true (by omega)
            have hx : ((s1[kk]'hj).toNat : Int) = bt s1 (kk : Int) := by simp [bt, hj]
            rw [bitF, if_pos hj] at HS
            go_upto_region 13 with fail
            refine wp_region_still_tail 12 (by kernel_rfl) (by kernel_rfl) ?_
            simp only [List.take_succ_cons, List.take_zero, List.drop_succ_cons, List.drop_zero]
            repeat still_step
            still_call (and86.calls _ _ _)
            repeat still_step
            refine wpStill_nil ?_
            go_wp2
            go_roundg (n - (kk + 1))
            case measure => omega
            case rel =>
              refine ⟨kk + 1, by omega, by omega, by go_num, ⟨below_set (pw_below_drewN HB.out 1) hg0⟩, HS⟩
          · have dj : decide ((kk : Int) < (s1.size : Int)) = false := decide_eq_false (by omega)
            have HK2 := Aside0.mk (HK.out (by rw [bitF, if_neg hj, if_pos rfl]))
            clear HS
            go_wp2
            go_roundg (n - (kk + 1))
            case measure => omega
            case rel =>
              refine ⟨kk + 1, by omega, by omega, by go_num, HB, ⟨by rw [HK2.out]; exact HF.out⟩⟩
        · obtain rfl : kk = n := by omega
          have HR := HF.out
          rw [← HN.out, pmi_all] at HR
          have hconv := fun c => string_of_reads (P := Tryz.prog) (w := wr) (src := 83) (dst := 9) (e := 5) (A := some ⟨g0, 0, none⟩) (n := kk) (c := c) (xs := (bytesOf s0).mapIdx (bitF .and s1 (-1))) Tryz.underlying83 Tryz.underlying5 Tryz.underlying9 (by
            have := HR.reads (by simp; have := HN.out; omega); rw [List.length_mapIdx, HN.out] at this; exact this)
          clear HR
          go_wp2_with (go_at_call 113; refine (HM.out _).mono ?_; rintro e w3 ⟨rfl, hb3⟩)
          go_ret2
          exact ⟨rfl, below_step HB.out hb3⟩
    · have e1 : (a2 != -1) = true := bne_iff_ne.mpr hp1
      have hp2 : 32 ≤ a2 ∧ a2 ≤ 126 := hp.resolve_left hp1
      have e3 : decide (a2 < 32) = false := decide_eq_false (by omega)
      have e4 : decide (126 < a2) = false := decide_eq_false (by omega)
      have e5 : IntKind.u8.wrap a2 = a2 := u8w _ (by omega) (by omega)
      clear hp hp2
      go_enter Tryz.func85, Tryz.ntmps85
      go_wp2_with (go_at_call 93; refine (H1.out _).mono ?_; rintro e w1 ⟨rfl, hb1⟩)
      have HB0 := Aside0.mk (bytes_below (B := w.heap.size) hb1 hb1.size 5 s0)
      have HF0 := Aside0.mk (Buf.new w1 s0)
      have hg0 : w.heap.size ≤ w1.heap.size := hb1.size
      clear hb1
      generalize w1.heap.size = g0 at HF0 hg0 ⊢
      generalize grownCap w1 n 0 5 = cp
      generalize Lib.bytesWorld w1 5 s0 = w2 at HF0 HB0 ⊢
      go_loopg [12, 41] n (fun gg _ s41 wr => ∃ kk : Nat, kk ≤ n ∧ n - kk ≤ gg ∧ s41 = .int .i64 kk ∧ Aside0 (Below w.heap.size w wr) ∧ Aside0 (Buf g0 (pmi (bitF .and s1 a2) kk (bytesOf s0)) wr))
      case atStart => exact ⟨0, Nat.zero_le _, by omega, rfl, HB0, ⟨by rw [pmi_zero]; exact HF0.out⟩⟩
      case round =>
        obtain ⟨kk, hkk, hg, rfl, HB, HF⟩ := hrel
        by_cases hlt : kk < n
        · have hltz : (kk : Int) < (n : Int) := by omega
          have hl : kk < (bytesOf s0).length := by have := HN.out; omega
          have hcell := HF.out.cell kk (by rw [pmi_length]; exact hl)
          rw [pmi_at _ kk _ hl] at hcell
          have hfree := HF.out.free kk (by rw [pmi_length]; exact hl)
          have HS := Aside0.mk (HF.out.set kk (bitF .and s1 a2 kk ((bytesOf s0).getD kk 0)) (by rw [pmi_length]; exact hl))
          rw [pmi_set _ kk _ hl] at HS
          have hkeep := fun h => pmi_keep (bitF .and s1 a2) kk (bytesOf s0) hl h
          generalize (bytesOf s0).getD kk 0 = y at hcell HS hkeep
          have HK := Lib.hid hkeep
          clear hl hkeep
          by_cases hj : kk < s1.size
          · have dj : decide ((kk : Int) < (s1.size : Int)) = true := decide_eq_true (by omega)
            have hx : ((s1[kk]'hj).toNat : Int) = bt s1 (kk : Int) := by simp [bt, hj]
            rw [bitF, if_pos hj] at HS
            go_upto_region 13 with fail
            refine wp_region_still_tail 12 (by kernel_rfl) (by kernel_rfl) ?_
            simp only [List.take_succ_cons, List.take_zero, List.drop_succ_cons, List.drop_zero]
            repeat still_step
            still_call (and86.calls _ _ _)
            repeat still_step
            refine wpStill_nil ?_
            go_wp2
            go_roundg (n - (kk + 1))
            case measure => omega
            case rel =>
              refine ⟨kk + 1, by omega, by omega, by go_num, ⟨below_set (pw_below_drewN HB.out 1) hg0⟩, HS⟩
          · have dj : decide ((kk : Int) < (s1.size : Int)) = false := decide_eq_false (by omega)
            rw [bitF, if_neg hj, if_neg hp1, e5] at HS
            go_wp2_with (go_at_call 86; refine (and86.calls _ _ _).mono ?_; rintro e w' ⟨rfl, rfl⟩)
            go_roundg (n - (kk + 1))
            case measure => omega
            case rel =>
              refine ⟨kk + 1, by omega, by omega, by go_num, ⟨below_set HB.out hg0⟩, HS⟩
        · obtain rfl : kk = n := by omega
          have HR := HF.out
          rw [← HN.out, pmi_all] at HR
          have hconv := fun c => string_of_reads (P := Tryz.prog) (w := wr) (src := 83) (dst := 9) (e := 5) (A := some ⟨g0, 0, none⟩) (n := kk) (c := c) (xs := (bytesOf s0).mapIdx (bitF .and s1 a2)) Tryz.underlying83 Tryz.underlying5 Tryz.underlying9 (by
            have := HR.reads (by simp; have := HN.out; omega); rw [List.length_mapIdx, HN.out] at this; exact this)
          clear HR
          go_wp2_with (go_at_call 113; refine (HM.out _).mono ?_; rintro e w3 ⟨rfl, hb3⟩)
          go_ret2
          exact ⟨rfl, below_step HB.out hb3⟩


set_option maxRecDepth 100000 in
set_option maxHeartbeats 4000000 in
theorem bits_err86 (a0 a1 : ByteArray) (a2 : Int) (w : World) (h : ¬ ((vld a0 = true ∧ vld a1 = true) ∧ (a2 = -1 ∨ 32 ≤ a2 ∧ a2 ≤ 126))) :
    Calls Tryz.prog 85 #[.string a0, .string a1, .int .i64 a2, .func (.func 86) #[] #[]] w fun e w' => e = .returned (.tuple #[.string ⟨#[]⟩, .int .i64 1]) ∧ Below w.heap.size w w' := by
  have H1 := fun W0 => pre93 [a0, a1] W0
  obtain ⟨v, hv⟩ : ∃ v : Int, (if ([a0, a1] : List ByteArray).all vld = true then (0 : Int) else 1) = v := ⟨_, rfl⟩
  rw [hv] at H1
  have H1 := Lib.hid H1
  by_cases hq : a2 = -1 ∨ 32 ≤ a2 ∧ a2 ≤ 126
  · have hv1 : v = 1 := by
      rw [← hv, if_neg]
      intro h2
      exact h ⟨by simpa using h2, hq⟩
    clear h hv
    subst hv1
    by_cases hp1 : a2 = -1
    · subst hp1
      go_enter Tryz.func85, Tryz.ntmps85
      go_wp2_with (go_at_call 93; refine (H1.out _).mono ?_; rintro e w1 ⟨rfl, hb1⟩)
      go_ret2
      exact ⟨rfl, hb1⟩
    · have e1 : (a2 != -1) = true := bne_iff_ne.mpr hp1
      have hp2 : 32 ≤ a2 ∧ a2 ≤ 126 := hq.resolve_left hp1
      have e3 : decide (a2 < 32) = false := decide_eq_false (by omega)
      have e4 : decide (126 < a2) = false := decide_eq_false (by omega)
      clear hq hp2
      go_enter Tryz.func85, Tryz.ntmps85
      go_wp2_with (go_at_call 93; refine (H1.out _).mono ?_; rintro e w1 ⟨rfl, hb1⟩)
      go_ret2
      exact ⟨rfl, hb1⟩
  · have hp1 : ¬ a2 = -1 := fun e => hq (.inl e)
    have e1 : (a2 != -1) = true := bne_iff_ne.mpr hp1
    by_cases hlo : a2 < 32
    · have e3 : decide (a2 < 32) = true := decide_eq_true hlo
      clear h hq hv
      go_enter Tryz.func85, Tryz.ntmps85
      go_wp2_with (go_at_call 93; refine (H1.out _).mono ?_; rintro e w1 ⟨rfl, hb1⟩)
      go_ret2
      exact ⟨rfl, hb1⟩
    · have e3 : decide (a2 < 32) = false := decide_eq_false hlo
      have e4 : decide (126 < a2) = true := decide_eq_true (by omega)
      clear h hq hv
      go_enter Tryz.func85, Tryz.ntmps85
      go_wp2_with (go_at_call 93; refine (H1.out _).mono ?_; rintro e w1 ⟨rfl, hb1⟩)
      go_ret2
      exact ⟨rfl, hb1⟩

def text_BitAnd.f (a0 a1 : ByteArray) (a2 : Int) : Option (ByteArray × Int) := text_bits.f .and a0 a1 a2
set_option maxRecDepth 100000 in
theorem text_BitAnd.calls (a0 a1 : ByteArray) (a2 : Int) (r1 : ByteArray) (r2 : Int) (w : World) (h : text_BitAnd.f a0 a1 a2 = some (r1, r2)) :
    Calls Tryz.prog 17 #[.string a0, .string a1, .int .i64 a2] w fun e w' => e = .returned (.tuple #[.string r1, .int .i64 r2]) ∧ Below w.heap.size w w' := by
  have H : Calls Tryz.prog 85 #[.string a0, .string a1, .int .i64 a2, .func (.func 86) #[] #[]] w fun e w' => e = .returned (.tuple #[.string r1, .int .i64 r2]) ∧ Below w.heap.size w w' := by
    unfold text_BitAnd.f text_bits.f at h
    by_cases hz : a0.size ≤ 100000 ∧ a1.size ≤ 100000
    · rw [if_pos hz] at h
      by_cases hv : (vld a0 = true ∧ vld a1 = true) ∧ (a2 = -1 ∨ 32 ≤ a2 ∧ a2 ≤ 126)
      · rw [if_pos hv] at h
        refine bits_in86 a0 a1 a2 _ _ r1 r2 w hz.1 hz.2 hv.1 hv.2 rfl rfl ?_
        rw [← h]
        split <;> rfl
      · rw [if_neg hv] at h
        simp only [Option.some.injEq, Prod.mk.injEq] at h
        obtain ⟨rfl, rfl⟩ := h
        exact bits_err86 a0 a1 a2 w hv
    · rw [if_neg hz] at h
      cases h
  have HH := Lib.hid H
  clear H h
  go_enter Tryz.func17, Tryz.ntmps17
  go_wp2_with (go_at_call 85; refine HH.out.mono ?_; rintro e w1 ⟨rfl, hb1⟩)
  go_ret2
  exact ⟨rfl, hb1⟩
end Go.Proofs.YtlekfhnlhdmekaaGreatDoor.T

/- text.BitOr returns what text_BitOr.f says. -/
namespace Go.Proofs.YtlekfhnlhdmekaaGreatDoor.T
set_option linter.unusedVariables false
open Go.RowKit Go.Proofs.YtlekfhnlhdmekaaGreatDoorW.PrintWords Go.Proofs.YtlekfhnlhdmekaaGreatDoorW.PrintLast Go.Proofs.YtlekfhnlhdmekaaGreatDoorW.PrintMore

theorem or87.calls (x y : Int) (w : World) :
    Calls Tryz.prog 87 #[.int .u8 x, .int .u8 y] w fun e w' => e = .returned (.int .u8 (Go.bits BinOp.or .u8 x y)) ∧ w' = w := by
  go_enter Tryz.func87, Tryz.ntmps87
  go_wp2
  go_ret
  exact ⟨rfl, rfl⟩
set_option maxRecDepth 100000 in
set_option maxHeartbeats 4000000 in
/-- The loop of text.bits and what follows it, at strings in their order. -/
theorem bits_in87 (a0 a1 : ByteArray) (a2 : Int) (s0 s1 : ByteArray) (r1 : ByteArray) (r2 : Int) (w : World) (hz0 : a0.size ≤ 100000) (hz1 : a1.size ≤ 100000)
    (hv : vld a0 = true ∧ vld a1 = true) (hp : a2 = -1 ∨ 32 ≤ a2 ∧ a2 ≤ 126) (hs : s0 = (if a0.size < a1.size then a1 else a0)) (hs1 : s1 = (if a0.size < a1.size then a0 else a1))
    (h : text_made.f (bitS .or s0 s1 a2) = some (r1, r2)) :
    Calls Tryz.prog 85 #[.string a0, .string a1, .int .i64 a2, .func (.func 87) #[] #[]] w fun e w' => e = .returned (.tuple #[.string r1, .int .i64 r2]) ∧ Below w.heap.size w w' := by
  have H1 := fun W0 => pre93 [a0, a1] W0
  rw [if_pos (show ([a0, a1] : List ByteArray).all vld = true by simpa using hv)] at H1
  have H1 := Lib.hid H1
  unfold bitS at h
  have HM := Lib.hid (fun W => text_made.calls _ r1 r2 W h)
  have kb := fun W => print_bytes (P := Tryz.prog) 9 83 5 Tryz.underlying9 Tryz.underlying83 Tryz.underlying5 s0 W
  have hz : s0.size ≤ 100000 := by rw [hs]; split <;> assumption
  have HZ := Aside0.mk hz
  have HS0 := Aside0.mk hs
  have HS1 := Aside0.mk hs1
  obtain ⟨n, hn⟩ : ∃ n, s0.size = n := ⟨_, rfl⟩
  have hn2 : n ≤ 100000 := by omega
  have HLE : Aside0 (s1.size ≤ n) := ⟨by rw [← hn, hs, hs1]; split <;> omega⟩
  have HN : Aside0 ((bytesOf s0).length = n) := ⟨by rw [bytesOf_length]; exact hn⟩
  rw [hn] at kb
  clear hz h hv hs hs1 hz0 hz1
  have loop : True := trivial
  by_cases hlen : a0.size < a1.size
  · have d0 : decide ((a0.size : Int) < (a1.size : Int)) = true := decide_eq_true (by omega)
    obtain rfl : s0 = a1 := by rw [HS0.out, if_pos hlen]
    obtain rfl : s1 = a0 := by rw [HS1.out, if_pos hlen]
    have d1 : decide (s1.size < n) = true := decide_eq_true (by omega)
    have d2 : decide ((s1.size : Int) < (n : Int)) = true := decide_eq_true (by omega)
    by_cases hp1 : a2 = -1
    · subst hp1
      go_enter Tryz.func85, Tryz.ntmps85
      go_wp2_with (go_at_call 93; refine (H1.out _).mono ?_; rintro e w1 ⟨rfl, hb1⟩)
      have HB0 := Aside0.mk (bytes_below (B := w.heap.size) hb1 hb1.size 5 s0)
      have HF0 := Aside0.mk (Buf.new w1 s0)
      have hg0 : w.heap.size ≤ w1.heap.size := hb1.size
      clear hb1
      generalize w1.heap.size = g0 at HF0 hg0 ⊢
      generalize grownCap w1 n 0 5 = cp
      generalize Lib.bytesWorld w1 5 s0 = w2 at HF0 HB0 ⊢
      go_loopg [12, 41] n (fun gg _ s41 wr => ∃ kk : Nat, kk ≤ n ∧ n - kk ≤ gg ∧ s41 = .int .i64 kk ∧ Aside0 (Below w.heap.size w wr) ∧ Aside0 (Buf g0 (pmi (bitF .or s1 (-1)) kk (bytesOf s0)) wr))
      case atStart => exact ⟨0, Nat.zero_le _, by omega, rfl, HB0, ⟨by rw [pmi_zero]; exact HF0.out⟩⟩
      case round =>
        obtain ⟨kk, hkk, hg, rfl, HB, HF⟩ := hrel
        by_cases hlt : kk < n
        · have hltz : (kk : Int) < (n : Int) := by omega
          have hl : kk < (bytesOf s0).length := by have := HN.out; omega
          have hcell := HF.out.cell kk (by rw [pmi_length]; exact hl)
          rw [pmi_at _ kk _ hl] at hcell
          have hfree := HF.out.free kk (by rw [pmi_length]; exact hl)
          have HS := Aside0.mk (HF.out.set kk (bitF .or s1 (-1) kk ((bytesOf s0).getD kk 0)) (by rw [pmi_length]; exact hl))
          rw [pmi_set _ kk _ hl] at HS
          have hkeep := fun h => pmi_keep (bitF .or s1 (-1)) kk (bytesOf s0) hl h
          generalize (bytesOf s0).getD kk 0 = y at hcell HS hkeep
          have HK := Lib.hid hkeep
          clear hl hkeep
          by_cases hj : kk < s1.size
          · have dj : decide ((kk : Int) < (s1.size : Int)) = true := decide_eq_true (by omega)
            have hx : ((s1[kk]'hj).toNat : Int) = bt s1 (kk : Int) := by simp [bt, hj]
            rw [bitF, if_pos hj] at HS
            go_upto_region 13 with fail
            refine wp_region_still_tail 12 (by kernel_rfl) (by kernel_rfl) ?_
            simp only [List.take_succ_cons, List.take_zero, List.drop_succ_cons, List.drop_zero]
            repeat still_step
            still_call (or87.calls _ _ _)
            repeat still_step
            refine wpStill_nil ?_
            go_wp2
            go_roundg (n - (kk + 1))
            case measure => omega
            case rel =>
              refine ⟨kk + 1, by omega, by omega, by go_num, ⟨below_set (pw_below_drewN HB.out 1) hg0⟩, HS⟩
          · have dj : decide ((kk : Int) < (s1.size : Int)) = false := decide_eq_false (by omega)
            have HK2 := Aside0.mk (HK.out (by rw [bitF, if_neg hj, if_pos rfl]))
            clear HS
            go_wp2
            go_roundg (n - (kk + 1))
            case measure => omega
            case rel =>
              refine ⟨kk + 1, by omega, by omega, by go_num, HB, ⟨by rw [HK2.out]; exact HF.out⟩⟩
        · obtain rfl : kk = n := by omega
          have HR := HF.out
          rw [← HN.out, pmi_all] at HR
          have hconv := fun c => string_of_reads (P := Tryz.prog) (w := wr) (src := 83) (dst := 9) (e := 5) (A := some ⟨g0, 0, none⟩) (n := kk) (c := c) (xs := (bytesOf s0).mapIdx (bitF .or s1 (-1))) Tryz.underlying83 Tryz.underlying5 Tryz.underlying9 (by
            have := HR.reads (by simp; have := HN.out; omega); rw [List.length_mapIdx, HN.out] at this; exact this)
          clear HR
          go_wp2_with (go_at_call 113; refine (HM.out _).mono ?_; rintro e w3 ⟨rfl, hb3⟩)
          go_ret2
          exact ⟨rfl, below_step HB.out hb3⟩
    · have e1 : (a2 != -1) = true := bne_iff_ne.mpr hp1
      have hp2 : 32 ≤ a2 ∧ a2 ≤ 126 := hp.resolve_left hp1
      have e3 : decide (a2 < 32) = false := decide_eq_false (by omega)
      have e4 : decide (126 < a2) = false := decide_eq_false (by omega)
      have e5 : IntKind.u8.wrap a2 = a2 := u8w _ (by omega) (by omega)
      clear hp hp2
      go_enter Tryz.func85, Tryz.ntmps85
      go_wp2_with (go_at_call 93; refine (H1.out _).mono ?_; rintro e w1 ⟨rfl, hb1⟩)
      have HB0 := Aside0.mk (bytes_below (B := w.heap.size) hb1 hb1.size 5 s0)
      have HF0 := Aside0.mk (Buf.new w1 s0)
      have hg0 : w.heap.size ≤ w1.heap.size := hb1.size
      clear hb1
      generalize w1.heap.size = g0 at HF0 hg0 ⊢
      generalize grownCap w1 n 0 5 = cp
      generalize Lib.bytesWorld w1 5 s0 = w2 at HF0 HB0 ⊢
      go_loopg [12, 41] n (fun gg _ s41 wr => ∃ kk : Nat, kk ≤ n ∧ n - kk ≤ gg ∧ s41 = .int .i64 kk ∧ Aside0 (Below w.heap.size w wr) ∧ Aside0 (Buf g0 (pmi (bitF .or s1 a2) kk (bytesOf s0)) wr))
      case atStart => exact ⟨0, Nat.zero_le _, by omega, rfl, HB0, ⟨by rw [pmi_zero]; exact HF0.out⟩⟩
      case round =>
        obtain ⟨kk, hkk, hg, rfl, HB, HF⟩ := hrel
        by_cases hlt : kk < n
        · have hltz : (kk : Int) < (n : Int) := by omega
          have hl : kk < (bytesOf s0).length := by have := HN.out; omega
          have hcell := HF.out.cell kk (by rw [pmi_length]; exact hl)
          rw [pmi_at _ kk _ hl] at hcell
          have hfree := HF.out.free kk (by rw [pmi_length]; exact hl)
          have HS := Aside0.mk (HF.out.set kk (bitF .or s1 a2 kk ((bytesOf s0).getD kk 0)) (by rw [pmi_length]; exact hl))
          rw [pmi_set _ kk _ hl] at HS
          have hkeep := fun h => pmi_keep (bitF .or s1 a2) kk (bytesOf s0) hl h
          generalize (bytesOf s0).getD kk 0 = y at hcell HS hkeep
          have HK := Lib.hid hkeep
          clear hl hkeep
          by_cases hj : kk < s1.size
          · have dj : decide ((kk : Int) < (s1.size : Int)) = true := decide_eq_true (by omega)
            have hx : ((s1[kk]'hj).toNat : Int) = bt s1 (kk : Int) := by simp [bt, hj]
            rw [bitF, if_pos hj] at HS
            go_upto_region 13 with fail
            refine wp_region_still_tail 12 (by kernel_rfl) (by kernel_rfl) ?_
            simp only [List.take_succ_cons, List.take_zero, List.drop_succ_cons, List.drop_zero]
            repeat still_step
            still_call (or87.calls _ _ _)
            repeat still_step
            refine wpStill_nil ?_
            go_wp2
            go_roundg (n - (kk + 1))
            case measure => omega
            case rel =>
              refine ⟨kk + 1, by omega, by omega, by go_num, ⟨below_set (pw_below_drewN HB.out 1) hg0⟩, HS⟩
          · have dj : decide ((kk : Int) < (s1.size : Int)) = false := decide_eq_false (by omega)
            rw [bitF, if_neg hj, if_neg hp1, e5] at HS
            go_wp2_with (go_at_call 87; refine (or87.calls _ _ _).mono ?_; rintro e w' ⟨rfl, rfl⟩)
            go_roundg (n - (kk + 1))
            case measure => omega
            case rel =>
              refine ⟨kk + 1, by omega, by omega, by go_num, ⟨below_set HB.out hg0⟩, HS⟩
        · obtain rfl : kk = n := by omega
          have HR := HF.out
          rw [← HN.out, pmi_all] at HR
          have hconv := fun c => string_of_reads (P := Tryz.prog) (w := wr) (src := 83) (dst := 9) (e := 5) (A := some ⟨g0, 0, none⟩) (n := kk) (c := c) (xs := (bytesOf s0).mapIdx (bitF .or s1 a2)) Tryz.underlying83 Tryz.underlying5 Tryz.underlying9 (by
            have := HR.reads (by simp; have := HN.out; omega); rw [List.length_mapIdx, HN.out] at this; exact this)
          clear HR
          go_wp2_with (go_at_call 113; refine (HM.out _).mono ?_; rintro e w3 ⟨rfl, hb3⟩)
          go_ret2
          exact ⟨rfl, below_step HB.out hb3⟩
  · have d0 : decide ((a0.size : Int) < (a1.size : Int)) = false := decide_eq_false (by omega)
    obtain rfl : s0 = a0 := by rw [HS0.out, if_neg hlen]
    obtain rfl : s1 = a1 := by rw [HS1.out, if_neg hlen]
    have d1 : decide (n < s1.size) = false := decide_eq_false (by omega)
    have d2 : decide ((n : Int) < (s1.size : Int)) = false := decide_eq_false (by omega)
    by_cases hp1 : a2 = -1
    · subst hp1
      go_enter Tryz.func85, Tryz.ntmps85
      go_wp2_with (go_at_call 93; refine (H1.out _).mono ?_; rintro e w1 ⟨rfl, hb1⟩)
      have HB0 := Aside0.mk (bytes_below (B := w.heap.size) hb1 hb1.size 5 s0)
      have HF0 := Aside0.mk (Buf.new w1 s0)
      have hg0 : w.heap.size ≤ w1.heap.size := hb1.size
      clear hb1
      generalize w1.heap.size = g0 at HF0 hg0 ⊢
      generalize grownCap w1 n 0 5 = cp
      generalize Lib.bytesWorld w1 5 s0 = w2 at HF0 HB0 ⊢
      go_loopg [12, 41] n (fun gg _ s41 wr => ∃ kk : Nat, kk ≤ n ∧ n - kk ≤ gg ∧ s41 = .int .i64 kk ∧ Aside0 (Below w.heap.size w wr) ∧ Aside0 (Buf g0 (pmi (bitF .or s1 (-1)) kk (bytesOf s0)) wr))
      case atStart => exact ⟨0, Nat.zero_le _, by omega, rfl, HB0, ⟨by rw [pmi_zero]; exact HF0.out⟩⟩
      case round =>
        obtain ⟨kk, hkk, hg, rfl, HB, HF⟩ := hrel
        by_cases hlt : kk < n
        · have hltz : (kk : Int) < (n : Int) := by omega
          have hl : kk < (bytesOf s0).length := by have := HN.out; omega
          have hcell := HF.out.cell kk (by rw [pmi_length]; exact hl)
          rw [pmi_at _ kk _ hl] at hcell
          have hfree := HF.out.free kk (by rw [pmi_length]; exact hl)
          have HS := Aside0.mk (HF.out.set kk (bitF .or s1 (-1) kk ((bytesOf s0).getD kk 0)) (by rw [pmi_length]; exact hl))
          rw [pmi_set _ kk _ hl] at HS
          have hkeep := fun h => pmi_keep (bitF .or s1 (-1)) kk (bytesOf s0) hl h
          generalize (bytesOf s0).getD kk 0 = y at hcell HS hkeep
          have HK := Lib.hid hkeep
          clear hl hkeep
          by_cases hj : kk < s1.size
          · have dj : decide ((kk : Int) < (s1.size : Int)) = true := decide_eq_true (by omega)
            have hx : ((s1[kk]'hj).toNat : Int) = bt s1 (kk : Int) := by simp [bt, hj]
            rw [bitF, if_pos hj] at HS
            go_upto_region 13 with fail
            refine wp_region_still_tail 12 (by kernel_rfl) (by kernel_rfl) ?_
            simp only [List.take_succ_cons, List.take_zero, List.drop_succ_cons, List.drop_zero]
            repeat still_step
            still_call (or87.calls _ _ _)
            repeat still_step
            refine wpStill_nil ?_
            go_wp2
            go_roundg (n - (kk + 1))
            case measure => omega
            case rel =>
              refine ⟨kk + 1, by omega, by omega, by go_num, ⟨below_set (pw_below_drewN HB.out 1) hg0⟩, HS⟩
          · have dj : decide ((kk : Int) < (s1.size : Int)) = false := decide_eq_false (by omega)
            have HK2 := Aside0.mk (HK.out (by rw [bitF, if_neg hj, if_pos rfl]))
            clear HS
            go_wp2
            go_roundg (n - (kk + 1))
            case measure => omega
            case rel =>
              refine ⟨kk + 1, by omega, by omega, by go_num, HB, ⟨by rw [HK2.out]; exact HF.out⟩⟩
        · obtain rfl : kk = n := by omega
          have HR := HF.out
          rw [← HN.out, pmi_all] at HR
          have hconv := fun c => string_of_reads (P := Tryz.prog) (w := wr) (src := 83) (dst := 9) (e := 5) (A := some ⟨g0, 0, none⟩) (n := kk) (c := c) (xs := (bytesOf s0).mapIdx (bitF .or s1 (-1))) Tryz.underlying83 Tryz.underlying5 Tryz.underlying9 (by
            have := HR.reads (by simp; have := HN.out; omega); rw [List.length_mapIdx, HN.out] at this; exact this)
          clear HR
          go_wp2_with (go_at_call 113; refine (HM.out _).mono ?_; rintro e w3 ⟨rfl, hb3⟩)
          go_ret2
          exact ⟨rfl, below_step HB.out hb3⟩
    · have e1 : (a2 != -1) = true := bne_iff_ne.mpr hp1
      have hp2 : 32 ≤ a2 ∧ a2 ≤ 126 := hp.resolve_left hp1
      have e3 : decide (a2 < 32) = false := decide_eq_false (by omega)
      have e4 : decide (126 < a2) = false := decide_eq_false (by omega)
      have e5 : IntKind.u8.wrap a2 = a2 := u8w _ (by omega) (by omega)
      clear hp hp2
      go_enter Tryz.func85, Tryz.ntmps85
      go_wp2_with (go_at_call 93; refine (H1.out _).mono ?_; rintro e w1 ⟨rfl, hb1⟩)
      have HB0 := Aside0.mk (bytes_below (B := w.heap.size) hb1 hb1.size 5 s0)
      have HF0 := Aside0.mk (Buf.new w1 s0)
      have hg0 : w.heap.size ≤ w1.heap.size := hb1.size
      clear hb1
      generalize w1.heap.size = g0 at HF0 hg0 ⊢
      generalize grownCap w1 n 0 5 = cp
      generalize Lib.bytesWorld w1 5 s0 = w2 at HF0 HB0 ⊢
      go_loopg [12, 41] n (fun gg _ s41 wr => ∃ kk : Nat, kk ≤ n ∧ n - kk ≤ gg ∧ s41 = .int .i64 kk ∧ Aside0 (Below w.heap.size w wr) ∧ Aside0 (Buf g0 (pmi (bitF .or s1 a2) kk (bytesOf s0)) wr))
      case atStart => exact ⟨0, Nat.zero_le _, by omega, rfl, HB0, ⟨by rw [pmi_zero]; exact HF0.out⟩⟩
      case round =>
        obtain ⟨kk, hkk, hg, rfl, HB, HF⟩ := hrel
        by_cases hlt : kk < n
        · have hltz : (kk : Int) < (n : Int) := by omega
          have hl : kk < (bytesOf s0).length := by have := HN.out; omega
          have hcell := HF.out.cell kk (by rw [pmi_length]; exact hl)
          rw [pmi_at _ kk _ hl] at hcell
          have hfree := HF.out.free kk (by rw [pmi_length]; exact hl)
          have HS := Aside0.mk (HF.out.set kk (bitF .or s1 a2 kk ((bytesOf s0).getD kk 0)) (by rw [pmi_length]; exact hl))
          rw [pmi_set _ kk _ hl] at HS
          have hkeep := fun h => pmi_keep (bitF .or s1 a2) kk (bytesOf s0) hl h
          generalize (bytesOf s0).getD kk 0 = y at hcell HS hkeep
          have HK := Lib.hid hkeep
          clear hl hkeep
          by_cases hj : kk < s1.size
          · have dj : decide ((kk : Int) < (s1.size : Int)) = true := decide_eq_true (by omega)
            have hx : ((s1[kk]'hj).toNat : Int) = bt s1 (kk : Int) := by simp [bt, hj]
            rw [bitF, if_pos hj] at HS
            go_upto_region 13 with fail
            refine wp_region_still_tail 12 (by kernel_rfl) (by kernel_rfl) ?_
            simp only [List.take_succ_cons, List.take_zero, List.drop_succ_cons, List.drop_zero]
            repeat still_step
            still_call (or87.calls _ _ _)
            repeat still_step
            refine wpStill_nil ?_
            go_wp2
            go_roundg (n - (kk + 1))
            case measure => omega
            case rel =>
              refine ⟨kk + 1, by omega, by omega, by go_num, ⟨below_set (pw_below_drewN HB.out 1) hg0⟩, HS⟩
          · have dj : decide ((kk : Int) < (s1.size : Int)) = false := decide_eq_false (by omega)
            rw [bitF, if_neg hj, if_neg hp1, e5] at HS
            go_wp2_with (go_at_call 87; refine (or87.calls _ _ _).mono ?_; rintro e w' ⟨rfl, rfl⟩)
            go_roundg (n - (kk + 1))
            case measure => omega
            case rel =>
              refine ⟨kk + 1, by omega, by omega, by go_num, ⟨below_set HB.out hg0⟩, HS⟩
        · obtain rfl : kk = n := by omega
          have HR := HF.out
          rw [← HN.out, pmi_all] at HR
          have hconv := fun c => string_of_reads (P := Tryz.prog) (w := wr) (src := 83) (dst := 9) (e := 5) (A := some ⟨g0, 0, none⟩) (n := kk) (c := c) (xs := (bytesOf s0).mapIdx (bitF .or s1 a2)) Tryz.underlying83 Tryz.underlying5 Tryz.underlying9 (by
            have := HR.reads (by simp; have := HN.out; omega); rw [List.length_mapIdx, HN.out] at this; exact this)
          clear HR
          go_wp2_with (go_at_call 113; refine (HM.out _).mono ?_; rintro e w3 ⟨rfl, hb3⟩)
          go_ret2
          exact ⟨rfl, below_step HB.out hb3⟩


set_option maxRecDepth 100000 in
set_option maxHeartbeats 4000000 in
theorem bits_err87 (a0 a1 : ByteArray) (a2 : Int) (w : World) (h : ¬ ((vld a0 = true ∧ vld a1 = true) ∧ (a2 = -1 ∨ 32 ≤ a2 ∧ a2 ≤ 126))) :
    Calls Tryz.prog 85 #[.string a0, .string a1, .int .i64 a2, .func (.func 87) #[] #[]] w fun e w' => e = .returned (.tuple #[.string ⟨#[]⟩, .int .i64 1]) ∧ Below w.heap.size w w' := by
  have H1 := fun W0 => pre93 [a0, a1] W0
  obtain ⟨v, hv⟩ : ∃ v : Int, (if ([a0, a1] : List ByteArray).all vld = true then (0 : Int) else 1) = v := ⟨_, rfl⟩
  rw [hv] at H1
  have H1 := Lib.hid H1
  by_cases hq : a2 = -1 ∨ 32 ≤ a2 ∧ a2 ≤ 126
  · have hv1 : v = 1 := by
      rw [← hv, if_neg]
      intro h2
      exact h ⟨by simpa using h2, hq⟩
    clear h hv
    subst hv1
    by_cases hp1 : a2 = -1
    · subst hp1
      go_enter Tryz.func85, Tryz.ntmps85
      go_wp2_with (go_at_call 93; refine (H1.out _).mono ?_; rintro e w1 ⟨rfl, hb1⟩)
      go_ret2
      exact ⟨rfl, hb1⟩
    · have e1 : (a2 != -1) = true := bne_iff_ne.mpr hp1
      have hp2 : 32 ≤ a2 ∧ a2 ≤ 126 := hq.resolve_left hp1
      have e3 : decide (a2 < 32) = false := decide_eq_false (by omega)
      have e4 : decide (126 < a2) = false := decide_eq_false (by omega)
      clear hq hp2
      go_enter Tryz.func85, Tryz.ntmps85
      go_wp2_with (go_at_call 93; refine (H1.out _).mono ?_; rintro e w1 ⟨rfl, hb1⟩)
      go_ret2
      exact ⟨rfl, hb1⟩
  · have hp1 : ¬ a2 = -1 := fun e => hq (.inl e)
    have e1 : (a2 != -1) = true := bne_iff_ne.mpr hp1
    by_cases hlo : a2 < 32
    · have e3 : decide (a2 < 32) = true := decide_eq_true hlo
      clear h hq hv
      go_enter Tryz.func85, Tryz.ntmps85
      go_wp2_with (go_at_call 93; refine (H1.out _).mono ?_; rintro e w1 ⟨rfl, hb1⟩)
      go_ret2
      exact ⟨rfl, hb1⟩
    · have e3 : decide (a2 < 32) = false := decide_eq_false hlo
      have e4 : decide (126 < a2) = true := decide_eq_true (by omega)
      clear h hq hv
      go_enter Tryz.func85, Tryz.ntmps85
      go_wp2_with (go_at_call 93; refine (H1.out _).mono ?_; rintro e w1 ⟨rfl, hb1⟩)
      go_ret2
      exact ⟨rfl, hb1⟩

def text_BitOr.f (a0 a1 : ByteArray) (a2 : Int) : Option (ByteArray × Int) := text_bits.f .or a0 a1 a2
set_option maxRecDepth 100000 in
theorem text_BitOr.calls (a0 a1 : ByteArray) (a2 : Int) (r1 : ByteArray) (r2 : Int) (w : World) (h : text_BitOr.f a0 a1 a2 = some (r1, r2)) :
    Calls Tryz.prog 18 #[.string a0, .string a1, .int .i64 a2] w fun e w' => e = .returned (.tuple #[.string r1, .int .i64 r2]) ∧ Below w.heap.size w w' := by
  have H : Calls Tryz.prog 85 #[.string a0, .string a1, .int .i64 a2, .func (.func 87) #[] #[]] w fun e w' => e = .returned (.tuple #[.string r1, .int .i64 r2]) ∧ Below w.heap.size w w' := by
    unfold text_BitOr.f text_bits.f at h
    by_cases hz : a0.size ≤ 100000 ∧ a1.size ≤ 100000
    · rw [if_pos hz] at h
      by_cases hv : (vld a0 = true ∧ vld a1 = true) ∧ (a2 = -1 ∨ 32 ≤ a2 ∧ a2 ≤ 126)
      · rw [if_pos hv] at h
        refine bits_in87 a0 a1 a2 _ _ r1 r2 w hz.1 hz.2 hv.1 hv.2 rfl rfl ?_
        rw [← h]
        split <;> rfl
      · rw [if_neg hv] at h
        simp only [Option.some.injEq, Prod.mk.injEq] at h
        obtain ⟨rfl, rfl⟩ := h
        exact bits_err87 a0 a1 a2 w hv
    · rw [if_neg hz] at h
      cases h
  have HH := Lib.hid H
  clear H h
  go_enter Tryz.func18, Tryz.ntmps18
  go_wp2_with (go_at_call 85; refine HH.out.mono ?_; rintro e w1 ⟨rfl, hb1⟩)
  go_ret2
  exact ⟨rfl, hb1⟩
end Go.Proofs.YtlekfhnlhdmekaaGreatDoor.T

/- The reference's Valid and out: the walks (written by mp.py over the kit's print.py), and what they compute. -/
namespace Go.Proofs.YtlekfhnlhdmekaaGreatDoor.TP
open Go.RowKit Go.Proofs.YtlekfhnlhdmekaaGreatDoorW.PrintWords Go.Proofs.YtlekfhnlhdmekaaGreatDoorW.PrintLast Go.Proofs.YtlekfhnlhdmekaaGreatDoorW.PrintMore Go.Proofs.YtlekfhnlhdmekaaGreatDoor.T
attribute [local go_sem] max2_int min2_int max_two min_two max_three min_three max_four min_four
set_option linter.unusedVariables false
set_option linter.unusedSimpArgs false

/-! ### qanatref02_Pad: function 98 -/
def qanatref02_Pad.f (a0 : Int) : Option (Bool) := if a0 ≥ 32 then (some (decide (a0 ≤ 126))) else (some false)
set_option maxHeartbeats 8000000 in
set_option maxRecDepth 100000 in
theorem qanatref02_Pad.calls (a0 : Int) (r : Bool) (w : World) (h : qanatref02_Pad.f a0 = some r) :
    Calls Tryz.prog 98 #[.int .u8 a0] w fun e w' => e = .returned (.bool r) ∧ Drawn0 w w' := by
  have H : (if a0 ≥ 32 then (some (decide (a0 ≤ 126))) else (some false)) = some r := h
  clear h
  by_cases c2 : a0 ≥ 32
  · rw [if_pos c2] at H
    have c2b0 : decide (32 ≤ a0) = true := decide_eq_true c2
    clear c2
    obtain rfl := Option.some.inj H
    go_enter Tryz.func98, Tryz.ntmps98
    go_wp2
    go_ret
    exact ⟨by first | rfl | (simp; done) | (simp [*]; done), by repeat (first | exact Drawn0.refl _ | apply Drawn0.step)⟩
  · rw [if_neg c2] at H
    have c2b0 : decide (32 ≤ a0) = false := decide_eq_false c2
    clear c2
    obtain rfl := Option.some.inj H
    go_enter Tryz.func98, Tryz.ntmps98
    go_wp2
    go_ret
    exact ⟨by first | rfl | (simp; done) | (simp [*]; done), by repeat (first | exact Drawn0.refl _ | apply Drawn0.step)⟩

/-! ### qanatref02_Valid: function 89 -/
def qanatref02_Valid.l0 : Nat → ByteArray → Int → Option (Bool)
  | 0, _, _ => none
  | k + 1, x0, x3 => if x3 < (x0.size : Int) then (if 0 ≤ x3 then ((qanatref02_Pad.f (bt x0 x3)).bind fun t186 => (if t186 = true then (qanatref02_Valid.l0 k x0 (wrap64 (x3 + 1))) else (some false))) else (none)) else (some true)
def qanatref02_Valid.f (k : Nat) (a0 : ByteArray) : Option (Bool) := if (a0.size : Int) > 1000 then (some false) else (qanatref02_Valid.l0 k a0 0)
theorem qanatref02_Valid.mono_l : ∀ k, (∀ y0 y1, LeO (qanatref02_Valid.l0 k y0 y1) (qanatref02_Valid.l0 (k + 1) y0 y1))
  | 0 => fun _ _ r h => by simp [qanatref02_Valid.l0] at h
  | k + 1 => by
    have ih0 := qanatref02_Valid.mono_l k
    · intro y0 y1
      unfold qanatref02_Valid.l0
      repeat' first
      | (with_reducible exact ih0 _ _)
      | (with_reducible exact LeO.refl _)
      | (with_reducible exact LeO.none _)
      | (with_reducible refine LeO.ite ?_ ?_)
      | (with_reducible refine LeO.bind ?_ (fun _ => ?_))
      | exact ih0 _ _
      | exact LeO.none _
      | refine LeO.ite ?_ ?_
      | refine LeO.bind ?_ (fun _ => ?_)
theorem qanatref02_Valid.mono : ∀ a0 k, LeO (qanatref02_Valid.f k a0) (qanatref02_Valid.f (k + 1) a0) := by
  intro a0 k
  have ih0 := qanatref02_Valid.mono_l k
  unfold qanatref02_Valid.f
  repeat' first
      | (with_reducible exact ih0 _ _)
      | (with_reducible exact LeO.refl _)
      | (with_reducible exact LeO.none _)
      | (with_reducible refine LeO.ite ?_ ?_)
      | (with_reducible refine LeO.bind ?_ (fun _ => ?_))
      | exact ih0 _ _
      | exact LeO.none _
      | refine LeO.ite ?_ ?_
      | refine LeO.bind ?_ (fun _ => ?_)
set_option maxHeartbeats 8000000 in
set_option maxRecDepth 100000 in
theorem qanatref02_Valid.calls (k : Nat) (a0 : ByteArray) (r : Bool) (w : World) (h : qanatref02_Valid.f k a0 = some r) :
    Calls Tryz.prog 89 #[.string a0] w fun e w' => e = .returned (.bool r) ∧ Drawn0 w w' := by
  have H : (if (a0.size : Int) > 1000 then (some false) else (qanatref02_Valid.l0 k a0 0)) = some r := h
  clear h
  by_cases c2 : (a0.size : Int) > 1000
  · rw [if_pos c2] at H
    have c2b0 : decide (1000 < (a0.size : Int)) = true := decide_eq_true c2
    have c2b1 : decide (1000 < a0.size) = true := decide_eq_true (by omega)
    clear c2
    obtain rfl := Option.some.inj H
    go_enter Tryz.func89, Tryz.ntmps89
    go_wp2
    go_ret
    exact ⟨by first | rfl | (simp; done) | (simp [*]; done), by repeat (first | exact Drawn0.refl _ | apply Drawn0.step)⟩
  · rw [if_neg c2] at H
    have c2b0 : decide (1000 < (a0.size : Int)) = false := decide_eq_false c2
    have c2b1 : decide (1000 < a0.size) = false := decide_eq_false (by omega)
    clear c2
    have H' := Aside0.mk H
    clear H
    go_enter Tryz.func89, Tryz.ntmps89
    go_wp2
    go_loopg [3] k (fun kq v3 w' => ∃ (x3_1 : Int), v3 = .int .i64 x3_1 ∧ Aside0 (qanatref02_Valid.l0 kq a0 x3_1 = some r) ∧ Aside0 (kq ≤ k) ∧ Drawn0 w w')
    case atStart => exact ⟨(0), (by first | rfl | (simp; done) | (simp [*]; done)), H', ⟨Nat.le_refl _⟩, by repeat (first | exact Drawn0.refl _ | apply Drawn0.step)⟩
    case round =>
      clear H'
      try clear c2
      try clear c2b0
      try clear c2b1
      try clear p2
      obtain ⟨x3_1, rfl, HA, HK1, ⟨m1, rfl⟩⟩ := hrel
      cases gk with
      | zero => exact absurd HA.out (by simp [qanatref02_Valid.l0])
      | succ k1 =>
        have H := HA.out
        clear HA
        simp only [qanatref02_Valid.l0] at H
        by_cases c3 : x3_1 < (a0.size : Int)
        · rw [if_pos c3] at H
          have c3b0 : decide (x3_1 < (a0.size : Int)) = true := decide_eq_true c3
          clear c3
          by_cases c4 : 0 ≤ x3_1
          · rw [if_pos c4] at H
            have c4b0 : decide (0 ≤ x3_1) = true := decide_eq_true c4
            clear c4
            replace H := Option.bind_eq_some_iff.mp H
            obtain ⟨t186, A60, H⟩ := H
            replace H : (if t186 = true then (qanatref02_Valid.l0 k1 a0 (wrap64 (x3_1 + 1))) else (some false)) = some r := H
            have A6 := Aside0.mk A60
            clear A60
            by_cases c7 : t186 = true
            · subst c7
              have H1 : (qanatref02_Valid.l0 k1 a0 (wrap64 (x3_1 + 1))) = some r := by rw [if_pos rfl] at H; exact H
              clear H
              have H := H1
              clear H1
              have H' := Aside0.mk H
              clear H
              have p5 : 0 ≤ (x3_1 : Int) := of_decide_eq_true (by first | (with_reducible assumption) | assumption)
              have q5 : x3_1 < (a0.size : Int) := of_decide_eq_true (by first | (with_reducible assumption) | assumption)
              have hx5 := bt_at a0 x3_1
              replace p5 := eq_true p5
              replace q5 := eq_true q5
              go_wp2_with (first | ((with_reducible refine gate_callee (f := 98) rfl ?_); refine goesL_ (some 16) rfl rfl Tryz.func98 (by kernel_rfl) rfl #[.int .u8 (bt a0 x3_1)] rfl (by (try simp only [List.map_toArray, List.map_cons, List.map_nil]); first | done | rfl | (simp only [List.length_drop, List.length_take]; rfl)) ?_; (with_reducible refine (qanatref02_Pad.calls (bt a0 x3_1) true _ A6.out).mono ?_); rintro e w' ⟨rfl, ⟨nd, rfl⟩⟩; refine ⟨_, rfl, ?_⟩))
              go_roundg k1
              case measure => have := HK1.out; omega
              case rel => exact ⟨(wrap64 (x3_1 + 1)), (by first | rfl | (simp; done) | (simp [*]; done)), H', ⟨by have := HK1.out; omega⟩, by repeat (first | exact Drawn0.refl _ | apply Drawn0.step)⟩
            · replace c7 := Bool.eq_false_iff.mpr c7
              subst c7
              have H1 : (some false) = some r := by rw [if_neg (show ¬ (false = true) by decide)] at H; exact H
              clear H
              have H := H1
              clear H1
              obtain rfl := Option.some.inj H
              have p5 : 0 ≤ (x3_1 : Int) := of_decide_eq_true (by first | (with_reducible assumption) | assumption)
              have q5 : x3_1 < (a0.size : Int) := of_decide_eq_true (by first | (with_reducible assumption) | assumption)
              have hx5 := bt_at a0 x3_1
              replace p5 := eq_true p5
              replace q5 := eq_true q5
              go_wp2_with (first | ((with_reducible refine gate_callee (f := 98) rfl ?_); refine goesL_ (some 16) rfl rfl Tryz.func98 (by kernel_rfl) rfl #[.int .u8 (bt a0 x3_1)] rfl (by (try simp only [List.map_toArray, List.map_cons, List.map_nil]); first | done | rfl | (simp only [List.length_drop, List.length_take]; rfl)) ?_; (with_reducible refine (qanatref02_Pad.calls (bt a0 x3_1) false _ A6.out).mono ?_); rintro e w' ⟨rfl, ⟨nd, rfl⟩⟩; refine ⟨_, rfl, ?_⟩))
              go_ret
              exact ⟨by first | rfl | (simp; done) | (simp [*]; done), by repeat (first | exact Drawn0.refl _ | apply Drawn0.step)⟩
          · rw [if_neg c4] at H
            exact absurd H (by simp)
        · rw [if_neg c3] at H
          have c3b0 : decide (x3_1 < (a0.size : Int)) = false := decide_eq_false c3
          clear c3
          obtain rfl := Option.some.inj H
          go_wp2
          go_ret
          exact ⟨by first | rfl | (simp; done) | (simp [*]; done), by repeat (first | exact Drawn0.refl _ | apply Drawn0.step)⟩

/-! ### qanatref02_out: function 90 -/
def qanatref02_out.l0 : Nat → List Int → Int → Option (ByteArray × Int)
  | 0, _, _ => none
  | k + 1, x0, x3 => if x3 < (x0.length : Int) then (if 0 ≤ x3 then ((qanatref02_Pad.f (rd x0 x3)).bind fun t189 => (if t189 = true then (qanatref02_out.l0 k x0 (wrap64 (x3 + 1))) else (some ((⟨#[]⟩ : ByteArray), 8)))) else (none)) else (some (strOfNums x0, 0))
def qanatref02_out.f (k : Nat) (l0 : List Int) : Option (ByteArray × Int) := if (l0.length : Int) > 1000 then (some ((⟨#[]⟩ : ByteArray), 3)) else (qanatref02_out.l0 k l0 0)
theorem qanatref02_out.mono_l : ∀ k, (∀ y0 y1, LeO (qanatref02_out.l0 k y0 y1) (qanatref02_out.l0 (k + 1) y0 y1))
  | 0 => fun _ _ r h => by simp [qanatref02_out.l0] at h
  | k + 1 => by
    have ih0 := qanatref02_out.mono_l k
    · intro y0 y1
      unfold qanatref02_out.l0
      repeat' first
      | (with_reducible exact ih0 _ _)
      | (with_reducible exact LeO.refl _)
      | (with_reducible exact LeO.none _)
      | (with_reducible refine LeO.ite ?_ ?_)
      | (with_reducible refine LeO.bind ?_ (fun _ => ?_))
      | exact ih0 _ _
      | exact LeO.none _
      | refine LeO.ite ?_ ?_
      | refine LeO.bind ?_ (fun _ => ?_)
theorem qanatref02_out.mono : ∀ a0 k, LeO (qanatref02_out.f k a0) (qanatref02_out.f (k + 1) a0) := by
  intro a0 k
  have ih0 := qanatref02_out.mono_l k
  unfold qanatref02_out.f
  repeat' first
      | (with_reducible exact ih0 _ _)
      | (with_reducible exact LeO.refl _)
      | (with_reducible exact LeO.none _)
      | (with_reducible refine LeO.ite ?_ ?_)
      | (with_reducible refine LeO.bind ?_ (fun _ => ?_))
      | exact ih0 _ _
      | exact LeO.none _
      | refine LeO.ite ?_ ?_
      | refine LeO.bind ?_ (fun _ => ?_)
set_option maxHeartbeats 8000000 in
set_option maxRecDepth 100000 in
theorem qanatref02_out.calls (k : Nat) (A0 : Option Addr) (c0 : Nat) (l0 : List Int) (r1 : ByteArray) (r2 : Int) (w : World) (hr0 : Kd.C (Kd.int .u8) w A0 l0.length l0) (hc0 : l0.length ≤ c0) (h : qanatref02_out.f k l0 = some (r1, r2)) :
    Calls Tryz.prog 90 #[.slice A0 l0.length c0] w fun e w' => e = .returned (.agg #[.string r1, .int .i64 r2]) ∧ Below w.heap.size w w' := by
  have hu29 := Tryz.underlying29
  have HR0 := Aside0.mk hr0
  have HC0 := Aside0.mk hc0
  clear hr0 hc0
  have HB := Aside0.mk (Below.refl w.heap.size w)
  have H : (if (l0.length : Int) > 1000 then (some ((⟨#[]⟩ : ByteArray), 3)) else (qanatref02_out.l0 k l0 0)) = some (r1, r2) := h
  clear h
  by_cases c2 : (l0.length : Int) > 1000
  · rw [if_pos c2] at H
    have c2b0 : decide (1000 < (l0.length : Int)) = true := decide_eq_true c2
    have c2b1 : decide (1000 < l0.length) = true := decide_eq_true (by omega)
    clear c2
    simp only [Option.some.injEq, Prod.mk.injEq] at H
    obtain ⟨rfl, rfl⟩ := H
    go_enter Tryz.func90, Tryz.ntmps90
    go_wp2_with (first | ((with_reducible refine gate_dst (N := 2) rfl ?_); refine box_event ?hg (N := 2) ?hd (cs := #[.string (⟨#[]⟩ : ByteArray), .int .i64 0]) (t := 29) ?hr ?_; (case hd => rfl); (case hg => rfl); (case hr => first | (go_simp; done) | (go_simp; rfl)); intro gb187 hg w3 hbox hb; have n0_ := Aside0.mk (below_step (by repeat (first | (with_reducible first | exact HB.out | apply below_alloc | apply pw_below_drewN | apply below_drew1) | exact HB.out)) hb); have n1_ := Aside0.mk (hbox); have n2_ := Aside0.mk ((by rw [hg]; exact (below_size (by repeat (first | (with_reducible first | exact HB.out | apply below_alloc | apply pw_below_drewN | apply below_drew1) | exact HB.out))) : w.heap.size ≤ gb187)); have n3_ := Aside0.mk ((by rw [hg]; exact (below_size (by repeat (first | (with_reducible first | exact HB.out | apply below_alloc | apply pw_below_drewN | apply below_drew1) | exact HB.out))) : w.heap.size ≤ gb187)); clear HB; have HB := n0_; have BK187 := n1_; have GW187 := n2_; have GE187 := n3_; clear n0_ n1_ n2_ n3_; clear hb hbox hg; have hcz4_0 : w3.cell? ⟨gb187, 0, none⟩ = some (.string (⟨#[]⟩ : ByteArray)) := (blk_cell BK187.out 0).trans rfl; have hcz4_1 : w3.cell? ⟨gb187, 1, none⟩ = some (.int .i64 0) := (blk_cell BK187.out 1).trans rfl; have hfz4_0 := blk_frozen BK187.out 0; have hfz4_1 := blk_frozen BK187.out 1))
    refine bodyPost_ret (results_cell_row rfl _ _ gb187 29 #[.string (⟨#[]⟩ : ByteArray), .int .i64 3] (0, 0) _ rfl (by (with_reducible repeat (first | refine blk_drewN ?_ _ | refine blk_drew ?_ | refine blk_alloc ?_ _)); refine blk_put (cs := #[.string (⟨#[]⟩ : ByteArray), .int .i64 0]) ?_ 1 _ rfl; (with_reducible repeat (first | refine blk_drewN ?_ _ | refine blk_drew ?_ | refine blk_alloc ?_ _)); refine blk_put (cs := #[.string (⟨#[]⟩ : ByteArray), .int .i64 0]) ?_ 0 _ rfl; (with_reducible repeat (first | refine blk_drewN ?_ _ | refine blk_drew ?_ | refine blk_alloc ?_ _)); exact BK187.out) Tryz.underlying29 rfl (by kernel_rfl)) rfl ?_
    exact ⟨by first | rfl | (simp [errW_none, errW_some] <;> rfl) | (simp [*, errW_none, errW_some] <;> rfl), by repeat (first | (with_reducible first | exact HB.out | apply below_alloc | apply pw_below_drewN | apply below_drew1 | refine below_set ?_ GE187.out) | exact HB.out)⟩
  · rw [if_neg c2] at H
    have c2b0 : decide (1000 < (l0.length : Int)) = false := decide_eq_false c2
    have c2b1 : decide (1000 < l0.length) = false := decide_eq_false (by omega)
    clear c2
    have H' := Aside0.mk H
    clear H
    go_enter Tryz.func90, Tryz.ntmps90
    go_wp2_with (first | ((with_reducible refine gate_dst (N := 2) rfl ?_); refine box_event ?hg (N := 2) ?hd (cs := #[.string (⟨#[]⟩ : ByteArray), .int .i64 0]) (t := 29) ?hr ?_; (case hd => rfl); (case hg => rfl); (case hr => first | (go_simp; done) | (go_simp; rfl)); intro gb187 hg w5 hbox hb; have n0_ := Aside0.mk (below_step (by repeat (first | (with_reducible first | exact HB.out | apply below_alloc | apply pw_below_drewN | apply below_drew1) | exact HB.out)) hb); have n1_ := Aside0.mk (hbox); have n2_ := Aside0.mk ((by rw [hg]; exact (below_size (by repeat (first | (with_reducible first | exact HB.out | apply below_alloc | apply pw_below_drewN | apply below_drew1) | exact HB.out))) : w.heap.size ≤ gb187)); have n3_ := Aside0.mk ((by rw [hg]; exact (below_size (by repeat (first | (with_reducible first | exact HB.out | apply below_alloc | apply pw_below_drewN | apply below_drew1) | exact HB.out))) : w.heap.size ≤ gb187)); clear HB; have HB := n0_; have BK187 := n1_; have GW187 := n2_; have GE187 := n3_; clear n0_ n1_ n2_ n3_; clear hb hbox hg))
    go_loopg [3] k (fun kq v3 w' => ∃ (x3_1 : Int) (x188000_1 : ByteArray) (x188001_1 : Int), v3 = .int .i64 x3_1 ∧ Aside0 (qanatref02_out.l0 kq l0 x3_1 = some (r1, r2)) ∧ Aside0 (kq ≤ k) ∧ Aside0 (w'.heap[gb187]? = some (.cells #[.string x188000_1, .int .i64 x188001_1] 29 (0, 0))) ∧ Aside0 (Below w.heap.size w w'))
    case atStart => exact ⟨(0), ((⟨#[]⟩ : ByteArray)), (0), (by first | rfl | (simp; done) | (simp [*]; done)), H', ⟨Nat.le_refl _⟩, ⟨by (with_reducible repeat (first | refine blk_drewN ?_ _ | refine blk_drew ?_ | refine blk_alloc ?_ _)); exact BK187.out⟩, ⟨by repeat (first | (with_reducible first | exact HB.out | apply below_alloc | apply pw_below_drewN | apply below_drew1 | refine below_set ?_ GE187.out) | exact HB.out)⟩⟩
    case round =>
      clear H'
      try clear c2
      try clear c2b0
      try clear c2b1
      try clear p2
      try clear hcz4_0
      try clear hcz4_1
      try clear hfz4_0
      try clear hfz4_1
      obtain ⟨x3_1, x188000_1, x188001_1, rfl, HA, HK1, BK187, HB⟩ := hrel
      cases gk with
      | zero => exact absurd HA.out (by simp [qanatref02_out.l0])
      | succ k1 =>
        have H := HA.out
        clear HA
        simp only [qanatref02_out.l0] at H
        by_cases c6 : x3_1 < (l0.length : Int)
        · rw [if_pos c6] at H
          have c6b0 : decide (x3_1 < (l0.length : Int)) = true := decide_eq_true c6
          clear c6
          by_cases c7 : 0 ≤ x3_1
          · rw [if_pos c7] at H
            have c7b0 : decide (0 ≤ x3_1) = true := decide_eq_true c7
            clear c7
            replace H := Option.bind_eq_some_iff.mp H
            obtain ⟨t189, A80, H⟩ := H
            replace H : (if t189 = true then (qanatref02_out.l0 k1 l0 (wrap64 (x3_1 + 1))) else (some ((⟨#[]⟩ : ByteArray), 8))) = some (r1, r2) := H
            have A8 := Aside0.mk A80
            clear A80
            by_cases c9 : t189 = true
            · subst c9
              have H1 : (qanatref02_out.l0 k1 l0 (wrap64 (x3_1 + 1))) = some (r1, r2) := by rw [if_pos rfl] at H; exact H
              clear H
              have H := H1
              clear H1
              have H' := Aside0.mk H
              clear H
              have p188 : 0 ≤ (x3_1 : Int) := of_decide_eq_true (by first | (with_reducible assumption) | assumption)
              have q188 : x3_1 < (l0.length : Int) := of_decide_eq_true (by first | (with_reducible assumption) | assumption)
              obtain ⟨ad188, e188, hx188_0⟩ := Kd.at_int HR0.out x3_1 p188 q188
              cases e188
              replace hx188_0 := (HB.out.cell (World.block_lt_of_cell? w _ hx188_0)).trans hx188_0
              replace p188 := eq_true p188
              replace q188 := eq_true q188
              go_wp2_with (first | ((with_reducible refine gate_callee (f := 98) rfl ?_); refine goesL_ (some 18) rfl rfl Tryz.func98 (by kernel_rfl) rfl #[.int .u8 (rd l0 x3_1)] rfl (by (try simp only [List.map_toArray, List.map_cons, List.map_nil]); first | done | rfl | (simp only [List.length_drop, List.length_take]; rfl)) ?_; (with_reducible refine (qanatref02_Pad.calls (rd l0 x3_1) true _ A8.out).mono ?_); rintro e w' ⟨rfl, ⟨nd, rfl⟩⟩; refine ⟨_, rfl, ?_⟩))
              go_roundg k1
              case measure => have := HK1.out; omega
              case rel => exact ⟨(wrap64 (x3_1 + 1)), (x188000_1), (x188001_1), (by first | rfl | (simp; done) | (simp [*]; done)), H', ⟨by have := HK1.out; omega⟩, ⟨by (with_reducible repeat (first | refine blk_drewN ?_ _ | refine blk_drew ?_ | refine blk_alloc ?_ _)); exact BK187.out⟩, ⟨by repeat (first | (with_reducible first | exact HB.out | apply below_alloc | apply pw_below_drewN | apply below_drew1 | refine below_set ?_ GE187.out) | exact HB.out)⟩⟩
            · replace c9 := Bool.eq_false_iff.mpr c9
              subst c9
              have H1 : (some ((⟨#[]⟩ : ByteArray), 8)) = some (r1, r2) := by rw [if_neg (show ¬ (false = true) by decide)] at H; exact H
              clear H
              have H := H1
              clear H1
              simp only [Option.some.injEq, Prod.mk.injEq] at H
              obtain ⟨rfl, rfl⟩ := H
              have p188 : 0 ≤ (x3_1 : Int) := of_decide_eq_true (by first | (with_reducible assumption) | assumption)
              have q188 : x3_1 < (l0.length : Int) := of_decide_eq_true (by first | (with_reducible assumption) | assumption)
              obtain ⟨ad188, e188, hx188_0⟩ := Kd.at_int HR0.out x3_1 p188 q188
              cases e188
              replace hx188_0 := (HB.out.cell (World.block_lt_of_cell? w _ hx188_0)).trans hx188_0
              replace p188 := eq_true p188
              replace q188 := eq_true q188
              go_wp2_with (first | ((with_reducible refine gate_callee (f := 98) rfl ?_); refine goesL_ (some 18) rfl rfl Tryz.func98 (by kernel_rfl) rfl #[.int .u8 (rd l0 x3_1)] rfl (by (try simp only [List.map_toArray, List.map_cons, List.map_nil]); first | done | rfl | (simp only [List.length_drop, List.length_take]; rfl)) ?_; (with_reducible refine (qanatref02_Pad.calls (rd l0 x3_1) false _ A8.out).mono ?_); rintro e w' ⟨rfl, ⟨nd, rfl⟩⟩; refine ⟨_, rfl, ?_⟩; (try (rw [drewN_self wr]; generalize hq_ : World.drewN wr _ = wr; have n0_ : Aside0 (wr.heap[gb187]? = some (.cells #[.string x188000_1, .int .i64 x188001_1] 29 (0, 0))) := ⟨by rw [← hq_]; exact (by (with_reducible repeat (first | refine blk_drewN ?_ _ | refine blk_drew ?_ | refine blk_alloc ?_ _)); exact BK187.out)⟩; have n1_ : Aside0 (Below w.heap.size w wr) := ⟨by rw [← hq_]; exact (by repeat (first | (with_reducible first | exact HB.out | apply below_alloc | apply pw_below_drewN | apply below_drew1 | refine below_set ?_ GE187.out) | exact HB.out))⟩; clear BK187 HB hq_; have BK187 := n0_; have HB := n1_; clear n0_ n1_)); have hcz10_0 : wr.cell? ⟨gb187, 0, none⟩ = some (.string x188000_1) := (blk_cell BK187.out 0).trans rfl; have hcz10_1 : wr.cell? ⟨gb187, 1, none⟩ = some (.int .i64 x188001_1) := (blk_cell BK187.out 1).trans rfl; have hfz10_0 := blk_frozen BK187.out 0; have hfz10_1 := blk_frozen BK187.out 1))
              refine bodyPost_ret (results_cell_row rfl _ _ gb187 29 #[.string (⟨#[]⟩ : ByteArray), .int .i64 8] (0, 0) _ rfl (by (with_reducible repeat (first | refine blk_drewN ?_ _ | refine blk_drew ?_ | refine blk_alloc ?_ _)); refine blk_put (cs := #[.string (⟨#[]⟩ : ByteArray), .int .i64 x188001_1]) ?_ 1 _ rfl; (with_reducible repeat (first | refine blk_drewN ?_ _ | refine blk_drew ?_ | refine blk_alloc ?_ _)); refine blk_put (cs := #[.string x188000_1, .int .i64 x188001_1]) ?_ 0 _ rfl; (with_reducible repeat (first | refine blk_drewN ?_ _ | refine blk_drew ?_ | refine blk_alloc ?_ _)); exact BK187.out) Tryz.underlying29 rfl (by kernel_rfl)) rfl ?_
              exact ⟨by first | rfl | (simp [errW_none, errW_some] <;> rfl) | (simp [*, errW_none, errW_some] <;> rfl), by repeat (first | (with_reducible first | exact HB.out | apply below_alloc | apply pw_below_drewN | apply below_drew1 | refine below_set ?_ GE187.out) | exact HB.out)⟩
          · rw [if_neg c7] at H
            exact absurd H (by simp)
        · rw [if_neg c6] at H
          have c6b0 : decide (x3_1 < (l0.length : Int)) = false := decide_eq_false c6
          clear c6
          simp only [Option.some.injEq, Prod.mk.injEq] at H
          obtain ⟨rfl, rfl⟩ := H
          have hcv11 := Kd.C_string (P := Tryz.prog) (A := A0) (c := c0) Tryz.underlying83 Tryz.underlying5 Tryz.underlying9 (Kd.C_below HR0.out HB.out)
          have hcz12_0 : wr.cell? ⟨gb187, 0, none⟩ = some (.string x188000_1) := (blk_cell BK187.out 0).trans rfl
          have hcz12_1 : wr.cell? ⟨gb187, 1, none⟩ = some (.int .i64 x188001_1) := (blk_cell BK187.out 1).trans rfl
          have hfz12_0 := blk_frozen BK187.out 0
          have hfz12_1 := blk_frozen BK187.out 1
          go_wp2
          refine bodyPost_ret (results_cell_row rfl _ _ gb187 29 #[.string (strOfNums l0), .int .i64 0] (0, 0) _ rfl (by (with_reducible repeat (first | refine blk_drewN ?_ _ | refine blk_drew ?_ | refine blk_alloc ?_ _)); refine blk_put (cs := #[.string (strOfNums l0), .int .i64 x188001_1]) ?_ 1 _ rfl; (with_reducible repeat (first | refine blk_drewN ?_ _ | refine blk_drew ?_ | refine blk_alloc ?_ _)); refine blk_put (cs := #[.string x188000_1, .int .i64 x188001_1]) ?_ 0 _ rfl; (with_reducible repeat (first | refine blk_drewN ?_ _ | refine blk_drew ?_ | refine blk_alloc ?_ _)); exact BK187.out) Tryz.underlying29 rfl (by kernel_rfl)) rfl ?_
          exact ⟨by first | rfl | (simp [errW_none, errW_some] <;> rfl) | (simp [*, errW_none, errW_some] <;> rfl), by repeat (first | (with_reducible first | exact HB.out | apply below_alloc | apply pw_below_drewN | apply below_drew1 | refine below_set ?_ GE187.out) | exact HB.out)⟩

end Go.Proofs.YtlekfhnlhdmekaaGreatDoor.TP
namespace Go.Proofs.YtlekfhnlhdmekaaGreatDoor.T
set_option linter.unusedVariables false
open Go.RowKit Go.Proofs.YtlekfhnlhdmekaaGreatDoorW.PrintWords Go.Proofs.YtlekfhnlhdmekaaGreatDoorW.PrintLast Go.Proofs.YtlekfhnlhdmekaaGreatDoorW.PrintMore

theorem pad_good (b : Int) : TP.qanatref02_Pad.f b = some (goodI b) := by
  unfold TP.qanatref02_Pad.f goodI
  by_cases h : b ≥ 32
  · rw [if_pos h]; simp [show (32 : Int) ≤ b from h]
  · rw [if_neg h]; simp [show ¬ (32 : Int) ≤ b from h]
theorem wrap64_id (x : Int) (h0 : -9223372036854775808 ≤ x) (h1 : x ≤ 9223372036854775807) : wrap64 x = x := by unfold wrap64; omega
theorem rd_nat (xs : List Int) (i : Nat) (hi : i < xs.length) : rd xs (i : Int) = xs[i] := by
  simp [rd, List.getD_eq_getElem?_getD, List.getElem?_eq_getElem hi]
theorem bt_nat (s : ByteArray) (i : Nat) (hi : i < (bytesOf s).length) : bt s (i : Int) = (bytesOf s)[i] := by
  rw [← rd_bytesOf, rd_nat]
theorem refValid_l0 (s : ByteArray) (hs : s.size ≤ 1000) : ∀ (k i : Nat), s.size - i < k → i ≤ s.size → TP.qanatref02_Valid.l0 k s i = some (((bytesOf s).drop i).all goodI)
  | 0, i, h, _ => absurd h (by omega)
  | k + 1, i, h, hi => by
    rw [TP.qanatref02_Valid.l0]
    by_cases hlt : i < s.size
    · have hl : i < (bytesOf s).length := by rw [bytesOf_length]; exact hlt
      rw [if_pos (by omega), if_pos (by omega), pad_good, bt_nat s i hl, List.drop_eq_getElem_cons hl]
      simp only [Option.bind_some, List.all_cons]
      by_cases hg : goodI (bytesOf s)[i] = true
      · rw [if_pos hg, hg, wrap64_id _ (by omega) (by omega)]
        have := refValid_l0 s hs k (i + 1) (by omega) (by omega)
        simpa using this
      · rw [if_neg hg]; simp at hg; simp [hg]
    · have hl : (bytesOf s).length ≤ i := by rw [bytesOf_length]; omega
      rw [if_neg (by omega), List.drop_eq_nil_of_le hl]
      rfl
theorem refOut_l0 (l : List Int) (hs : l.length ≤ 1000) : ∀ (k i : Nat), l.length - i < k → i ≤ l.length → TP.qanatref02_out.l0 k l i = some (if (l.drop i).all goodI = true then (strOfNums l, 0) else (⟨#[]⟩, 8))
  | 0, i, h, _ => absurd h (by omega)
  | k + 1, i, h, hi => by
    rw [TP.qanatref02_out.l0]
    by_cases hlt : i < l.length
    · rw [if_pos (by omega), if_pos (by omega), pad_good, rd_nat l i hlt, List.drop_eq_getElem_cons hlt]
      simp only [Option.bind_some]
      by_cases hg : goodI l[i] = true
      · have := refOut_l0 l hs k (i + 1) (by omega) (by omega)
        rw [if_pos hg, wrap64_id _ (by omega) (by omega), show ((i : Int) + 1) = ((i + 1 : Nat) : Int) by omega, this]
        simp only [List.all_cons, hg, Bool.true_and]
      · rw [if_neg hg, if_neg (fun hh => hg (by rw [List.all_cons, Bool.and_eq_true] at hh; exact hh.1))]
    · rw [if_neg (by omega), List.drop_eq_nil_of_le (by omega)]
      rfl
def qanatref02_Pad.f (a0 : Int) : Option Bool := some (goodI a0)
theorem qanatref02_Pad.calls (a0 : Int) (r : Bool) (w : World) (h : qanatref02_Pad.f a0 = some r) :
    Calls Tryz.prog 98 #[.int .u8 a0] w fun e w' => e = .returned (.bool r) ∧ Drawn0 w w' :=
  TP.qanatref02_Pad.calls a0 r w (by rw [pad_good]; exact h)
def qanatref02_Valid.f (a0 : ByteArray) : Option Bool := some (vld a0)
theorem qanatref02_Valid.calls (a0 : ByteArray) (r : Bool) (w : World) (h : qanatref02_Valid.f a0 = some r) :
    Calls Tryz.prog 89 #[.string a0] w fun e w' => e = .returned (.bool r) ∧ Drawn0 w w' := by
  obtain rfl := Option.some.inj h
  refine TP.qanatref02_Valid.calls 1002 a0 _ w ?_
  unfold TP.qanatref02_Valid.f vld
  by_cases hs : a0.size ≤ 1000
  · rw [if_neg (by omega)]
    have := refValid_l0 a0 hs 1002 0 (by omega) (by omega)
    simp only [List.drop_zero] at this
    rw [show ((0 : Nat) : Int) = 0 from rfl] at this
    rw [this]; simp [hs]
  · rw [if_pos (by omega)]; simp [hs]
def qanatref02_out.f (l0 : List Int) : Option (ByteArray × Int) := some (if l0.length > 1000 then (⟨#[]⟩, 3) else if l0.all goodI = true then (strOfNums l0, 0) else (⟨#[]⟩, 8))
theorem qanatref02_out.calls (A0 : Option Addr) (c0 : Nat) (l0 : List Int) (r1 : ByteArray) (r2 : Int) (w : World) (hr0 : Kd.C (Kd.int .u8) w A0 l0.length l0) (hc0 : l0.length ≤ c0) (h : qanatref02_out.f l0 = some (r1, r2)) :
    Calls Tryz.prog 90 #[.slice A0 l0.length c0] w fun e w' => e = .returned (.agg #[.string r1, .int .i64 r2]) ∧ Below w.heap.size w w' := by
  refine TP.qanatref02_out.calls 1002 A0 c0 l0 r1 r2 w hr0 hc0 ?_
  rw [← h]
  unfold TP.qanatref02_out.f qanatref02_out.f
  by_cases hs : l0.length ≤ 1000
  · rw [if_neg (by omega), if_neg (by omega)]
    have := refOut_l0 l0 hs 1002 0 (by omega) (by omega)
    simp only [List.drop_zero] at this
    exact this
  · rw [if_pos (by omega), if_pos (by omega)]
end Go.Proofs.YtlekfhnlhdmekaaGreatDoor.T

/- The reference's Bits, operation 0, returns what bitS says. -/
namespace Go.Proofs.YtlekfhnlhdmekaaGreatDoor.T
set_option linter.unusedVariables false
open Go.RowKit Go.Proofs.YtlekfhnlhdmekaaGreatDoorW.PrintWords Go.Proofs.YtlekfhnlhdmekaaGreatDoorW.PrintLast Go.Proofs.YtlekfhnlhdmekaaGreatDoorW.PrintMore

set_option maxRecDepth 100000 in
set_option maxHeartbeats 4000000 in
theorem refBits0 (a0 a1 : ByteArray) (a2 : Int) (r1 : ByteArray) (r2 : Int) (w : World) (hz0 : a0.size ≤ 100000) (hz1 : a1.size ≤ 100000)
    (hv : vld a0 = true ∧ vld a1 = true) (hp : a2 = -1 ∨ 32 ≤ a2 ∧ a2 ≤ 126) (hs : a1.size ≤ a0.size)
    (h : qanatref02_out.f ((bytesOf a0).mapIdx (bitF .and a1 a2)) = some (r1, r2)) :
    Calls Tryz.prog 21 #[.int .i64 0, .string a0, .string a1, .int .i64 a2] w fun e w' => e = .returned (.agg #[.string r1, .int .i64 r2]) ∧ Below w.heap.size w w' := by
  have hu29 := Tryz.underlying29
  have HV0 := Lib.hid (fun W => qanatref02_Valid.calls a0 true W (by unfold qanatref02_Valid.f; rw [hv.1]))
  have HV1 := Lib.hid (fun W => qanatref02_Valid.calls a1 true W (by unfold qanatref02_Valid.f; rw [hv.2]))
  obtain ⟨n, hn⟩ : ∃ n, a0.size = n := ⟨_, rfl⟩
  have HN : Aside0 ((bytesOf a0).length = n) := ⟨by rw [bytesOf_length]; exact hn⟩
  have HO := Lib.hid (fun W c g hc (hB : Buf g ((bytesOf a0).mapIdx (bitF .and a1 a2)) W) => qanatref02_out.calls (some ⟨g, 0, none⟩) c ((bytesOf a0).mapIdx (bitF .and a1 a2)) r1 r2 W
    (Kd.C_of_reads (d := (0 : Int)) (h1 := fun _ => rfl) (hB.reads (by rw [List.length_mapIdx]; have := HN.out; omega))) hc h)
  simp only [List.length_mapIdx, HN.out] at HO
  have kb := fun W => print_bytes (P := Tryz.prog) 9 83 5 Tryz.underlying9 Tryz.underlying83 Tryz.underlying5 a0 W
  rw [hn] at kb
  have hn2 : n ≤ 100000 := by omega
  have d1 : decide ((n : Int) < (a1.size : Int)) = false := decide_eq_false (by omega)
  have d2 : decide (n < a1.size) = false := decide_eq_false (by omega)
  clear hv h hz0 hz1
  by_cases hp1 : a2 = -1
  · subst hp1
    clear hp
    go_enter Tryz.func21, Tryz.ntmps21
    go_upto_region 7 with (first | (go_at_call 89; with_reducible refine (HV0.out _).mono ?_; rintro e w1 ⟨rfl, ⟨⟨q1, rfl⟩⟩⟩) | (go_at_call 89; with_reducible refine (HV1.out _).mono ?_; rintro e w1 ⟨rfl, ⟨⟨q2, rfl⟩⟩⟩))
    have hsz : (((w.alloc (.cells #[.string ⟨#[]⟩, .int .i64 0] 29)).drewN (q1 + q2))).heap.size = w.heap.size + 1 := by simp
    have HF0 := Buf.new ((w.alloc (.cells #[.string ⟨#[]⟩, .int .i64 0] 29)).drewN (q1 + q2)) a0
    rw [hsz] at HF0
    have HB0 := Aside0.mk (bytes_below (B := w.heap.size) (pw_below_drewN (below_alloc (Below.refl w.heap.size w) (.cells #[.string ⟨#[]⟩, .int .i64 0] 29)) (q1 + q2)) (by rw [hsz]; omega) 5 a0)
    have HK0 : Aside0 ((Lib.bytesWorld ((w.alloc (.cells #[.string ⟨#[]⟩, .int .i64 0] 29)).drewN (q1 + q2)) 5 a0).heap[w.heap.size]? = some (.cells #[.string ⟨#[]⟩, .int .i64 0] 29 (0, 0))) := ⟨(Lib.bytesWorld_at_old _ 5 a0 w.heap.size (by rw [hsz]; omega)).trans (blk_drewN (heap_alloc_new w _) (q1 + q2))⟩
    have HC0 : Aside0 (n ≤ grownCap ((w.alloc (.cells #[.string ⟨#[]⟩, .int .i64 0] 29)).drewN (q1 + q2)) n 0 5) := ⟨grownCap_ge _ _ _ _⟩
    clear hsz
    generalize grownCap ((w.alloc (.cells #[.string ⟨#[]⟩, .int .i64 0] 29)).drewN (q1 + q2)) n 0 5 = cp at HC0 ⊢
    generalize Lib.bytesWorld ((w.alloc (.cells #[.string ⟨#[]⟩, .int .i64 0] 29)).drewN (q1 + q2)) 5 a0 = w2 at HF0 HB0 HK0 ⊢
    obtain ⟨g0, hg0⟩ : ∃ g0, w.heap.size + 1 = g0 := ⟨_, rfl⟩
    rw [hg0] at HF0 ⊢
    have HFA := Aside0.mk HF0
    have HG := Aside0.mk hg0
    clear HF0 hg0
    have fin : ∀ (wr : World), Below w.heap.size w wr → Buf g0 ((bytesOf a0).mapIdx (bitF .and a1 (-1))) wr → wr.heap[w.heap.size]? = some (.cells #[.string ⟨#[]⟩, .int .i64 0] 29 (0, 0)) →
        Calls Tryz.prog 90 #[.slice (some ⟨g0, 0, none⟩) n cp] wr fun e w' => e = .returned (.agg #[.string r1, .int .i64 r2]) ∧ Below w.heap.size w w' ∧ w'.heap[w.heap.size]? = some (.cells #[.string ⟨#[]⟩, .int .i64 0] 29 (0, 0)) := by
      intro wr hB hF hK
      refine (HO.out wr cp g0 HC0.out hF).mono ?_
      rintro e w' ⟨he, hb⟩
      exact ⟨he, below_step hB hb, (hb.block _ (Array.getElem?_eq_some_iff.1 hK).1).trans hK⟩
    have FIN := Lib.hid fin
    clear fin
    go_loopg [10, 11] n (fun gg s10 _ wr => ∃ kk : Nat, kk ≤ n ∧ n - kk ≤ gg ∧ s10 = .int .i64 kk ∧ Aside0 (Below w.heap.size w wr) ∧ Aside0 (Buf g0 (pmi (bitF .and a1 (-1)) kk (bytesOf a0)) wr) ∧ Aside0 (wr.heap[w.heap.size]? = some (.cells #[.string ⟨#[]⟩, .int .i64 0] 29 (0, 0))))
    case atStart => exact ⟨0, Nat.zero_le _, by omega, rfl, HB0, ⟨by rw [pmi_zero]; exact HFA.out⟩, HK0⟩
    case round =>
      obtain ⟨kk, hkk, hg, rfl, HB, HF, HK⟩ := hrel
      by_cases hlt : kk < n
      · have hltz : (kk : Int) < (n : Int) := by omega
        have hl : kk < (bytesOf a0).length := by have := HN.out; omega
        by_cases hj : kk < a1.size
        · have dj : decide ((kk : Int) < (a1.size : Int)) = true := decide_eq_true (by omega)
          have hx : ((a1[kk]'hj).toNat : Int) = bt a1 (kk : Int) := by simp [bt, hj]
          have hcell := HF.out.cell kk (by rw [pmi_length]; exact hl)
          rw [pmi_at _ kk _ hl] at hcell
          have hfree := HF.out.free kk (by rw [pmi_length]; exact hl)
          have HS := Aside0.mk (HF.out.set kk (bitF .and a1 (-1) kk ((bytesOf a0).getD kk 0)) (by rw [pmi_length]; exact hl))
          rw [pmi_set _ kk _ hl] at HS
          generalize (bytesOf a0).getD kk 0 = y at hcell HS
          rw [bitF, if_pos hj] at HS
          clear hl
          go_wp2
          go_roundg (n - (kk + 1))
          case measure => omega
          case rel =>
            refine ⟨kk + 1, by omega, by omega, by go_num, ⟨below_set HB.out (by have := HG.out; omega)⟩, HS, ⟨(Below.heap_setCell _ _ _ _ (by have := HG.out; simp; omega)).trans HK.out⟩⟩
        · have dj : decide ((kk : Int) < (a1.size : Int)) = false := decide_eq_false (by omega)
          have HE : Aside0 (Buf g0 ((bytesOf a0).mapIdx (bitF .and a1 (-1))) wr) := ⟨by
            have e : (bytesOf a0).mapIdx (bitF .and a1 (-1)) = pmi (bitF .and a1 (-1)) kk (bytesOf a0) := by
              apply List.ext_getElem?
              intro i
              simp only [pmi, List.getElem?_mapIdx]
              by_cases hi : i < kk
              · simp [hi]
              · simp only [hi, if_false]
                have : bitF .and a1 (-1) i = fun x => x := by
                  funext x
                  rw [bitF, if_neg (by omega), if_pos rfl]
                rw [this]
            rw [e]; exact HF.out⟩
          have HRA := Lib.hid (FIN.out wr HB.out HE.out HK.out)
          clear HE hl
          go_wp2_with (go_at_call 90; refine HRA.out.mono ?_; rintro e w3 ⟨rfl, hb3, hk3⟩; have c0 : w3.cell? ⟨w.heap.size, 0, none⟩ = some (.string ⟨#[]⟩) := (blk_cell hk3 0).trans rfl; have c1 : w3.cell? ⟨w.heap.size, 1, none⟩ = some (.int .i64 0) := (blk_cell hk3 1).trans rfl; have f0 := blk_frozen hk3 0; have f1 := blk_frozen hk3 1; have HK3 := Aside0.mk hk3; have HB3 := Aside0.mk hb3; clear hk3 hb3)
          refine bodyPost_ret (results_cell_row rfl _ _ w.heap.size 29 #[.string r1, .int .i64 r2] (0, 0) _ rfl (blk_put (cs := #[.string r1, .int .i64 0]) (blk_put (cs := #[.string ⟨#[]⟩, .int .i64 0]) HK3.out 0 _ rfl) 1 _ rfl) Tryz.underlying29 rfl (by kernel_rfl)) rfl ?_
          exact ⟨rfl, below_set (below_set HB3.out (Nat.le_refl _)) (Nat.le_refl _)⟩
      · obtain rfl : kk = n := by omega
        have HR := HF.out
        rw [← HN.out, pmi_all] at HR
        have HRA := Lib.hid (FIN.out wr HB.out HR HK.out)
        clear HR
        go_wp2_with (go_at_call 90; refine HRA.out.mono ?_; rintro e w3 ⟨rfl, hb3, hk3⟩; have c0 : w3.cell? ⟨w.heap.size, 0, none⟩ = some (.string ⟨#[]⟩) := (blk_cell hk3 0).trans rfl; have c1 : w3.cell? ⟨w.heap.size, 1, none⟩ = some (.int .i64 0) := (blk_cell hk3 1).trans rfl; have f0 := blk_frozen hk3 0; have f1 := blk_frozen hk3 1; have HK3 := Aside0.mk hk3; have HB3 := Aside0.mk hb3; clear hk3 hb3)
        refine bodyPost_ret (results_cell_row rfl _ _ w.heap.size 29 #[.string r1, .int .i64 r2] (0, 0) _ rfl (blk_put (cs := #[.string r1, .int .i64 0]) (blk_put (cs := #[.string ⟨#[]⟩, .int .i64 0]) HK3.out 0 _ rfl) 1 _ rfl) Tryz.underlying29 rfl (by kernel_rfl)) rfl ?_
        exact ⟨rfl, below_set (below_set HB3.out (Nat.le_refl _)) (Nat.le_refl _)⟩
  · have e1 : (a2 != -1) = true := bne_iff_ne.mpr hp1
    have e1b : (a2 == -1) = false := beq_eq_false_iff_ne.mpr hp1
    have hp2 : 32 ≤ a2 ∧ a2 ≤ 126 := hp.resolve_left hp1
    have e3 : decide (a2 < 32) = false := decide_eq_false (by omega)
    have e4 : decide (126 < a2) = false := decide_eq_false (by omega)
    have e5 : IntKind.u8.wrap a2 = a2 := u8w _ (by omega) (by omega)
    clear hp hp2
    go_enter Tryz.func21, Tryz.ntmps21
    go_upto_region 7 with (first | (go_at_call 89; with_reducible refine (HV0.out _).mono ?_; rintro e w1 ⟨rfl, ⟨⟨q1, rfl⟩⟩⟩) | (go_at_call 89; with_reducible refine (HV1.out _).mono ?_; rintro e w1 ⟨rfl, ⟨⟨q2, rfl⟩⟩⟩))
    have hsz : (((w.alloc (.cells #[.string ⟨#[]⟩, .int .i64 0] 29)).drewN (q1 + q2))).heap.size = w.heap.size + 1 := by simp
    have HF0 := Buf.new ((w.alloc (.cells #[.string ⟨#[]⟩, .int .i64 0] 29)).drewN (q1 + q2)) a0
    rw [hsz] at HF0
    have HB0 := Aside0.mk (bytes_below (B := w.heap.size) (pw_below_drewN (below_alloc (Below.refl w.heap.size w) (.cells #[.string ⟨#[]⟩, .int .i64 0] 29)) (q1 + q2)) (by rw [hsz]; omega) 5 a0)
    have HK0 : Aside0 ((Lib.bytesWorld ((w.alloc (.cells #[.string ⟨#[]⟩, .int .i64 0] 29)).drewN (q1 + q2)) 5 a0).heap[w.heap.size]? = some (.cells #[.string ⟨#[]⟩, .int .i64 0] 29 (0, 0))) := ⟨(Lib.bytesWorld_at_old _ 5 a0 w.heap.size (by rw [hsz]; omega)).trans (blk_drewN (heap_alloc_new w _) (q1 + q2))⟩
    have HC0 : Aside0 (n ≤ grownCap ((w.alloc (.cells #[.string ⟨#[]⟩, .int .i64 0] 29)).drewN (q1 + q2)) n 0 5) := ⟨grownCap_ge _ _ _ _⟩
    clear hsz
    generalize grownCap ((w.alloc (.cells #[.string ⟨#[]⟩, .int .i64 0] 29)).drewN (q1 + q2)) n 0 5 = cp at HC0 ⊢
    generalize Lib.bytesWorld ((w.alloc (.cells #[.string ⟨#[]⟩, .int .i64 0] 29)).drewN (q1 + q2)) 5 a0 = w2 at HF0 HB0 HK0 ⊢
    obtain ⟨g0, hg0⟩ : ∃ g0, w.heap.size + 1 = g0 := ⟨_, rfl⟩
    rw [hg0] at HF0 ⊢
    have HFA := Aside0.mk HF0
    have HG := Aside0.mk hg0
    clear HF0 hg0
    have fin : ∀ (wr : World), Below w.heap.size w wr → Buf g0 ((bytesOf a0).mapIdx (bitF .and a1 a2)) wr → wr.heap[w.heap.size]? = some (.cells #[.string ⟨#[]⟩, .int .i64 0] 29 (0, 0)) →
        Calls Tryz.prog 90 #[.slice (some ⟨g0, 0, none⟩) n cp] wr fun e w' => e = .returned (.agg #[.string r1, .int .i64 r2]) ∧ Below w.heap.size w w' ∧ w'.heap[w.heap.size]? = some (.cells #[.string ⟨#[]⟩, .int .i64 0] 29 (0, 0)) := by
      intro wr hB hF hK
      refine (HO.out wr cp g0 HC0.out hF).mono ?_
      rintro e w' ⟨he, hb⟩
      exact ⟨he, below_step hB hb, (hb.block _ (Array.getElem?_eq_some_iff.1 hK).1).trans hK⟩
    have FIN := Lib.hid fin
    clear fin
    go_loopg [10, 11] n (fun gg s10 _ wr => ∃ kk : Nat, kk ≤ n ∧ n - kk ≤ gg ∧ s10 = .int .i64 kk ∧ Aside0 (Below w.heap.size w wr) ∧ Aside0 (Buf g0 (pmi (bitF .and a1 a2) kk (bytesOf a0)) wr) ∧ Aside0 (wr.heap[w.heap.size]? = some (.cells #[.string ⟨#[]⟩, .int .i64 0] 29 (0, 0))))
    case atStart => exact ⟨0, Nat.zero_le _, by omega, rfl, HB0, ⟨by rw [pmi_zero]; exact HFA.out⟩, HK0⟩
    case round =>
      obtain ⟨kk, hkk, hg, rfl, HB, HF, HK⟩ := hrel
      by_cases hlt : kk < n
      · have hltz : (kk : Int) < (n : Int) := by omega
        have hl : kk < (bytesOf a0).length := by have := HN.out; omega
        by_cases hj : kk < a1.size
        · have dj : decide ((kk : Int) < (a1.size : Int)) = true := decide_eq_true (by omega)
          have hx : ((a1[kk]'hj).toNat : Int) = bt a1 (kk : Int) := by simp [bt, hj]
          have hcell := HF.out.cell kk (by rw [pmi_length]; exact hl)
          rw [pmi_at _ kk _ hl] at hcell
          have hfree := HF.out.free kk (by rw [pmi_length]; exact hl)
          have HS := Aside0.mk (HF.out.set kk (bitF .and a1 a2 kk ((bytesOf a0).getD kk 0)) (by rw [pmi_length]; exact hl))
          rw [pmi_set _ kk _ hl] at HS
          generalize (bytesOf a0).getD kk 0 = y at hcell HS
          rw [bitF, if_pos hj] at HS
          clear hl
          go_wp2
          go_roundg (n - (kk + 1))
          case measure => omega
          case rel =>
            refine ⟨kk + 1, by omega, by omega, by go_num, ⟨below_set HB.out (by have := HG.out; omega)⟩, HS, ⟨(Below.heap_setCell _ _ _ _ (by have := HG.out; simp; omega)).trans HK.out⟩⟩
        · have dj : decide ((kk : Int) < (a1.size : Int)) = false := decide_eq_false (by omega)
          have hcell := HF.out.cell kk (by rw [pmi_length]; exact hl)
          rw [pmi_at _ kk _ hl] at hcell
          have hfree := HF.out.free kk (by rw [pmi_length]; exact hl)
          have HS := Aside0.mk (HF.out.set kk (bitF .and a1 a2 kk ((bytesOf a0).getD kk 0)) (by rw [pmi_length]; exact hl))
          rw [pmi_set _ kk _ hl] at HS
          generalize (bytesOf a0).getD kk 0 = y at hcell HS
          rw [bitF, if_neg hj, if_neg hp1, e5] at HS
          clear hl
          go_wp2
          go_roundg (n - (kk + 1))
          case measure => omega
          case rel =>
            refine ⟨kk + 1, by omega, by omega, by go_num, ⟨below_set HB.out (by have := HG.out; omega)⟩, HS, ⟨(Below.heap_setCell _ _ _ _ (by have := HG.out; simp; omega)).trans HK.out⟩⟩
      · obtain rfl : kk = n := by omega
        have HR := HF.out
        rw [← HN.out, pmi_all] at HR
        have HRA := Lib.hid (FIN.out wr HB.out HR HK.out)
        clear HR
        go_wp2_with (go_at_call 90; refine HRA.out.mono ?_; rintro e w3 ⟨rfl, hb3, hk3⟩; have c0 : w3.cell? ⟨w.heap.size, 0, none⟩ = some (.string ⟨#[]⟩) := (blk_cell hk3 0).trans rfl; have c1 : w3.cell? ⟨w.heap.size, 1, none⟩ = some (.int .i64 0) := (blk_cell hk3 1).trans rfl; have f0 := blk_frozen hk3 0; have f1 := blk_frozen hk3 1; have HK3 := Aside0.mk hk3; have HB3 := Aside0.mk hb3; clear hk3 hb3)
        refine bodyPost_ret (results_cell_row rfl _ _ w.heap.size 29 #[.string r1, .int .i64 r2] (0, 0) _ rfl (blk_put (cs := #[.string r1, .int .i64 0]) (blk_put (cs := #[.string ⟨#[]⟩, .int .i64 0]) HK3.out 0 _ rfl) 1 _ rfl) Tryz.underlying29 rfl (by kernel_rfl)) rfl ?_
        exact ⟨rfl, below_set (below_set HB3.out (Nat.le_refl _)) (Nat.le_refl _)⟩
end Go.Proofs.YtlekfhnlhdmekaaGreatDoor.T

/- The reference's Bits, operation 1, returns what bitS says. -/
namespace Go.Proofs.YtlekfhnlhdmekaaGreatDoor.T
set_option linter.unusedVariables false
open Go.RowKit Go.Proofs.YtlekfhnlhdmekaaGreatDoorW.PrintWords Go.Proofs.YtlekfhnlhdmekaaGreatDoorW.PrintLast Go.Proofs.YtlekfhnlhdmekaaGreatDoorW.PrintMore

set_option maxRecDepth 100000 in
set_option maxHeartbeats 4000000 in
theorem refBits1 (a0 a1 : ByteArray) (a2 : Int) (r1 : ByteArray) (r2 : Int) (w : World) (hz0 : a0.size ≤ 100000) (hz1 : a1.size ≤ 100000)
    (hv : vld a0 = true ∧ vld a1 = true) (hp : a2 = -1 ∨ 32 ≤ a2 ∧ a2 ≤ 126) (hs : a1.size ≤ a0.size)
    (h : qanatref02_out.f ((bytesOf a0).mapIdx (bitF .or a1 a2)) = some (r1, r2)) :
    Calls Tryz.prog 21 #[.int .i64 1, .string a0, .string a1, .int .i64 a2] w fun e w' => e = .returned (.agg #[.string r1, .int .i64 r2]) ∧ Below w.heap.size w w' := by
  have hu29 := Tryz.underlying29
  have HV0 := Lib.hid (fun W => qanatref02_Valid.calls a0 true W (by unfold qanatref02_Valid.f; rw [hv.1]))
  have HV1 := Lib.hid (fun W => qanatref02_Valid.calls a1 true W (by unfold qanatref02_Valid.f; rw [hv.2]))
  obtain ⟨n, hn⟩ : ∃ n, a0.size = n := ⟨_, rfl⟩
  have HN : Aside0 ((bytesOf a0).length = n) := ⟨by rw [bytesOf_length]; exact hn⟩
  have HO := Lib.hid (fun W c g hc (hB : Buf g ((bytesOf a0).mapIdx (bitF .or a1 a2)) W) => qanatref02_out.calls (some ⟨g, 0, none⟩) c ((bytesOf a0).mapIdx (bitF .or a1 a2)) r1 r2 W
    (Kd.C_of_reads (d := (0 : Int)) (h1 := fun _ => rfl) (hB.reads (by rw [List.length_mapIdx]; have := HN.out; omega))) hc h)
  simp only [List.length_mapIdx, HN.out] at HO
  have kb := fun W => print_bytes (P := Tryz.prog) 9 83 5 Tryz.underlying9 Tryz.underlying83 Tryz.underlying5 a0 W
  rw [hn] at kb
  have hn2 : n ≤ 100000 := by omega
  have d1 : decide ((n : Int) < (a1.size : Int)) = false := decide_eq_false (by omega)
  have d2 : decide (n < a1.size) = false := decide_eq_false (by omega)
  clear hv h hz0 hz1
  by_cases hp1 : a2 = -1
  · subst hp1
    clear hp
    go_enter Tryz.func21, Tryz.ntmps21
    go_upto_region 7 with (first | (go_at_call 89; with_reducible refine (HV0.out _).mono ?_; rintro e w1 ⟨rfl, ⟨⟨q1, rfl⟩⟩⟩) | (go_at_call 89; with_reducible refine (HV1.out _).mono ?_; rintro e w1 ⟨rfl, ⟨⟨q2, rfl⟩⟩⟩))
    have hsz : (((w.alloc (.cells #[.string ⟨#[]⟩, .int .i64 0] 29)).drewN (q1 + q2))).heap.size = w.heap.size + 1 := by simp
    have HF0 := Buf.new ((w.alloc (.cells #[.string ⟨#[]⟩, .int .i64 0] 29)).drewN (q1 + q2)) a0
    rw [hsz] at HF0
    have HB0 := Aside0.mk (bytes_below (B := w.heap.size) (pw_below_drewN (below_alloc (Below.refl w.heap.size w) (.cells #[.string ⟨#[]⟩, .int .i64 0] 29)) (q1 + q2)) (by rw [hsz]; omega) 5 a0)
    have HK0 : Aside0 ((Lib.bytesWorld ((w.alloc (.cells #[.string ⟨#[]⟩, .int .i64 0] 29)).drewN (q1 + q2)) 5 a0).heap[w.heap.size]? = some (.cells #[.string ⟨#[]⟩, .int .i64 0] 29 (0, 0))) := ⟨(Lib.bytesWorld_at_old _ 5 a0 w.heap.size (by rw [hsz]; omega)).trans (blk_drewN (heap_alloc_new w _) (q1 + q2))⟩
    have HC0 : Aside0 (n ≤ grownCap ((w.alloc (.cells #[.string ⟨#[]⟩, .int .i64 0] 29)).drewN (q1 + q2)) n 0 5) := ⟨grownCap_ge _ _ _ _⟩
    clear hsz
    generalize grownCap ((w.alloc (.cells #[.string ⟨#[]⟩, .int .i64 0] 29)).drewN (q1 + q2)) n 0 5 = cp at HC0 ⊢
    generalize Lib.bytesWorld ((w.alloc (.cells #[.string ⟨#[]⟩, .int .i64 0] 29)).drewN (q1 + q2)) 5 a0 = w2 at HF0 HB0 HK0 ⊢
    obtain ⟨g0, hg0⟩ : ∃ g0, w.heap.size + 1 = g0 := ⟨_, rfl⟩
    rw [hg0] at HF0 ⊢
    have HFA := Aside0.mk HF0
    have HG := Aside0.mk hg0
    clear HF0 hg0
    have fin : ∀ (wr : World), Below w.heap.size w wr → Buf g0 ((bytesOf a0).mapIdx (bitF .or a1 (-1))) wr → wr.heap[w.heap.size]? = some (.cells #[.string ⟨#[]⟩, .int .i64 0] 29 (0, 0)) →
        Calls Tryz.prog 90 #[.slice (some ⟨g0, 0, none⟩) n cp] wr fun e w' => e = .returned (.agg #[.string r1, .int .i64 r2]) ∧ Below w.heap.size w w' ∧ w'.heap[w.heap.size]? = some (.cells #[.string ⟨#[]⟩, .int .i64 0] 29 (0, 0)) := by
      intro wr hB hF hK
      refine (HO.out wr cp g0 HC0.out hF).mono ?_
      rintro e w' ⟨he, hb⟩
      exact ⟨he, below_step hB hb, (hb.block _ (Array.getElem?_eq_some_iff.1 hK).1).trans hK⟩
    have FIN := Lib.hid fin
    clear fin
    go_loopg [10, 11] n (fun gg s10 _ wr => ∃ kk : Nat, kk ≤ n ∧ n - kk ≤ gg ∧ s10 = .int .i64 kk ∧ Aside0 (Below w.heap.size w wr) ∧ Aside0 (Buf g0 (pmi (bitF .or a1 (-1)) kk (bytesOf a0)) wr) ∧ Aside0 (wr.heap[w.heap.size]? = some (.cells #[.string ⟨#[]⟩, .int .i64 0] 29 (0, 0))))
    case atStart => exact ⟨0, Nat.zero_le _, by omega, rfl, HB0, ⟨by rw [pmi_zero]; exact HFA.out⟩, HK0⟩
    case round =>
      obtain ⟨kk, hkk, hg, rfl, HB, HF, HK⟩ := hrel
      by_cases hlt : kk < n
      · have hltz : (kk : Int) < (n : Int) := by omega
        have hl : kk < (bytesOf a0).length := by have := HN.out; omega
        by_cases hj : kk < a1.size
        · have dj : decide ((kk : Int) < (a1.size : Int)) = true := decide_eq_true (by omega)
          have hx : ((a1[kk]'hj).toNat : Int) = bt a1 (kk : Int) := by simp [bt, hj]
          have hcell := HF.out.cell kk (by rw [pmi_length]; exact hl)
          rw [pmi_at _ kk _ hl] at hcell
          have hfree := HF.out.free kk (by rw [pmi_length]; exact hl)
          have HS := Aside0.mk (HF.out.set kk (bitF .or a1 (-1) kk ((bytesOf a0).getD kk 0)) (by rw [pmi_length]; exact hl))
          rw [pmi_set _ kk _ hl] at HS
          generalize (bytesOf a0).getD kk 0 = y at hcell HS
          rw [bitF, if_pos hj] at HS
          clear hl
          go_wp2
          go_roundg (n - (kk + 1))
          case measure => omega
          case rel =>
            refine ⟨kk + 1, by omega, by omega, by go_num, ⟨below_set HB.out (by have := HG.out; omega)⟩, HS, ⟨(Below.heap_setCell _ _ _ _ (by have := HG.out; simp; omega)).trans HK.out⟩⟩
        · have dj : decide ((kk : Int) < (a1.size : Int)) = false := decide_eq_false (by omega)
          have HE : Aside0 (Buf g0 ((bytesOf a0).mapIdx (bitF .or a1 (-1))) wr) := ⟨by
            have e : (bytesOf a0).mapIdx (bitF .or a1 (-1)) = pmi (bitF .or a1 (-1)) kk (bytesOf a0) := by
              apply List.ext_getElem?
              intro i
              simp only [pmi, List.getElem?_mapIdx]
              by_cases hi : i < kk
              · simp [hi]
              · simp only [hi, if_false]
                have : bitF .or a1 (-1) i = fun x => x := by
                  funext x
                  rw [bitF, if_neg (by omega), if_pos rfl]
                rw [this]
            rw [e]; exact HF.out⟩
          have HRA := Lib.hid (FIN.out wr HB.out HE.out HK.out)
          clear HE hl
          go_wp2_with (go_at_call 90; refine HRA.out.mono ?_; rintro e w3 ⟨rfl, hb3, hk3⟩; have c0 : w3.cell? ⟨w.heap.size, 0, none⟩ = some (.string ⟨#[]⟩) := (blk_cell hk3 0).trans rfl; have c1 : w3.cell? ⟨w.heap.size, 1, none⟩ = some (.int .i64 0) := (blk_cell hk3 1).trans rfl; have f0 := blk_frozen hk3 0; have f1 := blk_frozen hk3 1; have HK3 := Aside0.mk hk3; have HB3 := Aside0.mk hb3; clear hk3 hb3)
          refine bodyPost_ret (results_cell_row rfl _ _ w.heap.size 29 #[.string r1, .int .i64 r2] (0, 0) _ rfl (blk_put (cs := #[.string r1, .int .i64 0]) (blk_put (cs := #[.string ⟨#[]⟩, .int .i64 0]) HK3.out 0 _ rfl) 1 _ rfl) Tryz.underlying29 rfl (by kernel_rfl)) rfl ?_
          exact ⟨rfl, below_set (below_set HB3.out (Nat.le_refl _)) (Nat.le_refl _)⟩
      · obtain rfl : kk = n := by omega
        have HR := HF.out
        rw [← HN.out, pmi_all] at HR
        have HRA := Lib.hid (FIN.out wr HB.out HR HK.out)
        clear HR
        go_wp2_with (go_at_call 90; refine HRA.out.mono ?_; rintro e w3 ⟨rfl, hb3, hk3⟩; have c0 : w3.cell? ⟨w.heap.size, 0, none⟩ = some (.string ⟨#[]⟩) := (blk_cell hk3 0).trans rfl; have c1 : w3.cell? ⟨w.heap.size, 1, none⟩ = some (.int .i64 0) := (blk_cell hk3 1).trans rfl; have f0 := blk_frozen hk3 0; have f1 := blk_frozen hk3 1; have HK3 := Aside0.mk hk3; have HB3 := Aside0.mk hb3; clear hk3 hb3)
        refine bodyPost_ret (results_cell_row rfl _ _ w.heap.size 29 #[.string r1, .int .i64 r2] (0, 0) _ rfl (blk_put (cs := #[.string r1, .int .i64 0]) (blk_put (cs := #[.string ⟨#[]⟩, .int .i64 0]) HK3.out 0 _ rfl) 1 _ rfl) Tryz.underlying29 rfl (by kernel_rfl)) rfl ?_
        exact ⟨rfl, below_set (below_set HB3.out (Nat.le_refl _)) (Nat.le_refl _)⟩
  · have e1 : (a2 != -1) = true := bne_iff_ne.mpr hp1
    have e1b : (a2 == -1) = false := beq_eq_false_iff_ne.mpr hp1
    have hp2 : 32 ≤ a2 ∧ a2 ≤ 126 := hp.resolve_left hp1
    have e3 : decide (a2 < 32) = false := decide_eq_false (by omega)
    have e4 : decide (126 < a2) = false := decide_eq_false (by omega)
    have e5 : IntKind.u8.wrap a2 = a2 := u8w _ (by omega) (by omega)
    clear hp hp2
    go_enter Tryz.func21, Tryz.ntmps21
    go_upto_region 7 with (first | (go_at_call 89; with_reducible refine (HV0.out _).mono ?_; rintro e w1 ⟨rfl, ⟨⟨q1, rfl⟩⟩⟩) | (go_at_call 89; with_reducible refine (HV1.out _).mono ?_; rintro e w1 ⟨rfl, ⟨⟨q2, rfl⟩⟩⟩))
    have hsz : (((w.alloc (.cells #[.string ⟨#[]⟩, .int .i64 0] 29)).drewN (q1 + q2))).heap.size = w.heap.size + 1 := by simp
    have HF0 := Buf.new ((w.alloc (.cells #[.string ⟨#[]⟩, .int .i64 0] 29)).drewN (q1 + q2)) a0
    rw [hsz] at HF0
    have HB0 := Aside0.mk (bytes_below (B := w.heap.size) (pw_below_drewN (below_alloc (Below.refl w.heap.size w) (.cells #[.string ⟨#[]⟩, .int .i64 0] 29)) (q1 + q2)) (by rw [hsz]; omega) 5 a0)
    have HK0 : Aside0 ((Lib.bytesWorld ((w.alloc (.cells #[.string ⟨#[]⟩, .int .i64 0] 29)).drewN (q1 + q2)) 5 a0).heap[w.heap.size]? = some (.cells #[.string ⟨#[]⟩, .int .i64 0] 29 (0, 0))) := ⟨(Lib.bytesWorld_at_old _ 5 a0 w.heap.size (by rw [hsz]; omega)).trans (blk_drewN (heap_alloc_new w _) (q1 + q2))⟩
    have HC0 : Aside0 (n ≤ grownCap ((w.alloc (.cells #[.string ⟨#[]⟩, .int .i64 0] 29)).drewN (q1 + q2)) n 0 5) := ⟨grownCap_ge _ _ _ _⟩
    clear hsz
    generalize grownCap ((w.alloc (.cells #[.string ⟨#[]⟩, .int .i64 0] 29)).drewN (q1 + q2)) n 0 5 = cp at HC0 ⊢
    generalize Lib.bytesWorld ((w.alloc (.cells #[.string ⟨#[]⟩, .int .i64 0] 29)).drewN (q1 + q2)) 5 a0 = w2 at HF0 HB0 HK0 ⊢
    obtain ⟨g0, hg0⟩ : ∃ g0, w.heap.size + 1 = g0 := ⟨_, rfl⟩
    rw [hg0] at HF0 ⊢
    have HFA := Aside0.mk HF0
    have HG := Aside0.mk hg0
    clear HF0 hg0
    have fin : ∀ (wr : World), Below w.heap.size w wr → Buf g0 ((bytesOf a0).mapIdx (bitF .or a1 a2)) wr → wr.heap[w.heap.size]? = some (.cells #[.string ⟨#[]⟩, .int .i64 0] 29 (0, 0)) →
        Calls Tryz.prog 90 #[.slice (some ⟨g0, 0, none⟩) n cp] wr fun e w' => e = .returned (.agg #[.string r1, .int .i64 r2]) ∧ Below w.heap.size w w' ∧ w'.heap[w.heap.size]? = some (.cells #[.string ⟨#[]⟩, .int .i64 0] 29 (0, 0)) := by
      intro wr hB hF hK
      refine (HO.out wr cp g0 HC0.out hF).mono ?_
      rintro e w' ⟨he, hb⟩
      exact ⟨he, below_step hB hb, (hb.block _ (Array.getElem?_eq_some_iff.1 hK).1).trans hK⟩
    have FIN := Lib.hid fin
    clear fin
    go_loopg [10, 11] n (fun gg s10 _ wr => ∃ kk : Nat, kk ≤ n ∧ n - kk ≤ gg ∧ s10 = .int .i64 kk ∧ Aside0 (Below w.heap.size w wr) ∧ Aside0 (Buf g0 (pmi (bitF .or a1 a2) kk (bytesOf a0)) wr) ∧ Aside0 (wr.heap[w.heap.size]? = some (.cells #[.string ⟨#[]⟩, .int .i64 0] 29 (0, 0))))
    case atStart => exact ⟨0, Nat.zero_le _, by omega, rfl, HB0, ⟨by rw [pmi_zero]; exact HFA.out⟩, HK0⟩
    case round =>
      obtain ⟨kk, hkk, hg, rfl, HB, HF, HK⟩ := hrel
      by_cases hlt : kk < n
      · have hltz : (kk : Int) < (n : Int) := by omega
        have hl : kk < (bytesOf a0).length := by have := HN.out; omega
        by_cases hj : kk < a1.size
        · have dj : decide ((kk : Int) < (a1.size : Int)) = true := decide_eq_true (by omega)
          have hx : ((a1[kk]'hj).toNat : Int) = bt a1 (kk : Int) := by simp [bt, hj]
          have hcell := HF.out.cell kk (by rw [pmi_length]; exact hl)
          rw [pmi_at _ kk _ hl] at hcell
          have hfree := HF.out.free kk (by rw [pmi_length]; exact hl)
          have HS := Aside0.mk (HF.out.set kk (bitF .or a1 a2 kk ((bytesOf a0).getD kk 0)) (by rw [pmi_length]; exact hl))
          rw [pmi_set _ kk _ hl] at HS
          generalize (bytesOf a0).getD kk 0 = y at hcell HS
          rw [bitF, if_pos hj] at HS
          clear hl
          go_wp2
          go_roundg (n - (kk + 1))
          case measure => omega
          case rel =>
            refine ⟨kk + 1, by omega, by omega, by go_num, ⟨below_set HB.out (by have := HG.out; omega)⟩, HS, ⟨(Below.heap_setCell _ _ _ _ (by have := HG.out; simp; omega)).trans HK.out⟩⟩
        · have dj : decide ((kk : Int) < (a1.size : Int)) = false := decide_eq_false (by omega)
          have hcell := HF.out.cell kk (by rw [pmi_length]; exact hl)
          rw [pmi_at _ kk _ hl] at hcell
          have hfree := HF.out.free kk (by rw [pmi_length]; exact hl)
          have HS := Aside0.mk (HF.out.set kk (bitF .or a1 a2 kk ((bytesOf a0).getD kk 0)) (by rw [pmi_length]; exact hl))
          rw [pmi_set _ kk _ hl] at HS
          generalize (bytesOf a0).getD kk 0 = y at hcell HS
          rw [bitF, if_neg hj, if_neg hp1, e5] at HS
          clear hl
          go_wp2
          go_roundg (n - (kk + 1))
          case measure => omega
          case rel =>
            refine ⟨kk + 1, by omega, by omega, by go_num, ⟨below_set HB.out (by have := HG.out; omega)⟩, HS, ⟨(Below.heap_setCell _ _ _ _ (by have := HG.out; simp; omega)).trans HK.out⟩⟩
      · obtain rfl : kk = n := by omega
        have HR := HF.out
        rw [← HN.out, pmi_all] at HR
        have HRA := Lib.hid (FIN.out wr HB.out HR HK.out)
        clear HR
        go_wp2_with (go_at_call 90; refine HRA.out.mono ?_; rintro e w3 ⟨rfl, hb3, hk3⟩; have c0 : w3.cell? ⟨w.heap.size, 0, none⟩ = some (.string ⟨#[]⟩) := (blk_cell hk3 0).trans rfl; have c1 : w3.cell? ⟨w.heap.size, 1, none⟩ = some (.int .i64 0) := (blk_cell hk3 1).trans rfl; have f0 := blk_frozen hk3 0; have f1 := blk_frozen hk3 1; have HK3 := Aside0.mk hk3; have HB3 := Aside0.mk hb3; clear hk3 hb3)
        refine bodyPost_ret (results_cell_row rfl _ _ w.heap.size 29 #[.string r1, .int .i64 r2] (0, 0) _ rfl (blk_put (cs := #[.string r1, .int .i64 0]) (blk_put (cs := #[.string ⟨#[]⟩, .int .i64 0]) HK3.out 0 _ rfl) 1 _ rfl) Tryz.underlying29 rfl (by kernel_rfl)) rfl ?_
        exact ⟨rfl, below_set (below_set HB3.out (Nat.le_refl _)) (Nat.le_refl _)⟩
end Go.Proofs.YtlekfhnlhdmekaaGreatDoor.T

/- The reference's Bits, operation 2, returns what bitS says. -/
namespace Go.Proofs.YtlekfhnlhdmekaaGreatDoor.T
set_option linter.unusedVariables false
open Go.RowKit Go.Proofs.YtlekfhnlhdmekaaGreatDoorW.PrintWords Go.Proofs.YtlekfhnlhdmekaaGreatDoorW.PrintLast Go.Proofs.YtlekfhnlhdmekaaGreatDoorW.PrintMore

set_option maxRecDepth 100000 in
set_option maxHeartbeats 4000000 in
theorem refBits2 (a0 a1 : ByteArray) (a2 : Int) (r1 : ByteArray) (r2 : Int) (w : World) (hz0 : a0.size ≤ 100000) (hz1 : a1.size ≤ 100000)
    (hv : vld a0 = true ∧ vld a1 = true) (hp : a2 = -1 ∨ 32 ≤ a2 ∧ a2 ≤ 126) (hs : a1.size ≤ a0.size)
    (h : qanatref02_out.f ((bytesOf a0).mapIdx (bitF .xor a1 a2)) = some (r1, r2)) :
    Calls Tryz.prog 21 #[.int .i64 2, .string a0, .string a1, .int .i64 a2] w fun e w' => e = .returned (.agg #[.string r1, .int .i64 r2]) ∧ Below w.heap.size w w' := by
  have hu29 := Tryz.underlying29
  have HV0 := Lib.hid (fun W => qanatref02_Valid.calls a0 true W (by unfold qanatref02_Valid.f; rw [hv.1]))
  have HV1 := Lib.hid (fun W => qanatref02_Valid.calls a1 true W (by unfold qanatref02_Valid.f; rw [hv.2]))
  obtain ⟨n, hn⟩ : ∃ n, a0.size = n := ⟨_, rfl⟩
  have HN : Aside0 ((bytesOf a0).length = n) := ⟨by rw [bytesOf_length]; exact hn⟩
  have HO := Lib.hid (fun W c g hc (hB : Buf g ((bytesOf a0).mapIdx (bitF .xor a1 a2)) W) => qanatref02_out.calls (some ⟨g, 0, none⟩) c ((bytesOf a0).mapIdx (bitF .xor a1 a2)) r1 r2 W
    (Kd.C_of_reads (d := (0 : Int)) (h1 := fun _ => rfl) (hB.reads (by rw [List.length_mapIdx]; have := HN.out; omega))) hc h)
  simp only [List.length_mapIdx, HN.out] at HO
  have kb := fun W => print_bytes (P := Tryz.prog) 9 83 5 Tryz.underlying9 Tryz.underlying83 Tryz.underlying5 a0 W
  rw [hn] at kb
  have hn2 : n ≤ 100000 := by omega
  have d1 : decide ((n : Int) < (a1.size : Int)) = false := decide_eq_false (by omega)
  have d2 : decide (n < a1.size) = false := decide_eq_false (by omega)
  clear hv h hz0 hz1
  by_cases hp1 : a2 = -1
  · subst hp1
    clear hp
    go_enter Tryz.func21, Tryz.ntmps21
    go_upto_region 7 with (first | (go_at_call 89; with_reducible refine (HV0.out _).mono ?_; rintro e w1 ⟨rfl, ⟨⟨q1, rfl⟩⟩⟩) | (go_at_call 89; with_reducible refine (HV1.out _).mono ?_; rintro e w1 ⟨rfl, ⟨⟨q2, rfl⟩⟩⟩))
    have hsz : (((w.alloc (.cells #[.string ⟨#[]⟩, .int .i64 0] 29)).drewN (q1 + q2))).heap.size = w.heap.size + 1 := by simp
    have HF0 := Buf.new ((w.alloc (.cells #[.string ⟨#[]⟩, .int .i64 0] 29)).drewN (q1 + q2)) a0
    rw [hsz] at HF0
    have HB0 := Aside0.mk (bytes_below (B := w.heap.size) (pw_below_drewN (below_alloc (Below.refl w.heap.size w) (.cells #[.string ⟨#[]⟩, .int .i64 0] 29)) (q1 + q2)) (by rw [hsz]; omega) 5 a0)
    have HK0 : Aside0 ((Lib.bytesWorld ((w.alloc (.cells #[.string ⟨#[]⟩, .int .i64 0] 29)).drewN (q1 + q2)) 5 a0).heap[w.heap.size]? = some (.cells #[.string ⟨#[]⟩, .int .i64 0] 29 (0, 0))) := ⟨(Lib.bytesWorld_at_old _ 5 a0 w.heap.size (by rw [hsz]; omega)).trans (blk_drewN (heap_alloc_new w _) (q1 + q2))⟩
    have HC0 : Aside0 (n ≤ grownCap ((w.alloc (.cells #[.string ⟨#[]⟩, .int .i64 0] 29)).drewN (q1 + q2)) n 0 5) := ⟨grownCap_ge _ _ _ _⟩
    clear hsz
    generalize grownCap ((w.alloc (.cells #[.string ⟨#[]⟩, .int .i64 0] 29)).drewN (q1 + q2)) n 0 5 = cp at HC0 ⊢
    generalize Lib.bytesWorld ((w.alloc (.cells #[.string ⟨#[]⟩, .int .i64 0] 29)).drewN (q1 + q2)) 5 a0 = w2 at HF0 HB0 HK0 ⊢
    obtain ⟨g0, hg0⟩ : ∃ g0, w.heap.size + 1 = g0 := ⟨_, rfl⟩
    rw [hg0] at HF0 ⊢
    have HFA := Aside0.mk HF0
    have HG := Aside0.mk hg0
    clear HF0 hg0
    have fin : ∀ (wr : World), Below w.heap.size w wr → Buf g0 ((bytesOf a0).mapIdx (bitF .xor a1 (-1))) wr → wr.heap[w.heap.size]? = some (.cells #[.string ⟨#[]⟩, .int .i64 0] 29 (0, 0)) →
        Calls Tryz.prog 90 #[.slice (some ⟨g0, 0, none⟩) n cp] wr fun e w' => e = .returned (.agg #[.string r1, .int .i64 r2]) ∧ Below w.heap.size w w' ∧ w'.heap[w.heap.size]? = some (.cells #[.string ⟨#[]⟩, .int .i64 0] 29 (0, 0)) := by
      intro wr hB hF hK
      refine (HO.out wr cp g0 HC0.out hF).mono ?_
      rintro e w' ⟨he, hb⟩
      exact ⟨he, below_step hB hb, (hb.block _ (Array.getElem?_eq_some_iff.1 hK).1).trans hK⟩
    have FIN := Lib.hid fin
    clear fin
    go_loopg [10, 11] n (fun gg s10 _ wr => ∃ kk : Nat, kk ≤ n ∧ n - kk ≤ gg ∧ s10 = .int .i64 kk ∧ Aside0 (Below w.heap.size w wr) ∧ Aside0 (Buf g0 (pmi (bitF .xor a1 (-1)) kk (bytesOf a0)) wr) ∧ Aside0 (wr.heap[w.heap.size]? = some (.cells #[.string ⟨#[]⟩, .int .i64 0] 29 (0, 0))))
    case atStart => exact ⟨0, Nat.zero_le _, by omega, rfl, HB0, ⟨by rw [pmi_zero]; exact HFA.out⟩, HK0⟩
    case round =>
      obtain ⟨kk, hkk, hg, rfl, HB, HF, HK⟩ := hrel
      by_cases hlt : kk < n
      · have hltz : (kk : Int) < (n : Int) := by omega
        have hl : kk < (bytesOf a0).length := by have := HN.out; omega
        by_cases hj : kk < a1.size
        · have dj : decide ((kk : Int) < (a1.size : Int)) = true := decide_eq_true (by omega)
          have hx : ((a1[kk]'hj).toNat : Int) = bt a1 (kk : Int) := by simp [bt, hj]
          have hcell := HF.out.cell kk (by rw [pmi_length]; exact hl)
          rw [pmi_at _ kk _ hl] at hcell
          have hfree := HF.out.free kk (by rw [pmi_length]; exact hl)
          have HS := Aside0.mk (HF.out.set kk (bitF .xor a1 (-1) kk ((bytesOf a0).getD kk 0)) (by rw [pmi_length]; exact hl))
          rw [pmi_set _ kk _ hl] at HS
          generalize (bytesOf a0).getD kk 0 = y at hcell HS
          rw [bitF, if_pos hj] at HS
          clear hl
          go_wp2
          go_roundg (n - (kk + 1))
          case measure => omega
          case rel =>
            refine ⟨kk + 1, by omega, by omega, by go_num, ⟨below_set HB.out (by have := HG.out; omega)⟩, HS, ⟨(Below.heap_setCell _ _ _ _ (by have := HG.out; simp; omega)).trans HK.out⟩⟩
        · have dj : decide ((kk : Int) < (a1.size : Int)) = false := decide_eq_false (by omega)
          have HE : Aside0 (Buf g0 ((bytesOf a0).mapIdx (bitF .xor a1 (-1))) wr) := ⟨by
            have e : (bytesOf a0).mapIdx (bitF .xor a1 (-1)) = pmi (bitF .xor a1 (-1)) kk (bytesOf a0) := by
              apply List.ext_getElem?
              intro i
              simp only [pmi, List.getElem?_mapIdx]
              by_cases hi : i < kk
              · simp [hi]
              · simp only [hi, if_false]
                have : bitF .xor a1 (-1) i = fun x => x := by
                  funext x
                  rw [bitF, if_neg (by omega), if_pos rfl]
                rw [this]
            rw [e]; exact HF.out⟩
          have HRA := Lib.hid (FIN.out wr HB.out HE.out HK.out)
          clear HE hl
          go_wp2_with (go_at_call 90; refine HRA.out.mono ?_; rintro e w3 ⟨rfl, hb3, hk3⟩; have c0 : w3.cell? ⟨w.heap.size, 0, none⟩ = some (.string ⟨#[]⟩) := (blk_cell hk3 0).trans rfl; have c1 : w3.cell? ⟨w.heap.size, 1, none⟩ = some (.int .i64 0) := (blk_cell hk3 1).trans rfl; have f0 := blk_frozen hk3 0; have f1 := blk_frozen hk3 1; have HK3 := Aside0.mk hk3; have HB3 := Aside0.mk hb3; clear hk3 hb3)
          refine bodyPost_ret (results_cell_row rfl _ _ w.heap.size 29 #[.string r1, .int .i64 r2] (0, 0) _ rfl (blk_put (cs := #[.string r1, .int .i64 0]) (blk_put (cs := #[.string ⟨#[]⟩, .int .i64 0]) HK3.out 0 _ rfl) 1 _ rfl) Tryz.underlying29 rfl (by kernel_rfl)) rfl ?_
          exact ⟨rfl, below_set (below_set HB3.out (Nat.le_refl _)) (Nat.le_refl _)⟩
      · obtain rfl : kk = n := by omega
        have HR := HF.out
        rw [← HN.out, pmi_all] at HR
        have HRA := Lib.hid (FIN.out wr HB.out HR HK.out)
        clear HR
        go_wp2_with (go_at_call 90; refine HRA.out.mono ?_; rintro e w3 ⟨rfl, hb3, hk3⟩; have c0 : w3.cell? ⟨w.heap.size, 0, none⟩ = some (.string ⟨#[]⟩) := (blk_cell hk3 0).trans rfl; have c1 : w3.cell? ⟨w.heap.size, 1, none⟩ = some (.int .i64 0) := (blk_cell hk3 1).trans rfl; have f0 := blk_frozen hk3 0; have f1 := blk_frozen hk3 1; have HK3 := Aside0.mk hk3; have HB3 := Aside0.mk hb3; clear hk3 hb3)
        refine bodyPost_ret (results_cell_row rfl _ _ w.heap.size 29 #[.string r1, .int .i64 r2] (0, 0) _ rfl (blk_put (cs := #[.string r1, .int .i64 0]) (blk_put (cs := #[.string ⟨#[]⟩, .int .i64 0]) HK3.out 0 _ rfl) 1 _ rfl) Tryz.underlying29 rfl (by kernel_rfl)) rfl ?_
        exact ⟨rfl, below_set (below_set HB3.out (Nat.le_refl _)) (Nat.le_refl _)⟩
  · have e1 : (a2 != -1) = true := bne_iff_ne.mpr hp1
    have e1b : (a2 == -1) = false := beq_eq_false_iff_ne.mpr hp1
    have hp2 : 32 ≤ a2 ∧ a2 ≤ 126 := hp.resolve_left hp1
    have e3 : decide (a2 < 32) = false := decide_eq_false (by omega)
    have e4 : decide (126 < a2) = false := decide_eq_false (by omega)
    have e5 : IntKind.u8.wrap a2 = a2 := u8w _ (by omega) (by omega)
    clear hp hp2
    go_enter Tryz.func21, Tryz.ntmps21
    go_upto_region 7 with (first | (go_at_call 89; with_reducible refine (HV0.out _).mono ?_; rintro e w1 ⟨rfl, ⟨⟨q1, rfl⟩⟩⟩) | (go_at_call 89; with_reducible refine (HV1.out _).mono ?_; rintro e w1 ⟨rfl, ⟨⟨q2, rfl⟩⟩⟩))
    have hsz : (((w.alloc (.cells #[.string ⟨#[]⟩, .int .i64 0] 29)).drewN (q1 + q2))).heap.size = w.heap.size + 1 := by simp
    have HF0 := Buf.new ((w.alloc (.cells #[.string ⟨#[]⟩, .int .i64 0] 29)).drewN (q1 + q2)) a0
    rw [hsz] at HF0
    have HB0 := Aside0.mk (bytes_below (B := w.heap.size) (pw_below_drewN (below_alloc (Below.refl w.heap.size w) (.cells #[.string ⟨#[]⟩, .int .i64 0] 29)) (q1 + q2)) (by rw [hsz]; omega) 5 a0)
    have HK0 : Aside0 ((Lib.bytesWorld ((w.alloc (.cells #[.string ⟨#[]⟩, .int .i64 0] 29)).drewN (q1 + q2)) 5 a0).heap[w.heap.size]? = some (.cells #[.string ⟨#[]⟩, .int .i64 0] 29 (0, 0))) := ⟨(Lib.bytesWorld_at_old _ 5 a0 w.heap.size (by rw [hsz]; omega)).trans (blk_drewN (heap_alloc_new w _) (q1 + q2))⟩
    have HC0 : Aside0 (n ≤ grownCap ((w.alloc (.cells #[.string ⟨#[]⟩, .int .i64 0] 29)).drewN (q1 + q2)) n 0 5) := ⟨grownCap_ge _ _ _ _⟩
    clear hsz
    generalize grownCap ((w.alloc (.cells #[.string ⟨#[]⟩, .int .i64 0] 29)).drewN (q1 + q2)) n 0 5 = cp at HC0 ⊢
    generalize Lib.bytesWorld ((w.alloc (.cells #[.string ⟨#[]⟩, .int .i64 0] 29)).drewN (q1 + q2)) 5 a0 = w2 at HF0 HB0 HK0 ⊢
    obtain ⟨g0, hg0⟩ : ∃ g0, w.heap.size + 1 = g0 := ⟨_, rfl⟩
    rw [hg0] at HF0 ⊢
    have HFA := Aside0.mk HF0
    have HG := Aside0.mk hg0
    clear HF0 hg0
    have fin : ∀ (wr : World), Below w.heap.size w wr → Buf g0 ((bytesOf a0).mapIdx (bitF .xor a1 a2)) wr → wr.heap[w.heap.size]? = some (.cells #[.string ⟨#[]⟩, .int .i64 0] 29 (0, 0)) →
        Calls Tryz.prog 90 #[.slice (some ⟨g0, 0, none⟩) n cp] wr fun e w' => e = .returned (.agg #[.string r1, .int .i64 r2]) ∧ Below w.heap.size w w' ∧ w'.heap[w.heap.size]? = some (.cells #[.string ⟨#[]⟩, .int .i64 0] 29 (0, 0)) := by
      intro wr hB hF hK
      refine (HO.out wr cp g0 HC0.out hF).mono ?_
      rintro e w' ⟨he, hb⟩
      exact ⟨he, below_step hB hb, (hb.block _ (Array.getElem?_eq_some_iff.1 hK).1).trans hK⟩
    have FIN := Lib.hid fin
    clear fin
    go_loopg [10, 11] n (fun gg s10 _ wr => ∃ kk : Nat, kk ≤ n ∧ n - kk ≤ gg ∧ s10 = .int .i64 kk ∧ Aside0 (Below w.heap.size w wr) ∧ Aside0 (Buf g0 (pmi (bitF .xor a1 a2) kk (bytesOf a0)) wr) ∧ Aside0 (wr.heap[w.heap.size]? = some (.cells #[.string ⟨#[]⟩, .int .i64 0] 29 (0, 0))))
    case atStart => exact ⟨0, Nat.zero_le _, by omega, rfl, HB0, ⟨by rw [pmi_zero]; exact HFA.out⟩, HK0⟩
    case round =>
      obtain ⟨kk, hkk, hg, rfl, HB, HF, HK⟩ := hrel
      by_cases hlt : kk < n
      · have hltz : (kk : Int) < (n : Int) := by omega
        have hl : kk < (bytesOf a0).length := by have := HN.out; omega
        by_cases hj : kk < a1.size
        · have dj : decide ((kk : Int) < (a1.size : Int)) = true := decide_eq_true (by omega)
          have hx : ((a1[kk]'hj).toNat : Int) = bt a1 (kk : Int) := by simp [bt, hj]
          have hcell := HF.out.cell kk (by rw [pmi_length]; exact hl)
          rw [pmi_at _ kk _ hl] at hcell
          have hfree := HF.out.free kk (by rw [pmi_length]; exact hl)
          have HS := Aside0.mk (HF.out.set kk (bitF .xor a1 a2 kk ((bytesOf a0).getD kk 0)) (by rw [pmi_length]; exact hl))
          rw [pmi_set _ kk _ hl] at HS
          generalize (bytesOf a0).getD kk 0 = y at hcell HS
          rw [bitF, if_pos hj] at HS
          clear hl
          go_wp2
          go_roundg (n - (kk + 1))
          case measure => omega
          case rel =>
            refine ⟨kk + 1, by omega, by omega, by go_num, ⟨below_set HB.out (by have := HG.out; omega)⟩, HS, ⟨(Below.heap_setCell _ _ _ _ (by have := HG.out; simp; omega)).trans HK.out⟩⟩
        · have dj : decide ((kk : Int) < (a1.size : Int)) = false := decide_eq_false (by omega)
          have hcell := HF.out.cell kk (by rw [pmi_length]; exact hl)
          rw [pmi_at _ kk _ hl] at hcell
          have hfree := HF.out.free kk (by rw [pmi_length]; exact hl)
          have HS := Aside0.mk (HF.out.set kk (bitF .xor a1 a2 kk ((bytesOf a0).getD kk 0)) (by rw [pmi_length]; exact hl))
          rw [pmi_set _ kk _ hl] at HS
          generalize (bytesOf a0).getD kk 0 = y at hcell HS
          rw [bitF, if_neg hj, if_neg hp1, e5] at HS
          clear hl
          go_wp2
          go_roundg (n - (kk + 1))
          case measure => omega
          case rel =>
            refine ⟨kk + 1, by omega, by omega, by go_num, ⟨below_set HB.out (by have := HG.out; omega)⟩, HS, ⟨(Below.heap_setCell _ _ _ _ (by have := HG.out; simp; omega)).trans HK.out⟩⟩
      · obtain rfl : kk = n := by omega
        have HR := HF.out
        rw [← HN.out, pmi_all] at HR
        have HRA := Lib.hid (FIN.out wr HB.out HR HK.out)
        clear HR
        go_wp2_with (go_at_call 90; refine HRA.out.mono ?_; rintro e w3 ⟨rfl, hb3, hk3⟩; have c0 : w3.cell? ⟨w.heap.size, 0, none⟩ = some (.string ⟨#[]⟩) := (blk_cell hk3 0).trans rfl; have c1 : w3.cell? ⟨w.heap.size, 1, none⟩ = some (.int .i64 0) := (blk_cell hk3 1).trans rfl; have f0 := blk_frozen hk3 0; have f1 := blk_frozen hk3 1; have HK3 := Aside0.mk hk3; have HB3 := Aside0.mk hb3; clear hk3 hb3)
        refine bodyPost_ret (results_cell_row rfl _ _ w.heap.size 29 #[.string r1, .int .i64 r2] (0, 0) _ rfl (blk_put (cs := #[.string r1, .int .i64 0]) (blk_put (cs := #[.string ⟨#[]⟩, .int .i64 0]) HK3.out 0 _ rfl) 1 _ rfl) Tryz.underlying29 rfl (by kernel_rfl)) rfl ?_
        exact ⟨rfl, below_set (below_set HB3.out (Nat.le_refl _)) (Nat.le_refl _)⟩
end Go.Proofs.YtlekfhnlhdmekaaGreatDoor.T

/- The reference's Bits returns what qanatref02_Bits.f says. -/
namespace Go.Proofs.YtlekfhnlhdmekaaGreatDoor.T
set_option linter.unusedVariables false
open Go.RowKit Go.Proofs.YtlekfhnlhdmekaaGreatDoorW.PrintWords Go.Proofs.YtlekfhnlhdmekaaGreatDoorW.PrintLast Go.Proofs.YtlekfhnlhdmekaaGreatDoorW.PrintMore

def opOf (o : Int) : BinOp := if o = 0 then .and else if o = 1 then .or else .xor
def qanatref02_Bits.f (a0 : Int) (a1 a2 : ByteArray) (a3 : Int) : Option (ByteArray × Int) :=
  if (a0 = 0 ∨ a0 = 1 ∨ a0 = 2) ∧ a1.size ≤ 100000 ∧ a2.size ≤ 100000 then
    (if (vld a1 = true ∧ vld a2 = true) ∧ (a3 = -1 ∨ 32 ≤ a3 ∧ a3 ≤ 126) then
      (if a1.size < a2.size then qanatref02_out.f ((bytesOf a2).mapIdx (bitF (opOf a0) a1 a3)) else qanatref02_out.f ((bytesOf a1).mapIdx (bitF (opOf a0) a2 a3)))
    else some (⟨#[]⟩, 1))
  else none

theorem refBits_one (o : Int) (ho : o = 0 ∨ o = 1 ∨ o = 2) (a0 a1 : ByteArray) (a2 : Int) (r1 : ByteArray) (r2 : Int) (w : World) (hz0 : a0.size ≤ 100000) (hz1 : a1.size ≤ 100000)
    (hv : vld a0 = true ∧ vld a1 = true) (hp : a2 = -1 ∨ 32 ≤ a2 ∧ a2 ≤ 126) (hs : a1.size ≤ a0.size)
    (h : qanatref02_out.f ((bytesOf a0).mapIdx (bitF (opOf o) a1 a2)) = some (r1, r2)) :
    Calls Tryz.prog 21 #[.int .i64 o, .string a0, .string a1, .int .i64 a2] w fun e w' => e = .returned (.agg #[.string r1, .int .i64 r2]) ∧ Below w.heap.size w w' := by
  rcases ho with rfl | rfl | rfl
  · exact refBits0 a0 a1 a2 r1 r2 w hz0 hz1 hv hp hs h
  · exact refBits1 a0 a1 a2 r1 r2 w hz0 hz1 hv hp hs h
  · exact refBits2 a0 a1 a2 r1 r2 w hz0 hz1 hv hp hs h

set_option maxRecDepth 100000 in
set_option maxHeartbeats 4000000 in
theorem refBits_swap (o : Int) (ho : o = 0 ∨ o = 1 ∨ o = 2) (a0 a1 : ByteArray) (a2 : Int) (r1 : ByteArray) (r2 : Int) (w : World) (hz0 : a0.size ≤ 100000) (hz1 : a1.size ≤ 100000)
    (hv : vld a0 = true ∧ vld a1 = true) (hp : a2 = -1 ∨ 32 ≤ a2 ∧ a2 ≤ 126) (hs : a0.size < a1.size)
    (h : qanatref02_out.f ((bytesOf a1).mapIdx (bitF (opOf o) a0 a2)) = some (r1, r2)) :
    Calls Tryz.prog 21 #[.int .i64 o, .string a0, .string a1, .int .i64 a2] w fun e w' => e = .returned (.agg #[.string r1, .int .i64 r2]) ∧ Below w.heap.size w w' := by
  have hu29 := Tryz.underlying29
  have HR := Lib.hid (fun W => refBits_one o ho a1 a0 a2 r1 r2 W hz1 hz0 ⟨hv.2, hv.1⟩ hp (by omega) h)
  have HV0 := Lib.hid (fun W => qanatref02_Valid.calls a0 true W (by unfold qanatref02_Valid.f; rw [hv.1]))
  have HV1 := Lib.hid (fun W => qanatref02_Valid.calls a1 true W (by unfold qanatref02_Valid.f; rw [hv.2]))
  have d1 : decide ((a0.size : Int) < (a1.size : Int)) = true := decide_eq_true (by omega)
  have d2 : decide (a0.size < a1.size) = true := decide_eq_true hs
  clear hv h ho hz0 hz1 hs
  by_cases hp1 : a2 = -1
  · subst hp1
    clear hp
    go_enter Tryz.func21, Tryz.ntmps21
    go_wp2_with (first | (go_at_call 89; with_reducible refine (HV0.out _).mono ?_; rintro e w1 ⟨rfl, ⟨⟨q1, rfl⟩⟩⟩) | (go_at_call 89; with_reducible refine (HV1.out _).mono ?_; rintro e w1 ⟨rfl, ⟨⟨q2, rfl⟩⟩⟩) | (go_at_call 21; with_reducible refine (HR.out _).mono ?_; rintro e w3 ⟨rfl, hb3⟩; have hk3 : w3.heap[w.heap.size]? = some (.cells #[.string ⟨#[]⟩, .int .i64 0] 29 (0, 0)) := (hb3.block _ (by simp)).trans (blk_drewN (heap_alloc_new w _) (q1 + q2)); have c0 : w3.cell? ⟨w.heap.size, 0, none⟩ = some (.string ⟨#[]⟩) := (blk_cell hk3 0).trans rfl; have c1 : w3.cell? ⟨w.heap.size, 1, none⟩ = some (.int .i64 0) := (blk_cell hk3 1).trans rfl; have f0 := blk_frozen hk3 0; have f1 := blk_frozen hk3 1; have HK3 := Aside0.mk hk3; have HB3 := Aside0.mk (below_step (pw_below_drewN (below_alloc (Below.refl w.heap.size w) _) (q1 + q2)) hb3); clear hk3 hb3))
    refine bodyPost_ret (results_cell_row rfl _ _ w.heap.size 29 #[.string r1, .int .i64 r2] (0, 0) _ rfl (blk_put (cs := #[.string r1, .int .i64 0]) (blk_put (cs := #[.string ⟨#[]⟩, .int .i64 0]) HK3.out 0 _ rfl) 1 _ rfl) Tryz.underlying29 rfl (by kernel_rfl)) rfl ?_
    exact ⟨rfl, below_set (below_set HB3.out (Nat.le_refl _)) (Nat.le_refl _)⟩
  · have e1 : (a2 != -1) = true := bne_iff_ne.mpr hp1
    have hp2 : 32 ≤ a2 ∧ a2 ≤ 126 := hp.resolve_left hp1
    have e3 : decide (a2 < 32) = false := decide_eq_false (by omega)
    have e4 : decide (126 < a2) = false := decide_eq_false (by omega)
    clear hp hp2
    go_enter Tryz.func21, Tryz.ntmps21
    go_wp2_with (first | (go_at_call 89; with_reducible refine (HV0.out _).mono ?_; rintro e w1 ⟨rfl, ⟨⟨q1, rfl⟩⟩⟩) | (go_at_call 89; with_reducible refine (HV1.out _).mono ?_; rintro e w1 ⟨rfl, ⟨⟨q2, rfl⟩⟩⟩) | (go_at_call 21; with_reducible refine (HR.out _).mono ?_; rintro e w3 ⟨rfl, hb3⟩; have hk3 : w3.heap[w.heap.size]? = some (.cells #[.string ⟨#[]⟩, .int .i64 0] 29 (0, 0)) := (hb3.block _ (by simp)).trans (blk_drewN (heap_alloc_new w _) (q1 + q2)); have c0 : w3.cell? ⟨w.heap.size, 0, none⟩ = some (.string ⟨#[]⟩) := (blk_cell hk3 0).trans rfl; have c1 : w3.cell? ⟨w.heap.size, 1, none⟩ = some (.int .i64 0) := (blk_cell hk3 1).trans rfl; have f0 := blk_frozen hk3 0; have f1 := blk_frozen hk3 1; have HK3 := Aside0.mk hk3; have HB3 := Aside0.mk (below_step (pw_below_drewN (below_alloc (Below.refl w.heap.size w) _) (q1 + q2)) hb3); clear hk3 hb3))
    refine bodyPost_ret (results_cell_row rfl _ _ w.heap.size 29 #[.string r1, .int .i64 r2] (0, 0) _ rfl (blk_put (cs := #[.string r1, .int .i64 0]) (blk_put (cs := #[.string ⟨#[]⟩, .int .i64 0]) HK3.out 0 _ rfl) 1 _ rfl) Tryz.underlying29 rfl (by kernel_rfl)) rfl ?_
    exact ⟨rfl, below_set (below_set HB3.out (Nat.le_refl _)) (Nat.le_refl _)⟩

set_option maxRecDepth 100000 in
set_option maxHeartbeats 4000000 in
theorem refBits_err (o : Int) (a0 a1 : ByteArray) (a2 : Int) (w : World) (h : ¬ ((vld a0 = true ∧ vld a1 = true) ∧ (a2 = -1 ∨ 32 ≤ a2 ∧ a2 ≤ 126))) :
    Calls Tryz.prog 21 #[.int .i64 o, .string a0, .string a1, .int .i64 a2] w fun e w' => e = .returned (.agg #[.string ⟨#[]⟩, .int .i64 1]) ∧ Below w.heap.size w w' := by
  have hu29 := Tryz.underlying29
  have c0 : (w.alloc (.cells #[.string ⟨#[]⟩, .int .i64 0] 29)).cell? ⟨w.heap.size, 0, none⟩ = some (.string ⟨#[]⟩) := (blk_cell (heap_alloc_new w _) 0).trans rfl
  have c1 : (w.alloc (.cells #[.string ⟨#[]⟩, .int .i64 0] 29)).cell? ⟨w.heap.size, 1, none⟩ = some (.int .i64 0) := (blk_cell (heap_alloc_new w _) 1).trans rfl
  have f0 := blk_frozen (heap_alloc_new w (.cells #[.string ⟨#[]⟩, .int .i64 0] 29)) 0
  have f1 := blk_frozen (heap_alloc_new w (.cells #[.string ⟨#[]⟩, .int .i64 0] 29)) 1
  cases hv0 : vld a0 with
  | false =>
    have HV0 := Lib.hid (fun W => qanatref02_Valid.calls a0 false W (by unfold qanatref02_Valid.f; rw [hv0]))
    clear h hv0
    go_enter Tryz.func21, Tryz.ntmps21
    go_wp2_with (first | (go_at_call 89; with_reducible refine (HV0.out _).mono ?_; rintro e w1 ⟨rfl, ⟨⟨q1, rfl⟩⟩⟩))
    refine bodyPost_ret (results_cell_row rfl _ _ w.heap.size 29 #[.string ⟨#[]⟩, .int .i64 1] (0, 0) _ rfl (blk_put (cs := #[.string ⟨#[]⟩, .int .i64 0]) (blk_put (cs := #[.string ⟨#[]⟩, .int .i64 0]) (blk_drewN (heap_alloc_new w _) (q1)) 0 _ rfl) 1 _ rfl) Tryz.underlying29 rfl (by kernel_rfl)) rfl ?_
    exact ⟨rfl, below_set (below_set (pw_below_drewN (below_alloc (Below.refl w.heap.size w) _) (q1)) (Nat.le_refl _)) (Nat.le_refl _)⟩
  | true =>
    have HV0 := Lib.hid (fun W => qanatref02_Valid.calls a0 true W (by unfold qanatref02_Valid.f; rw [hv0]))
    cases hv1 : vld a1 with
    | false =>
      have HV1 := Lib.hid (fun W => qanatref02_Valid.calls a1 false W (by unfold qanatref02_Valid.f; rw [hv1]))
      clear h hv0 hv1
      go_enter Tryz.func21, Tryz.ntmps21
      go_wp2_with (first | (go_at_call 89; with_reducible refine (HV0.out _).mono ?_; rintro e w1 ⟨rfl, ⟨⟨q1, rfl⟩⟩⟩) | (go_at_call 89; with_reducible refine (HV1.out _).mono ?_; rintro e w1 ⟨rfl, ⟨⟨q2, rfl⟩⟩⟩))
      refine bodyPost_ret (results_cell_row rfl _ _ w.heap.size 29 #[.string ⟨#[]⟩, .int .i64 1] (0, 0) _ rfl (blk_put (cs := #[.string ⟨#[]⟩, .int .i64 0]) (blk_put (cs := #[.string ⟨#[]⟩, .int .i64 0]) (blk_drewN (heap_alloc_new w _) (q1 + q2)) 0 _ rfl) 1 _ rfl) Tryz.underlying29 rfl (by kernel_rfl)) rfl ?_
      exact ⟨rfl, below_set (below_set (pw_below_drewN (below_alloc (Below.refl w.heap.size w) _) (q1 + q2)) (Nat.le_refl _)) (Nat.le_refl _)⟩
    | true =>
      have HV1 := Lib.hid (fun W => qanatref02_Valid.calls a1 true W (by unfold qanatref02_Valid.f; rw [hv1]))
      have hq : ¬ (a2 = -1 ∨ 32 ≤ a2 ∧ a2 ≤ 126) := fun hq => h ⟨⟨hv0, hv1⟩, hq⟩
      have hp1 : ¬ a2 = -1 := fun e => hq (.inl e)
      have e1 : (a2 != -1) = true := bne_iff_ne.mpr hp1
      clear h hv0 hv1
      by_cases hlo : a2 < 32
      · have e3 : decide (a2 < 32) = true := decide_eq_true hlo
        clear hq
        go_enter Tryz.func21, Tryz.ntmps21
        go_wp2_with (first | (go_at_call 89; with_reducible refine (HV0.out _).mono ?_; rintro e w1 ⟨rfl, ⟨⟨q1, rfl⟩⟩⟩) | (go_at_call 89; with_reducible refine (HV1.out _).mono ?_; rintro e w1 ⟨rfl, ⟨⟨q2, rfl⟩⟩⟩))
        refine bodyPost_ret (results_cell_row rfl _ _ w.heap.size 29 #[.string ⟨#[]⟩, .int .i64 1] (0, 0) _ rfl (blk_put (cs := #[.string ⟨#[]⟩, .int .i64 0]) (blk_put (cs := #[.string ⟨#[]⟩, .int .i64 0]) (blk_drewN (heap_alloc_new w _) (q1 + q2)) 0 _ rfl) 1 _ rfl) Tryz.underlying29 rfl (by kernel_rfl)) rfl ?_
        exact ⟨rfl, below_set (below_set (pw_below_drewN (below_alloc (Below.refl w.heap.size w) _) (q1 + q2)) (Nat.le_refl _)) (Nat.le_refl _)⟩
      · have e3 : decide (a2 < 32) = false := decide_eq_false hlo
        have e4 : decide (126 < a2) = true := decide_eq_true (by omega)
        clear hq
        go_enter Tryz.func21, Tryz.ntmps21
        go_wp2_with (first | (go_at_call 89; with_reducible refine (HV0.out _).mono ?_; rintro e w1 ⟨rfl, ⟨⟨q1, rfl⟩⟩⟩) | (go_at_call 89; with_reducible refine (HV1.out _).mono ?_; rintro e w1 ⟨rfl, ⟨⟨q2, rfl⟩⟩⟩))
        refine bodyPost_ret (results_cell_row rfl _ _ w.heap.size 29 #[.string ⟨#[]⟩, .int .i64 1] (0, 0) _ rfl (blk_put (cs := #[.string ⟨#[]⟩, .int .i64 0]) (blk_put (cs := #[.string ⟨#[]⟩, .int .i64 0]) (blk_drewN (heap_alloc_new w _) (q1 + q2)) 0 _ rfl) 1 _ rfl) Tryz.underlying29 rfl (by kernel_rfl)) rfl ?_
        exact ⟨rfl, below_set (below_set (pw_below_drewN (below_alloc (Below.refl w.heap.size w) _) (q1 + q2)) (Nat.le_refl _)) (Nat.le_refl _)⟩

theorem qanatref02_Bits.calls (a0 : Int) (a1 a2 : ByteArray) (a3 : Int) (r1 : ByteArray) (r2 : Int) (w : World) (h : qanatref02_Bits.f a0 a1 a2 a3 = some (r1, r2)) :
    Calls Tryz.prog 21 #[.int .i64 a0, .string a1, .string a2, .int .i64 a3] w fun e w' => e = .returned (.agg #[.string r1, .int .i64 r2]) ∧ Below w.heap.size w w' := by
  unfold qanatref02_Bits.f at h
  by_cases hb : (a0 = 0 ∨ a0 = 1 ∨ a0 = 2) ∧ a1.size ≤ 100000 ∧ a2.size ≤ 100000
  · rw [if_pos hb] at h
    by_cases hv : (vld a1 = true ∧ vld a2 = true) ∧ (a3 = -1 ∨ 32 ≤ a3 ∧ a3 ≤ 126)
    · rw [if_pos hv] at h
      by_cases hs : a1.size < a2.size
      · rw [if_pos hs] at h
        exact refBits_swap a0 hb.1 a1 a2 a3 r1 r2 w hb.2.1 hb.2.2 hv.1 hv.2 hs h
      · rw [if_neg hs] at h
        exact refBits_one a0 hb.1 a1 a2 a3 r1 r2 w hb.2.1 hb.2.2 hv.1 hv.2 (by omega) h
    · rw [if_neg hv] at h
      simp only [Option.some.injEq, Prod.mk.injEq] at h
      obtain ⟨rfl, rfl⟩ := h
      exact refBits_err a0 a1 a2 a3 w hv
  · rw [if_neg hb] at h
    cases h
end Go.Proofs.YtlekfhnlhdmekaaGreatDoor.T
