/- Part 8 of the proof of ScanCase: the functions that it calls return what their plain descriptions say. -/
import Derived.Test.YtkkpjonfaflkmaaGreatDoorCScanCase5
import Derived.Deep.CutRange
import Derived.Test.YtkkpjonfaflkmaaGreatDoorCScanCase6
import Derived.Test.YtkkpjonfaflkmaaGreatDoorCScanCase7
import Derived.Test.YtkkpjonfaflkmaaGreatDoorCScanCase4

namespace Go.Proofs.YtkkpjonfaflkmaaGreatDoor.T
set_option linter.unusedSimpArgs false
set_option linter.unusedVariables false
open Go.RowKit Go.Proofs.YtkkpjonfaflkmaaGreatDoorW.PrintWords Go.Proofs.YtkkpjonfaflkmaaGreatDoorW.PrintLast Go.Proofs.YtkkpjonfaflkmaaGreatDoorW.PrintMore
theorem lit_shift (q : Int) (a : Nat) : ∀ (n : Nat) (xs : List Int) (i : Nat) (acc : List Int), xs.length ≤ n → S.lit q xs (i + a) acc = (S.lit q xs i acc).map fun p => (p.1, p.2 + a)
  | _, [], i, acc, _ => rfl
  | _, [c], i, acc, _ => by
    unfold S.lit
    by_cases h0 : c = 10 <;> by_cases h : c = q <;> simp [h, h0]
    all_goals (split <;> rfl)
  | 0, _ :: _ :: _, _, _, h => by simp at h
  | n + 1, c :: d :: t, i, acc, h => by
    simp only [List.length_cons] at h
    have h1 := lit_shift q a n t (i + 2) (acc ++ [q]) (by omega)
    have h2 := lit_shift q a n (d :: t) (i + 1) (acc ++ [c]) (by simp; omega)
    unfold S.lit
    by_cases e1 : c = 10
    · simp [e1]
    · by_cases e2 : c = q
      · by_cases e3 : d = q
        · rw [if_neg e1, if_pos e2, if_pos e3, if_neg e1, if_pos e2, if_pos e3, ← h1]
          congr 1; omega
        · rw [if_neg e1, if_pos e2, if_neg e3, if_neg e1, if_pos e2, if_neg e3]
          rfl
      · rw [if_neg e1, if_neg e2, if_neg e1, if_neg e2, ← h2]
        congr 1; omega
theorem litTok_none {L : List Int} {i : Nat} {q : Int} (hd : L.drop i = q :: L.drop (i + 1)) (hR : S.lit q (L.drop (i + 1)) (i + 1) [] = none) : S.litTok (L.drop i) = .err 6 := by
  have h1 := lit_shift q i _ (L.drop (i + 1)) 1 [] (Nat.le_refl _)
  rw [Nat.add_comm 1 i, hR] at h1
  rw [hd]
  unfold S.litTok
  cases h : S.lit q (L.drop (i + 1)) 1 [] with
  | none => simp only [h]
  | some p => rw [h] at h1; cases h1
theorem litTok_some {L : List Int} {i b : Nat} {q : Int} {v : List Int} (hd : L.drop i = q :: L.drop (i + 1)) (hR : S.lit q (L.drop (i + 1)) (i + 1) [] = some (v, b)) :
    S.litTok (L.drop i) = if v.all S.prn = true then (if S.sfx (L.drop (b + 1)) = 0 then S.litEnd v (b + 1 - i) else match S.litDec v (S.sfx (L.drop (b + 1))) with
      | none => .err 15
      | some u => S.litEnd u (b + 2 - i)) else .err 13 := by
  have h1 := lit_shift q i _ (L.drop (i + 1)) 1 [] (Nat.le_refl _)
  rw [Nat.add_comm 1 i, hR] at h1
  rw [hd]
  unfold S.litTok
  cases h : S.lit q (L.drop (i + 1)) 1 [] with
  | none => rw [h] at h1; cases h1
  | some p =>
    obtain ⟨v', j⟩ := p
    rw [h] at h1
    simp only [Option.map_some, Option.some.injEq, Prod.mk.injEq] at h1
    obtain ⟨rfl, rfl⟩ := h1
    have e1 : (q :: L.drop (i + 1)).drop (j + 1) = L.drop (j + i + 1) := by
      rw [← hd, List.drop_drop]
      congr 1; omega
    rw [show j + i + 1 - i = j + 1 by omega, show j + i + 2 - i = j + 2 by omega]
    simp only [h, e1]
    rfl
theorem any_prn (v : List Int) : (v.any fun x => !S.prn x) = !(v.all S.prn) := by
  rw [List.all_eq_not_any_not, Bool.not_not]
theorem np_calls (vs : ByteArray) (W : World) (hs : vs.size ≤ 100000) (g : Nat) (eg : ∀ args w, (callFunc g args).run Tryz.prog w = .ok (.enter g args) w) (hp : ∀ w, Pays g #[] (fun x => Value.int .u8 x) (fun x => !S.prn x) (fun _ => True) w) :
    Calls Tryz.prog 63 #[.slice (some ⟨W.heap.size, 0, none⟩) vs.size (grownCap W vs.size 0 5), .func (.func g) #[] #[]] (Lib.bytesWorld W 5 vs) fun e W' => e = .returned (.bool (!((bytesOf vs).all S.prn))) ∧ Below W.heap.size W W' := by
  have hO := OwnM.conv (base := W.heap.size) W vs (Nat.le_refl _) hs
  have hc := contB.calls (some ⟨W.heap.size, 0, none⟩) (grownCap W vs.size 0 5) (bytesOf vs) g #[] (fun x => !S.prn x) (fun _ => True) (Lib.bytesWorld W 5 vs) eg (by
    have e : (bytesOf vs).length = vs.size := bytesOf_length vs
    rw [← e] at hO
    exact hO.C) (fun _ _ => trivial) (hp _)
  rw [bytesOf_length, any_prn] at hc
  refine hc.mono ?_
  rintro e W' ⟨rfl, hb⟩
  have h1 : Below W.heap.size W (Lib.bytesWorld W 5 vs) := bytes_below (Below.refl _ _) (Nat.le_refl _) 5 vs
  exact ⟨rfl, h1.trans (hb.mono (by have := h1.size; omega))⟩
def ixS (c : Int) : Int := Lib.indexByte [88, 120, 66, 98] c.toNat.toUInt8
def ixB (c : Int) : Int := Lib.indexByte [66, 98] c.toNat.toUInt8
theorem ixS_f (c : Int) : strings_IndexByte.f ⟨#[88, 120, 66, 98]⟩ c = some (ixS c) := rfl
theorem ixB_f (c : Int) : strings_IndexByte.f ⟨#[66, 98]⟩ c = some (ixB c) := rfl
theorem ixS_spec (c : Int) (h0 : 0 ≤ c) (h1 : c < 256) : decide (0 ≤ ixS c) = decide (S.sfxOf c ≠ 0) ∧ (S.sfxOf c = 0 ∨ (S.sfxOf c = 4 ∧ decide (0 ≤ ixB c) = false) ∨ (S.sfxOf c = 1 ∧ decide (0 ≤ ixB c) = true)) :=
  byte_all (fun c => decide (0 ≤ ixS c) = decide (S.sfxOf c ≠ 0) ∧ (S.sfxOf c = 0 ∨ (S.sfxOf c = 4 ∧ decide (0 ≤ ixB c) = false) ∨ (S.sfxOf c = 1 ∧ decide (0 ≤ ixB c) = true))) (by decide +kernel) c h0 h1
theorem sfx_cons (c : Int) (t : List Int) : S.sfx (c :: t) = match t with
  | [] => S.sfxOf c
  | d :: _ => if S.sym d = true then 0 else S.sfxOf c := by cases t <;> rfl
set_option maxRecDepth 100000 in
set_option maxHeartbeats 4000000 in
theorem scan_literal_m.calls (s : Nat) (src : ByteArray) (m : Value) (i line : Nat) (w : World) (hsz : src.size ≤ 100000) (hl : line ≤ 1000000000) (hi : i < src.size) (h : Sc s src i line m w) :
    Calls Tryz.prog 70 #[.pointer (some ⟨s, 0, none⟩)] w fun e w' => But (· = s) w w' ∧ SymPost s src m i line e w' (S.litTok ((bytesOf src).drop i)) := by
  have HS := Aside0.mk h
  obtain ⟨n, hn⟩ : ∃ n, src.size = n := ⟨_, rfl⟩
  obtain ⟨L, hL⟩ : ∃ L, bytesOf src = L := ⟨_, rfl⟩
  have HN : Aside0 (L.length = n) := ⟨by rw [← hL, bytesOf_length]; exact hn⟩
  have hbi := nth_byte src i hi
  rw [hL] at hbi ⊢
  have HDI := Aside0.mk (drop_at L i (by rw [HN.out]; omega))
  obtain ⟨q, hq⟩ : ∃ q, L.getD i 0 = q := ⟨_, rfl⟩
  rw [hq] at hbi HDI
  have HQ := Aside0.mk hq
  have HL := Aside0.mk hL
  have c0 := h.c0
  have c1 := h.c1
  have hz0 : (0 : Int) ≤ (i : Int) := by omega
  have hz1 : (i : Int) < (n : Int) := by omega
  have hslt := h.lt
  obtain ⟨R, hR⟩ : ∃ R, S.lit q (L.drop (i + 1)) (i + 1) [] = R := ⟨_, rfl⟩
  have HR := Aside0.mk hR
  clear hL h hq hR
  rw [hn] at hsz hi
  go_enter Tryz.func70, Tryz.ntmps70
  go_wp2
  go_region
  go_wp2
  obtain ⟨W0, hW0⟩ : ∃ W0, (w.alloc (.cells #[.pointer none, .slice none 0 0] 126)).drew = W0 := ⟨_, rfl⟩
  have hB0 : Aside0 (Bld w.heap.size w.heap.size [] W0) := ⟨by rw [← hW0]; exact Bld.new w⟩
  have hb0 : Aside0 (Below w.heap.size w W0) := ⟨by rw [← hW0]; exact below_drew1 (below_alloc (Below.refl _ _) _)⟩
  rw [hW0]
  clear hW0
  generalize hH : w.heap.size = H at *
  have HSL := Aside0.mk hslt
  have HH := Aside0.mk hH
  clear hH
  go_loopg [5] (n + 1) (fun gg s5 wr => ∃ (kk : Nat) (acc : List Int), i < kk ∧ kk ≤ n ∧ n + 1 - kk ≤ gg ∧ s5 = .int .i64 kk ∧ acc.length ≤ kk ∧ Aside0 (Bld H H acc wr) ∧ Aside0 (Below H w wr) ∧ Aside0 (∀ x ∈ acc, 0 ≤ x ∧ x < 256) ∧ Aside0 (S.lit q (L.drop kk) kk acc = R))
  case atStart => exact ⟨i + 1, [], by omega, by omega, by omega, by go_num, by simp, hB0, hb0, ⟨by simp⟩, HR⟩
  case round =>
    obtain ⟨kk, acc, hik, hkk, hg, rfl, hal, HB, HW, HAR, HA⟩ := hrel
    have HC : Aside0 (Sc s src i line m wr) := ⟨(HW.out.block s HSL.out).trans HS.out⟩
    have d0 := HC.out.c0
    have d1 := HC.out.c1
    have d2 := HC.out.c2
    have HF := Lib.hid (fun W => scan_fail.calls (.pointer (some ⟨s, 0, none⟩)) 6 line W)
    by_cases hkn : kk = n
    · have g1 : decide ((n : Int) ≤ (kk : Int)) = true := decide_eq_true (by omega)
      have g2 : decide (n ≤ kk) = true := decide_eq_true (by omega)
      have hR : Aside0 (S.litTok (L.drop i) = .err 6) := ⟨litTok_none HDI.out (by
        rw [HR.out, ← HA.out, List.drop_eq_nil_of_le (by rw [HN.out]; omega)]
        rfl)⟩
      clear hik
      go_wp2_with (go_at_call 97; refine (HF.out _).mono ?_; rintro e w' ⟨rfl, rfl⟩; unfold Fails)
      refine ⟨rfl, But.of_below (by rw [HH.out]; exact HW.out), ?_⟩
      rw [hR.out]
      exact ⟨rfl, _, HC.out⟩
    · have hlt : kk < n := by omega
      have g1 : decide ((n : Int) ≤ (kk : Int)) = false := decide_eq_false (by omega)
      have g2 : decide (n ≤ kk) = false := decide_eq_false (by omega)
      have hby := nth_byte src kk (by omega)
      rw [HL.out] at hby
      have HDK := Aside0.mk (drop_at L kk (by rw [HN.out]; omega))
      obtain ⟨y, hy⟩ : ∃ y, L.getD kk 0 = y := ⟨_, rfl⟩
      rw [hy] at hby HDK
      have hyr : 0 ≤ y ∧ y < 256 := by rw [← hy]; exact bo_range src _ (by rw [HL.out]; exact getD_mem _ _ (by rw [HN.out]; omega))
      have HYR := Aside0.mk hyr
      clear hy hyr
      have hkz : (kk : Int) < (n : Int) := by omega
      by_cases hy10 : y = 10
      · have g3 : (y == 10) = true := beq_iff_eq.2 hy10
        have hR : Aside0 (S.litTok (L.drop i) = .err 6) := ⟨litTok_none HDI.out (by
          rw [HR.out, ← HA.out, HDK.out]
          rcases L.drop (kk + 1) with _ | ⟨d, t⟩
          · unfold S.lit
            rw [if_pos hy10]
          · unfold S.lit
            rw [if_pos hy10])⟩
        clear hik
        go_wp2_with (go_at_call 97; refine (HF.out _).mono ?_; rintro e w' ⟨rfl, rfl⟩; unfold Fails)
        refine ⟨rfl, But.of_below (by rw [HH.out]; exact HW.out), ?_⟩
        rw [hR.out]
        exact ⟨rfl, _, HC.out⟩
      · have g3 : (y == 10) = false := beq_eq_false_iff_ne.2 hy10
        have HWB := Lib.hid (fun x => bld_WriteByte H H acc x wr HB.out (by omega) (by have := HW.out.size; have := HH.out; omega))
        by_cases hyq : y = q
        · have g4 : (y == q) = true := beq_iff_eq.2 hyq
          obtain ⟨brk, hbrk⟩ : ∃ brk : Bool, (decide (n ≤ kk + 1) || !decide (L.getD (kk + 1) 0 = q)) = brk := ⟨_, rfl⟩
          have HBR := Aside0.mk hbrk
          clear hbrk
          go_upto_region 8 with (fail)
          go_cut [74] from 24 to 83 (fun s74 wc => s74 = .bool brk ∧ wc = wr)
          case first =>
            by_cases hk1 : kk + 1 < n
            · have e1 : decide ((n : Int) ≤ (kk : Int) + 1) = false := decide_eq_false (by omega)
              have e2 : decide (n ≤ kk + 1) = false := decide_eq_false (by omega)
              have hbz := nth_byte src (kk + 1) (by omega)
              rw [HL.out] at hbz
              have hk1z : (kk : Int) + 1 < (n : Int) := by omega
              have hk0 : (0 : Int) ≤ (kk : Int) + 1 := by omega
              have HBR2 := HBR.out
              rw [e2, Bool.false_or] at HBR2
              generalize L.getD (kk + 1) 0 = z at *
              by_cases hzq : z = q
              · have e3 : (z != q) = false := bne_eq_false_iff_eq.2 hzq
                go_wp2_with fail
                go_meet
                exact ⟨by rw [← HBR2, hzq]; simp, rfl⟩
              · have e3 : (z != q) = true := bne_iff_ne.2 hzq
                go_wp2_with fail
                go_meet
                exact ⟨by rw [← HBR2]; simp [hzq], rfl⟩
            · have e1 : decide ((n : Int) ≤ (kk : Int) + 1) = true := decide_eq_true (by omega)
              have e2 : decide (n ≤ kk + 1) = true := decide_eq_true (by omega)
              go_wp2_with fail
              go_meet
              exact ⟨by rw [← HBR.out, e2]; rfl, rfl⟩
          case rest =>
            obtain ⟨rfl, rfl⟩ := hcut
            cases brk with
            | false =>
              have hb := HBR.out
              rw [Bool.or_eq_false_iff] at hb
              have hk1 : kk + 1 < n := by have := of_decide_eq_false hb.1; omega
              have hzq : L.getD (kk + 1) 0 = q := by
                have := hb.2
                rw [Bool.not_eq_false'] at this
                exact of_decide_eq_true this
              have hbz := nth_byte src (kk + 1) (by omega)
              rw [HL.out, hzq] at hbz
              have hk1z : (kk : Int) + 1 < (n : Int) := by omega
              have hk0 : (0 : Int) ≤ (kk : Int) + 1 := by omega
              have hA2 : Aside0 (S.lit q (L.drop (kk + 2)) (kk + 2) (acc ++ [q]) = R) := ⟨by
                rw [← HA.out, HDK.out, drop_at L (kk + 1) (by rw [HN.out]; omega), hzq]
                conv => { rhs; unfold S.lit }
                rw [if_neg hy10, if_pos hyq, if_pos rfl]⟩
              clear hb hzq
              go_wp2_with (go_at_call 106; refine (HWB.out _).mono ?_; rintro e w' ⟨rfl, hb1, hb2⟩)
              go_roundg (n + 1 - (kk + 2))
              case measure => omega
              case rel =>
                refine ⟨kk + 2, acc ++ [q], by omega, by omega, by omega, by go_num, by simp; omega, ⟨hb1⟩, ⟨HW.out.trans hb2⟩, ⟨fun x hx => ?_⟩, hA2⟩
                rcases List.mem_append.1 hx with hx | hx
                · exact HAR.out x hx
                · simp at hx; subst hx; rw [← hyq]; exact HYR.out
            | true =>
              have hRR : R = some (acc, kk) := by
                rw [← HA.out, HDK.out]
                rcases hd : L.drop (kk + 1) with _ | ⟨d, t⟩
                · unfold S.lit
                  rw [if_neg hy10, if_pos hyq]
                · conv => { lhs; unfold S.lit }
                  have hk1 : kk + 1 < n := by
                    have := congrArg List.length hd
                    rw [List.length_drop, HN.out] at this
                    simp at this
                    omega
                  have hdz : L.getD (kk + 1) 0 = d := by
                    have := drop_at L (kk + 1) (by rw [HN.out]; omega)
                    rw [hd] at this
                    exact (List.cons.inj this).1.symm
                  have hb := HBR.out
                  rw [decide_eq_false (show ¬ n ≤ kk + 1 by omega), Bool.false_or, hdz] at hb
                  have : ¬ d = q := by
                    intro e
                    rw [e] at hb
                    simp at hb
                  rw [if_neg hy10, if_pos hyq, if_neg this]
              have HTOK := Aside0.mk (litTok_some HDI.out (HR.out.trans hRR))
              obtain ⟨vs, hvs⟩ : ∃ vs, strOfNums acc = vs := ⟨_, rfl⟩
              have HVB : Aside0 (bytesOf vs = acc) := ⟨by rw [← hvs]; exact bytesOf_str acc HAR.out⟩
              obtain ⟨kv, hkv⟩ : ∃ kv, vs.size = kv := ⟨_, rfl⟩
              have hkv2 : acc.length = kv := by rw [← HVB.out, bytesOf_length]; exact hkv
              have hst := bld_String H H acc wc HB.out HAR.out (by have := HW.out.size; have := HH.out; omega)
              rw [hvs] at hst
              have HST := Lib.hid hst
              have kb := fun W => print_bytes (P := Tryz.prog) 9 100 5 Tryz.underlying9 Tryz.underlying100 Tryz.underlying5 vs W
              have hnp := fun W => np_calls vs W (by omega) 108 litNP_enters litNP.pays
              rw [hkv] at kb hnp
              rw [HVB.out] at hnp
              obtain ⟨ap, hap⟩ : ∃ ap, acc.all S.prn = ap := ⟨_, rfl⟩
              rw [hap] at hnp
              have HNP := Lib.hid hnp
              have HAP := Aside0.mk hap
              have HF13 := Lib.hid (fun W => scan_fail.calls (.pointer (some ⟨s, 0, none⟩)) 13 line W)
              have HVS := Aside0.mk hvs
              clear hst hnp hap hRR hvs HF HWB
              have HW1 : Aside0 (∀ W : World, Below H wc W → But (· = s) w W) := ⟨fun W hb => But.of_below (by rw [HH.out]; exact HW.out.trans hb)⟩
              cases ap with
              | false =>
                go_wp2_with (first | (go_at_call 107; refine HST.out.mono ?_; rintro e w1 ⟨rfl, hs1, hs2⟩) | (go_at_call 63; refine (HNP.out _).mono ?_; rintro e w2 ⟨rfl, hs3⟩; have hsc : Sc s src i line m w2 := (hs3.block s (by have := hs2.size; have := HC.out.lt; omega)).trans ((hs2.block s HSL.out).trans HC.out); have HSC := Aside0.mk hsc; have e2 := hsc.c2; have f1 := hsc.fr 1; have e1 := hsc.c1; have HBU : Aside0 (But (· = s) w w2) := ⟨(HW1.out _ hs2).then hs3⟩; clear hsc) | (go_at_call 97; refine (HF13.out _).mono ?_; rintro e w3 ⟨rfl, rfl⟩; unfold Fails))
                refine ⟨rfl, HBU.out, ?_⟩
                rw [HTOK.out, if_neg (by rw [HAP.out]; simp)]
                exact ⟨rfl, _, HSC.out⟩
              | true =>
                rw [if_pos HAP.out] at HTOK
                go_upto_region 15 with (first | (go_at_call 107; refine HST.out.mono ?_; rintro e w1 ⟨rfl, hs1, hs2⟩) | (go_at_call 63; refine (HNP.out _).mono ?_; rintro e w2 ⟨rfl, hs3⟩; have hsc : Sc s src i line m w2 := (hs3.block s (by have := hs2.size; have := HC.out.lt; omega)).trans ((hs2.block s HSL.out).trans HC.out); have HSC := Aside0.mk hsc; have e2 := hsc.c2; have f1 := hsc.fr 1; have e1 := hsc.c1; have HBU : Aside0 (But (· = s) w w2) := ⟨(HW1.out _ hs2).then hs3⟩; clear hsc))
                obtain ⟨x, hx⟩ : ∃ x, kk + 1 = x := ⟨_, rfl⟩
                have HS3 : Aside0 (Sc s src x line m (w2.setCell ⟨s, 1, none⟩ (.int .i64 ((kk : Int) + 1)))) := ⟨by
                  have := HSC.out.set1 ((kk : Int) + 1)
                  rw [show ((kk : Int) + 1) = (x : Int) by omega] at this ⊢
                  exact this⟩
                have HB3 : Aside0 (But (· = s) w (w2.setCell ⟨s, 1, none⟩ (.int .i64 ((kk : Int) + 1)))) := ⟨HBU.out.set _ _ rfl⟩
                generalize w2.setCell ⟨s, 1, none⟩ (.int .i64 ((kk : Int) + 1)) = w3 at *
                obtain ⟨K, hK⟩ : ∃ K, S.sfx (L.drop x) = K := ⟨_, rfl⟩
                rw [hx, hK] at HTOK
                have HKK := Aside0.mk hK
                have hxn : x ≤ n := by omega
                have hx0 : (0 : Int) ≤ (x : Int) := by omega
                clear hK HST HNP HF13 kb HA HAR HDK HB hs2 hs3 HSC HBU HC HW HW1
                go_cut [148] from 10 (fun s148 w4 => s148 = .bool (decide (K ≠ 0)) ∧ Aside0 (Sc s src x line m w4) ∧ Aside0 (But (· = s) w w4))
                case first =>
                  have cc0 : ∀ y : ScC s src x line m w, y.world.cell? ⟨s, 0, none⟩ = some (.string src) := ScC.c0
                  have cc1 : ∀ y : ScC s src x line m w, y.world.cell? ⟨s, 1, none⟩ = some (.int .i64 x) := ScC.c1
                  have hne : Nonempty (ScC s src x line m w) := ⟨⟨w3.drew, HS3.out, HB3.out.drew⟩⟩
                  by_cases hxl : x < n
                  · have e1 : decide ((x : Int) < (n : Int)) = true := decide_eq_true (by omega)
                    have e2 : decide (x < n) = true := decide_eq_true hxl
                    have hbx := nth_byte src x (by omega)
                    rw [HL.out] at hbx
                    have hdx := drop_at L x (by rw [HN.out]; omega)
                    obtain ⟨c, hcc⟩ : ∃ c, L.getD x 0 = c := ⟨_, rfl⟩
                    rw [hcc] at hbx hdx
                    have hcr : 0 ≤ c ∧ c < 256 := by rw [← hcc]; exact bo_range src _ (by rw [HL.out]; exact getD_mem _ _ (by rw [HN.out]; omega))
                    obtain ⟨p1, p2⟩ := ixS_spec c hcr.1 hcr.2
                    have HK2 : Aside0 (K = match L.drop (x + 1) with | [] => S.sfxOf c | d :: _ => if S.sym d = true then 0 else S.sfxOf c) := ⟨by rw [← HKK.out, hdx, sfx_cons]⟩
                    have HIS := Lib.hid (fun W => strings_IndexByte.calls ⟨#[88, 120, 66, 98]⟩ c (ixS c) W (ixS_f c))
                    have hxz : (x : Int) < (n : Int) := by omega
                    clear hcc hdx p2
                    generalize ixS c = iv at *
                    by_cases hs0 : S.sfxOf c = 0
                    · have e3 : decide (0 ≤ iv) = false := by rw [p1, hs0]; rfl
                      obtain rfl : K = 0 := by
                        rw [HK2.out]
                        rcases L.drop (x + 1) with _ | ⟨d, t⟩
                        · exact hs0
                        · simp [hs0]
                      clear p1 hs0
                      refine wp_region_cls (fun W => ∃ y : ScC s src x line m w, W = y.world) (by kernel_rfl) (by kernel_rfl) ⟨⟨w3.drew, HS3.out, HB3.out.drew⟩, rfl⟩ ?_
                      repeat (go_big_quiet_step ((rename_i y; (go_at_call 93; refine (HIS.out _).mono ?_; rintro e w' ⟨rfl, hb⟩; exact ⟨rfl, y.ret hb.below⟩))))
                      refine wpQuiet_nil ?_
                      rintro W ⟨y, rfl⟩
                      go_wp2_with fail
                      go_meet
                      exact ⟨rfl, ⟨y.sc⟩, ⟨y.but⟩⟩
                    · have e3 : decide (0 ≤ iv) = true := by rw [p1]; exact decide_eq_true hs0
                      by_cases hx1 : x + 1 < n
                      · have e4 : decide ((n : Int) ≤ (x : Int) + 1) = false := decide_eq_false (by omega)
                        have e5 : decide (n ≤ x + 1) = false := decide_eq_false (by omega)
                        have hbx1 := nth_byte src (x + 1) (by omega)
                        rw [HL.out] at hbx1
                        have hx1z : (x : Int) + 1 < (n : Int) := by omega
                        have hx10 : (0 : Int) ≤ (x : Int) + 1 := by omega
                        have hdx := drop_at L (x + 1) (by rw [HN.out]; omega)
                        obtain ⟨d, hdd⟩ : ∃ d, L.getD (x + 1) 0 = d := ⟨_, rfl⟩
                        rw [hdd] at hbx1 hdx
                        have hdr : 0 ≤ d ∧ d < 256 := by rw [← hdd]; exact bo_range src _ (by rw [HL.out]; exact getD_mem _ _ (by rw [HN.out]; omega))
                        have hsy := fun W => scan_symbolic.calls d (S.sym d) W (sym_f d hdr.1 hdr.2)
                        obtain ⟨sd, hsd⟩ : ∃ sd, S.sym d = sd := ⟨_, rfl⟩
                        rw [hsd] at hsy
                        have HSY := Lib.hid hsy
                        have HKV : Aside0 (decide (K ≠ 0) = !sd) := ⟨by
                          rw [HK2.out, hdx]
                          simp only [hsd]
                          cases sd
                          · simp [hs0]
                          · rfl⟩
                        clear p1 hs0 hsy hdx hdd hsd hdr
                        refine wp_region_cls (fun W => ∃ y : ScC s src x line m w, W = y.world) (by kernel_rfl) (by kernel_rfl) ⟨⟨w3.drew, HS3.out, HB3.out.drew⟩, rfl⟩ ?_
                        repeat (go_big_quiet_step ((rename_i y; first | (go_at_call 93; refine (HIS.out _).mono ?_; rintro e w' ⟨rfl, hb⟩; exact ⟨rfl, y.ret hb.below⟩) | (go_at_call 55; refine (HSY.out _).mono ?_; rintro e w' ⟨rfl, hb⟩; exact ⟨rfl, y.ret hb.below⟩))))
                        refine wpQuiet_nil ?_
                        rintro W ⟨y, rfl⟩
                        go_wp2_with fail
                        go_meet
                        exact ⟨by rw [HKV.out], ⟨y.sc⟩, ⟨y.but⟩⟩
                      · have e4 : decide ((n : Int) ≤ (x : Int) + 1) = true := decide_eq_true (by omega)
                        have e5 : decide (n ≤ x + 1) = true := decide_eq_true (by omega)
                        have HKV : Aside0 (decide (K ≠ 0) = true) := ⟨by
                          rw [HK2.out, List.drop_eq_nil_of_le (by rw [HN.out]; omega)]
                          exact decide_eq_true hs0⟩
                        clear p1 hs0
                        refine wp_region_cls (fun W => ∃ y : ScC s src x line m w, W = y.world) (by kernel_rfl) (by kernel_rfl) ⟨⟨w3.drew, HS3.out, HB3.out.drew⟩, rfl⟩ ?_
                        repeat (go_big_quiet_step ((rename_i y; (go_at_call 93; refine (HIS.out _).mono ?_; rintro e w' ⟨rfl, hb⟩; exact ⟨rfl, y.ret hb.below⟩))))
                        refine wpQuiet_nil ?_
                        rintro W ⟨y, rfl⟩
                        go_wp2_with fail
                        go_meet
                        exact ⟨by rw [HKV.out], ⟨y.sc⟩, ⟨y.but⟩⟩
                  · have e1 : decide ((x : Int) < (n : Int)) = false := decide_eq_false (by omega)
                    have e2 : decide (x < n) = false := decide_eq_false hxl
                    obtain rfl : K = 0 := by
                      rw [← HKK.out, List.drop_eq_nil_of_le (by rw [HN.out]; omega)]
                      rfl
                    refine wp_region_cls (fun W => ∃ y : ScC s src x line m w, W = y.world) (by kernel_rfl) (by kernel_rfl) ⟨⟨w3.drew, HS3.out, HB3.out.drew⟩, rfl⟩ ?_
                    repeat (go_big_quiet_step (fail))
                    refine wpQuiet_nil ?_
                    rintro W ⟨y, rfl⟩
                    go_wp2_with fail
                    go_meet
                    exact ⟨rfl, ⟨y.sc⟩, ⟨y.but⟩⟩
                case rest =>
                  obtain ⟨rfl, HS4, HB4⟩ := hcut
                  go_upto_if 148 with (fail)
                  go_cut [6] from 10 (fun s6 w5 => ∃ (vv : List Int) (pp : Nat), s6 = .string (strOfNums vv) ∧ Aside0 (Sc s src pp line m w5) ∧ Aside0 (But (· = s) w w5) ∧ Aside0 (S.litTok (L.drop i) = S.litEnd vv (pp - i)) ∧ Aside0 (i ≤ pp))
                  case first =>
                    by_cases hK0 : K = 0
                    · subst hK0
                      rw [if_pos rfl] at HTOK
                      go_wp2_with fail
                      go_meet
                      exact ⟨acc, x, by rw [HVS.out], HS4, HB4, HTOK, ⟨by omega⟩⟩
                    · have hxl : x < n := by
                        rcases Nat.lt_or_ge x n with h | h
                        · exact h
                        · exfalso
                          apply hK0
                          rw [← HKK.out, List.drop_eq_nil_of_le (by rw [HN.out]; omega)]
                          rfl
                      have hbx := nth_byte src x (by omega)
                      rw [HL.out] at hbx
                      have hdx := drop_at L x (by rw [HN.out]; omega)
                      obtain ⟨c, hcc⟩ : ∃ c, L.getD x 0 = c := ⟨_, rfl⟩
                      rw [hcc] at hbx hdx
                      have hcr : 0 ≤ c ∧ c < 256 := by rw [← hcc]; exact bo_range src _ (by rw [HL.out]; exact getD_mem _ _ (by rw [HN.out]; omega))
                      obtain ⟨p1, p2⟩ := ixS_spec c hcr.1 hcr.2
                      have hKc : K = S.sfxOf c := by
                        have h1 := HKK.out
                        rw [hdx, sfx_cons] at h1
                        rcases hd2 : L.drop (x + 1) with _ | ⟨d, t⟩
                        · rw [hd2] at h1; exact h1.symm
                        · rw [hd2] at h1
                          simp only at h1
                          by_cases hsd : S.sym d = true
                          · rw [if_pos hsd] at h1; exact absurd h1.symm hK0
                          · rw [if_neg hsd] at h1; exact h1.symm
                      have HIB := Lib.hid (fun W => strings_IndexByte.calls ⟨#[66, 98]⟩ c (ixB c) W (ixB_f c))
                      have hxz : (x : Int) < (n : Int) := by omega
                      rw [← hKc] at p2
                      have d0 := HS4.out.c0
                      have d1 := HS4.out.c1
                      have d2 := HS4.out.c2
                      have cc0 : ∀ y : ScC s src x line m w, y.world.cell? ⟨s, 0, none⟩ = some (.string src) := ScC.c0
                      have cc1 : ∀ y : ScC s src x line m w, y.world.cell? ⟨s, 1, none⟩ = some (.int .i64 x) := ScC.c1
                      have hne : Nonempty (ScC s src x line m w) := ⟨⟨wc.drew, HS4.out, HB4.out.drew⟩⟩
                      clear p1 hKc hdx hcc hcr
                      generalize ixB c = ib at *
                      rcases p2 with p2 | ⟨rfl, e3⟩ | ⟨rfl, e3⟩
                      · exact absurd p2 hK0
                      · clear hK0
                        have hdc : ∀ W, Calls Tryz.prog 109 #[.string vs, .int .i64 4] W fun e w' => e = .returned (.tuple #[.string (strOfNums ((S.litDec (bytesOf vs) 4).getD [])), .bool (S.litDec (bytesOf vs) 4).isSome]) ∧ Below W.heap.size W w' := fun W => scan_decode.calls vs 4 2 (.inl ⟨rfl, rfl⟩) (by omega) W
                        have HF15 := Lib.hid (fun W => scan_fail.calls (.pointer (some ⟨s, 0, none⟩)) 15 line W)
                        rw [HVB.out] at hdc
                        rw [if_neg (by decide)] at HTOK
                        cases hld : S.litDec acc 4 with
                        | none =>
                          rw [hld] at hdc
                          have HTK : Aside0 (S.litTok (L.drop i) = .err 15) := ⟨by rw [HTOK.out, hld]⟩
                          have HDC := Lib.hid hdc
                          clear hdc hld
                          go_upto_region 17 with (fail)
                          refine wp_region_cls (fun W => ∃ y : ScC s src x line m w, W = y.world) (by kernel_rfl) (by kernel_rfl) ⟨⟨wc.drew, HS4.out, HB4.out.drew⟩, rfl⟩ ?_
                          repeat (go_big_quiet_step ((rename_i y; (go_at_call 93; refine (HIB.out _).mono ?_; rintro e w' ⟨rfl, hb⟩; exact ⟨rfl, y.ret hb.below⟩))))
                          refine wpQuiet_nil ?_
                          rintro W ⟨⟨w5, hs5, hb5⟩, rfl⟩
                          go_wp2_with (first | (go_at_call 109; refine (HDC.out _).mono ?_; rintro e w6 ⟨rfl, hb6⟩; have hs6 := hs5.below hb6; have hb7 := hb5.then hb6; have e2 := hs6.c2) | (go_at_call 97; refine (HF15.out _).mono ?_; rintro e w7 ⟨rfl, rfl⟩; unfold Fails))
                          refine ⟨rfl, hb7, ?_⟩
                          rw [HTK.out]
                          exact ⟨rfl, _, hs6⟩
                        | some u =>
                          rw [hld] at hdc
                          have HTK : Aside0 (S.litTok (L.drop i) = S.litEnd u (x + 1 - i)) := ⟨by rw [HTOK.out, hld]; simp only []; rw [show kk + 2 - i = x + 1 - i by omega]⟩
                          have HDC := Lib.hid hdc
                          clear hdc hld
                          go_upto_region 17 with (fail)
                          refine wp_region_cls (fun W => ∃ y : ScC s src x line m w, W = y.world) (by kernel_rfl) (by kernel_rfl) ⟨⟨wc.drew, HS4.out, HB4.out.drew⟩, rfl⟩ ?_
                          repeat (go_big_quiet_step ((rename_i y; (go_at_call 93; refine (HIB.out _).mono ?_; rintro e w' ⟨rfl, hb⟩; exact ⟨rfl, y.ret hb.below⟩))))
                          refine wpQuiet_nil ?_
                          rintro W ⟨⟨w5, hs5, hb5⟩, rfl⟩
                          go_wp2_with (go_at_call 109; refine (HDC.out _).mono ?_; rintro e w6 ⟨rfl, hb6⟩; have hs6 := hs5.below hb6; have hb7 := hb5.then hb6; have e1 := hs6.c1; have f1 := hs6.fr 1)
                          go_meet
                          exact ⟨u, x + 1, rfl, ⟨hs6.set1 _⟩, ⟨hb7.set _ _ rfl⟩, HTK, ⟨by omega⟩⟩
                      · clear hK0
                        have hdc : ∀ W, Calls Tryz.prog 109 #[.string vs, .int .i64 1] W fun e w' => e = .returned (.tuple #[.string (strOfNums ((S.litDec (bytesOf vs) 1).getD [])), .bool (S.litDec (bytesOf vs) 1).isSome]) ∧ Below W.heap.size W w' := fun W => scan_decode.calls vs 1 8 (.inr ⟨rfl, rfl⟩) (by omega) W
                        have HF15 := Lib.hid (fun W => scan_fail.calls (.pointer (some ⟨s, 0, none⟩)) 15 line W)
                        rw [HVB.out] at hdc
                        rw [if_neg (by decide)] at HTOK
                        cases hld : S.litDec acc 1 with
                        | none =>
                          rw [hld] at hdc
                          have HTK : Aside0 (S.litTok (L.drop i) = .err 15) := ⟨by rw [HTOK.out, hld]⟩
                          have HDC := Lib.hid hdc
                          clear hdc hld
                          go_upto_region 17 with (fail)
                          refine wp_region_cls (fun W => ∃ y : ScC s src x line m w, W = y.world) (by kernel_rfl) (by kernel_rfl) ⟨⟨wc.drew, HS4.out, HB4.out.drew⟩, rfl⟩ ?_
                          repeat (go_big_quiet_step ((rename_i y; (go_at_call 93; refine (HIB.out _).mono ?_; rintro e w' ⟨rfl, hb⟩; exact ⟨rfl, y.ret hb.below⟩))))
                          refine wpQuiet_nil ?_
                          rintro W ⟨⟨w5, hs5, hb5⟩, rfl⟩
                          go_wp2_with (first | (go_at_call 109; refine (HDC.out _).mono ?_; rintro e w6 ⟨rfl, hb6⟩; have hs6 := hs5.below hb6; have hb7 := hb5.then hb6; have e2 := hs6.c2) | (go_at_call 97; refine (HF15.out _).mono ?_; rintro e w7 ⟨rfl, rfl⟩; unfold Fails))
                          refine ⟨rfl, hb7, ?_⟩
                          rw [HTK.out]
                          exact ⟨rfl, _, hs6⟩
                        | some u =>
                          rw [hld] at hdc
                          have HTK : Aside0 (S.litTok (L.drop i) = S.litEnd u (x + 1 - i)) := ⟨by rw [HTOK.out, hld]; simp only []; rw [show kk + 2 - i = x + 1 - i by omega]⟩
                          have HDC := Lib.hid hdc
                          clear hdc hld
                          go_upto_region 17 with (fail)
                          refine wp_region_cls (fun W => ∃ y : ScC s src x line m w, W = y.world) (by kernel_rfl) (by kernel_rfl) ⟨⟨wc.drew, HS4.out, HB4.out.drew⟩, rfl⟩ ?_
                          repeat (go_big_quiet_step ((rename_i y; (go_at_call 93; refine (HIB.out _).mono ?_; rintro e w' ⟨rfl, hb⟩; exact ⟨rfl, y.ret hb.below⟩))))
                          refine wpQuiet_nil ?_
                          rintro W ⟨⟨w5, hs5, hb5⟩, rfl⟩
                          go_wp2_with (go_at_call 109; refine (HDC.out _).mono ?_; rintro e w6 ⟨rfl, hb6⟩; have hs6 := hs5.below hb6; have hb7 := hb5.then hb6; have e1 := hs6.c1; have f1 := hs6.fr 1)
                          go_meet
                          exact ⟨u, x + 1, rfl, ⟨hs6.set1 _⟩, ⟨hb7.set _ _ rfl⟩, HTK, ⟨by omega⟩⟩
                  case rest =>
                    obtain ⟨vv, pp, rfl, HS5, HB5, HTK, hip⟩ := hcut
                    have d2 := HS5.out.c2
                    obtain ⟨vz, hvz⟩ : ∃ vz, strOfNums vv = vz := ⟨_, rfl⟩
                    obtain ⟨lv, hlv⟩ : ∃ lv, vz.size = lv := ⟨_, rfl⟩
                    have hlv2 : vv.length = lv := by rw [← hlv, ← hvz]; simp [strOfNums, ByteArray.size]
                    have HVZ := Aside0.mk hvz
                    have HTK2 := HTK
                    unfold S.litEnd at HTK2
                    rw [hlv2] at HTK2
                    rw [hvz]
                    have HF30 := Lib.hid (scan_fail.calls (.pointer (some ⟨s, 0, none⟩)) 30 line wc)
                    by_cases hlong : 1000 < lv
                    · have e1 : decide (1000 < lv) = true := decide_eq_true hlong
                      have e2 : decide ((1000 : Int) < (lv : Int)) = true := decide_eq_true (by omega)
                      rw [if_pos hlong] at HTK2
                      clear hvz hlv2 hlong
                      go_wp2_with (go_at_call 97; refine HF30.out.mono ?_; rintro e w7 ⟨rfl, rfl⟩; unfold Fails)
                      refine ⟨rfl, HB5.out, ?_⟩
                      rw [HTK2.out]
                      exact ⟨rfl, _, HS5.out⟩
                    · have e1 : decide (1000 < lv) = false := decide_eq_false hlong
                      have e2 : decide ((1000 : Int) < (lv : Int)) = false := decide_eq_false (by omega)
                      rw [if_neg hlong] at HTK2
                      clear hvz hlv2 hlong
                      go_wp2_with fail
                      go_ret
                      refine ⟨HB5.out, ?_⟩
                      rw [HTK2.out]
                      exact ⟨by rw [HVZ.out]; rfl, by rw [show ((i + (pp - i) : Nat) : Int) = (pp : Int) by have := hip.out; omega]; exact HS5.out⟩
        · have g4 : (y == q) = false := beq_eq_false_iff_ne.2 hyq
          have hA2 : Aside0 (S.lit q (L.drop (kk + 1)) (kk + 1) (acc ++ [y]) = R) := ⟨by
            rw [← HA.out, HDK.out]
            rcases L.drop (kk + 1) with _ | ⟨d, t⟩
            · unfold S.lit
              rw [if_neg hy10, if_neg hyq]
            · conv => { rhs; unfold S.lit }
              rw [if_neg hy10, if_neg hyq]⟩
          go_wp2_with (go_at_call 106; refine (HWB.out _).mono ?_; rintro e w' ⟨rfl, hb1, hb2⟩)
          go_roundg (n + 1 - (kk + 1))
          case measure => omega
          case rel =>
            refine ⟨kk + 1, acc ++ [y], by omega, by omega, by omega, by go_num, by simp; omega, ⟨hb1⟩, ⟨HW.out.trans hb2⟩, ⟨fun x hx => ?_⟩, hA2⟩
            rcases List.mem_append.1 hx with hx | hx
            · exact HAR.out x hx
            · simp at hx; subst hx; exact HYR.out
end Go.Proofs.YtkkpjonfaflkmaaGreatDoor.T

namespace Go.Proofs.YtkkpjonfaflkmaaGreatDoor.T
set_option linter.unusedSimpArgs false
set_option linter.unusedVariables false
open Go.RowKit Go.Proofs.YtkkpjonfaflkmaaGreatDoorW.PrintWords Go.Proofs.YtkkpjonfaflkmaaGreatDoorW.PrintLast Go.Proofs.YtkkpjonfaflkmaaGreatDoorW.PrintMore
def CmtPost (s : Nat) (src : ByteArray) (m : Value) (line : Nat) (e : Ending) (w' : World) : S.CR → Prop
  | .eof => e = Fails 6 line ∧ ∃ i' l' : Nat, Sc s src i' l' m w'
  | .done i' l' bad => if bad = 0 then e = .returned (.tuple #[]) ∧ Sc s src i' l' m w' else e = Fails 13 bad ∧ ∃ i' l' : Nat, Sc s src i' l' m w'
theorem CmtPost.ret {s : Nat} {src : ByteArray} {m : Value} {line i' l' bad : Nat} {w' : World} (hb : bad = 0) (h : Sc s src i' l' m w') : CmtPost s src m line (.returned (.tuple #[])) w' (.done i' l' bad) := by
  show if bad = 0 then _ else _
  rw [if_pos hb]
  exact ⟨rfl, h⟩
theorem CmtPost.fail {s : Nat} {src : ByteArray} {m : Value} {line i' l' bad j k : Nat} {w' : World} (hb : ¬ bad = 0) (h : Sc s src j k m w') : CmtPost s src m line (Fails 13 bad) w' (.done i' l' bad) := by
  show if bad = 0 then _ else _
  rw [if_neg hb]
  exact ⟨rfl, _, _, h⟩
set_option maxRecDepth 100000 in
set_option maxHeartbeats 4000000 in
theorem scan_comment.calls (s : Nat) (src : ByteArray) (m : Value) (i line : Nat) (w : World) (hsz : src.size ≤ 1000000) (hl : line ≤ 1000000000) (hi : i ≤ src.size) (hst : S.starts2 ((bytesOf src).drop i) = true) (h : Sc s src i line m w) :
    Calls Tryz.prog 124 #[.pointer (some ⟨s, 0, none⟩)] w fun e w' => But (· = s) w w' ∧ CmtPost s src m line e w' (S.cmt ((bytesOf src).drop i) i 0 line 0) := by
  have HS := Aside0.mk h
  obtain ⟨n, hn⟩ : ∃ n, src.size = n := ⟨_, rfl⟩
  obtain ⟨L, hL⟩ : ∃ L, bytesOf src = L := ⟨_, rfl⟩
  have HN : Aside0 (L.length = n) := ⟨by rw [← hL, bytesOf_length]; exact hn⟩
  rw [hL] at hst ⊢
  obtain ⟨R, hR⟩ : ∃ R, S.cmt (L.drop i) i 0 line 0 = R := ⟨_, rfl⟩
  rw [hR]
  have HR := Aside0.mk hR
  have HL := Aside0.mk hL
  have HST := Aside0.mk hst
  have h2 := h.c2
  clear hR hL hst h
  rw [hn] at hsz hi
  go_enter Tryz.func124, Tryz.ntmps124
  go_step3
  go_wp2
  go_step3
  go_wp2
  go_loopg [3, 4, 5] (n + 1) (fun gg s3 s4 _ wr => ∃ kk dp ln bd : Nat, kk ≤ n ∧ n + 1 - kk ≤ gg ∧ s3 = .int .i64 dp ∧ s4 = .int .i64 bd ∧ Aside0 (Sc s src kk ln m wr) ∧ Aside0 (But (· = s) w wr) ∧ dp ≤ kk ∧ ln ≤ line + kk ∧ bd ≤ line + kk ∧ Aside0 (1 ≤ dp ∨ S.starts2 (L.drop kk) = true) ∧ Aside0 (S.cmt (L.drop kk) kk dp ln bd = R))
  case atStart => exact ⟨i, 0, line, 0, hi, by omega, rfl, rfl, HS, ⟨.refl _ _⟩, by omega, by omega, by omega, ⟨.inr HST.out⟩, HR⟩
  case round =>
    obtain ⟨kk, dp, ln, bd, hkk, hg, rfl, rfl, HC, HB, hdp, hln, hbd, HD, HA⟩ := hrel
    have c0 := HC.out.c0
    have c1 := HC.out.c1
    have hkz : (kk : Int) ≤ (n : Int) := by omega
    have hk0 : (0 : Int) ≤ (kk : Int) := by omega
    go_wp2
    go_region
    have HC1 : Aside0 (Sc s src kk ln m wr.drew) := HC
    have HB1 : Aside0 (But (· = s) w wr.drew) := ⟨HB.out.drew⟩
    have c0' : wr.drew.cell? ⟨s, 0, none⟩ = some (.string src) := c0
    have c1' : wr.drew.cell? ⟨s, 1, none⟩ = some (.int .i64 kk) := c1
    have c2' : wr.drew.cell? ⟨s, 2, none⟩ = some (.int .i64 ln) := HC1.out.c2
    have f1 := HC1.out.fr 1
    have f2 := HC1.out.fr 2
    clear HC HB c0 c1
    generalize wr.drew = w1 at *
    have HM : Aside0 (bytesOf (src.extract kk n) = L.drop kk) := ⟨by rw [← hn, bytesOf_rest, HL.out]⟩
    generalize src.extract kk n = rs at *
    have HE : Aside0 ((bytesOf rs).length = n - kk) := ⟨by rw [HM.out, List.length_drop, HN.out]⟩
    have HDR : Aside0 (∀ j, L.drop (kk + j) = (L.drop kk).drop j) := ⟨fun j => by rw [List.drop_drop]⟩
    rcases hM : L.drop kk with _ | ⟨y, M⟩
    · rw [hM] at HM HA HD
      have hkn : kk = n := by
        have := HE.out
        rw [HM.out] at this
        simp at this
        omega
      have e0 : (rs.toList == ([] : List UInt8)) = true := by rw [str_empty, HM.out]; rfl
      have HF := Lib.hid (scan_fail.calls (.pointer (some ⟨s, 0, none⟩)) 6 line w1)
      clear hM
      go_wp2_with (go_at_call 97; refine HF.out.mono ?_; rintro e w' ⟨rfl, rfl⟩; unfold Fails)
      have hR : R = .eof := HA.out.symm
      rw [hR]
      exact ⟨rfl, HB1.out, rfl, _, _, HC1.out⟩
    · have HMM := Aside0.mk hM
      rw [hM] at HM HA HD HDR
      have hlt : kk < n := by
        have := HE.out
        rw [HM.out] at this
        simp at this
        omega
      have e0 : (rs.toList == ([] : List UInt8)) = false := by rw [str_empty, HM.out]; rfl
      obtain ⟨hz, hy⟩ := first_byte rs y M HM.out
      have hzi : (0 : Int) < (rs.size : Int) := by omega
      have hw1 : IntKind.i64.wrap ((kk : Int) + 1) = ((kk + 1 : Nat) : Int) := by rw [w64 _ (by omega) (by omega)]; omega
      have hw2 : IntKind.i64.wrap ((kk : Int) + 2) = ((kk + 2 : Nat) : Int) := by rw [w64 _ (by omega) (by omega)]; omega
      have hw3 : IntKind.i64.wrap ((dp : Int) + 1) = ((dp + 1 : Nat) : Int) := by rw [w64 _ (by omega) (by omega)]; omega
      have hw4 : IntKind.i64.wrap ((ln : Int) + 1) = ((ln + 1 : Nat) : Int) := by rw [w64 _ (by omega) (by omega)]; omega
      have HCA := Aside0.mk (fun (x : Nat) => HC1.out.set1 (x : Int))
      have HBA := Aside0.mk (fun (v : Value) => HB1.out.set ⟨s, 1, none⟩ v rfl)
      clear hM
      by_cases hp1 : S.st2 47 42 (y :: M) = true
      · -- a comment opens
        obtain ⟨z, t, rfl, rfl, rfl⟩ : ∃ z t, M = z :: t ∧ y = 47 ∧ z = 42 := by
          rcases M with _ | ⟨z, t⟩
          · cases hp1
          · simp [S.st2] at hp1
            exact ⟨z, t, rfl, hp1⟩
        have hk2 : kk + 2 ≤ n := by
          have := HE.out
          rw [HM.out] at this
          simp at this
          omega
        have H1 := Lib.hid (prefix2.calls rs 47 42 true (by rw [HM.out]; exact hp1) w1)
        have HA2 : Aside0 (S.cmt (L.drop (kk + 2)) (kk + 2) (dp + 1) ln bd = R) := ⟨by
          rw [HDR.out 2, ← HA.out]
          simp [S.cmt]⟩
        clear hp1
        go_wp2_with (go_at_call 123; refine H1.out.mono ?_; rintro e w' ⟨rfl, rfl⟩)
        go_roundg (n + 1 - (kk + 2))
        case measure => omega
        case rel =>
          refine ⟨kk + 2, dp + 1, ln, bd, by omega, by omega, by go_num, rfl, ⟨?_⟩, ⟨?_⟩, by omega, by omega, by omega, ⟨.inl (by omega)⟩, HA2⟩
          · exact HCA.out (kk + 2)
          · exact HBA.out _
      · have hp1' : S.st2 47 42 (y :: M) = false := by simpa using hp1
        have hd1 : 1 ≤ dp := by
          rcases HD.out with h | h
          · exact h
          · rw [S.starts2_eq, hp1'] at h; cases h
        have hw5 : IntKind.i64.wrap ((dp : Int) - 1) = ((dp - 1 : Nat) : Int) := by rw [w64 _ (by omega) (by omega)]; omega
        have H1 := Lib.hid (prefix2.calls rs 47 42 false (by rw [HM.out]; exact hp1') w1)
        by_cases hp2 : S.st2 42 47 (y :: M) = true
        · -- a comment closes
          obtain ⟨z, t, rfl, rfl, rfl⟩ : ∃ z t, M = z :: t ∧ y = 42 ∧ z = 47 := by
            rcases M with _ | ⟨z, t⟩
            · cases hp2
            · simp [S.st2] at hp2
              exact ⟨z, t, rfl, hp2⟩
          have hk2 : kk + 2 ≤ n := by
            have := HE.out
            rw [HM.out] at this
            simp at this
            omega
          have H2 := Lib.hid (prefix2.calls rs 42 47 true (by rw [HM.out]; exact hp2) w1)
          clear hp1 hp1' hp2
          by_cases hd : dp = 1
          · have hR : R = .done (kk + 2) ln bd := by
              rw [← HA.out]
              simp [S.cmt, hd]
            have e5 : (((dp - 1 : Nat) : Int) == 0) = true := by rw [hd]; rfl
            by_cases hb : bd = 0
            · have b1 : decide (0 < bd) = false := decide_eq_false (by omega)
              have b2 : decide ((0 : Int) < (bd : Int)) = false := decide_eq_false (by omega)
              have HCF := HCA.out (kk + 2)
              have HF := Aside0.mk HCF
              clear HCF
              go_wp2_with (go_at_call 123; (first | (with_reducible refine H1.out.mono ?_) | (with_reducible refine H2.out.mono ?_)); rintro e w' ⟨rfl, rfl⟩)
              try rw [Exit.noGoto_normal]
              go_end0
              rw [hR]
              exact ⟨HBA.out _, CmtPost.ret hb HF.out⟩
            · have b1 : decide (0 < bd) = true := decide_eq_true (by omega)
              have b2 : decide ((0 : Int) < (bd : Int)) = true := decide_eq_true (by omega)
              have HF := Lib.hid (fun W => scan_fail.calls (.pointer (some ⟨s, 0, none⟩)) 13 bd W)
              go_wp2_with (first | (go_at_call 123; (first | (with_reducible refine H1.out.mono ?_) | (with_reducible refine H2.out.mono ?_)); rintro e w' ⟨rfl, rfl⟩) | (go_at_call 97; refine (HF.out _).mono ?_; rintro e w' ⟨rfl, rfl⟩; unfold Fails))
              rw [hR]
              exact ⟨rfl, HBA.out _, CmtPost.fail hb (HCA.out (kk + 2))⟩
          · have e5 : (((dp - 1 : Nat) : Int) == 0) = false := beq_eq_false_iff_ne.2 (by omega)
            have HA2 : Aside0 (S.cmt (L.drop (kk + 2)) (kk + 2) (dp - 1) ln bd = R) := ⟨by
              rw [HDR.out 2, ← HA.out]
              simp [S.cmt, hd]⟩
            go_wp2_with (go_at_call 123; (first | (with_reducible refine H1.out.mono ?_) | (with_reducible refine H2.out.mono ?_)); rintro e w' ⟨rfl, rfl⟩)
            go_roundg (n + 1 - (kk + 2))
            case measure => omega
            case rel =>
              refine ⟨kk + 2, dp - 1, ln, bd, by omega, by omega, by go_num, rfl, ⟨?_⟩, ⟨?_⟩, by omega, by omega, by omega, ⟨.inl (by omega)⟩, HA2⟩
              · exact HCA.out (kk + 2)
              · exact HBA.out _
        · have hp2' : S.st2 42 47 (y :: M) = false := by simpa using hp2
          have H2 := Lib.hid (prefix2.calls rs 42 47 false (by rw [HM.out]; exact hp2') w1)
          have hstep : S.cmt (y :: M) kk dp ln bd = S.cmt M (kk + 1) dp (if y = 10 then ln + 1 else ln) (if y ≠ 10 ∧ S.prn y = false ∧ bd = 0 then ln else bd) := by
            rcases M with _ | ⟨z, t⟩
            · rfl
            · simp only [S.st2, Bool.and_eq_false_iff, decide_eq_false_iff_not] at hp1' hp2'
              conv => { lhs; unfold S.cmt }
              rw [if_neg (by omega), if_neg (by omega)]
          rw [hstep] at HA
          have hD1 : L.drop (kk + 1) = M := HDR.out 1
          clear hp1 hp1' hp2 hp2' hstep
          by_cases hy10 : y = 10
          · have e6 : (y == 10) = true := beq_iff_eq.2 hy10
            rw [if_pos hy10, if_neg (fun q => q.1 hy10)] at HA
            have HCA2 := Aside0.mk (fun (l x : Nat) => (HC1.out.set2 (l : Int)).set1 (x : Int))
            have HBA2 := Aside0.mk (fun (u v : Value) => (HB1.out.set ⟨s, 2, none⟩ u rfl).set ⟨s, 1, none⟩ v rfl)
            go_wp2_with (go_at_call 123; (first | (with_reducible refine H1.out.mono ?_) | (with_reducible refine H2.out.mono ?_)); rintro e w' ⟨rfl, rfl⟩)
            go_roundg (n + 1 - (kk + 1))
            case measure => omega
            case rel =>
              refine ⟨kk + 1, dp, ln + 1, bd, by omega, by omega, rfl, rfl, ⟨?_⟩, ⟨?_⟩, by omega, by omega, by omega, ⟨.inl (by omega)⟩, ⟨by rw [hD1]; exact HA.out⟩⟩
              · exact HCA2.out (ln + 1) (kk + 1)
              · exact HBA2.out _ _
          · have e6 : (y == 10) = false := beq_eq_false_iff_ne.2 hy10
            rw [if_neg hy10] at HA
            have HP := Lib.hid (fun W => scan_printable.calls y (S.prn y) W (prn_f y))
            by_cases hpr : S.prn y = true
            · rw [if_neg (by rw [hpr]; simp)] at HA
              rw [hpr] at HP
              go_wp2_with (first | (go_at_call 123; (first | (with_reducible refine H1.out.mono ?_) | (with_reducible refine H2.out.mono ?_)); rintro e w' ⟨rfl, rfl⟩) | (go_at_call 65; refine (HP.out _).mono ?_; rintro e w' ⟨rfl, ⟨⟨q, rfl⟩⟩⟩))
              go_roundg (n + 1 - (kk + 1))
              case measure => omega
              case rel =>
                refine ⟨kk + 1, dp, ln, bd, by omega, by omega, rfl, rfl, ⟨?_⟩, ⟨?_⟩, by omega, by omega, by omega, ⟨.inl (by omega)⟩, ⟨by rw [hD1]; exact HA.out⟩⟩
                · exact HCA.out (kk + 1)
                · exact (HBA.out _).drewN q
            · have hpr' : S.prn y = false := by simpa using hpr
              rw [hpr'] at HP
              by_cases hb : bd = 0
              · have b1 : ((bd : Int) == 0) = true := beq_iff_eq.2 (by omega)
                rw [if_pos ⟨hy10, hpr', hb⟩] at HA
                go_wp2_with (first | (go_at_call 123; (first | (with_reducible refine H1.out.mono ?_) | (with_reducible refine H2.out.mono ?_)); rintro e w' ⟨rfl, rfl⟩) | (go_at_call 65; refine (HP.out _).mono ?_; rintro e w' ⟨rfl, ⟨⟨q, rfl⟩⟩⟩))
                go_roundg (n + 1 - (kk + 1))
                case measure => omega
                case rel =>
                  refine ⟨kk + 1, dp, ln, ln, by omega, by omega, rfl, rfl, ⟨?_⟩, ⟨?_⟩, by omega, by omega, by omega, ⟨.inl (by omega)⟩, ⟨by rw [hD1]; exact HA.out⟩⟩
                  · exact HCA.out (kk + 1)
                  · exact (HBA.out _).drewN q
              · have b1 : ((bd : Int) == 0) = false := beq_eq_false_iff_ne.2 (by omega)
                rw [if_neg (fun q => hb q.2.2)] at HA
                go_wp2_with (first | (go_at_call 123; (first | (with_reducible refine H1.out.mono ?_) | (with_reducible refine H2.out.mono ?_)); rintro e w' ⟨rfl, rfl⟩) | (go_at_call 65; refine (HP.out _).mono ?_; rintro e w' ⟨rfl, ⟨⟨q, rfl⟩⟩⟩))
                go_roundg (n + 1 - (kk + 1))
                case measure => omega
                case rel =>
                  refine ⟨kk + 1, dp, ln, bd, by omega, by omega, rfl, rfl, ⟨?_⟩, ⟨?_⟩, by omega, by omega, by omega, ⟨.inl (by omega)⟩, ⟨by rw [hD1]; exact HA.out⟩⟩
                  · exact HCA.out (kk + 1)
                  · exact (HBA.out _).drewN q
end Go.Proofs.YtkkpjonfaflkmaaGreatDoor.T
