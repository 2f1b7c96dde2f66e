/- Part 8 of the proof of ScanLocal: the functions that it calls return what their plain descriptions say. -/
import Derived.Test.YtkkpjonfaflkmaaGreatDoorCScanLocal6
import Derived.Deep.CutRange
import Derived.Test.YtkkpjonfaflkmaaGreatDoorCScanLocal7
import Derived.Test.YtkkpjonfaflkmaaGreatDoorCScanLocal4
import Derived.Test.YtkkpjonfaflkmaaGreatDoorCScanLocal5

namespace Go.Proofs.YtkkpjonfaflkmaaGreatDoor.T
set_option linter.unusedSimpArgs false
set_option linter.unusedVariables false
open Go.RowKit Go.Proofs.YtkkpjonfaflkmaaGreatDoorW.PrintWords Go.Proofs.YtkkpjonfaflkmaaGreatDoorW.PrintLast Go.Proofs.YtkkpjonfaflkmaaGreatDoorW.PrintMore
theorem lit_shift (q : Int) (a : Nat) : ∀ (n : Nat) (xs : List Int) (i : Nat) (acc : List Int), xs.length ≤ n → S.lit q xs (i + a) acc = (S.lit q xs i acc).map fun p => (p.1, p.2 + a)
  | _, [], i, acc, _ => rfl
  | _, [c], i, acc, _ => by
    unfold S.lit
    by_cases h0 : c = 10 <;> by_cases h : c = q <;> simp [h, h0]
    all_goals (split <;> rfl)
  | 0, _ :: _ :: _, _, _, h => by simp at h
  | n + 1, c :: d :: t, i, acc, h => by
    simp only [List.length_cons] at h
    have h1 := lit_shift q a n t (i + 2) (acc ++ [q]) (by omega)
    have h2 := lit_shift q a n (d :: t) (i + 1) (acc ++ [c]) (by simp; omega)
    unfold S.lit
    by_cases e1 : c = 10
    · simp [e1]
    · by_cases e2 : c = q
      · by_cases e3 : d = q
        · rw [if_neg e1, if_pos e2, if_pos e3, if_neg e1, if_pos e2, if_pos e3, ← h1]
          congr 1; omega
        · rw [if_neg e1, if_pos e2, if_neg e3, if_neg e1, if_pos e2, if_neg e3]
          rfl
      · rw [if_neg e1, if_neg e2, if_neg e1, if_neg e2, ← h2]
        congr 1; omega
theorem litTok_none {L : List Int} {i : Nat} {q : Int} (hd : L.drop i = q :: L.drop (i + 1)) (hR : S.lit q (L.drop (i + 1)) (i + 1) [] = none) : S.litTok (L.drop i) = .err 6 := by
  have h1 := lit_shift q i _ (L.drop (i + 1)) 1 [] (Nat.le_refl _)
  rw [Nat.add_comm 1 i, hR] at h1
  rw [hd]
  unfold S.litTok
  cases h : S.lit q (L.drop (i + 1)) 1 [] with
  | none => simp only [h]
  | some p => rw [h] at h1; cases h1
theorem litTok_some {L : List Int} {i b : Nat} {q : Int} {v : List Int} (hd : L.drop i = q :: L.drop (i + 1)) (hR : S.lit q (L.drop (i + 1)) (i + 1) [] = some (v, b)) :
    S.litTok (L.drop i) = if v.all S.prn = true then (if S.sfx (L.drop (b + 1)) = 0 then S.litEnd v (b + 1 - i) else match S.litDec v (S.sfx (L.drop (b + 1))) with
      | none => .err 15
      | some u => S.litEnd u (b + 2 - i)) else .err 13 := by
  have h1 := lit_shift q i _ (L.drop (i + 1)) 1 [] (Nat.le_refl _)
  rw [Nat.add_comm 1 i, hR] at h1
  rw [hd]
  unfold S.litTok
  cases h : S.lit q (L.drop (i + 1)) 1 [] with
  | none => rw [h] at h1; cases h1
  | some p =>
    obtain ⟨v', j⟩ := p
    rw [h] at h1
    simp only [Option.map_some, Option.some.injEq, Prod.mk.injEq] at h1
    obtain ⟨rfl, rfl⟩ := h1
    have e1 : (q :: L.drop (i + 1)).drop (j + 1) = L.drop (j + i + 1) := by
      rw [← hd, List.drop_drop]
      congr 1; omega
    rw [show j + i + 1 - i = j + 1 by omega, show j + i + 2 - i = j + 2 by omega]
    simp only [h, e1]
    rfl
theorem any_prn (v : List Int) : (v.any fun x => !S.prn x) = !(v.all S.prn) := by
  rw [List.all_eq_not_any_not, Bool.not_not]
theorem np_calls (vs : ByteArray) (W : World) (hs : vs.size ≤ 100000) (g : Nat) (eg : ∀ args w, (callFunc g args).run Tryz.prog w = .ok (.enter g args) w) (hp : ∀ w, Pays g #[] (fun x => Value.int .u8 x) (fun x => !S.prn x) (fun _ => True) w) :
    Calls Tryz.prog 63 #[.slice (some ⟨W.heap.size, 0, none⟩) vs.size (grownCap W vs.size 0 5), .func (.func g) #[] #[]] (Lib.bytesWorld W 5 vs) fun e W' => e = .returned (.bool (!((bytesOf vs).all S.prn))) ∧ Below W.heap.size W W' := by
  have hO := OwnM.conv (base := W.heap.size) W vs (Nat.le_refl _) hs
  have hc := contB.calls (some ⟨W.heap.size, 0, none⟩) (grownCap W vs.size 0 5) (bytesOf vs) g #[] (fun x => !S.prn x) (fun _ => True) (Lib.bytesWorld W 5 vs) eg (by
    have e : (bytesOf vs).length = vs.size := bytesOf_length vs
    rw [← e] at hO
    exact hO.C) (fun _ _ => trivial) (hp _)
  rw [bytesOf_length, any_prn] at hc
  refine hc.mono ?_
  rintro e W' ⟨rfl, hb⟩
  have h1 : Below W.heap.size W (Lib.bytesWorld W 5 vs) := bytes_below (Below.refl _ _) (Nat.le_refl _) 5 vs
  exact ⟨rfl, h1.trans (hb.mono (by have := h1.size; omega))⟩
def ixS (c : Int) : Int := Lib.indexByte [88, 120, 66, 98] c.toNat.toUInt8
def ixB (c : Int) : Int := Lib.indexByte [66, 98] c.toNat.toUInt8
theorem ixS_f (c : Int) : strings_IndexByte.f ⟨#[88, 120, 66, 98]⟩ c = some (ixS c) := rfl
theorem ixB_f (c : Int) : strings_IndexByte.f ⟨#[66, 98]⟩ c = some (ixB c) := rfl
theorem ixS_spec (c : Int) (h0 : 0 ≤ c) (h1 : c < 256) : decide (0 ≤ ixS c) = decide (S.sfxOf c ≠ 0) ∧ (S.sfxOf c = 0 ∨ (S.sfxOf c = 4 ∧ decide (0 ≤ ixB c) = false) ∨ (S.sfxOf c = 1 ∧ decide (0 ≤ ixB c) = true)) :=
  byte_all (fun c => decide (0 ≤ ixS c) = decide (S.sfxOf c ≠ 0) ∧ (S.sfxOf c = 0 ∨ (S.sfxOf c = 4 ∧ decide (0 ≤ ixB c) = false) ∨ (S.sfxOf c = 1 ∧ decide (0 ≤ ixB c) = true))) (by decide +kernel) c h0 h1
theorem sfx_cons (c : Int) (t : List Int) : S.sfx (c :: t) = match t with
  | [] => S.sfxOf c
  | d :: _ => if S.sym d = true then 0 else S.sfxOf c := by cases t <;> rfl
set_option maxRecDepth 100000 in
set_option maxHeartbeats 4000000 in
theorem scan_literal_m.calls (s : Nat) (src : ByteArray) (m : Value) (i line : Nat) (w : World) (hsz : src.size ≤ 100000) (hl : line ≤ 1000000000) (hi : i < src.size) (h : Sc s src i line m w) :
    Calls Tryz.prog 70 #[.pointer (some ⟨s, 0, none⟩)] w fun e w' => But (· = s) w w' ∧ SymPost s src m i line e w' (S.litTok ((bytesOf src).drop i)) := by
  have HS := Aside0.mk h
  obtain ⟨n, hn⟩ : ∃ n, src.size = n := ⟨_, rfl⟩
  obtain ⟨L, hL⟩ : ∃ L, bytesOf src = L := ⟨_, rfl⟩
  have HN : Aside0 (L.length = n) := ⟨by rw [← hL, bytesOf_length]; exact hn⟩
  have hbi := nth_byte src i hi
  rw [hL] at hbi ⊢
  have HDI := Aside0.mk (drop_at L i (by rw [HN.out]; omega))
  obtain ⟨q, hq⟩ : ∃ q, L.getD i 0 = q := ⟨_, rfl⟩
  rw [hq] at hbi HDI
  have HQ := Aside0.mk hq
  have HL := Aside0.mk hL
  have c0 := h.c0
  have c1 := h.c1
  have hz0 : (0 : Int) ≤ (i : Int) := by omega
  have hz1 : (i : Int) < (n : Int) := by omega
  have hslt := h.lt
  obtain ⟨R, hR⟩ : ∃ R, S.lit q (L.drop (i + 1)) (i + 1) [] = R := ⟨_, rfl⟩
  have HR := Aside0.mk hR
  clear hL h hq hR
  rw [hn] at hsz hi
  go_enter Tryz.func70, Tryz.ntmps70
  go_wp2
  go_region
  go_wp2
  obtain ⟨W0, hW0⟩ : ∃ W0, (w.alloc (.cells #[.pointer none, .slice none 0 0] 126)).drew = W0 := ⟨_, rfl⟩
  have hB0 : Aside0 (Bld w.heap.size w.heap.size [] W0) := ⟨by rw [← hW0]; exact Bld.new w⟩
  have hb0 : Aside0 (Below w.heap.size w W0) := ⟨by rw [← hW0]; exact below_drew1 (below_alloc (Below.refl _ _) _)⟩
  rw [hW0]
  clear hW0
  generalize hH : w.heap.size = H at *
  have HSL := Aside0.mk hslt
  have HH := Aside0.mk hH
  clear hH
  go_loopg [5] (n + 1) (fun gg s5 wr => ∃ (kk : Nat) (acc : List Int), i < kk ∧ kk ≤ n ∧ n + 1 - kk ≤ gg ∧ s5 = .int .i64 kk ∧ acc.length ≤ kk ∧ Aside0 (Bld H H acc wr) ∧ Aside0 (Below H w wr) ∧ Aside0 (∀ x ∈ acc, 0 ≤ x ∧ x < 256) ∧ Aside0 (S.lit q (L.drop kk) kk acc = R))
  case atStart => exact ⟨i + 1, [], by omega, by omega, by omega, by go_num, by simp, hB0, hb0, ⟨by simp⟩, HR⟩
  case round =>
    obtain ⟨kk, acc, hik, hkk, hg, rfl, hal, HB, HW, HAR, HA⟩ := hrel
    have HC : Aside0 (Sc s src i line m wr) := ⟨(HW.out.block s HSL.out).trans HS.out⟩
    have d0 := HC.out.c0
    have d1 := HC.out.c1
    have d2 := HC.out.c2
    have HF := Lib.hid (fun W => scan_fail.calls (.pointer (some ⟨s, 0, none⟩)) 6 line W)
    by_cases hkn : kk = n
    · have g1 : decide ((n : Int) ≤ (kk : Int)) = true := decide_eq_true (by omega)
      have g2 : decide (n ≤ kk) = true := decide_eq_true (by omega)
      have hR : Aside0 (S.litTok (L.drop i) = .err 6) := ⟨litTok_none HDI.out (by
        rw [HR.out, ← HA.out, List.drop_eq_nil_of_le (by rw [HN.out]; omega)]
        rfl)⟩
      clear hik
      go_wp2_with (go_at_call 97; refine (HF.out _).mono ?_; rintro e w' ⟨rfl, rfl⟩; unfold Fails)
      refine ⟨rfl, But.of_below (by rw [HH.out]; exact HW.out), ?_⟩
      rw [hR.out]
      exact ⟨rfl, _, HC.out⟩
    · have hlt : kk < n := by omega
      have g1 : decide ((n : Int) ≤ (kk : Int)) = false := decide_eq_false (by omega)
      have g2 : decide (n ≤ kk) = false := decide_eq_false (by omega)
      have hby := nth_byte src kk (by omega)
      rw [HL.out] at hby
      have HDK := Aside0.mk (drop_at L kk (by rw [HN.out]; omega))
      obtain ⟨y, hy⟩ : ∃ y, L.getD kk 0 = y := ⟨_, rfl⟩
      rw [hy] at hby HDK
      have hyr : 0 ≤ y ∧ y < 256 := by rw [← hy]; exact bo_range src _ (by rw [HL.out]; exact getD_mem _ _ (by rw [HN.out]; omega))
      have HYR := Aside0.mk hyr
      clear hy hyr
      have hkz : (kk : Int) < (n : Int) := by omega
      by_cases hy10 : y = 10
      · have g3 : (y == 10) = true := beq_iff_eq.2 hy10
        have hR : Aside0 (S.litTok (L.drop i) = .err 6) := ⟨litTok_none HDI.out (by
          rw [HR.out, ← HA.out, HDK.out]
          rcases L.drop (kk + 1) with _ | ⟨d, t⟩
          · unfold S.lit
            rw [if_pos hy10]
          · unfold S.lit
            rw [if_pos hy10])⟩
        clear hik
        go_wp2_with (go_at_call 97; refine (HF.out _).mono ?_; rintro e w' ⟨rfl, rfl⟩; unfold Fails)
        refine ⟨rfl, But.of_below (by rw [HH.out]; exact HW.out), ?_⟩
        rw [hR.out]
        exact ⟨rfl, _, HC.out⟩
      · have g3 : (y == 10) = false := beq_eq_false_iff_ne.2 hy10
        have HWB := Lib.hid (fun x => bld_WriteByte H H acc x wr HB.out (by omega) (by have := HW.out.size; have := HH.out; omega))
        by_cases hyq : y = q
        · have g4 : (y == q) = true := beq_iff_eq.2 hyq
          obtain ⟨brk, hbrk⟩ : ∃ brk : Bool, (decide (n ≤ kk + 1) || !decide (L.getD (kk + 1) 0 = q)) = brk := ⟨_, rfl⟩
          have HBR := Aside0.mk hbrk
          clear hbrk
          go_upto_region 8 with (fail)
          go_cut [74] from 24 to 83 (fun s74 wc => s74 = .bool brk ∧ wc = wr)
          case first =>
            by_cases hk1 : kk + 1 < n
            · have e1 : decide ((n : Int) ≤ (kk : Int) + 1) = false := decide_eq_false (by omega)
              have e2 : decide (n ≤ kk + 1) = false := decide_eq_false (by omega)
              have hbz := nth_byte src (kk + 1) (by omega)
              rw [HL.out] at hbz
              have hk1z : (kk : Int) + 1 < (n : Int) := by omega
              have hk0 : (0 : Int) ≤ (kk : Int) + 1 := by omega
              have HBR2 := HBR.out
              rw [e2, Bool.false_or] at HBR2
              generalize L.getD (kk + 1) 0 = z at *
              by_cases hzq : z = q
              · have e3 : (z != q) = false := bne_eq_false_iff_eq.2 hzq
                go_wp2_with fail
                go_meet
                exact ⟨by rw [← HBR2, hzq]; simp, rfl⟩
              · have e3 : (z != q) = true := bne_iff_ne.2 hzq
                go_wp2_with fail
                go_meet
                exact ⟨by rw [← HBR2]; simp [hzq], rfl⟩
            · have e1 : decide ((n : Int) ≤ (kk : Int) + 1) = true := decide_eq_true (by omega)
              have e2 : decide (n ≤ kk + 1) = true := decide_eq_true (by omega)
              go_wp2_with fail
              go_meet
              exact ⟨by rw [← HBR.out, e2]; rfl, rfl⟩
          case rest =>
            obtain ⟨rfl, rfl⟩ := hcut
            cases brk with
            | false =>
              have hb := HBR.out
              rw [Bool.or_eq_false_iff] at hb
              have hk1 : kk + 1 < n := by have := of_decide_eq_false hb.1; omega
              have hzq : L.getD (kk + 1) 0 = q := by
                have := hb.2
                rw [Bool.not_eq_false'] at this
                exact of_decide_eq_true this
              have hbz := nth_byte src (kk + 1) (by omega)
              rw [HL.out, hzq] at hbz
              have hk1z : (kk : Int) + 1 < (n : Int) := by omega
              have hk0 : (0 : Int) ≤ (kk : Int) + 1 := by omega
              have hA2 : Aside0 (S.lit q (L.drop (kk + 2)) (kk + 2) (acc ++ [q]) = R) := ⟨by
                rw [← HA.out, HDK.out, drop_at L (kk + 1) (by rw [HN.out]; omega), hzq]
                conv => { rhs; unfold S.lit }
                rw [if_neg hy10, if_pos hyq, if_pos rfl]⟩
              clear hb hzq
              go_wp2_with (go_at_call 106; refine (HWB.out _).mono ?_; rintro e w' ⟨rfl, hb1, hb2⟩)
              go_roundg (n + 1 - (kk + 2))
              case measure => omega
              case rel =>
                refine ⟨kk + 2, acc ++ [q], by omega, by omega, by omega, by go_num, by simp; omega, ⟨hb1⟩, ⟨HW.out.trans hb2⟩, ⟨fun x hx => ?_⟩, hA2⟩
                rcases List.mem_append.1 hx with hx | hx
                · exact HAR.out x hx
                · simp at hx; subst hx; rw [← hyq]; exact HYR.out
            | true =>
              have hRR : R = some (acc, kk) := by
                rw [← HA.out, HDK.out]
                rcases hd : L.drop (kk + 1) with _ | ⟨d, t⟩
                · unfold S.lit
                  rw [if_neg hy10, if_pos hyq]
                · conv => { lhs; unfold S.lit }
                  have hk1 : kk + 1 < n := by
                    have := congrArg List.length hd
                    rw [List.length_drop, HN.out] at this
                    simp at this
                    omega
                  have hdz : L.getD (kk + 1) 0 = d := by
                    have := drop_at L (kk + 1) (by rw [HN.out]; omega)
                    rw [hd] at this
                    exact (List.cons.inj this).1.symm
                  have hb := HBR.out
                  rw [decide_eq_false (show ¬ n ≤ kk + 1 by omega), Bool.false_or, hdz] at hb
                  have : ¬ d = q := by
                    intro e
                    rw [e] at hb
                    simp at hb
                  rw [if_neg hy10, if_pos hyq, if_neg this]
              have HTOK := Aside0.mk (litTok_some HDI.out (HR.out.trans hRR))
              obtain ⟨vs, hvs⟩ : ∃ vs, strOfNums acc = vs := ⟨_, rfl⟩
              have HVB : Aside0 (bytesOf vs = acc) := ⟨by rw [← hvs]; exact bytesOf_str acc HAR.out⟩
              obtain ⟨kv, hkv⟩ : ∃ kv, vs.size = kv := ⟨_, rfl⟩
              have hkv2 : acc.length = kv := by rw [← HVB.out, bytesOf_length]; exact hkv
              have hst := bld_String H H acc wc HB.out HAR.out (by have := HW.out.size; have := HH.out; omega)
              rw [hvs] at hst
              have HST := Lib.hid hst
              have kb := fun W => print_bytes (P := Tryz.prog) 9 100 5 Tryz.underlying9 Tryz.underlying100 Tryz.underlying5 vs W
              have hnp := fun W => np_calls vs W (by omega) 108 litNP_enters litNP.pays
              rw [hkv] at kb hnp
              rw [HVB.out] at hnp
              obtain ⟨ap, hap⟩ : ∃ ap, acc.all S.prn = ap := ⟨_, rfl⟩
              rw [hap] at hnp
              have HNP := Lib.hid hnp
              have HAP := Aside0.mk hap
              have HF13 := Lib.hid (fun W => scan_fail.calls (.pointer (some ⟨s, 0, none⟩)) 13 line W)
              have HVS := Aside0.mk hvs
              clear hst hnp hap hRR hvs HF HWB
              have HW1 : Aside0 (∀ W : World, Below H wc W → But (· = s) w W) := ⟨fun W hb => But.of_below (by rw [HH.out]; exact HW.out.trans hb)⟩
              cases ap with
              | false =>
                go_wp2_with (first | (go_at_call 107; refine HST.out.mono ?_; rintro e w1 ⟨rfl, hs1, hs2⟩) | (go_at_call 63; refine (HNP.out _).mono ?_; rintro e w2 ⟨rfl, hs3⟩; have hsc : Sc s src i line m w2 := (hs3.block s (by have := hs2.size; have := HC.out.lt; omega)).trans ((hs2.block s HSL.out).trans HC.out); have HSC := Aside0.mk hsc; have e2 := hsc.c2; have f1 := hsc.fr 1; have e1 := hsc.c1; have HBU : Aside0 (But (· = s) w w2) := ⟨(HW1.out _ hs2).then hs3⟩; clear hsc) | (go_at_call 97; refine (HF13.out _).mono ?_; rintro e w3 ⟨rfl, rfl⟩; unfold Fails))
                refine ⟨rfl, HBU.out, ?_⟩
                rw [HTOK.out, if_neg (by rw [HAP.out]; simp)]
                exact ⟨rfl, _, HSC.out⟩
              | true =>
                rw [if_pos HAP.out] at HTOK
                go_upto_region 15 with (first | (go_at_call 107; refine HST.out.mono ?_; rintro e w1 ⟨rfl, hs1, hs2⟩) | (go_at_call 63; refine (HNP.out _).mono ?_; rintro e w2 ⟨rfl, hs3⟩; have hsc : Sc s src i line m w2 := (hs3.block s (by have := hs2.size; have := HC.out.lt; omega)).trans ((hs2.block s HSL.out).trans HC.out); have HSC := Aside0.mk hsc; have e2 := hsc.c2; have f1 := hsc.fr 1; have e1 := hsc.c1; have HBU : Aside0 (But (· = s) w w2) := ⟨(HW1.out _ hs2).then hs3⟩; clear hsc))
                obtain ⟨x, hx⟩ : ∃ x, kk + 1 = x := ⟨_, rfl⟩
                have HS3 : Aside0 (Sc s src x line m (w2.setCell ⟨s, 1, none⟩ (.int .i64 ((kk : Int) + 1)))) := ⟨by
                  have := HSC.out.set1 ((kk : Int) + 1)
                  rw [show ((kk : Int) + 1) = (x : Int) by omega] at this ⊢
                  exact this⟩
                have HB3 : Aside0 (But (· = s) w (w2.setCell ⟨s, 1, none⟩ (.int .i64 ((kk : Int) + 1)))) := ⟨HBU.out.set _ _ rfl⟩
                generalize w2.setCell ⟨s, 1, none⟩ (.int .i64 ((kk : Int) + 1)) = w3 at *
                obtain ⟨K, hK⟩ : ∃ K, S.sfx (L.drop x) = K := ⟨_, rfl⟩
                rw [hx, hK] at HTOK
                have HKK := Aside0.mk hK
                have hxn : x ≤ n := by omega
                have hx0 : (0 : Int) ≤ (x : Int) := by omega
                clear hK HST HNP HF13 kb HA HAR HDK HB hs2 hs3 HSC HBU HC HW HW1
                go_cut [148] from 10 (fun s148 w4 => s148 = .bool (decide (K ≠ 0)) ∧ Aside0 (Sc s src x line m w4) ∧ Aside0 (But (· = s) w w4))
                case first =>
                  have cc0 : ∀ y : ScC s src x line m w, y.world.cell? ⟨s, 0, none⟩ = some (.string src) := ScC.c0
                  have cc1 : ∀ y : ScC s src x line m w, y.world.cell? ⟨s, 1, none⟩ = some (.int .i64 x) := ScC.c1
                  have hne : Nonempty (ScC s src x line m w) := ⟨⟨w3.drew, HS3.out, HB3.out.drew⟩⟩
                  by_cases hxl : x < n
                  · have e1 : decide ((x : Int) < (n : Int)) = true := decide_eq_true (by omega)
                    have e2 : decide (x < n) = true := decide_eq_true hxl
                    have hbx := nth_byte src x (by omega)
                    rw [HL.out] at hbx
                    have hdx := drop_at L x (by rw [HN.out]; omega)
                    obtain ⟨c, hcc⟩ : ∃ c, L.getD x 0 = c := ⟨_, rfl⟩
                    rw [hcc] at hbx hdx
                    have hcr : 0 ≤ c ∧ c < 256 := by rw [← hcc]; exact bo_range src _ (by rw [HL.out]; exact getD_mem _ _ (by rw [HN.out]; omega))
                    obtain ⟨p1, p2⟩ := ixS_spec c hcr.1 hcr.2
                    have HK2 : Aside0 (K = match L.drop (x + 1) with | [] => S.sfxOf c | d :: _ => if S.sym d = true then 0 else S.sfxOf c) := ⟨by rw [← HKK.out, hdx, sfx_cons]⟩
                    have HIS := Lib.hid (fun W => strings_IndexByte.calls ⟨#[88, 120, 66, 98]⟩ c (ixS c) W (ixS_f c))
                    have hxz : (x : Int) < (n : Int) := by omega
                    clear hcc hdx p2
                    generalize ixS c = iv at *
                    by_cases hs0 : S.sfxOf c = 0
                    · have e3 : decide (0 ≤ iv) = false := by rw [p1, hs0]; rfl
                      obtain rfl : K = 0 := by
                        rw [HK2.out]
                        rcases L.drop (x + 1) with _ | ⟨d, t⟩
                        · exact hs0
                        · simp [hs0]
                      clear p1 hs0
                      refine wp_region_cls (fun W => ∃ y : ScC s src x line m w, W = y.world) (by kernel_rfl) (by kernel_rfl) ⟨⟨w3.drew, HS3.out, HB3.out.drew⟩, rfl⟩ ?_
                      repeat (go_big_quiet_step ((rename_i y; (go_at_call 93; refine (HIS.out _).mono ?_; rintro e w' ⟨rfl, hb⟩; exact ⟨rfl, y.ret hb.below⟩))))
                      refine wpQuiet_nil ?_
                      rintro W ⟨y, rfl⟩
                      go_wp2_with fail
                      go_meet
                      exact ⟨rfl, ⟨y.sc⟩, ⟨y.but⟩⟩
                    · have e3 : decide (0 ≤ iv) = true := by rw [p1]; exact decide_eq_true hs0
                      by_cases hx1 : x + 1 < n
                      · have e4 : decide ((n : Int) ≤ (x : Int) + 1) = false := decide_eq_false (by omega)
                        have e5 : decide (n ≤ x + 1) = false := decide_eq_false (by omega)
                        have hbx1 := nth_byte src (x + 1) (by omega)
                        rw [HL.out] at hbx1
                        have hx1z : (x : Int) + 1 < (n : Int) := by omega
                        have hx10 : (0 : Int) ≤ (x : Int) + 1 := by omega
                        have hdx := drop_at L (x + 1) (by rw [HN.out]; omega)
                        obtain ⟨d, hdd⟩ : ∃ d, L.getD (x + 1) 0 = d := ⟨_, rfl⟩
                        rw [hdd] at hbx1 hdx
                        have hdr : 0 ≤ d ∧ d < 256 := by rw [← hdd]; exact bo_range src _ (by rw [HL.out]; exact getD_mem _ _ (by rw [HN.out]; omega))
                        have hsy := fun W => scan_symbolic.calls d (S.sym d) W (sym_f d hdr.1 hdr.2)
                        obtain ⟨sd, hsd⟩ : ∃ sd, S.sym d = sd := ⟨_, rfl⟩
                        rw [hsd] at hsy
                        have HSY := Lib.hid hsy
                        have HKV : Aside0 (decide (K ≠ 0) = !sd) := ⟨by
                          rw [HK2.out, hdx]
                          simp only [hsd]
                          cases sd
                          · simp [hs0]
                          · rfl⟩
                        clear p1 hs0 hsy hdx hdd hsd hdr
                        refine wp_region_cls (fun W => ∃ y : ScC s src x line m w, W = y.world) (by kernel_rfl) (by kernel_rfl) ⟨⟨w3.drew, HS3.out, HB3.out.drew⟩, rfl⟩ ?_
                        repeat (go_big_quiet_step ((rename_i y; first | (go_at_call 93; refine (HIS.out _).mono ?_; rintro e w' ⟨rfl, hb⟩; exact ⟨rfl, y.ret hb.below⟩) | (go_at_call 55; refine (HSY.out _).mono ?_; rintro e w' ⟨rfl, hb⟩; exact ⟨rfl, y.ret hb.below⟩))))
                        refine wpQuiet_nil ?_
                        rintro W ⟨y, rfl⟩
                        go_wp2_with fail
                        go_meet
                        exact ⟨by rw [HKV.out], ⟨y.sc⟩, ⟨y.but⟩⟩
                      · have e4 : decide ((n : Int) ≤ (x : Int) + 1) = true := decide_eq_true (by omega)
                        have e5 : decide (n ≤ x + 1) = true := decide_eq_true (by omega)
                        have HKV : Aside0 (decide (K ≠ 0) = true) := ⟨by
                          rw [HK2.out, List.drop_eq_nil_of_le (by rw [HN.out]; omega)]
                          exact decide_eq_true hs0⟩
                        clear p1 hs0
                        refine wp_region_cls (fun W => ∃ y : ScC s src x line m w, W = y.world) (by kernel_rfl) (by kernel_rfl) ⟨⟨w3.drew, HS3.out, HB3.out.drew⟩, rfl⟩ ?_
                        repeat (go_big_quiet_step ((rename_i y; (go_at_call 93; refine (HIS.out _).mono ?_; rintro e w' ⟨rfl, hb⟩; exact ⟨rfl, y.ret hb.below⟩))))
                        refine wpQuiet_nil ?_
                        rintro W ⟨y, rfl⟩
                        go_wp2_with fail
                        go_meet
                        exact ⟨by rw [HKV.out], ⟨y.sc⟩, ⟨y.but⟩⟩
                  · have e1 : decide ((x : Int) < (n : Int)) = false := decide_eq_false (by omega)
                    have e2 : decide (x < n) = false := decide_eq_false hxl
                    obtain rfl : K = 0 := by
                      rw [← HKK.out, List.drop_eq_nil_of_le (by rw [HN.out]; omega)]
                      rfl
                    refine wp_region_cls (fun W => ∃ y : ScC s src x line m w, W = y.world) (by kernel_rfl) (by kernel_rfl) ⟨⟨w3.drew, HS3.out, HB3.out.drew⟩, rfl⟩ ?_
                    repeat (go_big_quiet_step (fail))
                    refine wpQuiet_nil ?_
                    rintro W ⟨y, rfl⟩
                    go_wp2_with fail
                    go_meet
                    exact ⟨rfl, ⟨y.sc⟩, ⟨y.but⟩⟩
                case rest =>
                  obtain ⟨rfl, HS4, HB4⟩ := hcut
                  go_upto_if 148 with (fail)
                  go_cut [6] from 10 (fun s6 w5 => ∃ (vv : List Int) (pp : Nat), s6 = .string (strOfNums vv) ∧ Aside0 (Sc s src pp line m w5) ∧ Aside0 (But (· = s) w w5) ∧ Aside0 (S.litTok (L.drop i) = S.litEnd vv (pp - i)) ∧ Aside0 (i ≤ pp))
                  case first =>
                    by_cases hK0 : K = 0
                    · subst hK0
                      rw [if_pos rfl] at HTOK
                      go_wp2_with fail
                      go_meet
                      exact ⟨acc, x, by rw [HVS.out], HS4, HB4, HTOK, ⟨by omega⟩⟩
                    · have hxl : x < n := by
                        rcases Nat.lt_or_ge x n with h | h
                        · exact h
                        · exfalso
                          apply hK0
                          rw [← HKK.out, List.drop_eq_nil_of_le (by rw [HN.out]; omega)]
                          rfl
                      have hbx := nth_byte src x (by omega)
                      rw [HL.out] at hbx
                      have hdx := drop_at L x (by rw [HN.out]; omega)
                      obtain ⟨c, hcc⟩ : ∃ c, L.getD x 0 = c := ⟨_, rfl⟩
                      rw [hcc] at hbx hdx
                      have hcr : 0 ≤ c ∧ c < 256 := by rw [← hcc]; exact bo_range src _ (by rw [HL.out]; exact getD_mem _ _ (by rw [HN.out]; omega))
                      obtain ⟨p1, p2⟩ := ixS_spec c hcr.1 hcr.2
                      have hKc : K = S.sfxOf c := by
                        have h1 := HKK.out
                        rw [hdx, sfx_cons] at h1
                        rcases hd2 : L.drop (x + 1) with _ | ⟨d, t⟩
                        · rw [hd2] at h1; exact h1.symm
                        · rw [hd2] at h1
                          simp only at h1
                          by_cases hsd : S.sym d = true
                          · rw [if_pos hsd] at h1; exact absurd h1.symm hK0
                          · rw [if_neg hsd] at h1; exact h1.symm
                      have HIB := Lib.hid (fun W => strings_IndexByte.calls ⟨#[66, 98]⟩ c (ixB c) W (ixB_f c))
                      have hxz : (x : Int) < (n : Int) := by omega
                      rw [← hKc] at p2
                      have d0 := HS4.out.c0
                      have d1 := HS4.out.c1
                      have d2 := HS4.out.c2
                      have cc0 : ∀ y : ScC s src x line m w, y.world.cell? ⟨s, 0, none⟩ = some (.string src) := ScC.c0
                      have cc1 : ∀ y : ScC s src x line m w, y.world.cell? ⟨s, 1, none⟩ = some (.int .i64 x) := ScC.c1
                      have hne : Nonempty (ScC s src x line m w) := ⟨⟨wc.drew, HS4.out, HB4.out.drew⟩⟩
                      clear p1 hKc hdx hcc hcr
                      generalize ixB c = ib at *
                      rcases p2 with p2 | ⟨rfl, e3⟩ | ⟨rfl, e3⟩
                      · exact absurd p2 hK0
                      · clear hK0
                        have hdc : ∀ W, Calls Tryz.prog 109 #[.string vs, .int .i64 4] W fun e w' => e = .returned (.tuple #[.string (strOfNums ((S.litDec (bytesOf vs) 4).getD [])), .bool (S.litDec (bytesOf vs) 4).isSome]) ∧ Below W.heap.size W w' := fun W => scan_decode.calls vs 4 2 (.inl ⟨rfl, rfl⟩) (by omega) W
                        have HF15 := Lib.hid (fun W => scan_fail.calls (.pointer (some ⟨s, 0, none⟩)) 15 line W)
                        rw [HVB.out] at hdc
                        rw [if_neg (by decide)] at HTOK
                        cases hld : S.litDec acc 4 with
                        | none =>
                          rw [hld] at hdc
                          have HTK : Aside0 (S.litTok (L.drop i) = .err 15) := ⟨by rw [HTOK.out, hld]⟩
                          have HDC := Lib.hid hdc
                          clear hdc hld
                          go_upto_region 17 with (fail)
                          refine wp_region_cls (fun W => ∃ y : ScC s src x line m w, W = y.world) (by kernel_rfl) (by kernel_rfl) ⟨⟨wc.drew, HS4.out, HB4.out.drew⟩, rfl⟩ ?_
                          repeat (go_big_quiet_step ((rename_i y; (go_at_call 93; refine (HIB.out _).mono ?_; rintro e w' ⟨rfl, hb⟩; exact ⟨rfl, y.ret hb.below⟩))))
                          refine wpQuiet_nil ?_
                          rintro W ⟨⟨w5, hs5, hb5⟩, rfl⟩
                          go_wp2_with (first | (go_at_call 109; refine (HDC.out _).mono ?_; rintro e w6 ⟨rfl, hb6⟩; have hs6 := hs5.below hb6; have hb7 := hb5.then hb6; have e2 := hs6.c2) | (go_at_call 97; refine (HF15.out _).mono ?_; rintro e w7 ⟨rfl, rfl⟩; unfold Fails))
                          refine ⟨rfl, hb7, ?_⟩
                          rw [HTK.out]
                          exact ⟨rfl, _, hs6⟩
                        | some u =>
                          rw [hld] at hdc
                          have HTK : Aside0 (S.litTok (L.drop i) = S.litEnd u (x + 1 - i)) := ⟨by rw [HTOK.out, hld]; simp only []; rw [show kk + 2 - i = x + 1 - i by omega]⟩
                          have HDC := Lib.hid hdc
                          clear hdc hld
                          go_upto_region 17 with (fail)
                          refine wp_region_cls (fun W => ∃ y : ScC s src x line m w, W = y.world) (by kernel_rfl) (by kernel_rfl) ⟨⟨wc.drew, HS4.out, HB4.out.drew⟩, rfl⟩ ?_
                          repeat (go_big_quiet_step ((rename_i y; (go_at_call 93; refine (HIB.out _).mono ?_; rintro e w' ⟨rfl, hb⟩; exact ⟨rfl, y.ret hb.below⟩))))
                          refine wpQuiet_nil ?_
                          rintro W ⟨⟨w5, hs5, hb5⟩, rfl⟩
                          go_wp2_with (go_at_call 109; refine (HDC.out _).mono ?_; rintro e w6 ⟨rfl, hb6⟩; have hs6 := hs5.below hb6; have hb7 := hb5.then hb6; have e1 := hs6.c1; have f1 := hs6.fr 1)
                          go_meet
                          exact ⟨u, x + 1, rfl, ⟨hs6.set1 _⟩, ⟨hb7.set _ _ rfl⟩, HTK, ⟨by omega⟩⟩
                      · clear hK0
                        have hdc : ∀ W, Calls Tryz.prog 109 #[.string vs, .int .i64 1] W fun e w' => e = .returned (.tuple #[.string (strOfNums ((S.litDec (bytesOf vs) 1).getD [])), .bool (S.litDec (bytesOf vs) 1).isSome]) ∧ Below W.heap.size W w' := fun W => scan_decode.calls vs 1 8 (.inr ⟨rfl, rfl⟩) (by omega) W
                        have HF15 := Lib.hid (fun W => scan_fail.calls (.pointer (some ⟨s, 0, none⟩)) 15 line W)
                        rw [HVB.out] at hdc
                        rw [if_neg (by decide)] at HTOK
                        cases hld : S.litDec acc 1 with
                        | none =>
                          rw [hld] at hdc
                          have HTK : Aside0 (S.litTok (L.drop i) = .err 15) := ⟨by rw [HTOK.out, hld]⟩
                          have HDC := Lib.hid hdc
                          clear hdc hld
                          go_upto_region 17 with (fail)
                          refine wp_region_cls (fun W => ∃ y : ScC s src x line m w, W = y.world) (by kernel_rfl) (by kernel_rfl) ⟨⟨wc.drew, HS4.out, HB4.out.drew⟩, rfl⟩ ?_
                          repeat (go_big_quiet_step ((rename_i y; (go_at_call 93; refine (HIB.out _).mono ?_; rintro e w' ⟨rfl, hb⟩; exact ⟨rfl, y.ret hb.below⟩))))
                          refine wpQuiet_nil ?_
                          rintro W ⟨⟨w5, hs5, hb5⟩, rfl⟩
                          go_wp2_with (first | (go_at_call 109; refine (HDC.out _).mono ?_; rintro e w6 ⟨rfl, hb6⟩; have hs6 := hs5.below hb6; have hb7 := hb5.then hb6; have e2 := hs6.c2) | (go_at_call 97; refine (HF15.out _).mono ?_; rintro e w7 ⟨rfl, rfl⟩; unfold Fails))
                          refine ⟨rfl, hb7, ?_⟩
                          rw [HTK.out]
                          exact ⟨rfl, _, hs6⟩
                        | some u =>
                          rw [hld] at hdc
                          have HTK : Aside0 (S.litTok (L.drop i) = S.litEnd u (x + 1 - i)) := ⟨by rw [HTOK.out, hld]; simp only []; rw [show kk + 2 - i = x + 1 - i by omega]⟩
                          have HDC := Lib.hid hdc
                          clear hdc hld
                          go_upto_region 17 with (fail)
                          refine wp_region_cls (fun W => ∃ y : ScC s src x line m w, W = y.world) (by kernel_rfl) (by kernel_rfl) ⟨⟨wc.drew, HS4.out, HB4.out.drew⟩, rfl⟩ ?_
                          repeat (go_big_quiet_step ((rename_i y; (go_at_call 93; refine (HIB.out _).mono ?_; rintro e w' ⟨rfl, hb⟩; exact ⟨rfl, y.ret hb.below⟩))))
                          refine wpQuiet_nil ?_
                          rintro W ⟨⟨w5, hs5, hb5⟩, rfl⟩
                          go_wp2_with (go_at_call 109; refine (HDC.out _).mono ?_; rintro e w6 ⟨rfl, hb6⟩; have hs6 := hs5.below hb6; have hb7 := hb5.then hb6; have e1 := hs6.c1; have f1 := hs6.fr 1)
                          go_meet
                          exact ⟨u, x + 1, rfl, ⟨hs6.set1 _⟩, ⟨hb7.set _ _ rfl⟩, HTK, ⟨by omega⟩⟩
                  case rest =>
                    obtain ⟨vv, pp, rfl, HS5, HB5, HTK, hip⟩ := hcut
                    have d2 := HS5.out.c2
                    obtain ⟨vz, hvz⟩ : ∃ vz, strOfNums vv = vz := ⟨_, rfl⟩
                    obtain ⟨lv, hlv⟩ : ∃ lv, vz.size = lv := ⟨_, rfl⟩
                    have hlv2 : vv.length = lv := by rw [← hlv, ← hvz]; simp [strOfNums, ByteArray.size]
                    have HVZ := Aside0.mk hvz
                    have HTK2 := HTK
                    unfold S.litEnd at HTK2
                    rw [hlv2] at HTK2
                    rw [hvz]
                    have HF30 := Lib.hid (scan_fail.calls (.pointer (some ⟨s, 0, none⟩)) 30 line wc)
                    by_cases hlong : 1000 < lv
                    · have e1 : decide (1000 < lv) = true := decide_eq_true hlong
                      have e2 : decide ((1000 : Int) < (lv : Int)) = true := decide_eq_true (by omega)
                      rw [if_pos hlong] at HTK2
                      clear hvz hlv2 hlong
                      go_wp2_with (go_at_call 97; refine HF30.out.mono ?_; rintro e w7 ⟨rfl, rfl⟩; unfold Fails)
                      refine ⟨rfl, HB5.out, ?_⟩
                      rw [HTK2.out]
                      exact ⟨rfl, _, HS5.out⟩
                    · have e1 : decide (1000 < lv) = false := decide_eq_false hlong
                      have e2 : decide ((1000 : Int) < (lv : Int)) = false := decide_eq_false (by omega)
                      rw [if_neg hlong] at HTK2
                      clear hvz hlv2 hlong
                      go_wp2_with fail
                      go_ret
                      refine ⟨HB5.out, ?_⟩
                      rw [HTK2.out]
                      exact ⟨by rw [HVZ.out]; rfl, by rw [show ((i + (pp - i) : Nat) : Int) = (pp : Int) by have := hip.out; omega]; exact HS5.out⟩
        · have g4 : (y == q) = false := beq_eq_false_iff_ne.2 hyq
          have hA2 : Aside0 (S.lit q (L.drop (kk + 1)) (kk + 1) (acc ++ [y]) = R) := ⟨by
            rw [← HA.out, HDK.out]
            rcases L.drop (kk + 1) with _ | ⟨d, t⟩
            · unfold S.lit
              rw [if_neg hy10, if_neg hyq]
            · conv => { rhs; unfold S.lit }
              rw [if_neg hy10, if_neg hyq]⟩
          go_wp2_with (go_at_call 106; refine (HWB.out _).mono ?_; rintro e w' ⟨rfl, hb1, hb2⟩)
          go_roundg (n + 1 - (kk + 1))
          case measure => omega
          case rel =>
            refine ⟨kk + 1, acc ++ [y], by omega, by omega, by omega, by go_num, by simp; omega, ⟨hb1⟩, ⟨HW.out.trans hb2⟩, ⟨fun x hx => ?_⟩, hA2⟩
            rcases List.mem_append.1 hx with hx | hx
            · exact HAR.out x hx
            · simp at hx; subst hx; exact HYR.out
end Go.Proofs.YtkkpjonfaflkmaaGreatDoor.T

namespace Go.Proofs.YtkkpjonfaflkmaaGreatDoor.S
set_option linter.unusedSimpArgs false
set_option linter.unusedVariables false
theorem cmt_bounds : ∀ (xs : List Int) (i d l b i' l' b' : Nat), cmt xs i d l b = .done i' l' b' → i < i' ∧ i' ≤ i + xs.length ∧ l ≤ l' ∧ l' + i ≤ l + i'
  | [], _, _, _, _, _, _, _ => fun h => by cases h
  | [_], _, _, _, _, _, _, _ => fun h => by cases h
  | c :: e :: t, i, d, l, b, i', l', b' => fun h => by
    rw [cmt] at h
    by_cases h1 : c = 47 ∧ e = 42
    · rw [if_pos h1] at h
      have := cmt_bounds t _ _ _ _ _ _ _ h
      simp only [List.length_cons]; omega
    · rw [if_neg h1] at h
      by_cases h2 : c = 42 ∧ e = 47
      · rw [if_pos h2] at h
        by_cases h3 : d = 1
        · rw [if_pos h3] at h; cases h; simp only [List.length_cons]; omega
        · rw [if_neg h3] at h
          have := cmt_bounds t _ _ _ _ _ _ _ h
          simp only [List.length_cons]; omega
      · rw [if_neg h2] at h
        have := cmt_bounds (e :: t) _ _ _ _ _ _ _ h
        simp only [List.length_cons] at this ⊢
        by_cases hc : c = 10
        · simp only [hc, if_true] at this; omega
        · simp only [hc, if_false] at this; omega
  termination_by xs => xs.length
theorem lit_bounds (q : Int) (P : Int → Prop) (hq : P q) : ∀ (xs : List Int) (i : Nat) (acc v : List Int) (j : Nat), lit q xs i acc = some (v, j) → (∀ x ∈ acc, P x) → (∀ x ∈ xs, P x) → i ≤ j ∧ j < i + xs.length ∧ ∀ x ∈ v, P x
  | [], i, acc, v, j => fun h _ _ => by cases h
  | [c], i, acc, v, j => fun h ha _ => by
    rw [lit] at h
    by_cases h1 : c = 10
    · rw [if_pos h1] at h; cases h
    · rw [if_neg h1] at h
      by_cases h2 : c = q
      · rw [if_pos h2] at h; cases h; exact ⟨Nat.le_refl _, by simp, ha⟩
      · rw [if_neg h2] at h; cases h
  | c :: d :: t, i, acc, v, j => fun h ha hx => by
    rw [lit] at h
    by_cases h1 : c = 10
    · rw [if_pos h1] at h; cases h
    · rw [if_neg h1] at h
      by_cases h2 : c = q
      · rw [if_pos h2] at h
        by_cases h3 : d = q
        · rw [if_pos h3] at h
          have := lit_bounds q P hq t (i + 2) (acc ++ [q]) v j h (fun x hx' => by
            rcases List.mem_append.1 hx' with e | e
            · exact ha x e
            · rw [List.mem_singleton.1 e]; exact hq) (fun x e => hx x (by simp [e]))
          simp only [List.length_cons]
          exact ⟨by omega, by omega, this.2.2⟩
        · rw [if_neg h3] at h; cases h; exact ⟨Nat.le_refl _, by simp only [List.length_cons]; omega, ha⟩
      · rw [if_neg h2] at h
        have := lit_bounds q P hq (d :: t) (i + 1) (acc ++ [c]) v j h (fun x hx' => by
          rcases List.mem_append.1 hx' with e | e
          · exact ha x e
          · rw [List.mem_singleton.1 e]; exact hx c (by simp)) (fun x e => hx x (by simp only [List.mem_cons] at e ⊢; exact .inr e))
        simp only [List.length_cons] at this ⊢
        exact ⟨by omega, by omega, this.2.2⟩
  termination_by xs => xs.length
theorem decK_prn (base : Int) (w : Nat) : ∀ (k : Nat) (xs v : List Int), decK base w k xs = some v → ∀ x ∈ v, prn x = true
  | 0, xs, v, h => by cases h; simp
  | k + 1, xs, v, h => by
    rw [decK] at h
    cases hg : decG base (xs.take w) 0 with
    | none => rw [hg] at h; cases h
    | some n =>
      rw [hg] at h
      simp only at h
      by_cases hp : prn n = true
      · rw [if_pos hp] at h
        cases hr : decK base w k (xs.drop w) with
        | none => rw [hr] at h; cases h
        | some u =>
          rw [hr] at h
          simp only [Option.map_some, Option.some.injEq] at h
          subst h
          intro x hx
          rcases List.mem_cons.1 hx with rfl | hx
          · exact hp
          · exact decK_prn base w k _ u hr x hx
      · rw [if_neg hp] at h; cases h
theorem prn_byte {x : Int} (h : prn x = true) : 0 ≤ x ∧ x < 256 := by
  simp only [prn, Bool.and_eq_true, decide_eq_true_eq] at h
  omega
theorem litDec_bytes {v u : List Int} {sx : Nat} (h : litDec v sx = some u) : ∀ x ∈ u, 0 ≤ x ∧ x < 256 := by
  have key : ∀ (b : Int) (w : Nat), decode b w v = some u → ∀ x ∈ u, 0 ≤ x ∧ x < 256 := by
    intro b w h x hx
    unfold decode at h
    by_cases hm : v.length % w ≠ 0
    · rw [if_pos hm] at h; cases h
    · rw [if_neg hm] at h; exact prn_byte (decK_prn _ _ _ _ _ h x hx)
  unfold litDec at h
  by_cases hs : sx = 4
  · rw [if_pos hs] at h; exact key _ _ h
  · rw [if_neg hs] at h; exact key _ _ h
theorem litEnd_ok {v t : List Int} {n m : Nat} (h : litEnd v n = .ok t m) : t = v ∧ m = n := by
  unfold litEnd at h
  by_cases hv : 1000 < v.length
  · rw [if_pos hv] at h; cases h
  · rw [if_neg hv] at h; cases h; exact ⟨rfl, rfl⟩
theorem litTok_ok {xs t : List Int} {n : Nat} (hb : ∀ x ∈ xs, 0 ≤ x ∧ x < 256) (h : litTok xs = .ok t n) : 1 ≤ n ∧ n ≤ xs.length ∧ ∀ x ∈ t, 0 ≤ x ∧ x < 256 := by
  rcases xs with _ | ⟨q, r⟩
  · cases h
  simp only [litTok] at h
  cases hl : lit q r 1 [] with
  | none => rw [hl] at h; cases h
  | some p =>
    obtain ⟨v, i⟩ := p
    rw [hl] at h
    simp only at h
    obtain ⟨b1, b2, b3⟩ := lit_bounds q (fun x => 0 ≤ x ∧ x < 256) (hb q (by simp)) r 1 [] v i hl (by simp) (fun x e => hb x (by simp [e]))
    by_cases hp : v.all prn = true
    · rw [if_pos hp] at h
      by_cases hs : sfx ((q :: r).drop (i + 1)) = 0
      · rw [if_pos hs] at h
        obtain ⟨rfl, rfl⟩ := litEnd_ok h
        exact ⟨by omega, by simp only [List.length_cons]; omega, b3⟩
      · rw [if_neg hs] at h
        have hlen : i + 2 ≤ (q :: r).length := by
          have : 0 < ((q :: r).drop (i + 1)).length := by
            rcases hd : (q :: r).drop (i + 1) with _ | ⟨a, b⟩
            · rw [hd] at hs; exact absurd rfl hs
            · simp
          rw [List.length_drop] at this
          omega
        cases hd : litDec v (sfx ((q :: r).drop (i + 1))) with
        | none => rw [hd] at h; cases h
        | some u =>
          rw [hd] at h
          obtain ⟨rfl, rfl⟩ := litEnd_ok h
          exact ⟨by omega, hlen, litDec_bytes hd⟩
    · rw [if_neg hp] at h; cases h
theorem run_le' (p : Int → Bool) : ∀ l : List Int, run p l ≤ l.length
  | [] => Nat.le_refl _
  | c :: t => by
    unfold run
    by_cases h : p c = true
    · rw [if_pos h]; simpa using run_le' p t
    · rw [if_neg h]; exact Nat.zero_le _
theorem up_byte {x : Int} (h : 0 ≤ x ∧ x < 256) : 0 ≤ up x ∧ up x < 256 := by
  unfold up
  by_cases hc : 97 ≤ x ∧ x ≤ 122
  · rw [if_pos hc]; omega
  · rw [if_neg hc]; exact h
theorem symTok_ok {c : Int} {r t : List Int} {n : Nat} (hb : ∀ x ∈ c :: r, 0 ≤ x ∧ x < 256) (hc : sym c = true) (h : symTok (c :: r) = .ok t n) : 1 ≤ n ∧ n ≤ (c :: r).length ∧ ∀ x ∈ t, 0 ≤ x ∧ x < 256 := by
  unfold symTok at h
  by_cases h4 : 40 < symLen (c :: r)
  · rw [if_pos h4] at h; cases h
  · rw [if_neg h4] at h
    cases h
    have hr := run_le' sym (c :: r)
    have h1 : 1 ≤ run sym (c :: r) := by unfold run; rw [if_pos hc]; omega
    refine ⟨?_, ?_, fun x hx => ?_⟩
    · unfold symLen
      split <;> omega
    · unfold symLen
      split
      · rename_i hm
        have hd := run_le' dig ((c :: r).drop (run sym (c :: r) + 1))
        rw [List.length_drop] at hd
        have hx : run sym (c :: r) + 1 ≤ (c :: r).length := by
          rcases hq : (c :: r).drop (run sym (c :: r)) with _ | ⟨a, b⟩
          · rw [hq] at hm; exact absurd hm.2 (by simp [expo])
          · have : ((c :: r).drop (run sym (c :: r))).length = (a :: b).length := by rw [hq]
            rw [List.length_drop] at this
            have h2 : 0 < (a :: b).length := by simp
            omega
        omega
      · exact hr
    · obtain ⟨y, hy, rfl⟩ := List.mem_map.1 hx
      exact up_byte (hb y (List.mem_of_mem_take hy))
theorem signs_ok : ∀ l ∈ signs, 1 ≤ l.length ∧ ∀ x ∈ l, 0 ≤ x ∧ x < 256 := by decide
theorem prefix_len : ∀ (a b : List Int), a.isPrefixOf b = true → a.length ≤ b.length
  | [], b, _ => Nat.zero_le _
  | _ :: _, [], h => by cases h
  | x :: a, y :: b, h => by
    simp only [List.isPrefixOf, Bool.and_eq_true] at h
    have := prefix_len a b h.2
    simp only [List.length_cons]; omega
theorem signTok_ok {xs t : List Int} {n : Nat} (h : signTok xs = .ok t n) : 1 ≤ n ∧ n ≤ xs.length ∧ ∀ x ∈ t, 0 ≤ x ∧ x < 256 := by
  unfold signTok at h
  cases hf : signs.find? (fun x => x.isPrefixOf xs) with
  | none => rw [hf] at h; cases h
  | some l =>
    rw [hf] at h
    simp only [TR.ok.injEq] at h
    obtain ⟨rfl, rfl⟩ := h
    obtain ⟨h1, h2⟩ := signs_ok l (List.mem_of_find?_eq_some hf)
    exact ⟨h1, prefix_len _ _ (by simpa using List.find?_some hf), h2⟩
theorem tokStep_tok {k k' n : Nat} {t : List Int} {r : TR} (h : tokStep k r = .tok k' t n) : k' = k ∧ r = .ok t n := by
  cases r with
  | err c => cases h
  | ok t' n' => cases h; exact ⟨rfl, rfl⟩
theorem cmtStep_ne {r : CR} {k n : Nat} {t : List Int} (h : cmtStep r = .tok k t n) : False := by
  cases r with
  | eof => cases h
  | done i l b => unfold cmtStep at h; by_cases hb : b = 0 <;> simp [hb] at h
theorem step_tok {xs t : List Int} {k n : Nat} (hb : ∀ x ∈ xs, 0 ≤ x ∧ x < 256) (h : step xs = .tok k t n) : 1 ≤ n ∧ n ≤ xs.length ∧ (∀ x ∈ t, 0 ≤ x ∧ x < 256) ∧ 1 ≤ k ∧ k ≤ 3 := by
  rcases xs with _ | ⟨c, r⟩
  · cases h
  simp only [step] at h
  by_cases h1 : c = 10
  · rw [if_pos h1] at h; cases h
  rw [if_neg h1] at h
  by_cases h2 : c = 32
  · rw [if_pos h2] at h; cases h
  rw [if_neg h2] at h
  by_cases h3 : starts2 (c :: r) = true
  · rw [if_pos h3] at h; exact (cmtStep_ne h).elim
  rw [if_neg h3] at h
  by_cases h4 : c = 39 ∨ c = 34
  · rw [if_pos h4] at h
    obtain ⟨rfl, hr⟩ := tokStep_tok h
    obtain ⟨a, b, d⟩ := litTok_ok hb hr
    exact ⟨a, b, d, by omega, by omega⟩
  rw [if_neg h4] at h
  by_cases h5 : sym c = true
  · rw [if_pos h5] at h
    obtain ⟨rfl, hr⟩ := tokStep_tok h
    obtain ⟨a, b, d⟩ := symTok_ok hb h5 hr
    exact ⟨a, b, d, by omega, by omega⟩
  rw [if_neg h5] at h
  obtain ⟨rfl, hr⟩ := tokStep_tok h
  obtain ⟨a, b, d⟩ := signTok_ok hr
  exact ⟨a, b, d, by omega, by omega⟩
theorem step_cmt {xs : List Int} {n dl : Nat} (h : step xs = .cmt n dl) : 1 ≤ n ∧ n ≤ xs.length ∧ dl ≤ n := by
  rcases xs with _ | ⟨c, r⟩
  · cases h
  simp only [step] at h
  have key : ∀ k R, tokStep k R ≠ .cmt n dl := fun k R e => by cases R <;> cases e
  by_cases h1 : c = 10
  · rw [if_pos h1] at h; cases h
  rw [if_neg h1] at h
  by_cases h2 : c = 32
  · rw [if_pos h2] at h; cases h
  rw [if_neg h2] at h
  by_cases h3 : starts2 (c :: r) = true
  · rw [if_pos h3] at h
    cases hR : cmt (c :: r) 0 0 1 0 with
    | eof => rw [hR] at h; cases h
    | done i l b =>
      rw [hR] at h
      simp only [cmtStep] at h
      by_cases hb : b = 0
      · rw [if_pos hb] at h
        cases h
        have := cmt_bounds _ _ _ _ _ _ _ _ hR
        omega
      · rw [if_neg hb] at h; cases h
  rw [if_neg h3] at h
  by_cases h4 : c = 39 ∨ c = 34
  · rw [if_pos h4] at h; exact (key _ _ h).elim
  rw [if_neg h4] at h
  by_cases h5 : sym c = true
  · rw [if_pos h5] at h; exact (key _ _ h).elim
  rw [if_neg h5] at h; exact (key _ _ h).elim
theorem step_some {xs : List Int} (h : step xs ≠ .fin) : 1 ≤ xs.length := by
  rcases xs with _ | ⟨c, r⟩
  · exact absurd rfl h
  · simp
end Go.Proofs.YtkkpjonfaflkmaaGreatDoor.S

namespace Go.Proofs.YtkkpjonfaflkmaaGreatDoor.S
set_option linter.unusedSimpArgs false
set_option linter.unusedVariables false
def dbl (q : Int) (l : List Int) : List Int := l.flatMap fun c => if c = q then [q, q] else [c]
def qOf (l : List Int) : Int := if l.count 34 < l.count 39 then 34 else 39
def quote (l : List Int) : List Int := qOf l :: (dbl (qOf l) l ++ [qOf l])
theorem qOf_or (l : List Int) : qOf l = 34 ∨ qOf l = 39 := by unfold qOf; split; exact .inl rfl; exact .inr rfl
theorem dbl_cons (q c : Int) (l : List Int) : dbl q (c :: l) = (if c = q then [q, q] else [c]) ++ dbl q l := rfl
theorem dbl_mem {q : Int} {P : Int → Prop} (hq : P q) {l : List Int} (h : ∀ x ∈ l, P x) : ∀ x ∈ dbl q l, P x := by
  intro x hx
  obtain ⟨c, hc, hx⟩ := List.mem_flatMap.1 hx
  by_cases e : c = q
  · rw [if_pos e] at hx
    simp only [List.mem_cons, List.not_mem_nil, or_false, or_self] at hx
    rw [hx]; exact hq
  · rw [if_neg e] at hx
    rw [List.mem_singleton.1 hx]; exact h c hc
theorem dbl_length (q : Int) : ∀ l : List Int, (dbl q l).length = l.length + l.count q
  | [] => rfl
  | c :: l => by
    rw [dbl_cons, List.length_append, dbl_length q l, List.length_cons, List.count_cons]
    by_cases e : c = q
    · rw [if_pos e, if_pos (by simpa using e)]; simp; omega
    · rw [if_neg e, if_neg (by simpa using e)]; simp; omega
theorem quote_length (l : List Int) : (quote l).length = l.length + l.count (qOf l) + 2 := by
  unfold quote
  rw [List.length_cons, List.length_append, dbl_length]; simp
theorem quote_bytes {l : List Int} (h : ∀ x ∈ l, 0 ≤ x ∧ x < 256) : ∀ x ∈ quote l, 0 ≤ x ∧ x < 256 := by
  have hq : 0 ≤ qOf l ∧ qOf l < 256 := by rcases qOf_or l with e | e <;> rw [e] <;> omega
  intro x hx
  unfold quote at hx
  rcases List.mem_cons.1 hx with e | e
  · rw [e]; exact hq
  · rcases List.mem_append.1 e with e | e
    · exact dbl_mem hq h x e
    · rw [List.mem_singleton.1 e]; exact hq
end Go.Proofs.YtkkpjonfaflkmaaGreatDoor.S

namespace Go.Proofs.YtkkpjonfaflkmaaGreatDoor.T
set_option linter.unusedSimpArgs false
set_option linter.unusedVariables false
open Go.RowKit Go.Proofs.YtkkpjonfaflkmaaGreatDoorW.PrintWords Go.Proofs.YtkkpjonfaflkmaaGreatDoorW.PrintLast Go.Proofs.YtkkpjonfaflkmaaGreatDoorW.PrintMore
theorem ixq_self (q : UInt8) (t : List UInt8) : Lib.index (q :: t) [q] = 0 := by simp [Lib.index]
theorem ixq_other (q b : UInt8) (t : List UInt8) (h : b ≠ q) : Lib.index (b :: t) [q] = if Lib.index t [q] == -1 then -1 else Lib.index t [q] + 1 := by
  rw [Lib.index, if_neg]
  simp
  exact fun e => h e.symm
theorem rkq_other (q : UInt8) (v : List UInt8) (b : UInt8) (t : List UInt8) (h : b ≠ q) : ∀ k, Lib.replaceK [q] v k (b :: t) = b :: Lib.replaceK [q] v k t
  | 0 => rfl
  | k + 1 => by
    have hg := Lib.index_ge t [q]
    rw [Lib.replaceK, Lib.replaceK, ixq_other q b t h]
    by_cases e : Lib.index t [q] = -1
    · rw [e]; rfl
    · obtain ⟨i, hi⟩ : ∃ i : Nat, Lib.index t [q] = i := ⟨(Lib.index t [q]).toNat, by omega⟩
      have c1 : ((i : Int) == -1) = false := beq_eq_false_iff_ne.mpr (by omega)
      have c2 : ((i : Int) + 1 == -1) = false := beq_eq_false_iff_ne.mpr (by omega)
      rw [hi]
      simp only [c1, Bool.false_eq_true, if_false, c2]
      rw [show ((i : Int) + 1).toNat = i + 1 by omega, Int.toNat_natCast, show i + 1 + [q].length = (i + [q].length) + 1 by simp]
      rfl
theorem rkq_all (q : UInt8) : ∀ l : List UInt8, Lib.replaceK [q] [q, q] (l.count q) l = l.flatMap fun c => if c = q then [q, q] else [c]
  | [] => rfl
  | b :: t => by
    by_cases h : b = q
    · subst h
      rw [List.count_cons_self, Lib.replaceK_hit [b] [b, b] (t.count b) (b :: t) 0 (ixq_self b t)]
      simp only [List.take_zero, List.nil_append, List.length_cons, List.length_nil, List.drop_succ_cons, List.drop_zero, List.flatMap_cons, if_true]
      rw [rkq_all b t]
    · rw [List.count_cons_of_ne (fun e => h e), rkq_other q _ b t h, rkq_all q t, List.flatMap_cons, if_neg h]; rfl
theorem replaceAll_q (q : UInt8) (l : List UInt8) : Lib.replaceAll l [q] [q, q] = l.flatMap fun c => if c = q then [q, q] else [c] := by
  rw [Lib.replaceAll, Lib.replace, if_neg (by simp), Lib.replaceNum, if_pos (.inl (by decide)), Lib.count_one]
  exact rkq_all q l
theorem nums_dbl (q : UInt8) (l : List UInt8) : nums (l.flatMap fun c => if c = q then [q, q] else [c]) = S.dbl (q.toNat : Int) (nums l) := by
  induction l with
  | nil => rfl
  | cons b t ih =>
    rw [List.flatMap_cons]
    have : nums (b :: t) = (b.toNat : Int) :: nums t := rfl
    rw [this, S.dbl_cons, ← ih]
    by_cases h : b = q
    · subst h; rw [if_pos rfl, if_pos rfl]; rfl
    · rw [if_neg h, if_neg (fun e => h (u8_inj e))]; rfl
def scan_literal.f (a0 : ByteArray) : Option ByteArray := if a0.size ≤ 20000 then some (strOfNums (S.quote (bytesOf a0))) else none
theorem countB_one (a0 : ByteArray) (c : UInt8) : Lib.countB a0 ⟨#[c]⟩ = a0.data.toList.count c := by
  unfold Lib.countB
  exact Lib.count_one c _
theorem quote_q {a0 : ByteArray} {q : UInt8} (hq : (q.toNat : Int) = S.qOf (bytesOf a0)) :
    ((⟨#[q]⟩ : ByteArray) ++ (⟨(Lib.replaceAll a0.data.toList [q] [q, q]).toArray⟩ : ByteArray)) ++ (⟨#[q]⟩ : ByteArray) = strOfNums (S.quote (bytesOf a0)) := by
  apply bytesOf_inj
  rw [bytesOf_str _ (S.quote_bytes (bo_range a0)), bytesOf_append, bytesOf_append, replaceAll_q]
  unfold S.quote
  rw [← hq]
  have e1 : bytesOf (⟨#[q]⟩ : ByteArray) = [(q.toNat : Int)] := rfl
  have e2 : bytesOf (⟨(a0.data.toList.flatMap fun c => if c = q then [q, q] else [c]).toArray⟩ : ByteArray) = S.dbl (q.toNat : Int) (bytesOf a0) := by
    rw [bytesOf_nums, bytesOf_nums, ← nums_dbl]
  rw [e1, e2]
  rfl
set_option maxRecDepth 100000 in
set_option maxHeartbeats 4000000 in
theorem scan_literal.calls (a0 : ByteArray) (r : ByteArray) (w : World) (hT : TabOK w) (h : scan_literal.f a0 = some r) :
    Calls Tryz.prog 66 #[.string a0] w fun e w' => e = .returned (.string r) ∧ Below w.heap.size w w' := by
  unfold scan_literal.f at h
  by_cases hs : a0.size ≤ 20000
  · rw [if_pos hs] at h
    obtain rfl := Option.some.inj h
    have hcl : ∀ c : UInt8, a0.data.toList.count c ≤ a0.size := fun c => by rw [← data_length]; exact List.count_le_length
    have HC1 := strings_Count.calls a0 ⟨#[34]⟩ _ w rfl
    have HC2 := fun q => strings_Count.calls a0 ⟨#[39]⟩ _ (World.drewN w q) rfl
    have hq1 : (bytesOf a0).count 34 = a0.data.toList.count 34 := by rw [bytesOf_nums]; exact nums_count _ 34
    have hq2 : (bytesOf a0).count 39 = a0.data.toList.count 39 := by rw [bytesOf_nums]; exact nums_count _ 39
    have cb1 : Lib.countByte a0.data.toList 34 = ((bytesOf a0).count 34 : Int) := by rw [hq1]; rfl
    have cb2 : Lib.countByte a0.data.toList 39 = ((bytesOf a0).count 39 : Int) := by rw [hq2]; rfl
    rw [cb1] at HC1
    rw [cb2] at HC2
    obtain ⟨x, hx⟩ : ∃ x, (bytesOf a0).count 34 = x := ⟨_, rfl⟩
    obtain ⟨y, hy⟩ : ∃ y, (bytesOf a0).count 39 = y := ⟨_, rfl⟩
    rw [hx] at HC1
    rw [hy] at HC2
    have HD1 := Lib.hid HC1
    have HD2 := Lib.hid HC2
    have HT := Aside0.mk hT
    have hcb : ∀ c : UInt8, Lib.countB a0 ⟨#[c]⟩ ≤ 20000 := fun c => by rw [countB_one]; have := hcl c; omega
    have key : ∀ q : UInt8, (q.toNat : Int) = S.qOf (bytesOf a0) → ∃ R : ByteArray, R.size ≤ 100000 ∧ ((⟨#[q]⟩ : ByteArray) ++ R) ++ (⟨#[q]⟩ : ByteArray) = strOfNums (S.quote (bytesOf a0)) ∧ ∀ W, TabOK W → Calls Tryz.prog 105 #[.string a0, .string ⟨#[q]⟩, .string ((⟨#[q]⟩ : ByteArray) ++ (⟨#[q]⟩ : ByteArray))] W fun e w' => e = .returned (.string R) ∧ Below W.heap.size W w' := fun q hq => by
      refine ⟨⟨(Lib.replaceAll a0.data.toList [q] [q, q]).toArray⟩, ?_, quote_q hq, fun W hW => strings_ReplaceAll.calls _ _ _ _ W hW ?_⟩
      · rw [replaceAll_q]
        have e : (a0.data.toList.flatMap fun c => if c = q then [q, q] else [c]).length = (nums (a0.data.toList.flatMap fun c => if c = q then [q, q] else [c])).length := by simp [nums]
        show (List.toArray _).size ≤ _
        rw [List.size_toArray, e, nums_dbl, S.dbl_length]
        have h1 : (nums a0.data.toList).count (q.toNat : Int) ≤ (nums a0.data.toList).length := List.count_le_length
        have h2 : (nums a0.data.toList).length = a0.size := by simp only [nums, List.length_map]; exact data_length a0
        omega
      · have e : ((⟨#[q]⟩ : ByteArray) ++ (⟨#[q]⟩ : ByteArray)) = ⟨#[q, q]⟩ := by apply bytesOf_inj; rw [bytesOf_append]; rfl
        rw [e]
        unfold strings_ReplaceAll.f
        have h1 : (⟨#[q, q]⟩ : ByteArray).size = 2 := rfl
        have h2 : (⟨#[q]⟩ : ByteArray).size = 1 := rfl
        have := hcb q
        rw [if_pos ⟨by omega, by rw [h2]; exact Nat.le_refl _, by rw [h1]; omega⟩]
    clear hT HC1 HC2 hcl hq1 hq2 cb1 cb2 hcb hs
    have HX : Aside0 (S.qOf (bytesOf a0) = if x < y then 34 else 39) := ⟨by unfold S.qOf; rw [hx, hy]⟩
    clear hx hy
    generalize strOfNums (S.quote (bytesOf a0)) = res at *
    by_cases hlt : x < y
    · have g1 : decide ((x : Int) < (y : Int)) = true := decide_eq_true (by omega)
      have g2 : decide (x < y) = true := decide_eq_true hlt
      obtain ⟨R, hR, hRe, hRc⟩ := key 34 (by rw [HX.out, if_pos hlt]; rfl)
      have HR := Lib.hid hRc
      have HRE := Aside0.mk hRe
      clear key hRc hRe hlt HX
      have z1 : (9223372036854775807 < 1 + R.size) = False := eq_false (by omega)
      have z2 : (1 + R.size ≤ 9223372036854775807) = True := eq_true (by omega)
      have hsz : ((⟨#[34]⟩ : ByteArray) ++ R).size = 1 + R.size := by rw [ByteArray.size_append]; rfl
      have z3 : (9223372036854775807 < ((⟨#[34]⟩ : ByteArray) ++ R).size + 1) = False := eq_false (by omega)
      have z4 : (((⟨#[34]⟩ : ByteArray) ++ R).size + 1 ≤ 9223372036854775807) = True := eq_true (by omega)
      clear hsz
      go_enter Tryz.func66, Tryz.ntmps66
      go_wp2_with (first | (go_at_call 77; with_reducible refine HD1.out.mono ?_; rintro e w' ⟨rfl, ⟨⟨q, rfl⟩⟩⟩) | (go_at_call 77; with_reducible refine (HD2.out _).mono ?_; rintro e w' ⟨rfl, ⟨⟨q2, rfl⟩⟩⟩) | (go_at_call 105; refine (HR.out _ (HT.out.of_below (pw_below_drewN (Below.refl _ _) _))).mono ?_; rintro e w3 ⟨rfl, hb3⟩))
      rw [HRE.out]
      go_ret
      have hb4 : Below w.heap.size w (w.drewN (q + q2)) := pw_below_drewN (Below.refl _ _) _
      exact ⟨rfl, hb4.trans hb3⟩
    · have g1 : decide ((x : Int) < (y : Int)) = false := decide_eq_false (by omega)
      have g2 : decide (x < y) = false := decide_eq_false hlt
      obtain ⟨R, hR, hRe, hRc⟩ := key 39 (by rw [HX.out, if_neg hlt]; rfl)
      have HR := Lib.hid hRc
      have HRE := Aside0.mk hRe
      clear key hRc hRe hlt HX
      have z1 : (9223372036854775807 < 1 + R.size) = False := eq_false (by omega)
      have z2 : (1 + R.size ≤ 9223372036854775807) = True := eq_true (by omega)
      have hsz : ((⟨#[39]⟩ : ByteArray) ++ R).size = 1 + R.size := by rw [ByteArray.size_append]; rfl
      have z3 : (9223372036854775807 < ((⟨#[39]⟩ : ByteArray) ++ R).size + 1) = False := eq_false (by omega)
      have z4 : (((⟨#[39]⟩ : ByteArray) ++ R).size + 1 ≤ 9223372036854775807) = True := eq_true (by omega)
      clear hsz
      go_enter Tryz.func66, Tryz.ntmps66
      go_wp2_with (first | (go_at_call 77; with_reducible refine HD1.out.mono ?_; rintro e w' ⟨rfl, ⟨⟨q, rfl⟩⟩⟩) | (go_at_call 77; with_reducible refine (HD2.out _).mono ?_; rintro e w' ⟨rfl, ⟨⟨q2, rfl⟩⟩⟩) | (go_at_call 105; refine (HR.out _ (HT.out.of_below (pw_below_drewN (Below.refl _ _) _))).mono ?_; rintro e w3 ⟨rfl, hb3⟩))
      rw [HRE.out]
      go_ret
      have hb4 : Below w.heap.size w (w.drewN (q + q2)) := pw_below_drewN (Below.refl _ _) _
      exact ⟨rfl, hb4.trans hb3⟩
  · rw [if_neg hs] at h; cases h
end Go.Proofs.YtkkpjonfaflkmaaGreatDoor.T
