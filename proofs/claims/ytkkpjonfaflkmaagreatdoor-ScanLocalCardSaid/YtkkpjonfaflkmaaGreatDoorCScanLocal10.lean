/- Part 10 of the proof of ScanLocal: the functions that it calls return what their plain descriptions say. -/
import Derived.Test.YtkkpjonfaflkmaaGreatDoorCScanLocal6
import Derived.Test.YtkkpjonfaflkmaaGreatDoorCScanLocal9
import Derived.Test.YtkkpjonfaflkmaaGreatDoorCScanLocal5
import Derived.Test.YtkkpjonfaflkmaaGreatDoorCScanLocal8
import Derived.RegionTactic
import Derived.ChangeAlike
import Derived.BigRegion

namespace Go.Proofs.YtkkpjonfaflkmaaGreatDoor.T
set_option linter.unusedSimpArgs false
set_option linter.unusedVariables false
open Go.RowKit Go.Maps Go.Proofs.YtkkpjonfaflkmaaGreatDoorW.PrintWords Go.Proofs.YtkkpjonfaflkmaaGreatDoorW.PrintLast Go.Proofs.YtkkpjonfaflkmaaGreatDoorW.PrintMore
theorem grp_signs (c : Int) : grp sgPs c = (S.signs.filter fun l => decide (l.headD 0 = c)).map strOfNums := by
  unfold grp sgPs
  rw [List.filter_map, List.map_map]
  rfl
theorem signs_good : ∀ l ∈ S.signs, l ≠ [] ∧ l.length ≤ 3 ∧ ∀ x ∈ l, 0 ≤ x ∧ x < 256 := by decide
theorem find_sign (c : Int) (t : List Int) : (grp sgPs c).find? (fun x => (bytesOf x).isPrefixOf (c :: t)) = (S.signs.find? (fun x => x.isPrefixOf (c :: t))).map strOfNums := by
  rw [grp_signs, List.find?_map, List.find?_filter]
  congr 1
  have key : ∀ ls : List (List Int), (∀ l ∈ ls, l ≠ [] ∧ l.length ≤ 3 ∧ ∀ x ∈ l, 0 ≤ x ∧ x < 256) →
      ls.find? (fun a => decide ((decide (a.headD 0 = c)) = true ∧ ((fun x => (bytesOf x).isPrefixOf (c :: t)) ∘ strOfNums) a = true)) = ls.find? (fun x => x.isPrefixOf (c :: t)) := by
    intro ls
    induction ls with
    | nil => intro _; rfl
    | cons l ls ih =>
      intro h
      obtain ⟨h1, _, h2⟩ := h l (by simp)
      have e : decide ((decide (l.headD 0 = c)) = true ∧ ((fun x => (bytesOf x).isPrefixOf (c :: t)) ∘ strOfNums) l = true) = l.isPrefixOf (c :: t) := by
        simp only [Function.comp_apply]
        simp only [bytesOf_str l h2]
        rcases l with _ | ⟨a, l'⟩
        · exact absurd rfl h1
        · by_cases ha : a = c
          · subst ha; simp only [List.headD_cons, decide_true, true_and, Bool.decide_eq_true]
          · simp [List.isPrefixOf, ha]
      rw [List.find?_cons, List.find?_cons, e, ih (fun l' hl' => h l' (by simp [hl']))]
  exact key S.signs signs_good
structure ScM (s : Nat) (src : ByteArray) (i line : Int) (mb base : Nat) (hd : Int → Value) (D : DataW Unit) (w : World) : Prop where
  sc : Sc s src i line (.map (some mb)) w
  sg : SgI w mb base sgPs hd D
  nm : mb ≠ s
  nr : ∀ c g, (hd c).ownBlock = some g → g ≠ s
theorem SgI.but {s : Nat} {w w' : World} {mb base : Nat} {hd : Int → Value} {D : DataW Unit} (h : SgI w mb base sgPs hd D) (nm : mb ≠ s) (nr : ∀ c g, (hd c).ownBlock = some g → g ≠ s) (hb : But (· = s) w w') : SgI w' mb base sgPs hd D :=
  h.blk (hb.block _ h.map.lt nm) (fun c g hg => hb.block _ ((h.row c).lt g hg).2 (nr c g hg))
set_option maxRecDepth 100000 in
set_option maxHeartbeats 4000000 in
theorem scan_sign.calls (s : Nat) (src : ByteArray) (i line mb base : Nat) (hd : Int → Value) (D : DataW Unit) (w : World) (hsz : src.size ≤ 100000) (hl : line ≤ 1000000000) (hi : i < src.size) (h : ScM s src i line mb base hd D w) :
    Calls Tryz.prog 125 #[.pointer (some ⟨s, 0, none⟩)] w fun e w' => But (· = s) w w' ∧ SymPost s src (.map (some mb)) i line e w' (S.signTok ((bytesOf src).drop i)) := by
  have HM := Aside0.mk h
  obtain ⟨n, hn⟩ : ∃ n, src.size = n := ⟨_, rfl⟩
  obtain ⟨L, hL⟩ : ∃ L, bytesOf src = L := ⟨_, rfl⟩
  have HN : Aside0 (L.length = n) := ⟨by rw [← hL, bytesOf_length]; exact hn⟩
  have hbi := nth_byte src i hi
  rw [hL] at hbi ⊢
  have hdi := drop_at L i (by rw [HN.out]; omega)
  obtain ⟨c, hc⟩ : ∃ c, L.getD i 0 = c := ⟨_, rfl⟩
  have hcr : 0 ≤ c ∧ c < 256 := by rw [← hc]; exact bo_range src _ (by rw [hL]; exact getD_mem _ _ (by rw [HN.out]; omega))
  rw [hc] at hbi hdi
  have HDI := Aside0.mk hdi
  have HL := Aside0.mk hL
  have HX : Aside0 (bytesOf (src.extract i n) = L.drop i) := ⟨by rw [← hn, bytesOf_rest, hL]⟩
  have hz0 : (0 : Int) ≤ (i : Int) := by omega
  have hz1 : (i : Int) < (n : Int) := by omega
  have hz2 : (i : Int) ≤ (n : Int) := by omega
  obtain ⟨G, hG⟩ : ∃ G, grp sgPs c = G := ⟨_, rfl⟩
  have hrow := h.sg.row c
  rw [hG] at hrow
  obtain ⟨k, hk⟩ : ∃ k, G.length = k := ⟨_, rfl⟩
  rw [hk] at hrow
  obtain ⟨A, cap, hv⟩ : ∃ A cap, hd c = .slice A k cap := by
    rcases hrow.2 with ⟨e, e2⟩ | ⟨g, cap, cur, e, _⟩
    · exact ⟨_, _, by rw [e, e2]⟩
    · exact ⟨_, _, e⟩
  have hlk : ∀ y : ScC s src i line (.map (some mb)) w, (Instr.lookup 91 (.map (some mb)) (.int .u8 c) false).run Tryz.prog y.world = .ok (.slice A k cap) y.world := fun y => by
    rw [← hv]
    exact (h.sg.but h.nm h.nr y.but).look c hcr.1 hcr.2
  have hkb : k ≤ 35 := by
    rw [← hk, ← hG]
    unfold grp
    rw [List.length_map]
    have := List.length_filter_le (fun p : Int × ByteArray => decide (p.1 = c)) sgPs
    rw [sgPs_len] at this
    exact this
  have hfind := find_sign c (L.drop (i + 1))
  rw [hG, ← hdi] at hfind
  have hgr : ∀ x ∈ G, x.size ≤ 3 ∧ ∃ l, x = strOfNums l := by
    intro x hx
    rw [← hG, grp_signs] at hx
    obtain ⟨l, hl, rfl⟩ := List.mem_map.1 hx
    obtain ⟨_, h1, h2⟩ := signs_good l (List.mem_filter.1 hl).1
    refine ⟨?_, l, rfl⟩
    rw [← bytesOf_length, bytesOf_str l h2]
    exact h1
  have HGR := Aside0.mk hgr
  clear hgr
  have HF := Aside0.mk hfind
  have HROW := Aside0.mk hrow
  have HG := Aside0.mk hG
  have HV := Aside0.mk hv
  have HK := Aside0.mk hk
  have HW0 : Aside0 (Sc s src i line (.map (some mb)) w.drew ∧ But (· = s) w w.drew) := ⟨h.sc, (But.refl _ w).drew⟩
  have cc0 : ∀ y : ScC s src i line (.map (some mb)) w, y.world.cell? ⟨s, 0, none⟩ = some (.string src) := ScC.c0
  have cc1 : ∀ y : ScC s src i line (.map (some mb)) w, y.world.cell? ⟨s, 1, none⟩ = some (.int .i64 i) := ScC.c1
  have cc3 : ∀ y : ScC s src i line (.map (some mb)) w, y.world.cell? ⟨s, 3, none⟩ = some (.map (some mb)) := ScC.c3
  have hne : Nonempty (ScC s src i line (.map (some mb)) w) := ⟨⟨w.drew, HW0.out.1, HW0.out.2⟩⟩
  clear hfind hrow hG hv hk hL hc hdi hcr
  rw [hn] at hsz hi
  go_enter Tryz.func125, Tryz.ntmps125
  go_upto_region 1 with (fail)
  refine wp_region_cls (fun W => ∃ y : ScC s src i line (.map (some mb)) w, W = y.world) (by kernel_rfl) (by kernel_rfl) ⟨⟨w.drew, HW0.out.1, HW0.out.2⟩, rfl⟩ ?_
  repeat (go_big_quiet_step (fail))
  refine wpQuiet_nil ?_
  rintro W ⟨y, rfl⟩
  go_wp2
  have HY0 : Aside0 (∃ y2 : ScC s src i line (.map (some mb)) w, y.world = y2.world) := ⟨⟨y, rfl⟩⟩
  generalize y.world = W0 at *
  go_loopg [4, 20] (k + 1) (fun gg _ s20 wr => ∃ j : Nat, j ≤ k ∧ k + 1 - j ≤ gg ∧ s20 = .int .i64 j ∧ Aside0 (∃ y2 : ScC s src i line (.map (some mb)) w, wr = y2.world) ∧ Aside0 ((G.drop j).find? (fun x => (bytesOf x).isPrefixOf (L.drop i)) = G.find? (fun x => (bytesOf x).isPrefixOf (L.drop i))))
  case atStart => exact ⟨0, Nat.zero_le _, by omega, rfl, HY0, ⟨rfl⟩⟩
  case round =>
    obtain ⟨j, hj, hg, rfl, HY, HA⟩ := hrel
    obtain ⟨y2, hy2⟩ := HY.out
    have hs2 := y2.sc
    have hb2 := y2.but
    rw [← hy2] at hs2 hb2
    have HS2 := Aside0.mk hs2
    have HB2 := Aside0.mk hb2
    have d1 := hs2.c1
    have d2 := hs2.c2
    have f1 := hs2.fr 1
    clear hs2 hb2 hy2
    by_cases hlt : j < k
    · have hltz : (j : Int) < (k : Int) := by omega
      have hGl : j < G.length := by rw [HK.out]; exact hlt
      have hdj : G.drop j = G[j] :: G.drop (j + 1) := List.drop_eq_getElem_cons hGl
      have hxm : G[j] ∈ G := List.getElem_mem hGl
      have hgj : (G.map Value.string)[j]? = some (.string G[j]) := by rw [List.getElem?_map, List.getElem?_eq_getElem hGl]; rfl
      obtain ⟨x, hx⟩ : ∃ x, G[j] = x := ⟨_, rfl⟩
      rw [hx] at hdj hxm hgj
      have hr2 := (HM.out.sg.but HM.out.nm HM.out.nr HB2.out).row c
      rw [HG.out, HK.out, HV.out] at hr2
      rcases hr2.2 with ⟨_, e2⟩ | ⟨g, cap', cur, e, _⟩
      · omega
      simp only [Value.slice.injEq] at e
      obtain ⟨rfl, _, rfl⟩ := e
      have hcell : wr.cell? ⟨g, j, none⟩ = some (.string x) := by rw [hr2.cellAt j (by omega), hgj]
      obtain ⟨b, hb⟩ : ∃ b, (bytesOf x).isPrefixOf (L.drop i) = b := ⟨_, rfl⟩
      have hcall : ∀ W, Calls Tryz.prog 123 #[.string (src.extract i n), .string x] W fun e W' => e = .returned (.bool b) ∧ W' = W := fun W => by
        have h := Tryz.strings_HasPrefix (src.extract i n) x W
        rw [hasPrefix_nums, HX.out, hb] at h
        exact h
      have hxs := (HGR.out x hxm).1
      have HXL := Aside0.mk (HGR.out x hxm).2
      have HC := Lib.hid hcall
      have HDJ := Aside0.mk hdj
      have HB := Aside0.mk hb
      clear hr2 hcall hdj hgj hx hxm hb
      have hne2 : Nonempty (ScC s src i line (.map (some mb)) w) := hne
      go_upto_region 4 with (fail)
      refine wp_region_cls (fun W => ∃ y : ScC s src i line (.map (some mb)) w, W = y.world) (by kernel_rfl) (by kernel_rfl) ⟨⟨wr.drew, HS2.out, HB2.out.drew⟩, rfl⟩ ?_
      repeat (go_big_quiet_step ((rename_i y; (go_at_call 123; refine (HC.out _).mono ?_; rintro e w' ⟨rfl, rfl⟩; exact ⟨rfl, y, rfl⟩))))
      refine wpQuiet_nil ?_
      rintro W ⟨y3, rfl⟩
      have HS3 := Aside0.mk y3.sc
      have HB3 := Aside0.mk y3.but
      have c1 := y3.sc.c1
      have fr1 := y3.sc.fr 1
      generalize y3.world = W3 at *
      cases b with
      | true =>
        have hfs : ∃ l, S.signs.find? (fun x => x.isPrefixOf (L.drop i)) = some l ∧ x = strOfNums l ∧ x.size = l.length := by
          have h1 := HF.out
          rw [← HA.out, HDJ.out, List.find?_cons] at h1
          simp only [HB.out] at h1
          cases h2 : S.signs.find? (fun x => x.isPrefixOf (L.drop i)) with
          | none => rw [h2] at h1; cases h1
          | some v =>
            rw [h2] at h1
            simp only [Option.map_some, Option.some.injEq] at h1
            obtain ⟨_, _, h4⟩ := signs_good v (List.mem_of_find?_eq_some h2)
            refine ⟨v, rfl, h1, ?_⟩
            rw [h1, ← bytesOf_length, bytesOf_str v h4]
        obtain ⟨l, hl1, hl2, hl3⟩ := hfs
        have HT : Aside0 (S.signTok (L.drop i) = .ok l l.length) := ⟨by unfold S.signTok; rw [hl1]⟩
        have HL2 := Aside0.mk hl2
        have HL3 := Aside0.mk hl3
        clear hl1 hl2 hl3
        obtain ⟨xn, hxn⟩ : ∃ xn, x.size = xn := ⟨_, rfl⟩
        rw [hxn] at hxs
        rw [hxn] at HL3
        have hw : IntKind.i64.wrap ((i : Int) + (xn : Int)) = (i : Int) + (xn : Int) := w64 _ (by omega) (by omega)
        go_wp2_with fail
        go_ret
        refine ⟨HB3.out.set _ _ rfl, ?_⟩
        rw [HT.out]
        refine ⟨by rw [HL2.out]; rfl, ?_⟩
        rw [← HL3.out]
        exact HS3.out.set1 _
      | false =>
        go_wp2_with fail
        go_roundg (k + 1 - (j + 1))
        case measure => omega
        case rel =>
          refine ⟨j + 1, by omega, by omega, by go_num, ⟨⟨_, HS3.out, HB3.out⟩, rfl⟩, ⟨?_⟩⟩
          rw [← HA.out, HDJ.out, List.find?_cons]
          simp only [HB.out]
    · obtain rfl : j = k := by omega
      have hnone : S.signs.find? (fun x => x.isPrefixOf (L.drop i)) = none := by
        have h1 := HF.out
        have hG0 : G.drop j = [] := List.drop_eq_nil_of_le (by rw [HK.out]; omega)
        rw [← HA.out, hG0] at h1
        cases h2 : S.signs.find? (fun x => x.isPrefixOf (L.drop i)) with
        | none => rfl
        | some v => rw [h2] at h1; cases h1
      have HT : Aside0 (S.signTok (L.drop i) = .err 13) := ⟨by unfold S.signTok; rw [hnone]⟩
      have HFL := Lib.hid (scan_fail.calls (.pointer (some ⟨s, 0, none⟩)) 13 line wr)
      clear hnone
      go_wp2_with (go_at_call 97; refine HFL.out.mono ?_; rintro e w3 ⟨rfl, rfl⟩; unfold Fails)
      refine ⟨rfl, HB2.out, ?_⟩
      rw [HT.out]
      exact ⟨rfl, _, HS2.out⟩
end Go.Proofs.YtkkpjonfaflkmaaGreatDoor.T

namespace Go.Proofs.YtkkpjonfaflkmaaGreatDoor.T
set_option linter.unusedSimpArgs false
set_option linter.unusedVariables false
open Go.RowKit Go.Proofs.YtkkpjonfaflkmaaGreatDoorW.PrintWords Go.Proofs.YtkkpjonfaflkmaaGreatDoorW.PrintLast Go.Proofs.YtkkpjonfaflkmaaGreatDoorW.PrintMore
def CmtPost (s : Nat) (src : ByteArray) (m : Value) (line : Nat) (e : Ending) (w' : World) : S.CR → Prop
  | .eof => e = Fails 6 line ∧ ∃ i' l' : Nat, Sc s src i' l' m w'
  | .done i' l' bad => if bad = 0 then e = .returned (.tuple #[]) ∧ Sc s src i' l' m w' else e = Fails 13 bad ∧ ∃ i' l' : Nat, Sc s src i' l' m w'
theorem CmtPost.ret {s : Nat} {src : ByteArray} {m : Value} {line i' l' bad : Nat} {w' : World} (hb : bad = 0) (h : Sc s src i' l' m w') : CmtPost s src m line (.returned (.tuple #[])) w' (.done i' l' bad) := by
  show if bad = 0 then _ else _
  rw [if_pos hb]
  exact ⟨rfl, h⟩
theorem CmtPost.fail {s : Nat} {src : ByteArray} {m : Value} {line i' l' bad j k : Nat} {w' : World} (hb : ¬ bad = 0) (h : Sc s src j k m w') : CmtPost s src m line (Fails 13 bad) w' (.done i' l' bad) := by
  show if bad = 0 then _ else _
  rw [if_neg hb]
  exact ⟨rfl, _, _, h⟩
set_option maxRecDepth 100000 in
set_option maxHeartbeats 4000000 in
theorem scan_comment.calls (s : Nat) (src : ByteArray) (m : Value) (i line : Nat) (w : World) (hsz : src.size ≤ 1000000) (hl : line ≤ 1000000000) (hi : i ≤ src.size) (hst : S.starts2 ((bytesOf src).drop i) = true) (h : Sc s src i line m w) :
    Calls Tryz.prog 124 #[.pointer (some ⟨s, 0, none⟩)] w fun e w' => But (· = s) w w' ∧ CmtPost s src m line e w' (S.cmt ((bytesOf src).drop i) i 0 line 0) := by
  have HS := Aside0.mk h
  obtain ⟨n, hn⟩ : ∃ n, src.size = n := ⟨_, rfl⟩
  obtain ⟨L, hL⟩ : ∃ L, bytesOf src = L := ⟨_, rfl⟩
  have HN : Aside0 (L.length = n) := ⟨by rw [← hL, bytesOf_length]; exact hn⟩
  rw [hL] at hst ⊢
  obtain ⟨R, hR⟩ : ∃ R, S.cmt (L.drop i) i 0 line 0 = R := ⟨_, rfl⟩
  rw [hR]
  have HR := Aside0.mk hR
  have HL := Aside0.mk hL
  have HST := Aside0.mk hst
  have h2 := h.c2
  clear hR hL hst h
  rw [hn] at hsz hi
  go_enter Tryz.func124, Tryz.ntmps124
  go_step3
  go_wp2
  go_step3
  go_wp2
  go_loopg [3, 4, 5] (n + 1) (fun gg s3 s4 _ wr => ∃ kk dp ln bd : Nat, kk ≤ n ∧ n + 1 - kk ≤ gg ∧ s3 = .int .i64 dp ∧ s4 = .int .i64 bd ∧ Aside0 (Sc s src kk ln m wr) ∧ Aside0 (But (· = s) w wr) ∧ dp ≤ kk ∧ ln ≤ line + kk ∧ bd ≤ line + kk ∧ Aside0 (1 ≤ dp ∨ S.starts2 (L.drop kk) = true) ∧ Aside0 (S.cmt (L.drop kk) kk dp ln bd = R))
  case atStart => exact ⟨i, 0, line, 0, hi, by omega, rfl, rfl, HS, ⟨.refl _ _⟩, by omega, by omega, by omega, ⟨.inr HST.out⟩, HR⟩
  case round =>
    obtain ⟨kk, dp, ln, bd, hkk, hg, rfl, rfl, HC, HB, hdp, hln, hbd, HD, HA⟩ := hrel
    have c0 := HC.out.c0
    have c1 := HC.out.c1
    have hkz : (kk : Int) ≤ (n : Int) := by omega
    have hk0 : (0 : Int) ≤ (kk : Int) := by omega
    go_wp2
    go_region
    have HC1 : Aside0 (Sc s src kk ln m wr.drew) := HC
    have HB1 : Aside0 (But (· = s) w wr.drew) := ⟨HB.out.drew⟩
    have c0' : wr.drew.cell? ⟨s, 0, none⟩ = some (.string src) := c0
    have c1' : wr.drew.cell? ⟨s, 1, none⟩ = some (.int .i64 kk) := c1
    have c2' : wr.drew.cell? ⟨s, 2, none⟩ = some (.int .i64 ln) := HC1.out.c2
    have f1 := HC1.out.fr 1
    have f2 := HC1.out.fr 2
    clear HC HB c0 c1
    generalize wr.drew = w1 at *
    have HM : Aside0 (bytesOf (src.extract kk n) = L.drop kk) := ⟨by rw [← hn, bytesOf_rest, HL.out]⟩
    generalize src.extract kk n = rs at *
    have HE : Aside0 ((bytesOf rs).length = n - kk) := ⟨by rw [HM.out, List.length_drop, HN.out]⟩
    have HDR : Aside0 (∀ j, L.drop (kk + j) = (L.drop kk).drop j) := ⟨fun j => by rw [List.drop_drop]⟩
    rcases hM : L.drop kk with _ | ⟨y, M⟩
    · rw [hM] at HM HA HD
      have hkn : kk = n := by
        have := HE.out
        rw [HM.out] at this
        simp at this
        omega
      have e0 : (rs.toList == ([] : List UInt8)) = true := by rw [str_empty, HM.out]; rfl
      have HF := Lib.hid (scan_fail.calls (.pointer (some ⟨s, 0, none⟩)) 6 line w1)
      clear hM
      go_wp2_with (go_at_call 97; refine HF.out.mono ?_; rintro e w' ⟨rfl, rfl⟩; unfold Fails)
      have hR : R = .eof := HA.out.symm
      rw [hR]
      exact ⟨rfl, HB1.out, rfl, _, _, HC1.out⟩
    · have HMM := Aside0.mk hM
      rw [hM] at HM HA HD HDR
      have hlt : kk < n := by
        have := HE.out
        rw [HM.out] at this
        simp at this
        omega
      have e0 : (rs.toList == ([] : List UInt8)) = false := by rw [str_empty, HM.out]; rfl
      obtain ⟨hz, hy⟩ := first_byte rs y M HM.out
      have hzi : (0 : Int) < (rs.size : Int) := by omega
      have hw1 : IntKind.i64.wrap ((kk : Int) + 1) = ((kk + 1 : Nat) : Int) := by rw [w64 _ (by omega) (by omega)]; omega
      have hw2 : IntKind.i64.wrap ((kk : Int) + 2) = ((kk + 2 : Nat) : Int) := by rw [w64 _ (by omega) (by omega)]; omega
      have hw3 : IntKind.i64.wrap ((dp : Int) + 1) = ((dp + 1 : Nat) : Int) := by rw [w64 _ (by omega) (by omega)]; omega
      have hw4 : IntKind.i64.wrap ((ln : Int) + 1) = ((ln + 1 : Nat) : Int) := by rw [w64 _ (by omega) (by omega)]; omega
      have HCA := Aside0.mk (fun (x : Nat) => HC1.out.set1 (x : Int))
      have HBA := Aside0.mk (fun (v : Value) => HB1.out.set ⟨s, 1, none⟩ v rfl)
      clear hM
      by_cases hp1 : S.st2 47 42 (y :: M) = true
      · -- a comment opens
        obtain ⟨z, t, rfl, rfl, rfl⟩ : ∃ z t, M = z :: t ∧ y = 47 ∧ z = 42 := by
          rcases M with _ | ⟨z, t⟩
          · cases hp1
          · simp [S.st2] at hp1
            exact ⟨z, t, rfl, hp1⟩
        have hk2 : kk + 2 ≤ n := by
          have := HE.out
          rw [HM.out] at this
          simp at this
          omega
        have H1 := Lib.hid (prefix2.calls rs 47 42 true (by rw [HM.out]; exact hp1) w1)
        have HA2 : Aside0 (S.cmt (L.drop (kk + 2)) (kk + 2) (dp + 1) ln bd = R) := ⟨by
          rw [HDR.out 2, ← HA.out]
          simp [S.cmt]⟩
        clear hp1
        go_wp2_with (go_at_call 123; refine H1.out.mono ?_; rintro e w' ⟨rfl, rfl⟩)
        go_roundg (n + 1 - (kk + 2))
        case measure => omega
        case rel =>
          refine ⟨kk + 2, dp + 1, ln, bd, by omega, by omega, by go_num, rfl, ⟨?_⟩, ⟨?_⟩, by omega, by omega, by omega, ⟨.inl (by omega)⟩, HA2⟩
          · exact HCA.out (kk + 2)
          · exact HBA.out _
      · have hp1' : S.st2 47 42 (y :: M) = false := by simpa using hp1
        have hd1 : 1 ≤ dp := by
          rcases HD.out with h | h
          · exact h
          · rw [S.starts2_eq, hp1'] at h; cases h
        have hw5 : IntKind.i64.wrap ((dp : Int) - 1) = ((dp - 1 : Nat) : Int) := by rw [w64 _ (by omega) (by omega)]; omega
        have H1 := Lib.hid (prefix2.calls rs 47 42 false (by rw [HM.out]; exact hp1') w1)
        by_cases hp2 : S.st2 42 47 (y :: M) = true
        · -- a comment closes
          obtain ⟨z, t, rfl, rfl, rfl⟩ : ∃ z t, M = z :: t ∧ y = 42 ∧ z = 47 := by
            rcases M with _ | ⟨z, t⟩
            · cases hp2
            · simp [S.st2] at hp2
              exact ⟨z, t, rfl, hp2⟩
          have hk2 : kk + 2 ≤ n := by
            have := HE.out
            rw [HM.out] at this
            simp at this
            omega
          have H2 := Lib.hid (prefix2.calls rs 42 47 true (by rw [HM.out]; exact hp2) w1)
          clear hp1 hp1' hp2
          by_cases hd : dp = 1
          · have hR : R = .done (kk + 2) ln bd := by
              rw [← HA.out]
              simp [S.cmt, hd]
            have e5 : (((dp - 1 : Nat) : Int) == 0) = true := by rw [hd]; rfl
            by_cases hb : bd = 0
            · have b1 : decide (0 < bd) = false := decide_eq_false (by omega)
              have b2 : decide ((0 : Int) < (bd : Int)) = false := decide_eq_false (by omega)
              have HCF := HCA.out (kk + 2)
              have HF := Aside0.mk HCF
              clear HCF
              go_wp2_with (go_at_call 123; (first | (with_reducible refine H1.out.mono ?_) | (with_reducible refine H2.out.mono ?_)); rintro e w' ⟨rfl, rfl⟩)
              try rw [Exit.noGoto_normal]
              go_end0
              rw [hR]
              exact ⟨HBA.out _, CmtPost.ret hb HF.out⟩
            · have b1 : decide (0 < bd) = true := decide_eq_true (by omega)
              have b2 : decide ((0 : Int) < (bd : Int)) = true := decide_eq_true (by omega)
              have HF := Lib.hid (fun W => scan_fail.calls (.pointer (some ⟨s, 0, none⟩)) 13 bd W)
              go_wp2_with (first | (go_at_call 123; (first | (with_reducible refine H1.out.mono ?_) | (with_reducible refine H2.out.mono ?_)); rintro e w' ⟨rfl, rfl⟩) | (go_at_call 97; refine (HF.out _).mono ?_; rintro e w' ⟨rfl, rfl⟩; unfold Fails))
              rw [hR]
              exact ⟨rfl, HBA.out _, CmtPost.fail hb (HCA.out (kk + 2))⟩
          · have e5 : (((dp - 1 : Nat) : Int) == 0) = false := beq_eq_false_iff_ne.2 (by omega)
            have HA2 : Aside0 (S.cmt (L.drop (kk + 2)) (kk + 2) (dp - 1) ln bd = R) := ⟨by
              rw [HDR.out 2, ← HA.out]
              simp [S.cmt, hd]⟩
            go_wp2_with (go_at_call 123; (first | (with_reducible refine H1.out.mono ?_) | (with_reducible refine H2.out.mono ?_)); rintro e w' ⟨rfl, rfl⟩)
            go_roundg (n + 1 - (kk + 2))
            case measure => omega
            case rel =>
              refine ⟨kk + 2, dp - 1, ln, bd, by omega, by omega, by go_num, rfl, ⟨?_⟩, ⟨?_⟩, by omega, by omega, by omega, ⟨.inl (by omega)⟩, HA2⟩
              · exact HCA.out (kk + 2)
              · exact HBA.out _
        · have hp2' : S.st2 42 47 (y :: M) = false := by simpa using hp2
          have H2 := Lib.hid (prefix2.calls rs 42 47 false (by rw [HM.out]; exact hp2') w1)
          have hstep : S.cmt (y :: M) kk dp ln bd = S.cmt M (kk + 1) dp (if y = 10 then ln + 1 else ln) (if y ≠ 10 ∧ S.prn y = false ∧ bd = 0 then ln else bd) := by
            rcases M with _ | ⟨z, t⟩
            · rfl
            · simp only [S.st2, Bool.and_eq_false_iff, decide_eq_false_iff_not] at hp1' hp2'
              conv => { lhs; unfold S.cmt }
              rw [if_neg (by omega), if_neg (by omega)]
          rw [hstep] at HA
          have hD1 : L.drop (kk + 1) = M := HDR.out 1
          clear hp1 hp1' hp2 hp2' hstep
          by_cases hy10 : y = 10
          · have e6 : (y == 10) = true := beq_iff_eq.2 hy10
            rw [if_pos hy10, if_neg (fun q => q.1 hy10)] at HA
            have HCA2 := Aside0.mk (fun (l x : Nat) => (HC1.out.set2 (l : Int)).set1 (x : Int))
            have HBA2 := Aside0.mk (fun (u v : Value) => (HB1.out.set ⟨s, 2, none⟩ u rfl).set ⟨s, 1, none⟩ v rfl)
            go_wp2_with (go_at_call 123; (first | (with_reducible refine H1.out.mono ?_) | (with_reducible refine H2.out.mono ?_)); rintro e w' ⟨rfl, rfl⟩)
            go_roundg (n + 1 - (kk + 1))
            case measure => omega
            case rel =>
              refine ⟨kk + 1, dp, ln + 1, bd, by omega, by omega, rfl, rfl, ⟨?_⟩, ⟨?_⟩, by omega, by omega, by omega, ⟨.inl (by omega)⟩, ⟨by rw [hD1]; exact HA.out⟩⟩
              · exact HCA2.out (ln + 1) (kk + 1)
              · exact HBA2.out _ _
          · have e6 : (y == 10) = false := beq_eq_false_iff_ne.2 hy10
            rw [if_neg hy10] at HA
            have HP := Lib.hid (fun W => scan_printable.calls y (S.prn y) W (prn_f y))
            by_cases hpr : S.prn y = true
            · rw [if_neg (by rw [hpr]; simp)] at HA
              rw [hpr] at HP
              go_wp2_with (first | (go_at_call 123; (first | (with_reducible refine H1.out.mono ?_) | (with_reducible refine H2.out.mono ?_)); rintro e w' ⟨rfl, rfl⟩) | (go_at_call 65; refine (HP.out _).mono ?_; rintro e w' ⟨rfl, ⟨⟨q, rfl⟩⟩⟩))
              go_roundg (n + 1 - (kk + 1))
              case measure => omega
              case rel =>
                refine ⟨kk + 1, dp, ln, bd, by omega, by omega, rfl, rfl, ⟨?_⟩, ⟨?_⟩, by omega, by omega, by omega, ⟨.inl (by omega)⟩, ⟨by rw [hD1]; exact HA.out⟩⟩
                · exact HCA.out (kk + 1)
                · exact (HBA.out _).drewN q
            · have hpr' : S.prn y = false := by simpa using hpr
              rw [hpr'] at HP
              by_cases hb : bd = 0
              · have b1 : ((bd : Int) == 0) = true := beq_iff_eq.2 (by omega)
                rw [if_pos ⟨hy10, hpr', hb⟩] at HA
                go_wp2_with (first | (go_at_call 123; (first | (with_reducible refine H1.out.mono ?_) | (with_reducible refine H2.out.mono ?_)); rintro e w' ⟨rfl, rfl⟩) | (go_at_call 65; refine (HP.out _).mono ?_; rintro e w' ⟨rfl, ⟨⟨q, rfl⟩⟩⟩))
                go_roundg (n + 1 - (kk + 1))
                case measure => omega
                case rel =>
                  refine ⟨kk + 1, dp, ln, ln, by omega, by omega, rfl, rfl, ⟨?_⟩, ⟨?_⟩, by omega, by omega, by omega, ⟨.inl (by omega)⟩, ⟨by rw [hD1]; exact HA.out⟩⟩
                  · exact HCA.out (kk + 1)
                  · exact (HBA.out _).drewN q
              · have b1 : ((bd : Int) == 0) = false := beq_eq_false_iff_ne.2 (by omega)
                rw [if_neg (fun q => hb q.2.2)] at HA
                go_wp2_with (first | (go_at_call 123; (first | (with_reducible refine H1.out.mono ?_) | (with_reducible refine H2.out.mono ?_)); rintro e w' ⟨rfl, rfl⟩) | (go_at_call 65; refine (HP.out _).mono ?_; rintro e w' ⟨rfl, ⟨⟨q, rfl⟩⟩⟩))
                go_roundg (n + 1 - (kk + 1))
                case measure => omega
                case rel =>
                  refine ⟨kk + 1, dp, ln, bd, by omega, by omega, rfl, rfl, ⟨?_⟩, ⟨?_⟩, by omega, by omega, by omega, ⟨.inl (by omega)⟩, ⟨by rw [hD1]; exact HA.out⟩⟩
                  · exact HCA.out (kk + 1)
                  · exact (HBA.out _).drewN q
end Go.Proofs.YtkkpjonfaflkmaaGreatDoor.T

namespace Go.Proofs.YtkkpjonfaflkmaaGreatDoor.T
set_option linter.unusedSimpArgs false
set_option linter.unusedVariables false
open Go.RowKit Go.Maps Go.Proofs.YtkkpjonfaflkmaaGreatDoorW.PrintWords Go.Proofs.YtkkpjonfaflkmaaGreatDoorW.PrintLast Go.Proofs.YtkkpjonfaflkmaaGreatDoorW.PrintMore
def shC (p q : Nat) : S.CR → S.CR
  | .eof => .eof
  | .done i l b => .done (p + i) (q + l) (if b = 0 then 0 else q + b)
theorem cmt_shift (p q : Nat) : ∀ (xs : List Int) (i d l b : Nat), 0 < l → S.cmt xs (p + i) d (q + l) (if b = 0 then 0 else q + b) = shC p q (S.cmt xs i d l b)
  | [], _, _, _, _, _ => rfl
  | [_], _, _, _, _, _ => rfl
  | c :: e :: t, i, d, l, b, hl => by
    rw [S.cmt, S.cmt]
    by_cases h1 : c = 47 ∧ e = 42
    · rw [if_pos h1, if_pos h1]
      exact cmt_shift p q t (i + 2) (d + 1) l b hl
    · rw [if_neg h1, if_neg h1]
      by_cases h2 : c = 42 ∧ e = 47
      · rw [if_pos h2, if_pos h2]
        by_cases h3 : d = 1
        · rw [if_pos h3, if_pos h3]; rfl
        · rw [if_neg h3, if_neg h3]
          exact cmt_shift p q t (i + 2) (d - 1) l b hl
      · rw [if_neg h2, if_neg h2]
        have e1 : (if c = 10 then q + l + 1 else q + l) = q + (if c = 10 then l + 1 else l) := by split <;> omega
        have e2 : (if c ≠ 10 ∧ S.prn c = false ∧ (if b = 0 then 0 else q + b) = 0 then q + l else if b = 0 then 0 else q + b) = if (if c ≠ 10 ∧ S.prn c = false ∧ b = 0 then l else b) = 0 then 0 else q + (if c ≠ 10 ∧ S.prn c = false ∧ b = 0 then l else b) := by
          by_cases hb : b = 0
          · by_cases hc : c ≠ 10 ∧ S.prn c = false
            · simp only [hb, hc, if_true, true_and, and_self, ne_eq, not_false_eq_true]
              rw [if_neg (by omega)]
            · have hc' : ¬ (c ≠ 10 ∧ S.prn c = false ∧ True) := fun h => hc ⟨h.1, h.2.1⟩
              simp only [hb, if_true]
              rw [if_neg hc', if_neg hc']
              simp
          · have hq : ¬ q + b = 0 := by omega
            simp only [hb, if_false, hq, and_false]
        rw [e1, e2]
        exact cmt_shift p q (e :: t) (i + 1) d _ _ (by split <;> omega)
  termination_by xs => xs.length
theorem cmt_lines : ∀ (xs : List Int) (i d l b : Nat), 0 < l → (b = 0 ∨ 0 < b) → ∀ i' l' b', S.cmt xs i d l b = .done i' l' b' → 0 < l'
  | [], _, _, _, _, _, _ => fun _ _ _ h => by cases h
  | [_], _, _, _, _, _, _ => fun _ _ _ h => by cases h
  | c :: e :: t, i, d, l, b, hl, hb => fun i' l' b' h => by
    rw [S.cmt] at h
    by_cases h1 : c = 47 ∧ e = 42
    · rw [if_pos h1] at h; exact cmt_lines t _ _ l b hl hb _ _ _ h
    · rw [if_neg h1] at h
      by_cases h2 : c = 42 ∧ e = 47
      · rw [if_pos h2] at h
        by_cases h3 : d = 1
        · rw [if_pos h3] at h; cases h; exact hl
        · rw [if_neg h3] at h; exact cmt_lines t _ _ l b hl hb _ _ _ h
      · rw [if_neg h2] at h
        exact cmt_lines (e :: t) _ _ _ _ (by split <;> omega) (by omega) _ _ _ h
  termination_by xs => xs.length
def zTk : Array Value := #[.int .i64 0, .string ⟨#[]⟩, .bool false, .int .i64 0, .int .i64 0, .int .i64 0]
def rTk (k : Int) (t : ByteArray) (g : Bool) (l a e : Int) : Array Value := #[.int .i64 k, .string t, .bool g, .int .i64 l, .int .i64 a, .int .i64 e]
structure St (s H : Nat) (src : ByteArray) (i line : Int) (m : Value) (row : Array Value) (w0 W : World) : Prop where
  sc : Sc s src i line m W
  but : But (· = s) w0 W
  res : W.heap[H]? = some (.cells zTk 53 (0, 0))
  tok : W.heap[H + 1]? = some (.cells row 53 (0, 0))
  lt : s < H
  new : w0.heap.size = H
theorem St.zs {s H : Nat} {src : ByteArray} {i line : Int} {m : Value} {row : Array Value} {w0 W : World} (h : St s H src i line m row w0 W) :
    W.cell? ⟨H, 0, none⟩ = some (.int .i64 0) ∧ W.cell? ⟨H, 1, none⟩ = some (.string ⟨#[]⟩) ∧ W.cell? ⟨H, 2, none⟩ = some (.bool false) ∧ W.cell? ⟨H, 3, none⟩ = some (.int .i64 0) ∧ W.cell? ⟨H, 4, none⟩ = some (.int .i64 0) ∧ W.cell? ⟨H, 5, none⟩ = some (.int .i64 0) ∧
    W.frozen? ⟨H, 0, none⟩ = false ∧ W.frozen? ⟨H, 1, none⟩ = false ∧ W.frozen? ⟨H, 2, none⟩ = false ∧ W.frozen? ⟨H, 3, none⟩ = false ∧ W.frozen? ⟨H, 4, none⟩ = false ∧ W.frozen? ⟨H, 5, none⟩ = false :=
  ⟨blk_cell h.res 0, blk_cell h.res 1, blk_cell h.res 2, blk_cell h.res 3, blk_cell h.res 4, blk_cell h.res 5, blk_frozen h.res 0, blk_frozen h.res 1, blk_frozen h.res 2, blk_frozen h.res 3, blk_frozen h.res 4, blk_frozen h.res 5⟩
theorem St.ts {s H : Nat} {src : ByteArray} {i line : Int} {m : Value} {k l a e : Int} {t : ByteArray} {g : Bool} {w0 W : World} (h : St s H src i line m (rTk k t g l a e) w0 W) :
    W.cell? ⟨H + 1, 0, none⟩ = some (.int .i64 k) ∧ W.cell? ⟨H + 1, 1, none⟩ = some (.string t) ∧ W.cell? ⟨H + 1, 2, none⟩ = some (.bool g) ∧ W.cell? ⟨H + 1, 3, none⟩ = some (.int .i64 l) ∧ W.cell? ⟨H + 1, 4, none⟩ = some (.int .i64 a) ∧ W.cell? ⟨H + 1, 5, none⟩ = some (.int .i64 e) ∧
    W.frozen? ⟨H + 1, 0, none⟩ = false ∧ W.frozen? ⟨H + 1, 1, none⟩ = false ∧ W.frozen? ⟨H + 1, 5, none⟩ = false :=
  ⟨blk_cell h.tok 0, blk_cell h.tok 1, blk_cell h.tok 2, blk_cell h.tok 3, blk_cell h.tok 4, blk_cell h.tok 5, blk_frozen h.tok 0, blk_frozen h.tok 1, blk_frozen h.tok 5⟩
theorem St.at1 {s H : Nat} {src : ByteArray} {i line : Int} {m : Value} {row : Array Value} {w0 W : World} (h : St s H src i line m row w0 W) (x : Int) : St s H src x line m row w0 (W.setCell ⟨s, 1, none⟩ (.int .i64 x)) :=
  ⟨h.sc.set1 x, h.but.set _ _ rfl, (Below.heap_setCell W ⟨s, 1, none⟩ _ H (by have := h.lt; show H ≠ s; omega)).trans h.res, (Below.heap_setCell W ⟨s, 1, none⟩ _ (H + 1) (by have := h.lt; show H + 1 ≠ s; omega)).trans h.tok, h.lt, h.new⟩
theorem St.at2 {s H : Nat} {src : ByteArray} {i line : Int} {m : Value} {row : Array Value} {w0 W : World} (h : St s H src i line m row w0 W) (x : Int) : St s H src i x m row w0 (W.setCell ⟨s, 2, none⟩ (.int .i64 x)) :=
  ⟨h.sc.set2 x, h.but.set _ _ rfl, (Below.heap_setCell W ⟨s, 2, none⟩ _ H (by have := h.lt; show H ≠ s; omega)).trans h.res, (Below.heap_setCell W ⟨s, 2, none⟩ _ (H + 1) (by have := h.lt; show H + 1 ≠ s; omega)).trans h.tok, h.lt, h.new⟩
theorem But.set_new {A : Nat → Prop} {w w' : World} (h : But A w w') (a : Addr) (v : Value) (ha : w.heap.size ≤ a.block) : But A w (w'.setCell a v) := by
  have hg : w'.grownBy (w'.setCell a v) (some a.block) := ⟨rfl, rfl, rfl, by simp [World.setCell], fun k _ hk => Below.heap_setCell w' a v k (fun e => hk (by rw [e]))⟩
  exact ⟨hg.os.trans h.os, hg.tape.trans h.tape, hg.output.trans h.output, Nat.le_trans h.size hg.size, fun k hk hn => (hg.block k (Nat.lt_of_lt_of_le hk h.size) (fun e => by cases e; omega)).trans (h.block k hk hn)⟩
theorem St.tk {s H : Nat} {src : ByteArray} {i line : Int} {m : Value} {row row' : Array Value} {w0 W : World} (h : St s H src i line m row w0 W) (j : Nat) (v : Value) (e : row.setIfInBounds j v = row') : St s H src i line m row' w0 (W.setCell ⟨H + 1, j, none⟩ v) :=
  ⟨(Below.heap_setCell W ⟨H + 1, j, none⟩ v s (by have := h.lt; show s ≠ H + 1; omega)).trans h.sc, h.but.set_new _ _ (by have := h.new; show _ ≤ H + 1; omega), (Below.heap_setCell W ⟨H + 1, j, none⟩ v H (by show H ≠ H + 1; omega)).trans h.res, blk_put h.tok j v e, h.lt, h.new⟩
theorem St.drewN {s H : Nat} {src : ByteArray} {i line : Int} {m : Value} {row : Array Value} {w0 W : World} (h : St s H src i line m row w0 W) (q : Nat) : St s H src i line m row w0 (W.drewN q) := ⟨h.sc, h.but.drewN q, h.res, h.tok, h.lt, h.new⟩
theorem St.call {s H : Nat} {src : ByteArray} {i line i' line' : Int} {m : Value} {row : Array Value} {w0 W W' : World} (h : St s H src i line m row w0 W) (hb : But (· = s) W W') (hs : Sc s src i' line' m W') : St s H src i' line' m row w0 W' :=
  ⟨hs, h.but.trans' hb, (hb.block H (blk_lt h.res) (by have := h.lt; show ¬ H = s; omega)).trans h.res, (hb.block (H + 1) (blk_lt h.tok) (by have := h.lt; show ¬ H + 1 = s; omega)).trans h.tok, h.lt, h.new⟩
theorem results_tc {P : Program} {fn : Func} {p q : Tmp} {ty : TypeId} (h : fn.results = #[.tmp p, .cell q ty]) (tmps : Array Value) (w : World) (g : Nat) (t : TypeId) (cs : Array Value) (fr : Nat × Nat) (d : TypeDesc) (u : Value)
    (hp : tmps.getD p undef = u) (hq : tmps.getD q undef = .pointer (some ⟨g, 0, none⟩)) (hg : w.heap[g]? = some (.cells cs t fr))
    (hu : P.underlying ty = some d) (hd : (match d with | .struct _ | .array _ _ => true | _ => false) = true) (hi : (P.info? ty).map (·.size) = some cs.size) :
    (results fn tmps).run P w = .ok (.tuple #[u, .agg cs]) w := by
  have hp' : tmps[p]?.getD undef = u := by simpa using hp
  have hq' : tmps[q]?.getD undef = .pointer (some ⟨g, 0, none⟩) := by simpa using hq
  simp [results, h, hp', hq', asAddr, Sem.run_bind, run_loadVar_row w g t ty cs fr d hg hu hd hi, Result.andThen]
def StepPost (s : Nat) (src : ByteArray) (m : Value) (i line : Nat) (e : Ending) (w' : World) : S.Step → Prop
  | .fin => e = .returned (.tuple #[.int .i64 0, .agg zTk]) ∧ Sc s src i line m w'
  | .line => e = .returned (.tuple #[.int .i64 1, .agg (rTk 0 ⟨#[]⟩ false line i 0)]) ∧ Sc s src ((i + 1 : Nat) : Int) ((line + 1 : Nat) : Int) m w'
  | .blank => e = .returned (.tuple #[.int .i64 2, .agg (rTk 0 ⟨#[]⟩ false line i 0)]) ∧ Sc s src ((i + 1 : Nat) : Int) line m w'
  | .cmt n dl => e = .returned (.tuple #[.int .i64 3, .agg (rTk 0 ⟨#[]⟩ false line i 0)]) ∧ Sc s src ((i + n : Nat) : Int) ((line + dl : Nat) : Int) m w'
  | .tok k t n => e = .returned (.tuple #[.int .i64 4, .agg (rTk k (strOfNums t) false line i ((i + n : Nat) : Int))]) ∧ Sc s src ((i + n : Nat) : Int) line m w'
  | .err c dl => e = Fails c ((line + dl : Nat) : Int) ∧ ∃ i' l' : Nat, Sc s src i' l' m w'
theorem end_of {s H : Nat} {src : ByteArray} {i line : Int} {m : Value} {w0 W : World} (hsc : Sc s src i line m W) (hbut : But (· = s) w0 W) (hres : W.heap[H]? = some (.cells zTk 53 (0, 0))) (hlt : s < H) (hnew : w0.heap.size = H) (k l a e : Int) (t : ByteArray) (g : Bool) :
    (((((((World.setCell W ⟨H, 0, none⟩ (.int .i64 k)).setCell ⟨H, 1, none⟩ (.string t)).setCell ⟨H, 2, none⟩ (.bool g)).setCell ⟨H, 3, none⟩ (.int .i64 l)).setCell ⟨H, 4, none⟩ (.int .i64 a)).setCell ⟨H, 5, none⟩ (.int .i64 e))).heap[H]? = some (.cells (rTk k t g l a e) 53 (0, 0)) ∧ Sc s src i line m (((((((World.setCell W ⟨H, 0, none⟩ (.int .i64 k)).setCell ⟨H, 1, none⟩ (.string t)).setCell ⟨H, 2, none⟩ (.bool g)).setCell ⟨H, 3, none⟩ (.int .i64 l)).setCell ⟨H, 4, none⟩ (.int .i64 a)).setCell ⟨H, 5, none⟩ (.int .i64 e))) ∧ But (· = s) w0 (((((((World.setCell W ⟨H, 0, none⟩ (.int .i64 k)).setCell ⟨H, 1, none⟩ (.string t)).setCell ⟨H, 2, none⟩ (.bool g)).setCell ⟨H, 3, none⟩ (.int .i64 l)).setCell ⟨H, 4, none⟩ (.int .i64 a)).setCell ⟨H, 5, none⟩ (.int .i64 e))) := by
  have hn : ∀ j, w0.heap.size ≤ (⟨H, j, none⟩ : Addr).block := fun j => by have := hnew; show _ ≤ H; omega
  have ho : ∀ (A : World) (j : Nat) (u : Value), (A.setCell ⟨H, j, none⟩ u).heap[s]? = A.heap[s]? := fun A j u => Below.heap_setCell A ⟨H, j, none⟩ u s (by have := hlt; show s ≠ H; omega)
  refine ⟨?_, ?_, (((((hbut.set_new _ _ (hn 0)).set_new _ _ (hn 1)).set_new _ _ (hn 2)).set_new _ _ (hn 3)).set_new _ _ (hn 4)).set_new _ _ (hn 5)⟩
  · exact blk_put (blk_put (blk_put (blk_put (blk_put (blk_put hres 0 _ rfl) 1 _ rfl) 2 _ rfl) 3 _ rfl) 4 _ rfl) 5 _ rfl
  · unfold Sc
    rw [ho, ho, ho, ho, ho, ho]
    exact hsc
theorem St.end_ {s H : Nat} {src : ByteArray} {i line : Int} {m : Value} {row : Array Value} {w0 W : World} (h : St s H src i line m row w0 W) (k l a e : Int) (t : ByteArray) (g : Bool) :
    (((((((World.setCell W ⟨H, 0, none⟩ (.int .i64 k)).setCell ⟨H, 1, none⟩ (.string t)).setCell ⟨H, 2, none⟩ (.bool g)).setCell ⟨H, 3, none⟩ (.int .i64 l)).setCell ⟨H, 4, none⟩ (.int .i64 a)).setCell ⟨H, 5, none⟩ (.int .i64 e))).heap[H]? = some (.cells (rTk k t g l a e) 53 (0, 0)) ∧ Sc s src i line m (((((((World.setCell W ⟨H, 0, none⟩ (.int .i64 k)).setCell ⟨H, 1, none⟩ (.string t)).setCell ⟨H, 2, none⟩ (.bool g)).setCell ⟨H, 3, none⟩ (.int .i64 l)).setCell ⟨H, 4, none⟩ (.int .i64 a)).setCell ⟨H, 5, none⟩ (.int .i64 e))) ∧ But (· = s) w0 (((((((World.setCell W ⟨H, 0, none⟩ (.int .i64 k)).setCell ⟨H, 1, none⟩ (.string t)).setCell ⟨H, 2, none⟩ (.bool g)).setCell ⟨H, 3, none⟩ (.int .i64 l)).setCell ⟨H, 4, none⟩ (.int .i64 a)).setCell ⟨H, 5, none⟩ (.int .i64 e))) := end_of h.sc h.but h.res h.lt h.new k l a e t g
set_option maxRecDepth 100000 in
set_option maxHeartbeats 4000000 in
theorem scan_step.calls (s : Nat) (src : ByteArray) (i line mb base : Nat) (hd : Int → Value) (D : DataW Unit) (w : World) (hsz : src.size ≤ 100000) (hl : line ≤ 1000000) (hl1 : 0 < line) (hi : i ≤ src.size) (h : ScM s src i line mb base hd D w) :
    Calls Tryz.prog 91 #[.pointer (some ⟨s, 0, none⟩)] w fun e w' => But (· = s) w w' ∧ StepPost s src (.map (some mb)) i line e w' (S.step ((bytesOf src).drop i)) := by
  have HM := Aside0.mk h
  obtain ⟨n, hn⟩ : ∃ n, src.size = n := ⟨_, rfl⟩
  obtain ⟨L, hL⟩ : ∃ L, bytesOf src = L := ⟨_, rfl⟩
  have HN : Aside0 (L.length = n) := ⟨by rw [← hL, bytesOf_length]; exact hn⟩
  obtain ⟨H, hH⟩ : ∃ H, w.heap.size = H := ⟨_, rfl⟩
  have HH := Aside0.mk hH
  have hs : s < H := by rw [← hH]; exact h.sc.lt
  have hu53 := Tryz.underlying53
  rw [hn] at hsz hi
  rw [hL]
  have hs1 := HM.out.sc.below (below_alloc (Below.refl _ _) (.cells #[.int .i64 0, .string ⟨#[]⟩, .bool false, .int .i64 0, .int .i64 0, .int .i64 0] 53))
  have hb1 := (But.refl (· = s) w).alloc (.cells #[.int .i64 0, .string ⟨#[]⟩, .bool false, .int .i64 0, .int .i64 0, .int .i64 0] 53)
  have hr1 := heap_alloc_new w (.cells #[.int .i64 0, .string ⟨#[]⟩, .bool false, .int .i64 0, .int .i64 0, .int .i64 0] 53)
  have hz1 := World.size_alloc w (.cells #[.int .i64 0, .string ⟨#[]⟩, .bool false, .int .i64 0, .int .i64 0, .int .i64 0] 53)
  rw [hH] at hr1 hz1
  have HS1 := Aside0.mk hs1
  have HB1 := Aside0.mk hb1
  have HR1 := Aside0.mk hr1
  have c0 := hs1.c0
  have c1 := hs1.c1
  have c2 := hs1.c2
  clear hs1 hb1 hr1
  go_enter Tryz.func91, Tryz.ntmps91
  go_upto_region 1 with (fail)
  try rw [hH]
  generalize (w.alloc (.cells #[.int .i64 0, .string ⟨#[]⟩, .bool false, .int .i64 0, .int .i64 0, .int .i64 0] 53)) = W1 at *
  by_cases hlt : i < n
  · have h1 : ¬ (n : Int) ≤ (i : Int) := by omega
    have h2 : (i : Int) < (n : Int) := by omega
    have h3 : (0 : Int) ≤ (i : Int) := by omega
    have hbi := nth_byte src i (by omega)
    rw [hL] at hbi
    have hdi := drop_at L i (by rw [HN.out]; omega)
    have hcr : 0 ≤ L.getD i 0 ∧ L.getD i 0 < 256 := bo_range src _ (by rw [hL]; exact getD_mem _ _ (by rw [HN.out]; omega))
    obtain ⟨c, hc⟩ : ∃ c, L.getD i 0 = c := ⟨_, rfl⟩
    rw [hc] at hbi hdi hcr
    have HDI := Aside0.mk hdi
    have HL := Aside0.mk hL
    clear hdi hc hL
    go_quiet (fail)
    go_upto_region 3 with (fail)
    go_region
    have hst : ∀ q, St s H src i line (.map (some mb)) (rTk 0 ⟨#[]⟩ false line i 0) w ((W1.drewN q).alloc (.cells #[.int .i64 0, .string ⟨#[]⟩, .bool false, .int .i64 line, .int .i64 i, .int .i64 0] 53)) := fun q => by
      refine ⟨HS1.out.below (below_alloc (pw_below_drewN (Below.refl _ _) q) _), (HB1.out.drewN q).alloc _, (Below.heap_alloc _ _ _ (by show H < W1.heap.size; omega)).trans HR1.out, ?_, hs, HH.out⟩
      have := heap_alloc_new (W1.drewN q) (.cells #[.int .i64 0, .string ⟨#[]⟩, .bool false, .int .i64 line, .int .i64 i, .int .i64 0] 53)
      rw [show (W1.drewN q).heap.size = H + 1 from hz1] at this
      exact this
    have HST := Aside0.mk (hst (nq + 1))
    clear hst
    generalize (W1.drewN (nq + 1)).alloc (.cells #[.int .i64 0, .string ⟨#[]⟩, .bool false, .int .i64 line, .int .i64 i, .int .i64 0] 53) = W2 at *
    clear c0 c1 c2
    have c0 := HST.out.sc.c0
    have c1 := HST.out.sc.c1
    have c2 := HST.out.sc.c2
    have f1 := HST.out.sc.fr 1
    have f2 := HST.out.sc.fr 2
    go_upto_region 4 with (fail)
    go_quiet (fail)
    obtain ⟨z0, z1, z2, z3, z4, z5, y0, y1, y2, y3, y4, y5⟩ := HST.out.zs
    obtain ⟨t0, t1, t2, t3, t4, t5, x0, x1, x5⟩ := HST.out.ts
    by_cases c10 : c = 10
    · subst c10
      have HX : Aside0 (S.step (L.drop i) = .line) := ⟨by rw [HDI.out]; rfl⟩
      go_upto_region 9 with (fail)
      have HST3 := Aside0.mk (((HST.out.drewN nq).at1 ((i : Int) + 1)).at2 ((line : Int) + 1))
      clear z0 z1 z2 z3 z4 z5 y0 y1 y2 y3 y4 y5 t0 t1 t2 t3 t4 t5 x0 x1 x5
      obtain ⟨z0, z1, z2, z3, z4, z5, y0, y1, y2, y3, y4, y5⟩ := HST3.out.zs
      obtain ⟨t0, t1, t2, t3, t4, t5, x0, x1, x5⟩ := HST3.out.ts
      generalize ((W2.drewN nq).setCell ⟨s, 1, none⟩ (.int .i64 ((i : Int) + 1))).setCell ⟨s, 2, none⟩ (.int .i64 ((line : Int) + 1)) = W3 at *
      have HE := Aside0.mk (HST3.out.end_ 0 line i 0 ⟨#[]⟩ false)
      go_region
      go_wp2
      generalize ((((((World.setCell W3 ⟨H, 0, none⟩ (.int .i64 (0 : Int))).setCell ⟨H, 1, none⟩ (.string (⟨#[]⟩ : ByteArray))).setCell ⟨H, 2, none⟩ (.bool false)).setCell ⟨H, 3, none⟩ (.int .i64 (line : Int))).setCell ⟨H, 4, none⟩ (.int .i64 (i : Int))).setCell ⟨H, 5, none⟩ (.int .i64 (0 : Int))) = Z at *
      refine bodyPost_ret (results_tc (fn := Tryz.f91) rfl _ _ H 53 (rTk 0 ⟨#[]⟩ false line i 0) (0, 0) _ _ rfl rfl HE.out.1 Tryz.underlying53 rfl (by kernel_rfl)) rfl ?_
      rw [HX.out]
      exact ⟨HE.out.2.2.drew, rfl, HE.out.2.1⟩
    have n10 : ¬ (c == 10) = true := by simpa using c10
    have e10 : (c == 10) = false := by simpa using c10
    by_cases c32 : c = 32
    · subst c32
      have HX : Aside0 (S.step (L.drop i) = .blank) := ⟨by rw [HDI.out]; rfl⟩
      go_upto_region 12 with (fail)
      have HST3 := Aside0.mk ((HST.out.drewN nq).at1 ((i : Int) + 1))
      clear z0 z1 z2 z3 z4 z5 y0 y1 y2 y3 y4 y5 t0 t1 t2 t3 t4 t5 x0 x1 x5
      obtain ⟨z0, z1, z2, z3, z4, z5, y0, y1, y2, y3, y4, y5⟩ := HST3.out.zs
      obtain ⟨t0, t1, t2, t3, t4, t5, x0, x1, x5⟩ := HST3.out.ts
      generalize (W2.drewN nq).setCell ⟨s, 1, none⟩ (.int .i64 ((i : Int) + 1)) = W3 at *
      have HE := Aside0.mk (HST3.out.end_ 0 line i 0 ⟨#[]⟩ false)
      go_region
      go_wp2
      generalize ((((((World.setCell W3 ⟨H, 0, none⟩ (.int .i64 (0 : Int))).setCell ⟨H, 1, none⟩ (.string (⟨#[]⟩ : ByteArray))).setCell ⟨H, 2, none⟩ (.bool false)).setCell ⟨H, 3, none⟩ (.int .i64 (line : Int))).setCell ⟨H, 4, none⟩ (.int .i64 (i : Int))).setCell ⟨H, 5, none⟩ (.int .i64 (0 : Int))) = Z at *
      refine bodyPost_ret (results_tc (fn := Tryz.f91) rfl _ _ H 53 (rTk 0 ⟨#[]⟩ false line i 0) (0, 0) _ _ rfl rfl HE.out.1 Tryz.underlying53 rfl (by kernel_rfl)) rfl ?_
      rw [HX.out]
      exact ⟨HE.out.2.2.drew, rfl, HE.out.2.1⟩
    have e32 : (c == 32) = false := by simpa using c32
    have HXR : Aside0 (bytesOf (src.extract i n) = L.drop i) := ⟨by rw [← hn, bytesOf_rest, HL.out]⟩
    obtain ⟨b, hb⟩ : ∃ b, S.starts2 (L.drop i) = b := ⟨_, rfl⟩
    have hz2 : (i : Int) ≤ (n : Int) := by omega
    have HP := Lib.hid (fun W => prefix2.calls (src.extract i n) 47 42 b (by rw [HXR.out, ← hb, S.starts2_eq]; rfl) W)
    have HBB := Aside0.mk hb
    clear hb
    go_upto_region 13 with (fail)
    refine wp_region_cls (fun W => ∃ q, W = W2.drewN q) (by kernel_rfl) (by kernel_rfl) ⟨nq + 1, rfl⟩ ?_
    repeat (go_big_quiet_step ((rename_i q; (go_at_call 123; refine (HP.out _).mono ?_; rintro e w' ⟨rfl, rfl⟩; exact ⟨rfl, q, rfl⟩))))
    refine wpQuiet_nil ?_
    rintro W ⟨q, rfl⟩
    have HST2 := Aside0.mk (HST.out.drewN q)
    clear c0 c1 c2 f1 f2
    clear z0 z1 z2 z3 z4 z5 y0 y1 y2 y3 y4 y5 t0 t1 t2 t3 t4 t5 x0 x1 x5
    generalize W2.drewN q = W4 at *
    have c0 := HST2.out.sc.c0
    have c1 := HST2.out.sc.c1
    have c2 := HST2.out.sc.c2
    obtain ⟨z0, z1, z2, z3, z4, z5, y0, y1, y2, y3, y4, y5⟩ := HST2.out.zs
    obtain ⟨t0, t1, t2, t3, t4, t5, x0, x1, x5⟩ := HST2.out.ts
    cases b with
    | true =>
      have hcm := scan_comment.calls s src (.map (some mb)) i line W4 (by omega) (by omega) (by omega) (by rw [HL.out]; exact HBB.out) HST2.out.sc
      have hsh := cmt_shift i (line - 1) (L.drop i) 0 0 1 0 (by omega)
      rw [show line - 1 + 1 = line by omega] at hsh
      simp only [Nat.add_zero, if_true] at hsh
      rw [HL.out, hsh] at hcm
      have hX : S.step (L.drop i) = S.cmtStep (S.cmt (L.drop i) 0 0 1 0) := by
        have hb0 := HBB.out
        rw [HDI.out] at hb0 ⊢
        simp only [S.step]
        rw [if_neg c10, if_neg c32, if_pos hb0]
      cases hR : S.cmt (L.drop i) 0 0 1 0 with
      | eof =>
        rw [hR] at hcm hX
        have HX : Aside0 (S.step (L.drop i) = .err 6 0) := ⟨hX⟩
        have HCL := Lib.hid hcm
        clear hX hcm hR hsh
        go_wp2_with (go_at_call 124; refine HCL.out.mono ?_; rintro e w3 ⟨hb3, rfl, hs3⟩; unfold Fails)
        refine ⟨rfl, HST2.out.but.trans' hb3, ?_⟩
        rw [HX.out]
        exact ⟨rfl, hs3⟩
      | done i' l' b' =>
        rw [hR] at hcm hX
        have hl' := cmt_lines (L.drop i) 0 0 1 0 (by omega) (by omega) i' l' b' hR
        by_cases hb0 : b' = 0
        · have HX : Aside0 (S.step (L.drop i) = .cmt i' (l' - 1)) := ⟨by rw [hX]; simp only [S.cmtStep]; rw [if_pos hb0]⟩
          simp only [shC, hb0, if_true, CmtPost] at hcm
          obtain ⟨N, hN⟩ : ∃ N, i + i' = N := ⟨_, rfl⟩
          obtain ⟨M, hM⟩ : ∃ M, line - 1 + l' = M := ⟨_, rfl⟩
          rw [hN, hM] at hcm
          have HNN : Aside0 (i + i' = N ∧ line + (l' - 1) = M) := ⟨hN, by omega⟩
          have HCL := Lib.hid hcm
          clear hX hcm hR hsh hN hM
          go_upto_region 15 with (go_at_call 124; refine HCL.out.mono ?_; rintro e w3 ⟨hb3, rfl, hs3⟩)
          have HST3 := Aside0.mk (HST2.out.call hb3 hs3)
          clear z0 z1 z2 z3 z4 z5 y0 y1 y2 y3 y4 y5 t0 t1 t2 t3 t4 t5 x0 x1 x5
          obtain ⟨z0, z1, z2, z3, z4, z5, y0, y1, y2, y3, y4, y5⟩ := HST3.out.zs
          obtain ⟨t0, t1, t2, t3, t4, t5, x0, x1, x5⟩ := HST3.out.ts
          generalize w3 = W3 at *
          have HE := Aside0.mk (HST3.out.end_ 0 line i 0 ⟨#[]⟩ false)
          go_region
          go_wp2
          generalize ((((((World.setCell W3 ⟨H, 0, none⟩ (.int .i64 (0 : Int))).setCell ⟨H, 1, none⟩ (.string (⟨#[]⟩ : ByteArray))).setCell ⟨H, 2, none⟩ (.bool false)).setCell ⟨H, 3, none⟩ (.int .i64 (line : Int))).setCell ⟨H, 4, none⟩ (.int .i64 (i : Int))).setCell ⟨H, 5, none⟩ (.int .i64 (0 : Int))) = Z at *
          refine bodyPost_ret (results_tc (fn := Tryz.f91) rfl _ _ H 53 (rTk 0 ⟨#[]⟩ false line i 0) (0, 0) _ _ rfl rfl HE.out.1 Tryz.underlying53 rfl (by kernel_rfl)) rfl ?_
          rw [HX.out]
          refine ⟨HE.out.2.2.drew, ?_⟩
          simp only [StepPost, HNN.out.1, HNN.out.2]
          exact ⟨rfl, HE.out.2.1⟩
        · have HX : Aside0 (S.step (L.drop i) = .err 13 (b' - 1)) := ⟨by rw [hX]; simp only [S.cmtStep]; rw [if_neg hb0]⟩
          simp only [shC, hb0, if_false, CmtPost] at hcm
          simp only [show ¬ (line - 1 + b' = 0) by omega, if_false] at hcm
          have hbl : line + (b' - 1) = line - 1 + b' := by omega
          have HBL := Aside0.mk hbl
          have HCL := Lib.hid hcm
          clear hX hcm hR hsh hbl
          go_wp2_with (go_at_call 124; refine HCL.out.mono ?_; rintro e w3 ⟨hb3, rfl, hs3⟩; unfold Fails)
          refine ⟨rfl, HST2.out.but.trans' hb3, ?_⟩
          rw [HX.out]
          simp only [StepPost, HBL.out]
          exact ⟨rfl, hs3⟩
    | false =>
      have hb0 := HBB.out
      by_cases hq : c = 39 ∨ c = 34
      · have hql : (c == 39) = true ∨ ((c == 39) = false ∧ (c == 34) = true) := by
          by_cases h39 : c = 39
          · exact .inl (by simpa using h39)
          · exact .inr ⟨by simpa using h39, by simpa using hq.resolve_left h39⟩
        rcases hql with e39 | ⟨e39, e34⟩
        · have hX : S.step (L.drop i) = S.tokStep 2 (S.litTok (L.drop i)) := by
            rw [HDI.out] at hb0 ⊢
            simp only [S.step]
            rw [if_neg c10, if_neg c32, if_neg (by rw [hb0]; exact Bool.false_ne_true), if_pos hq]
          have hcl := scan_literal_m.calls s src (.map (some mb)) i line W4 (by omega) (by omega) (by omega) HST2.out.sc
          rw [HL.out] at hcl
          cases hT : S.litTok (L.drop i) with
          | err c' =>
            rw [hT] at hX hcl
            have HX : Aside0 (S.step (L.drop i) = .err c' 0) := ⟨hX⟩
            have HCL := Lib.hid hcl
            clear hX hcl hT
            go_wp2_with ((go_at_call 70; refine HCL.out.mono ?_; rintro e w3 ⟨hb3, rfl, hs3⟩; unfold Fails))
            refine ⟨rfl, HST2.out.but.trans' hb3, ?_⟩
            rw [HX.out]
            exact ⟨rfl, by obtain ⟨i', h'⟩ := hs3; exact ⟨i', line, h'⟩⟩
          | ok t n' =>
            rw [hT] at hX hcl
            have HX : Aside0 (S.step (L.drop i) = .tok 2 t n') := ⟨hX⟩
            obtain ⟨N, hN⟩ : ∃ N, i + n' = N := ⟨_, rfl⟩
            have HNN := Aside0.mk hN
            simp only [SymPost, hN] at hcl
            have HCL := Lib.hid hcl
            clear hX hcl hT hN
            clear z0 z1 z2 z3 z4 z5 y0 y1 y2 y3 y4 y5 t0 t1 t2 t3 t4 t5 x0 x1 x5
            go_upto_region 21 with ((go_at_call 70; refine HCL.out.mono ?_; rintro e w3 ⟨hb3, rfl, hs3⟩; have HSC := Aside0.mk (HST2.out.call hb3 hs3); have cc1 := HSC.out.sc.c1; obtain ⟨t0, t1, t2, t3, t4, t5, x0, x1, x5⟩ := HSC.out.ts))
            have HST3 : Aside0 (St s H src N line (.map (some mb)) (rTk 2 (strOfNums t) false line i N) w (((w3.setCell ⟨H + 1, 0, none⟩ (.int .i64 2)).setCell ⟨H + 1, 1, none⟩ (.string (strOfNums t))).setCell ⟨H + 1, 5, none⟩ (.int .i64 N))) :=
              ⟨((HSC.out.tk 0 (.int .i64 2) (row' := rTk 2 ⟨#[]⟩ false line i 0) rfl).tk 1 (.string (strOfNums t)) (row' := rTk 2 (strOfNums t) false line i 0) rfl).tk 5 (.int .i64 N) rfl⟩
            clear t0 t1 t2 t3 t4 t5 x0 x1 x5 cc1
            obtain ⟨z0, z1, z2, z3, z4, z5, y0, y1, y2, y3, y4, y5⟩ := HST3.out.zs
            obtain ⟨t0, t1, t2, t3, t4, t5, x0, x1, x5⟩ := HST3.out.ts
            generalize (((w3.setCell ⟨H + 1, 0, none⟩ (.int .i64 2)).setCell ⟨H + 1, 1, none⟩ (.string (strOfNums t))).setCell ⟨H + 1, 5, none⟩ (.int .i64 (N : Int))) = W3 at *
            have HE := Aside0.mk (HST3.out.end_ 2 line i N (strOfNums t) false)
            go_region
            go_wp2
            generalize ((((((World.setCell W3 ⟨H, 0, none⟩ (.int .i64 (2 : Int))).setCell ⟨H, 1, none⟩ (.string (strOfNums t))).setCell ⟨H, 2, none⟩ (.bool false)).setCell ⟨H, 3, none⟩ (.int .i64 (line : Int))).setCell ⟨H, 4, none⟩ (.int .i64 (i : Int))).setCell ⟨H, 5, none⟩ (.int .i64 (N : Int))) = Z at *
            refine bodyPost_ret (results_tc (fn := Tryz.f91) rfl _ _ H 53 (rTk 2 (strOfNums t) false line i N) (0, 0) _ _ rfl rfl HE.out.1 Tryz.underlying53 rfl (by kernel_rfl)) rfl ?_
            rw [HX.out]
            refine ⟨HE.out.2.2.drew, ?_⟩
            simp only [StepPost, HNN.out]
            exact ⟨rfl, HE.out.2.1⟩
        · have hX : S.step (L.drop i) = S.tokStep 2 (S.litTok (L.drop i)) := by
            rw [HDI.out] at hb0 ⊢
            simp only [S.step]
            rw [if_neg c10, if_neg c32, if_neg (by rw [hb0]; exact Bool.false_ne_true), if_pos hq]
          have hcl := scan_literal_m.calls s src (.map (some mb)) i line W4 (by omega) (by omega) (by omega) HST2.out.sc
          rw [HL.out] at hcl
          cases hT : S.litTok (L.drop i) with
          | err c' =>
            rw [hT] at hX hcl
            have HX : Aside0 (S.step (L.drop i) = .err c' 0) := ⟨hX⟩
            have HCL := Lib.hid hcl
            clear hX hcl hT
            go_wp2_with ((go_at_call 70; refine HCL.out.mono ?_; rintro e w3 ⟨hb3, rfl, hs3⟩; unfold Fails))
            refine ⟨rfl, HST2.out.but.trans' hb3, ?_⟩
            rw [HX.out]
            exact ⟨rfl, by obtain ⟨i', h'⟩ := hs3; exact ⟨i', line, h'⟩⟩
          | ok t n' =>
            rw [hT] at hX hcl
            have HX : Aside0 (S.step (L.drop i) = .tok 2 t n') := ⟨hX⟩
            obtain ⟨N, hN⟩ : ∃ N, i + n' = N := ⟨_, rfl⟩
            have HNN := Aside0.mk hN
            simp only [SymPost, hN] at hcl
            have HCL := Lib.hid hcl
            clear hX hcl hT hN
            clear z0 z1 z2 z3 z4 z5 y0 y1 y2 y3 y4 y5 t0 t1 t2 t3 t4 t5 x0 x1 x5
            go_upto_region 21 with ((go_at_call 70; refine HCL.out.mono ?_; rintro e w3 ⟨hb3, rfl, hs3⟩; have HSC := Aside0.mk (HST2.out.call hb3 hs3); have cc1 := HSC.out.sc.c1; obtain ⟨t0, t1, t2, t3, t4, t5, x0, x1, x5⟩ := HSC.out.ts))
            have HST3 : Aside0 (St s H src N line (.map (some mb)) (rTk 2 (strOfNums t) false line i N) w (((w3.setCell ⟨H + 1, 0, none⟩ (.int .i64 2)).setCell ⟨H + 1, 1, none⟩ (.string (strOfNums t))).setCell ⟨H + 1, 5, none⟩ (.int .i64 N))) :=
              ⟨((HSC.out.tk 0 (.int .i64 2) (row' := rTk 2 ⟨#[]⟩ false line i 0) rfl).tk 1 (.string (strOfNums t)) (row' := rTk 2 (strOfNums t) false line i 0) rfl).tk 5 (.int .i64 N) rfl⟩
            clear t0 t1 t2 t3 t4 t5 x0 x1 x5 cc1
            obtain ⟨z0, z1, z2, z3, z4, z5, y0, y1, y2, y3, y4, y5⟩ := HST3.out.zs
            obtain ⟨t0, t1, t2, t3, t4, t5, x0, x1, x5⟩ := HST3.out.ts
            generalize (((w3.setCell ⟨H + 1, 0, none⟩ (.int .i64 2)).setCell ⟨H + 1, 1, none⟩ (.string (strOfNums t))).setCell ⟨H + 1, 5, none⟩ (.int .i64 (N : Int))) = W3 at *
            have HE := Aside0.mk (HST3.out.end_ 2 line i N (strOfNums t) false)
            go_region
            go_wp2
            generalize ((((((World.setCell W3 ⟨H, 0, none⟩ (.int .i64 (2 : Int))).setCell ⟨H, 1, none⟩ (.string (strOfNums t))).setCell ⟨H, 2, none⟩ (.bool false)).setCell ⟨H, 3, none⟩ (.int .i64 (line : Int))).setCell ⟨H, 4, none⟩ (.int .i64 (i : Int))).setCell ⟨H, 5, none⟩ (.int .i64 (N : Int))) = Z at *
            refine bodyPost_ret (results_tc (fn := Tryz.f91) rfl _ _ H 53 (rTk 2 (strOfNums t) false line i N) (0, 0) _ _ rfl rfl HE.out.1 Tryz.underlying53 rfl (by kernel_rfl)) rfl ?_
            rw [HX.out]
            refine ⟨HE.out.2.2.drew, ?_⟩
            simp only [StepPost, HNN.out]
            exact ⟨rfl, HE.out.2.1⟩
      have e39 : (c == 39) = false := by simpa using fun h => hq (.inl h)
      have e34 : (c == 34) = false := by simpa using fun h => hq (.inr h)
      have hsy := fun W => scan_symbolic.calls c (S.sym c) W (sym_f c hcr.1 hcr.2)
      by_cases hsc : S.sym c = true
      · have HSY := Lib.hid hsy
        rw [hsc] at HSY
        clear hsy
        have HST1 := HST2
        clear HST2
        go_upto_region 19 with (go_at_call 55; refine (HSY.out _).mono ?_; rintro e w' ⟨rfl, ⟨⟨q2, rfl⟩⟩⟩)
        have HST2 := Aside0.mk (HST1.out.drewN q2)
        clear HST1 c0 c1 c2 z0 z1 z2 z3 z4 z5 y0 y1 y2 y3 y4 y5 t0 t1 t2 t3 t4 t5 x0 x1 x5
        generalize W4.drewN q2 = W5 at *
        have c0 := HST2.out.sc.c0
        have c1 := HST2.out.sc.c1
        have c2 := HST2.out.sc.c2
        obtain ⟨z0, z1, z2, z3, z4, z5, y0, y1, y2, y3, y4, y5⟩ := HST2.out.zs
        obtain ⟨t0, t1, t2, t3, t4, t5, x0, x1, x5⟩ := HST2.out.ts
        have hX : S.step (L.drop i) = S.tokStep 1 (S.symTok (L.drop i)) := by
          rw [HDI.out] at hb0 ⊢
          simp only [S.step]
          rw [if_neg c10, if_neg c32, if_neg (by rw [hb0]; exact Bool.false_ne_true), if_neg hq, if_pos hsc]
        have hcl := scan_symbol.calls s src (.map (some mb)) i line W5 (by omega) (by omega) (by omega) HST2.out.sc
        rw [HL.out] at hcl
        cases hT : S.symTok (L.drop i) with
        | err c' =>
          rw [hT] at hX hcl
          have HX : Aside0 (S.step (L.drop i) = .err c' 0) := ⟨hX⟩
          have HCL := Lib.hid hcl
          clear hX hcl hT
          go_wp2_with (go_at_call 56; refine HCL.out.mono ?_; rintro e w3 ⟨hb3, rfl, hs3⟩; unfold Fails)
          refine ⟨rfl, HST2.out.but.trans' hb3, ?_⟩
          rw [HX.out]
          exact ⟨rfl, by obtain ⟨i', h'⟩ := hs3; exact ⟨i', line, h'⟩⟩
        | ok t n' =>
          rw [hT] at hX hcl
          have HX : Aside0 (S.step (L.drop i) = .tok 1 t n') := ⟨hX⟩
          obtain ⟨N, hN⟩ : ∃ N, i + n' = N := ⟨_, rfl⟩
          have HNN := Aside0.mk hN
          simp only [SymPost, hN] at hcl
          have HCL := Lib.hid hcl
          clear hX hcl hT hN
          clear z0 z1 z2 z3 z4 z5 y0 y1 y2 y3 y4 y5 t0 t1 t2 t3 t4 t5 x0 x1 x5
          go_upto_region 21 with (go_at_call 56; refine HCL.out.mono ?_; rintro e w3 ⟨hb3, rfl, hs3⟩; have HSC := Aside0.mk (HST2.out.call hb3 hs3); have cc1 := HSC.out.sc.c1; obtain ⟨t0, t1, t2, t3, t4, t5, x0, x1, x5⟩ := HSC.out.ts)
          have HST3 : Aside0 (St s H src N line (.map (some mb)) (rTk 1 (strOfNums t) false line i N) w (((w3.setCell ⟨H + 1, 0, none⟩ (.int .i64 1)).setCell ⟨H + 1, 1, none⟩ (.string (strOfNums t))).setCell ⟨H + 1, 5, none⟩ (.int .i64 N))) :=
            ⟨((HSC.out.tk 0 (.int .i64 1) (row' := rTk 1 ⟨#[]⟩ false line i 0) rfl).tk 1 (.string (strOfNums t)) (row' := rTk 1 (strOfNums t) false line i 0) rfl).tk 5 (.int .i64 N) rfl⟩
          clear t0 t1 t2 t3 t4 t5 x0 x1 x5 cc1
          obtain ⟨z0, z1, z2, z3, z4, z5, y0, y1, y2, y3, y4, y5⟩ := HST3.out.zs
          obtain ⟨t0, t1, t2, t3, t4, t5, x0, x1, x5⟩ := HST3.out.ts
          generalize (((w3.setCell ⟨H + 1, 0, none⟩ (.int .i64 1)).setCell ⟨H + 1, 1, none⟩ (.string (strOfNums t))).setCell ⟨H + 1, 5, none⟩ (.int .i64 (N : Int))) = W3 at *
          have HE := Aside0.mk (HST3.out.end_ 1 line i N (strOfNums t) false)
          go_region
          go_wp2
          generalize ((((((World.setCell W3 ⟨H, 0, none⟩ (.int .i64 (1 : Int))).setCell ⟨H, 1, none⟩ (.string (strOfNums t))).setCell ⟨H, 2, none⟩ (.bool false)).setCell ⟨H, 3, none⟩ (.int .i64 (line : Int))).setCell ⟨H, 4, none⟩ (.int .i64 (i : Int))).setCell ⟨H, 5, none⟩ (.int .i64 (N : Int))) = Z at *
          refine bodyPost_ret (results_tc (fn := Tryz.f91) rfl _ _ H 53 (rTk 1 (strOfNums t) false line i N) (0, 0) _ _ rfl rfl HE.out.1 Tryz.underlying53 rfl (by kernel_rfl)) rfl ?_
          rw [HX.out]
          refine ⟨HE.out.2.2.drew, ?_⟩
          simp only [StepPost, HNN.out]
          exact ⟨rfl, HE.out.2.1⟩
      · have hsf : S.sym c = false := by simpa using hsc
        have HSY := Lib.hid hsy
        rw [hsf] at HSY
        clear hsy
        have HST1 := HST2
        clear HST2
        go_upto_region 5 with (go_at_call 55; refine (HSY.out _).mono ?_; rintro e w' ⟨rfl, ⟨⟨q2, rfl⟩⟩⟩)
        have HST2 := Aside0.mk (HST1.out.drewN q2)
        clear HST1 c0 c1 c2 z0 z1 z2 z3 z4 z5 y0 y1 y2 y3 y4 y5 t0 t1 t2 t3 t4 t5 x0 x1 x5
        generalize W4.drewN q2 = W5 at *
        have c0 := HST2.out.sc.c0
        have c1 := HST2.out.sc.c1
        have c2 := HST2.out.sc.c2
        obtain ⟨z0, z1, z2, z3, z4, z5, y0, y1, y2, y3, y4, y5⟩ := HST2.out.zs
        obtain ⟨t0, t1, t2, t3, t4, t5, x0, x1, x5⟩ := HST2.out.ts
        have hX : S.step (L.drop i) = S.tokStep 3 (S.signTok (L.drop i)) := by
          rw [HDI.out] at hb0 ⊢
          simp only [S.step]
          rw [if_neg c10, if_neg c32, if_neg (by rw [hb0]; exact Bool.false_ne_true), if_neg hq, if_neg hsc]
        have hcl := scan_sign.calls s src i line mb base hd D W5 (by omega) (by omega) (by omega) ⟨HST2.out.sc, HM.out.sg.but HM.out.nm HM.out.nr HST2.out.but, HM.out.nm, HM.out.nr⟩
        rw [HL.out] at hcl
        cases hT : S.signTok (L.drop i) with
        | err c' =>
          rw [hT] at hX hcl
          have HX : Aside0 (S.step (L.drop i) = .err c' 0) := ⟨hX⟩
          have HCL := Lib.hid hcl
          clear hX hcl hT
          go_wp2_with (go_at_call 125; refine HCL.out.mono ?_; rintro e w3 ⟨hb3, rfl, hs3⟩; unfold Fails)
          refine ⟨rfl, HST2.out.but.trans' hb3, ?_⟩
          rw [HX.out]
          exact ⟨rfl, by obtain ⟨i', h'⟩ := hs3; exact ⟨i', line, h'⟩⟩
        | ok t n' =>
          rw [hT] at hX hcl
          have HX : Aside0 (S.step (L.drop i) = .tok 3 t n') := ⟨hX⟩
          obtain ⟨N, hN⟩ : ∃ N, i + n' = N := ⟨_, rfl⟩
          have HNN := Aside0.mk hN
          simp only [SymPost, hN] at hcl
          have HCL := Lib.hid hcl
          clear hX hcl hT hN
          clear z0 z1 z2 z3 z4 z5 y0 y1 y2 y3 y4 y5 t0 t1 t2 t3 t4 t5 x0 x1 x5
          go_upto_region 21 with (go_at_call 125; refine HCL.out.mono ?_; rintro e w3 ⟨hb3, rfl, hs3⟩; have HSC := Aside0.mk (HST2.out.call hb3 hs3); have cc1 := HSC.out.sc.c1; obtain ⟨t0, t1, t2, t3, t4, t5, x0, x1, x5⟩ := HSC.out.ts)
          have HST3 : Aside0 (St s H src N line (.map (some mb)) (rTk 3 (strOfNums t) false line i N) w (((w3.setCell ⟨H + 1, 0, none⟩ (.int .i64 3)).setCell ⟨H + 1, 1, none⟩ (.string (strOfNums t))).setCell ⟨H + 1, 5, none⟩ (.int .i64 N))) :=
            ⟨((HSC.out.tk 0 (.int .i64 3) (row' := rTk 3 ⟨#[]⟩ false line i 0) rfl).tk 1 (.string (strOfNums t)) (row' := rTk 3 (strOfNums t) false line i 0) rfl).tk 5 (.int .i64 N) rfl⟩
          clear t0 t1 t2 t3 t4 t5 x0 x1 x5 cc1
          obtain ⟨z0, z1, z2, z3, z4, z5, y0, y1, y2, y3, y4, y5⟩ := HST3.out.zs
          obtain ⟨t0, t1, t2, t3, t4, t5, x0, x1, x5⟩ := HST3.out.ts
          generalize (((w3.setCell ⟨H + 1, 0, none⟩ (.int .i64 3)).setCell ⟨H + 1, 1, none⟩ (.string (strOfNums t))).setCell ⟨H + 1, 5, none⟩ (.int .i64 (N : Int))) = W3 at *
          have HE := Aside0.mk (HST3.out.end_ 3 line i N (strOfNums t) false)
          go_region
          go_wp2
          generalize ((((((World.setCell W3 ⟨H, 0, none⟩ (.int .i64 (3 : Int))).setCell ⟨H, 1, none⟩ (.string (strOfNums t))).setCell ⟨H, 2, none⟩ (.bool false)).setCell ⟨H, 3, none⟩ (.int .i64 (line : Int))).setCell ⟨H, 4, none⟩ (.int .i64 (i : Int))).setCell ⟨H, 5, none⟩ (.int .i64 (N : Int))) = Z at *
          refine bodyPost_ret (results_tc (fn := Tryz.f91) rfl _ _ H 53 (rTk 3 (strOfNums t) false line i N) (0, 0) _ _ rfl rfl HE.out.1 Tryz.underlying53 rfl (by kernel_rfl)) rfl ?_
          rw [HX.out]
          refine ⟨HE.out.2.2.drew, ?_⟩
          simp only [StepPost, HNN.out]
          exact ⟨rfl, HE.out.2.1⟩
  · have h1 : (n : Int) ≤ (i : Int) := by omega
    obtain ⟨z0, z1, z2, z3, z4, z5⟩ : W1.cell? ⟨H, 0, none⟩ = some (.int .i64 0) ∧ W1.cell? ⟨H, 1, none⟩ = some (.string ⟨#[]⟩) ∧ W1.cell? ⟨H, 2, none⟩ = some (.bool false) ∧ W1.cell? ⟨H, 3, none⟩ = some (.int .i64 0) ∧ W1.cell? ⟨H, 4, none⟩ = some (.int .i64 0) ∧ W1.cell? ⟨H, 5, none⟩ = some (.int .i64 0) :=
      ⟨blk_cell HR1.out 0, blk_cell HR1.out 1, blk_cell HR1.out 2, blk_cell HR1.out 3, blk_cell HR1.out 4, blk_cell HR1.out 5⟩
    obtain ⟨y0, y1, y2, y3, y4, y5⟩ : W1.frozen? ⟨H, 0, none⟩ = false ∧ W1.frozen? ⟨H, 1, none⟩ = false ∧ W1.frozen? ⟨H, 2, none⟩ = false ∧ W1.frozen? ⟨H, 3, none⟩ = false ∧ W1.frozen? ⟨H, 4, none⟩ = false ∧ W1.frozen? ⟨H, 5, none⟩ = false :=
      ⟨blk_frozen HR1.out 0, blk_frozen HR1.out 1, blk_frozen HR1.out 2, blk_frozen HR1.out 3, blk_frozen HR1.out 4, blk_frozen HR1.out 5⟩
    have HX : Aside0 (S.step (L.drop i) = .fin) := ⟨by rw [List.drop_eq_nil_of_le (by rw [HN.out]; omega)]; rfl⟩
    go_quiet (fail)
    have HE := Aside0.mk (end_of (W := W1.drewN nq) (m := .map (some mb)) (src := src) (i := i) (line := line) HS1.out (HB1.out.drewN nq) HR1.out hs HH.out 0 0 0 0 ⟨#[]⟩ false)
    go_wp2
    generalize ((((((World.setCell (W1.drewN nq) ⟨H, 0, none⟩ (.int .i64 (0 : Int))).setCell ⟨H, 1, none⟩ (.string (⟨#[]⟩ : ByteArray))).setCell ⟨H, 2, none⟩ (.bool false)).setCell ⟨H, 3, none⟩ (.int .i64 (0 : Int))).setCell ⟨H, 4, none⟩ (.int .i64 (0 : Int))).setCell ⟨H, 5, none⟩ (.int .i64 (0 : Int))) = Z at *
    refine bodyPost_ret (results_tc (fn := Tryz.f91) rfl _ _ H 53 zTk (0, 0) _ _ rfl rfl HE.out.1 Tryz.underlying53 rfl (by kernel_rfl)) rfl ?_
    rw [HX.out]
    exact ⟨HE.out.2.2, rfl, HE.out.2.1⟩
end Go.Proofs.YtkkpjonfaflkmaaGreatDoor.T
