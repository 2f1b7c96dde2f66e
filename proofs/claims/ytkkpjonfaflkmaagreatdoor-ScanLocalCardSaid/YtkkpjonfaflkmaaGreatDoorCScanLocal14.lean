/- Part 14 of the proof of ScanLocal: the functions that it calls return what their plain descriptions say. -/
import Derived.Test.YtkkpjonfaflkmaaGreatDoorCScanLocal9
import Derived.Test.YtkkpjonfaflkmaaGreatDoorCScanLocal13
import Derived.Test.YtkkpjonfaflkmaaGreatDoorCScanLocal6
import Derived.Test.YtkkpjonfaflkmaaGreatDoorCScanLocal11
import Derived.Maps.AppendAt

namespace Go.Proofs.YtkkpjonfaflkmaaGreatDoor.T
set_option linter.unusedSimpArgs false
set_option linter.unusedVariables false
open Go.RowKit Go.Maps Go.Proofs.YtkkpjonfaflkmaaGreatDoorW.PrintWords Go.Proofs.YtkkpjonfaflkmaaGreatDoorW.PrintLast Go.Proofs.YtkkpjonfaflkmaaGreatDoorW.PrintMore
attribute [local go_sem] Oper.semAt_some
theorem Bld.keep {B b : Nat} {xs : List Int} {w w' : World} (h : Bld B b xs w) (hb : Below w.heap.size w w') : Bld B b xs w' := by
  have hk : ∀ k (o : Obj), w.heap[k]? = some o → w'.heap[k]? = some o := fun k o e => (hb.block k (Array.getElem?_eq_some_iff.1 e).1).trans e
  have key : ∀ p, Lib.BuilderAtF 126 5 B b p (xs.map (Value.int .u8)) w → Lib.BuilderAtF 126 5 B b p (xs.map (Value.int .u8)) w' := by
    rintro p ⟨h1, v, h2, h3, h4⟩
    refine ⟨h1, v, hk _ _ h2, ⟨h3.1, ?_⟩, h4⟩
    rcases h3.2 with e | ⟨g, cap, cur, fz, e1, e2, e3, rest⟩
    · exact .inl e
    · exact .inr ⟨g, cap, cur, fz, e1, e2, hk _ _ e3, rest⟩
  exact h.elim (fun e => .inl (key _ e)) (fun e => .inr (key _ e))
def spN (x : S53) : List Int := if x.f0 = 2 then S.quote (bytesOf x.f1) else bytesOf x.f1
theorem sp_f (x : S53) (h : x.f1.size ≤ 20000) : scan_spelled.f x.f0 x.f1 x.f2 x.f3 x.f4 x.f5 = some (strOfNums (spN x)) := by
  unfold scan_spelled.f spN
  by_cases e : x.f0 = 2
  · rw [if_pos e, if_pos e]
    unfold scan_literal.f
    rw [if_pos h]; rfl
  · rw [if_neg e, if_neg e]
    congr 1
    apply bytesOf_inj
    rw [bytesOf_str _ (bo_range _)]
theorem sp_bytes (x : S53) : ∀ y ∈ spN x, 0 ≤ y ∧ y < 256 := by
  unfold spN
  by_cases e : x.f0 = 2
  · rw [if_pos e]; exact S.quote_bytes (bo_range _)
  · rw [if_neg e]; exact bo_range _
theorem sp_len (x : S53) : (spN x).length ≤ 2 * x.f1.size + 2 := by
  unfold spN
  have hb : (bytesOf x.f1).length = x.f1.size := bytesOf_length _
  by_cases e : x.f0 = 2
  · rw [if_pos e, S.quote_length]
    have := List.count_le_length (a := S.qOf (bytesOf x.f1)) (l := bytesOf x.f1)
    omega
  · rw [if_neg e]; omega
def spL (l : List S53) : List Int := l.flatMap spN
theorem spL_take {l : List S53} {k : Nat} (h : k < l.length) : spL (l.take (k + 1)) = spL (l.take k) ++ spN (rd_T53 l (k : Int)) := by
  have : l.take (k + 1) = l.take k ++ [rd_T53 l (k : Int)] := by
    rw [List.take_add_one, List.getElem?_eq_getElem h]
    unfold rd_T53
    rw [Int.toNat_natCast, List.getD_eq_getElem?_getD, List.getElem?_eq_getElem h]
    rfl
  rw [this]
  simp [spL]
theorem spL_bytes (l : List S53) : ∀ y ∈ spL l, 0 ≤ y ∧ y < 256 := fun y hy => by
  obtain ⟨x, _, hx⟩ := List.mem_flatMap.1 hy
  exact sp_bytes x y hx
def szL (l : List S53) : Nat := (l.map fun x => 2 * x.f1.size + 2).sum
theorem szL_take (l : List S53) (k : Nat) : szL (l.take k) ≤ szL l := by
  unfold szL
  conv => { rhs; rw [← List.take_append_drop k l] }
  rw [List.map_append, List.sum_append]; omega
theorem spL_len : ∀ l : List S53, (spL l).length ≤ szL l
  | [] => Nat.le_refl _
  | x :: l => by
    have h1 := sp_len x
    have h2 := spL_len l
    simp only [spL, List.flatMap_cons, List.length_append, szL, List.map_cons, List.sum_cons] at h2 ⊢
    omega
theorem szL_mem {l : List S53} {x : S53} (h : x ∈ l) : 2 * x.f1.size + 2 ≤ szL l := by
  induction l with
  | nil => cases h
  | cons y l ih =>
    simp only [szL, List.map_cons, List.sum_cons] at ih ⊢
    rcases List.mem_cons.1 h with e | e
    · subst e; omega
    · have := ih e; omega
def noEnd (l : List S.Tk) : List S.Tk := l.filter fun t => !decide (t.kind = 4)
def commaB (l : List S53) : Bool := match l.getLast? with
  | none => false
  | some t => decide (t.f0 = 3) && (t.f1.toList == [44])
theorem comma_g (l : List S53) (hl : l.length ≤ 1000000) : scan_comma.f l = some (commaB l) := by
  unfold scan_comma.f commaB
  rcases List.eq_nil_or_concat l with rfl | ⟨a, t, rfl⟩
  · rfl
  · rw [List.concat_eq_append] at hl ⊢
    have hw : wrap64 (((a ++ [t]).length : Int) - 1) = (a.length : Int) := by
      simp only [List.length_append, List.length_cons, List.length_nil] at hl ⊢
      unfold wrap64; omega
    rw [hw, if_pos (by rw [List.length_append, List.length_singleton]; omega), if_pos (by omega), if_pos (by rw [List.length_append, List.length_singleton]; omega), List.getLast?_concat]
    have hr : rd_T53 (a ++ [t]) (a.length : Int) = t := by
      unfold rd_T53
      rw [Int.toNat_natCast, List.getD_eq_getElem?_getD, List.getElem?_append_right (Nat.le_refl _)]
      simp
    rw [hr]
    by_cases e : t.f0 = 3
    · rw [if_pos e]; simp [e]
    · rw [if_neg e]; simp [e]
theorem C_take {w : World} {A : Option Addr} {l : List S53} (k : Nat) (hk : k ≤ l.length) (h : Kd.C k53 w A l.length l) : Kd.C k53 w A k (l.take k) := by
  obtain ⟨h1, h2, h3⟩ := h
  refine ⟨by rw [List.length_take]; omega, by omega, fun hne => ?_⟩
  obtain ⟨ad, e, hj⟩ := h3 (by omega)
  exact ⟨ad, e, fun j p hp => hj j p (by rw [List.getElem?_take] at hp; split at hp; exact hp; cases hp)⟩
def mergesB (l : List S53) : Bool :=
  (S.scan (spL l)).err.isSome || !(eqF likeB ((noEnd (S.tokens (spL l))).map toS) (if commaB l = true ∧ (noEnd (S.tokens (spL l))).length + 1 = l.length then l.take (l.length - 1) else l))
set_option maxRecDepth 100000 in
set_option maxHeartbeats 4000000 in
theorem scan_merges.calls (A0 : Option Addr) (c0 : Nat) (l0 : List S53) (w : World) (hT : TabOK w) (hr0 : Kd.C k53 w A0 l0.length l0) (hc0 : l0.length ≤ c0) (hsm : l0.length ≤ 1000) (hsz : szL l0 ≤ 20000) :
    Calls Tryz.prog 111 #[.slice A0 l0.length c0] w fun e w' => e = .returned (.bool (mergesB l0)) ∧ Below w.heap.size w w' := by
  have hu53 := Tryz.underlying53
  have HT := Aside0.mk hT
  have HR0 := Aside0.mk hr0
  have HCM := Lib.hid (fun W hW => scan_comma.calls A0 c0 l0 _ W hW hc0 (comma_g l0 (by omega)))
  clear hT hr0
  obtain ⟨n, hn⟩ : ∃ n, l0.length = n := ⟨_, rfl⟩
  have HL0 := Aside0.mk hn
  have hslt := Aside0.mk hsz
  rw [hn] at HR0 HCM hc0 hsm ⊢
  clear hn hsz
  go_enter Tryz.func111, Tryz.ntmps111
  go_upto_region 2 with (fail)
  obtain ⟨W0, hW0⟩ : ∃ W0, w.alloc (.cells #[.pointer none, .slice none 0 0] 126) = W0 := ⟨_, rfl⟩
  have hB0 : Aside0 (Bld w.heap.size w.heap.size [] W0) := ⟨by rw [← hW0]; exact Bld.new w⟩
  have hb0 : Aside0 (Below w.heap.size w W0) := ⟨by rw [← hW0]; exact below_alloc (Below.refl _ _) _⟩
  rw [hW0]
  clear hW0
  generalize hH : w.heap.size = H at *
  have HH := Aside0.mk hH
  clear hH
  go_wp2
  go_loopg [13] n (fun gg s13 wr => ∃ kk : Nat, kk ≤ n ∧ n - kk ≤ gg ∧ s13 = .int .i64 kk ∧ Aside0 (Below H w wr) ∧ Aside0 (Bld H H (spL (l0.take kk)) wr))
  case atStart => exact ⟨0, by omega, by omega, rfl, hb0, by rw [List.take_zero]; exact hB0⟩
  case round =>
    obtain ⟨kk, hkk, hg, rfl, HB, HBD⟩ := hrel
    by_cases hlt : kk < n
    · have hltz : (kk : Int) < (n : Int) := by omega
      have hz0 : (0 : Int) ≤ (kk : Int) := by omega
      have hw1 : IntKind.i64.wrap ((kk : Int) + 1) = ((kk + 1 : Nat) : Int) := by rw [w64 _ (by omega) (by omega)]; omega
      have HTK := Aside0.mk (spL_take (l := l0) (k := kk) (by rw [HL0.out]; exact hlt))
      have hl1 := Nat.le_trans (spL_len (l0.take kk)) (szL_take l0 kk)
      have hmem : rd_T53 l0 (kk : Int) ∈ l0 := by
        have := drop_rd (l := l0) (k := kk) (by rw [HL0.out]; exact hlt)
        exact List.mem_of_mem_drop (by rw [this]; exact List.mem_cons_self)
      have hxs := szL_mem hmem
      obtain ⟨ad, rfl, x0, x1, x2, x3, x4, x5⟩ := at_T53 (Kd.C_below HR0.out (by rw [HH.out]; exact HB.out)) (kk : Int) hz0 hltz
      simp only [Int.toNat_natCast] at x0 x1 x2 x3 x4 x5
      have hsl := hslt.out
      generalize rd_T53 l0 (kk : Int) = tx at *
      have HSP := Lib.hid (fun W hW => scan_spelled.calls tx.f0 tx.f1 tx.f2 tx.f3 tx.f4 tx.f5 _ W hW (sp_f tx (by omega)))
      have hspl := sp_len tx
      have HSB := Aside0.mk (bytesOf_str _ (sp_bytes tx))
      have hst : (strOfNums (spN tx)).size = (spN tx).length := by simp [strOfNums, ByteArray.size]
      clear hmem
      go_upto_region 5 with (fail)
      have hn1 := heap_alloc_new wr (.cells #[.int .i64 tx.f0, .string tx.f1, .bool tx.f2, .int .i64 tx.f3, .int .i64 tx.f4, .int .i64 tx.f5] 53)
      have hB1 : Below H w (wr.alloc (.cells #[.int .i64 tx.f0, .string tx.f1, .bool tx.f2, .int .i64 tx.f3, .int .i64 tx.f4, .int .i64 tx.f5] 53)) := HB.out.trans ((below_alloc (Below.refl wr.heap.size wr) (.cells #[.int .i64 tx.f0, .string tx.f1, .bool tx.f2, .int .i64 tx.f3, .int .i64 tx.f4, .int .i64 tx.f5] 53)).mono (by have := HB.out.size; have := HH.out; omega))
      have HBD1 := Aside0.mk (HBD.out.keep (below_alloc (Below.refl _ wr) (.cells #[.int .i64 tx.f0, .string tx.f1, .bool tx.f2, .int .i64 tx.f3, .int .i64 tx.f4, .int .i64 tx.f5] 53)))
      obtain ⟨h1, hh1⟩ : ∃ h1, wr.heap.size = h1 := ⟨_, rfl⟩
      rw [hh1] at hn1 ⊢
      clear x0 x1 x2 x3 x4 x5 hh1 HB HBD
      generalize wr.alloc (.cells #[.int .i64 tx.f0, .string tx.f1, .bool tx.f2, .int .i64 tx.f3, .int .i64 tx.f4, .int .i64 tx.f5] 53) = W1 at *
      have HB1 := Aside0.mk hB1
      have a0 : W1.cell? ⟨h1, 0, none⟩ = some (.int .i64 tx.f0) := (blk_cell hn1 0).trans rfl
      have a1 : W1.cell? ⟨h1, 1, none⟩ = some (.string tx.f1) := (blk_cell hn1 1).trans rfl
      have a2 : W1.cell? ⟨h1, 2, none⟩ = some (.bool tx.f2) := (blk_cell hn1 2).trans rfl
      have a3 : W1.cell? ⟨h1, 3, none⟩ = some (.int .i64 tx.f3) := (blk_cell hn1 3).trans rfl
      have a4 : W1.cell? ⟨h1, 4, none⟩ = some (.int .i64 tx.f4) := (blk_cell hn1 4).trans rfl
      have a5 : W1.cell? ⟨h1, 5, none⟩ = some (.int .i64 tx.f5) := (blk_cell hn1 5).trans rfl
      have HTW : Aside0 (TabOK W1) := ⟨HT.out.of_below (by rw [HH.out]; exact hB1)⟩
      have HWS : Aside0 (∀ w2, Below W1.heap.size W1 w2 → Calls Tryz.prog 112 #[.pointer (some ⟨H, 0, none⟩), .string (strOfNums (spN tx))] w2 fun e w' => ∃ nn : Nat, e = .returned (.tuple #[.int .i64 nn, .nilIface]) ∧ Bld H H (spL (l0.take (kk + 1))) w' ∧ Below H w w') := ⟨fun w2 hb => by
        have hs2 := hb.size
        have hs1 := hB1.size
        have hHe := HH.out
        refine (bld_WriteString H H _ (strOfNums (spN tx)) w2 (HBD1.out.keep hb) (by rw [hst]; omega) (by omega)).mono ?_
        rintro e w' ⟨rfl, hb1, hb2⟩
        rw [HSB.out] at hb1
        exact ⟨_, rfl, by rw [HTK.out]; exact hb1, hB1.trans ((hb.mono (by omega)).trans hb2)⟩⟩
      clear hn1 hB1 hst hsl hxs hspl hl1
      go_wp2_with (first | (go_at_call 113; refine (HSP.out _ HTW.out).mono ?_; rintro e w2 ⟨rfl, hb2⟩) | (go_at_call 112; refine (HWS.out _ hb2).mono ?_; rintro e w3 ⟨nn, rfl, hbd3, hb3⟩))
      go_roundg (n - (kk + 1))
      case measure => omega
      case rel => exact ⟨kk + 1, by omega, by omega, by go_num, ⟨hb3⟩, ⟨hbd3⟩⟩
    · have hltz : ¬ (kk : Int) < (n : Int) := by omega
      have hkn : n = kk := by omega
      subst hkn
      have HBD2 : Aside0 (Bld H H (spL l0) wr) := ⟨by have := HBD.out; rwa [List.take_of_length_le (by rw [HL0.out]; exact Nat.le_refl _)] at this⟩
      clear HBD
      obtain ⟨src, hsrc⟩ : ∃ src, strOfNums (spL l0) = src := ⟨_, rfl⟩
      have hsb : bytesOf src = spL l0 := by rw [← hsrc]; exact bytesOf_str _ (spL_bytes l0)
      have hssz : src.size ≤ 20000 := by
        have h1 : (bytesOf src).length = src.size := bytesOf_length src
        have h2 := spL_len l0
        have h3 := hslt.out
        rw [hsb] at h1; omega
      have hstr := bld_String H H (spL l0) wr HBD2.out (spL_bytes l0) (by have := HB.out.size; have := HH.out; omega)
      rw [hsrc] at hstr
      have htkc := fun W hW => scan_tokens_m.calls src W (by omega) hW
      obtain ⟨toks, htoks⟩ : ∃ toks, S.tokens (bytesOf src) = toks := ⟨_, rfl⟩
      obtain ⟨er, her⟩ : ∃ er, (S.scan (bytesOf src)).err = er := ⟨_, rfl⟩
      rw [htoks, her, errV_eq] at htkc
      obtain ⟨ec, hec⟩ : ∃ ec, errC er = ec := ⟨_, rfl⟩
      obtain ⟨el, hel⟩ : ∃ el, errL er = el := ⟨_, rfl⟩
      rw [hec, hel] at htkc
      have HST := Lib.hid hstr
      have HTK := Lib.hid htkc
      have hMB : mergesB l0 = (er.isSome || !(eqF likeB ((noEnd toks).map toS) (if commaB l0 = true ∧ (noEnd toks).length + 1 = l0.length then l0.take (l0.length - 1) else l0))) := by
        unfold mergesB
        rw [← hsb, htoks, her]
      have hEC : ec = 0 ↔ er = none := by
        rw [← hec]
        cases er with
        | none => exact ⟨fun _ => rfl, fun _ => rfl⟩
        | some p =>
          have := S.scan_err (c := p.1) (ln := p.2) her
          constructor
          · intro e
            exact absurd (Int.ofNat_eq_zero.1 e) this
          · intro e; cases e
      have HTLEN : Aside0 (toks.length ≤ 300000) := ⟨by rw [← htoks]; have h1 := S.tokens_length (bo_range src); have h2 : (bytesOf src).length = src.size := bytesOf_length src; omega⟩
      have HMB := Aside0.mk hMB
      have HEC := Aside0.mk hEC
      have HTW : Aside0 (∀ w2, Below H wr w2 → TabOK w2) := ⟨fun w2 hb => HT.out.of_below (by rw [HH.out]; exact HB.out.trans hb)⟩
      clear hMB hEC hsb hssz hec hel htoks her hsrc HBD2 htkc hstr
      go_upto_region 9 with (first | (go_at_call 107; refine HST.out.mono ?_; rintro e w2 ⟨rfl, _, hb2⟩) | (go_at_call 51; refine (HTK.out _ (HTW.out _ hb2)).mono ?_; rintro e w3 ⟨v, rfl, hown, hb3⟩))
      obtain ⟨A, N, cap, rfl, hN⟩ : ∃ A cn cap, v = .slice A cn cap ∧ toks.length = cn := by
        rcases hown.2 with ⟨rfl, e2⟩ | ⟨g, cap, cs, rfl, _⟩
        · exact ⟨_, _, _, rfl, e2⟩
        · exact ⟨_, _, _, rfl, rfl⟩
      have hn4 := heap_alloc_new w3 (.cells #[.int .i64 ec, .int .i64 el] 76)
      have hs4 := World.size_alloc w3 (.cells #[.int .i64 ec, .int .i64 el] 76)
      have ho4 := own_but hown ((But.refl (fun _ => False) w3).alloc (.cells #[.int .i64 ec, .int .i64 el] 76)) (fun _ e => e.elim)
      have hb4 : Below H w (w3.alloc (.cells #[.int .i64 ec, .int .i64 el] 76)) := by
        have e1 := HB.out.size
        have e2 := hb2.size
        have e3 := hb3.size
        have e4 := HH.out
        exact HB.out.trans (hb2.trans ((hb3.mono (by omega)).trans ((below_alloc (Below.refl w3.heap.size w3) _).mono (by omega))))
      obtain ⟨fb, hfb⟩ : ∃ fb, w3.heap.size = fb := ⟨_, rfl⟩
      rw [hfb] at hn4 hs4 ⊢
      clear hown hb2 hb3 hfb
      generalize w3.alloc (.cells #[.int .i64 ec, .int .i64 el] 76) = W4 at *
      obtain ⟨hxx, hNc, hC4⟩ := tks_C ho4
      clear hxx
      rw [List.length_map, hN] at hC4
      have HC4 := Aside0.mk hC4
      have HB4 := Aside0.mk hb4
      have HN4 := Aside0.mk hn4
      have HNN := Aside0.mk hN
      have hNs : N ≤ 300000 := by have := HTLEN.out; omega
      clear ho4 hC4 hb4 hn4 hN HST HTK HTW HB
      have HS4 := Aside0.mk hs4
      clear hs4
      go_wp2
      go_loopg [8, 28] N (fun gg s8 s28 wr => ∃ kk : Nat, kk ≤ N ∧ N - kk ≤ gg ∧ s28 = .int .i64 kk ∧ Aside0 (Below (fb + 1) W4 wr) ∧ Aside0 (wr.ownsRow (fb + 1) 53 6 s8 (noEnd (toks.take kk)).length (tksL (noEnd (toks.take kk)))))
      case atStart => exact ⟨0, by omega, by omega, rfl, ⟨Below.refl _ _⟩, ⟨World.ownsRow_nil _ _ _ _⟩⟩
      case round =>
        obtain ⟨kk, hkk, hg, rfl, HBr, HOw⟩ := hrel
        by_cases hlt : kk < N
        · have hltz : (kk : Int) < (N : Int) := by omega
          have hz0 : (0 : Int) ≤ (kk : Int) := by omega
          have hw1 : IntKind.i64.wrap ((kk : Int) + 1) = ((kk + 1 : Nat) : Int) := by rw [w64 _ (by omega) (by omega)]; omega
          obtain ⟨tk, htk⟩ : ∃ tk, toks[kk]? = some tk := ⟨_, List.getElem?_eq_getElem (by rw [HNN.out]; exact hlt)⟩
          have hrd : rd_T53 (toks.map toS) (kk : Int) = toS tk := by
            unfold rd_T53
            rw [Int.toNat_natCast, List.getD_eq_getElem?_getD, List.getElem?_map, htk]; rfl
          have hnk : noEnd (toks.take (kk + 1)) = noEnd (toks.take kk) ++ (if tk.kind = 4 then [] else [tk]) := by
            rw [List.take_add_one, htk]
            unfold noEnd
            rw [List.filter_append]
            by_cases e : tk.kind = 4
            · rw [if_pos e]; simp [e]
            · rw [if_neg e]; simp [e]
          have HNK := Aside0.mk hnk
          obtain ⟨ad, rfl, x0, x1, x2, x3, x4, x5⟩ := at_T53 (Kd.C_below HC4.out (by rw [HS4.out]; exact HBr.out)) (kk : Int) hz0 hltz
          simp only [Int.toNat_natCast] at x0 x1 x2 x3 x4 x5
          rw [hrd] at x0 x1 x2 x3 x4 x5
          simp only [toS] at x0 x1 x2 x3 x4 x5
          clear hrd htk hnk
          go_upto_region 12 with (fail)
          have hn1 := heap_alloc_new wr (.cells #[.int .i64 tk.kind, .string (strOfNums tk.text), .bool tk.gap, .int .i64 tk.line, .int .i64 tk.at_, .int .i64 tk.to] 53)
          have hB1 : Below (fb + 1) W4 (wr.alloc (.cells #[.int .i64 tk.kind, .string (strOfNums tk.text), .bool tk.gap, .int .i64 tk.line, .int .i64 tk.at_, .int .i64 tk.to] 53)) := HBr.out.trans ((below_alloc (Below.refl wr.heap.size wr) (.cells #[.int .i64 tk.kind, .string (strOfNums tk.text), .bool tk.gap, .int .i64 tk.line, .int .i64 tk.at_, .int .i64 tk.to] 53)).mono (by have := HBr.out.size; have := HS4.out; omega))
          have hO1 := own_but HOw.out ((But.refl (fun _ => False) wr).alloc (.cells #[.int .i64 tk.kind, .string (strOfNums tk.text), .bool tk.gap, .int .i64 tk.line, .int .i64 tk.at_, .int .i64 tk.to] 53)) (fun _ e => e.elim)
          obtain ⟨h1, hh1⟩ : ∃ h1, wr.heap.size = h1 := ⟨_, rfl⟩
          rw [hh1] at hn1 ⊢
          clear x0 x1 x2 x3 x4 x5 hh1 HBr HOw
          generalize wr.alloc (.cells #[.int .i64 tk.kind, .string (strOfNums tk.text), .bool tk.gap, .int .i64 tk.line, .int .i64 tk.at_, .int .i64 tk.to] 53) = W1 at *
          have HB1 := Aside0.mk hB1
          have HO1 := Aside0.mk hO1
          have a0 : W1.cell? ⟨h1, 0, none⟩ = some (.int .i64 tk.kind) := (blk_cell hn1 0).trans rfl
          have a1 : W1.cell? ⟨h1, 1, none⟩ = some (.string (strOfNums tk.text)) := (blk_cell hn1 1).trans rfl
          have a2 : W1.cell? ⟨h1, 2, none⟩ = some (.bool tk.gap) := (blk_cell hn1 2).trans rfl
          have a3 : W1.cell? ⟨h1, 3, none⟩ = some (.int .i64 tk.line) := (blk_cell hn1 3).trans rfl
          have a4 : W1.cell? ⟨h1, 4, none⟩ = some (.int .i64 tk.at_) := (blk_cell hn1 4).trans rfl
          have a5 : W1.cell? ⟨h1, 5, none⟩ = some (.int .i64 tk.to) := (blk_cell hn1 5).trans rfl
          clear hn1 hB1 hO1
          by_cases hk4 : tk.kind = 4
          · have g1 : ((tk.kind : Int) != 4) = false := bne_eq_false_iff_eq.2 (by omega)
            have HNK2 : Aside0 (noEnd (toks.take (kk + 1)) = noEnd (toks.take kk)) := ⟨by rw [HNK.out, if_pos hk4, List.append_nil]⟩
            go_wp2_with fail
            go_roundg (N - (kk + 1))
            case measure => omega
            case rel => exact ⟨kk + 1, by omega, by omega, by go_num, HB1, by rw [HNK2.out]; exact HO1⟩
          · have g1 : ((tk.kind : Int) != 4) = true := bne_iff_ne.2 (by omega)
            have HNK2 : Aside0 (noEnd (toks.take (kk + 1)) = noEnd (toks.take kk) ++ [tk]) := ⟨by rw [HNK.out, if_neg hk4]⟩
            have hol : (noEnd (toks.take kk)).length ≤ kk := Nat.le_trans (List.length_filter_le _ _) (by rw [List.length_take]; omega)
            obtain ⟨own, hown⟩ : ∃ own, noEnd (toks.take kk) = own := ⟨_, rfl⟩
            rw [hown] at HO1 HNK2 hol
            clear hown HNK
            obtain ⟨on, hon⟩ : ∃ on, own.length = on := ⟨_, rfl⟩
            rw [hon] at HO1 hol
            have HON := Aside0.mk hon
            clear hon
            obtain ⟨i0, hi0, hz0', hz1, hz2⟩ := info_parts (show (Tryz.prog.info? 53).map (fun i => (i.zero, i.size, i.bytes)) = some (some (.agg zTk), 6, 56) by kernel_rfl)
            have hXO := own_but HO1.out ((But.refl (fun _ => False) W1).alloc (.cells #[.int .i64 tk.kind, .string (strOfNums tk.text), .bool tk.gap, .int .i64 tk.line, .int .i64 tk.at_, .int .i64 tk.to] 53)) (fun _ e => e.elim)
            have hXN := heap_alloc_new W1 (.cells #[.int .i64 tk.kind, .string (strOfNums tk.text), .bool tk.gap, .int .i64 tk.line, .int .i64 tk.at_, .int .i64 tk.to] 53)
            have hXs := World.size_alloc W1 (.cells #[.int .i64 tk.kind, .string (strOfNums tk.text), .bool tk.gap, .int .i64 tk.line, .int .i64 tk.at_, .int .i64 tk.to] 53)
            have HXO := Aside0.mk hXO
            have HXN := Aside0.mk hXN
            have hfs : fb + 1 ≤ W1.heap.size := by have := HB1.out.size; have := HS4.out; omega
            clear hXO hXN
            go_wp2_with (at_builtin; refine wpList_append_own_at _ rfl (.tmp 35) (.tmp 37) 24 rfl (fb + 1) 53 i0 (.agg zTk) 6 56 Tryz.underlying24 hi0 hz0' hz1 hz2 rfl (by decide) _ on (tksL own) rfl HXO.out ⟨W1.heap.size, 0, none⟩ 1 1 (tkL tk) rfl rfl (fun j u hu => by rw [add_plain, blk_cell HXN.out j]; simpa [tkL] using hu) (tkL_one _) (by unfold maxLen; omega) (by omega) (by rw [hXs]; omega) ?_; intro v' w1 hown' hgrow _ hat; have HOW1 := Aside0.mk hown'; have HGR := Aside0.mk hgrow; have HAT := Aside0.mk hat; clear hown' hgrow hat)
            have hbw : Below (fb + 1) W4 w1 := HB1.out.trans ((((But.refl (fun k => fb + 1 ≤ k) W1).alloc (.cells #[.int .i64 tk.kind, .string (strOfNums tk.text), .bool tk.gap, .int .i64 tk.line, .int .i64 tk.at_, .int .i64 tk.to] 53)).grown HGR.out (fun k e => (HO1.out.lt k e).1)).belowB hfs (fun k hk e => by omega))
            have HBW := Aside0.mk hbw
            clear hbw HGR HAT HXO HXN hXs
            go_roundg (N - (kk + 1))
            case measure => omega
            case rel => exact ⟨kk + 1, by omega, by omega, by go_num, HBW, ⟨by rw [HNK2.out, List.length_append, List.length_singleton, HON.out]; have := HOW1.out; simpa [tksL] using this⟩⟩
        · have hltz : ¬ (kk : Int) < (N : Int) := by omega
          have hkn : N = kk := by omega
          subst hkn
          rw [← HNN.out, List.take_length] at HOw
          obtain ⟨own, hown⟩ : ∃ own, noEnd toks = own := ⟨_, rfl⟩
          rw [hown] at HOw HMB
          have hol : own.length ≤ N := by rw [← HNN.out]; rw [← hown]; exact List.length_filter_le _ _
          clear hown
          obtain ⟨A2, c2, rfl⟩ : ∃ A2 c2, u8 = .slice A2 own.length c2 := by
            rcases HOw.out.2 with ⟨e1, e2⟩ | ⟨g, cap, cs, e1, _⟩
            · exact ⟨none, 0, by rw [e1, e2]⟩
            · exact ⟨_, _, e1⟩
          obtain ⟨hxx, hc2, hC2⟩ := tks_C HOw.out
          clear hxx
          have HC2 := Aside0.mk hC2
          have hmw : Aside0 (Below H w wr) := ⟨HB4.out.trans (HBr.out.mono (by have := HB4.out.size; have := HS4.out; have := HH.out; omega))⟩
          have hf0 : wr.cell? ⟨fb, 0, none⟩ = some (.int .i64 ec) := (blk_cell ((HBr.out.block fb (by omega)).trans HN4.out) 0).trans rfl
          have HR1 : Aside0 (Kd.C k53 wr A0 l0.length l0) := ⟨Kd.C_below (by rw [HL0.out]; exact HR0.out) (by rw [HH.out]; exact hmw.out)⟩
          have hR1 := HR1.out
          rw [HL0.out] at hR1
          have HR1n := Aside0.mk hR1
          clear hR1
          clear HBr HB4 HOw HN4 HR0
          obtain ⟨on, hon⟩ : ∃ on, own.length = on := ⟨_, rfl⟩
          obtain ⟨cb, hcb⟩ : ∃ cb, commaB l0 = cb := ⟨_, rfl⟩
          rw [hcb] at HCM HMB
          have HON := Aside0.mk hon
          have hn1 : cb = true → 1 ≤ n := fun e => by
            rcases Nat.eq_zero_or_pos n with h | h
            · exfalso
              rw [List.length_eq_zero_iff.1 (HL0.out.trans h)] at hcb
              rw [← hcb] at e
              cases e
            · exact h
          rw [HL0.out, hon] at HMB
          rw [hon] at hol hc2 ⊢
          rw [List.length_map, hon] at HC2
          have hsmo : ((own.map toS)).length ≤ 1000000 := by rw [List.length_map, hon]; omega
          clear hon hcb
          have HEQ : ∀ (W : World) (n2 c2' : Nat) (m : List S53), Below wr.heap.size wr W → m.length = n2 → n2 ≤ c2' → Kd.C k53 wr A0 n2 m → Calls Tryz.prog 74 #[.slice A2 on c2, .slice A0 n2 c2', .func (.func 76) #[] #[]] W fun e w' => e = .returned (.bool (eqF likeB (own.map toS) m)) ∧ Below W.heap.size W w' := fun W n2 c2' m hb hm hc hC => by
            have h1 := eqf.calls A2 c2 (own.map toS) A0 c2' m 76 likeB W like_enters like_tells (by rw [List.length_map, HON.out]; exact Kd.C_below HC2.out hb) (by rw [List.length_map, HON.out]; exact hc2) (by rw [hm]; exact Kd.C_below hC hb) (by rw [hm]; exact hc) hsmo
            rw [List.length_map, HON.out, hm] at h1
            exact h1
          have HEQ := Lib.hid HEQ
          clear hsmo
          by_cases hcut : cb = true ∧ on + 1 = n
          · rw [if_pos hcut] at HMB
            obtain ⟨rfl, rfl⟩ := hcut
            rw [show on + 1 - 1 = on by omega] at HMB
            have hC3 := C_take on (by rw [HL0.out]; omega) (l := l0) (w := wr) (A := A0) (by rw [HL0.out]; exact HR1n.out)
            have hln : (l0.take on).length = on := by rw [List.length_take, HL0.out]; omega
            have HEQ2 := Lib.hid (fun W hb => HEQ.out W on on (l0.take on) hb hln (Nat.le_refl _) hC3)
            have hw2 : IntKind.i64.wrap (((on + 1 : Nat) : Int) - 1) = (on : Int) := by rw [w64 _ (by omega) (by omega)]; omega
            have hw3 : (((on + 1 : Nat) : Int) - 1) = (on : Int) := by omega
            have g2 : ((on : Int) == (on : Int)) = true := beq_self_eq_true _
            have g3 : (on == on) = true := beq_self_eq_true _
            have hon1 : on ≤ on + 1 := by omega
            have hon2 : on ≤ c0 := by omega
            clear hn1 hC3 hln HEQ
            by_cases he0 : ec = 0
            · have hm : mergesB l0 = !(eqF likeB (own.map toS) (l0.take on)) := by rw [HMB.out, (HEC.out.1 he0)]; rfl
              have HM := Aside0.mk hm
              have g1 : (ec != 0) = false := bne_eq_false_iff_eq.2 he0
              clear hm he0
              go_wp2_with (first | (go_at_call 92; refine (HCM.out _ HR1n.out).mono ?_; rintro e w' ⟨rfl, ⟨⟨q, rfl⟩⟩⟩) | (go_at_call 74; refine (HEQ2.out _ (pw_below_drewN (Below.refl _ _) _)).mono ?_; rintro e w5 ⟨rfl, hb5⟩))
              refine bodyPost_ret (results_tmp rfl _ _ _) rfl ?_
              exact ⟨by rw [HM.out]; rfl, by rw [HH.out]; exact (pw_below_drewN hmw.out q).trans (hb5.mono (by have := hmw.out.size; have := HH.out; show H ≤ wr.heap.size; omega))⟩
            · have hi : er.isSome = true := by
                cases er with
                | none => exact absurd (HEC.out.2 rfl) he0
                | some _ => rfl
              have HM : Aside0 (mergesB l0 = true) := ⟨by rw [HMB.out, hi]; rfl⟩
              have g1 : (ec != 0) = true := bne_iff_ne.2 he0
              clear hi he0
              go_wp2_with (go_at_call 92; refine (HCM.out _ HR1n.out).mono ?_; rintro e w' ⟨rfl, ⟨⟨q, rfl⟩⟩⟩)
              refine bodyPost_ret (results_tmp rfl _ _ _) rfl ?_
              exact ⟨by rw [HM.out]; rfl, by rw [HH.out]; exact pw_below_drewN hmw.out q⟩
          · rw [if_neg hcut] at HMB
            have HEQ2 := Lib.hid (fun W hb => HEQ.out W n c0 l0 hb HL0.out hc0 HR1n.out)
            clear HEQ
            cases cb with
            | false =>
              clear hcut hn1
              by_cases he0 : ec = 0
              · have hm : mergesB l0 = !(eqF likeB (own.map toS) l0) := by rw [HMB.out, (HEC.out.1 he0)]; rfl
                have HM := Aside0.mk hm
                have g1 : (ec != 0) = false := bne_eq_false_iff_eq.2 he0
                clear hm he0
                go_wp2_with (first | (go_at_call 92; refine (HCM.out _ HR1n.out).mono ?_; rintro e w' ⟨rfl, ⟨⟨q, rfl⟩⟩⟩) | (go_at_call 74; refine (HEQ2.out _ (pw_below_drewN (Below.refl _ _) _)).mono ?_; rintro e w5 ⟨rfl, hb5⟩))
                refine bodyPost_ret (results_tmp rfl _ _ _) rfl ?_
                exact ⟨by rw [HM.out]; rfl, by rw [HH.out]; exact (pw_below_drewN hmw.out q).trans (hb5.mono (by have := hmw.out.size; have := HH.out; show H ≤ wr.heap.size; omega))⟩
              · have hi : er.isSome = true := by
                  cases er with
                  | none => exact absurd (HEC.out.2 rfl) he0
                  | some _ => rfl
                have HM : Aside0 (mergesB l0 = true) := ⟨by rw [HMB.out, hi]; rfl⟩
                have g1 : (ec != 0) = true := bne_iff_ne.2 he0
                clear hi he0
                go_wp2_with (go_at_call 92; refine (HCM.out _ HR1n.out).mono ?_; rintro e w' ⟨rfl, ⟨⟨q, rfl⟩⟩⟩)
                refine bodyPost_ret (results_tmp rfl _ _ _) rfl ?_
                exact ⟨by rw [HM.out]; rfl, by rw [HH.out]; exact pw_below_drewN hmw.out q⟩
            | true =>
              have hn2 := hn1 rfl
              have hne : on + 1 ≠ n := fun e => hcut ⟨rfl, e⟩
              have hw2 : IntKind.i64.wrap ((n : Int) - 1) = ((n - 1 : Nat) : Int) := by rw [w64 _ (by omega) (by omega)]; omega
              have hw3 : ((n : Int) - 1) = ((n - 1 : Nat) : Int) := by omega
              have g2 : ((on : Int) == ((n - 1 : Nat) : Int)) = false := beq_eq_false_iff_ne.2 (by omega)
              have g3 : (on == n - 1) = false := beq_eq_false_iff_ne.2 (by omega)
              clear hcut hn1 hne hn2
              by_cases he0 : ec = 0
              · have hm : mergesB l0 = !(eqF likeB (own.map toS) l0) := by rw [HMB.out, (HEC.out.1 he0)]; rfl
                have HM := Aside0.mk hm
                have g1 : (ec != 0) = false := bne_eq_false_iff_eq.2 he0
                clear hm he0
                go_wp2_with (first | (go_at_call 92; refine (HCM.out _ HR1n.out).mono ?_; rintro e w' ⟨rfl, ⟨⟨q, rfl⟩⟩⟩) | (go_at_call 74; refine (HEQ2.out _ (pw_below_drewN (Below.refl _ _) _)).mono ?_; rintro e w5 ⟨rfl, hb5⟩))
                refine bodyPost_ret (results_tmp rfl _ _ _) rfl ?_
                exact ⟨by rw [HM.out]; rfl, by rw [HH.out]; exact (pw_below_drewN hmw.out q).trans (hb5.mono (by have := hmw.out.size; have := HH.out; show H ≤ wr.heap.size; omega))⟩
              · have hi : er.isSome = true := by
                  cases er with
                  | none => exact absurd (HEC.out.2 rfl) he0
                  | some _ => rfl
                have HM : Aside0 (mergesB l0 = true) := ⟨by rw [HMB.out, hi]; rfl⟩
                have g1 : (ec != 0) = true := bne_iff_ne.2 he0
                clear hi he0
                go_wp2_with (go_at_call 92; refine (HCM.out _ HR1n.out).mono ?_; rintro e w' ⟨rfl, ⟨⟨q, rfl⟩⟩⟩)
                refine bodyPost_ret (results_tmp rfl _ _ _) rfl ?_
                exact ⟨by rw [HM.out]; rfl, by rw [HH.out]; exact pw_below_drewN hmw.out q⟩
end Go.Proofs.YtkkpjonfaflkmaaGreatDoor.T
