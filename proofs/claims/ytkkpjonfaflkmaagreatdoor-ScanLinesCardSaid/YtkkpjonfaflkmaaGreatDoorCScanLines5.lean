/- Part 5 of the proof of ScanLines: the functions that it calls return what their plain descriptions say. -/
import Derived.Test.YtkkpjonfaflkmaaGreatDoorCScanLines3
import Derived.Test.YtkkpjonfaflkmaaGreatDoorCScanLines4
import Derived.Maps.AppendAt
import Derived.StillTail
import Derived.StillTactics
import Derived.Recover
import Derived.Defers
import Derived.Test.YtkkpjonfaflkmaaGreatDoorCScanLines2

/- scan.merges. -/
namespace Go.Proofs.YtkkpjonfaflkmaaGreatDoor.T
set_option linter.unusedSimpArgs false
set_option linter.unusedVariables false
open Go.RowKit Go.Maps Go.Proofs.YtkkpjonfaflkmaaGreatDoorW.PrintWords Go.Proofs.YtkkpjonfaflkmaaGreatDoorW.PrintLast Go.Proofs.YtkkpjonfaflkmaaGreatDoorW.PrintMore
attribute [local go_sem] Oper.semAt_some

theorem Bld.keep {B b : Nat} {xs : List Int} {w w' : World} (h : Bld B b xs w) (hb : Below w.heap.size w w') : Bld B b xs w' := by
  have hk : ∀ k (o : Obj), w.heap[k]? = some o → w'.heap[k]? = some o := fun k o e => (hb.block k (Array.getElem?_eq_some_iff.1 e).1).trans e
  have key : ∀ p, Lib.BuilderAtF 126 5 B b p (xs.map (Value.int .u8)) w → Lib.BuilderAtF 126 5 B b p (xs.map (Value.int .u8)) w' := by
    rintro p ⟨h1, v, h2, h3, h4⟩
    refine ⟨h1, v, hk _ _ h2, ⟨h3.1, ?_⟩, h4⟩
    rcases h3.2 with e | ⟨g, cap, cur, fz, e1, e2, e3, rest⟩
    · exact .inl e
    · exact .inr ⟨g, cap, cur, fz, e1, e2, hk _ _ e3, rest⟩
  exact h.elim (fun e => .inl (key _ e)) (fun e => .inr (key _ e))
/-- A token as it is written. -/
def spN (x : S53) : List Int := if x.f0 = 2 then S.quote (bytesOf x.f1) else bytesOf x.f1
theorem sp_f (x : S53) (h : x.f1.size ≤ 20000) : scan_spelled.f x.f0 x.f1 x.f2 x.f3 x.f4 x.f5 = some (strOfNums (spN x)) := by
  unfold scan_spelled.f spN
  by_cases e : x.f0 = 2
  · rw [if_pos e, if_pos e]
    unfold scan_literal.f
    rw [if_pos h]; rfl
  · rw [if_neg e, if_neg e]
    congr 1
    apply bytesOf_inj
    rw [bytesOf_str _ (bo_range _)]
theorem sp_bytes (x : S53) : ∀ y ∈ spN x, 0 ≤ y ∧ y < 256 := by
  unfold spN
  by_cases e : x.f0 = 2
  · rw [if_pos e]; exact S.quote_bytes (bo_range _)
  · rw [if_neg e]; exact bo_range _
theorem sp_len (x : S53) : (spN x).length ≤ 2 * x.f1.size + 2 := by
  unfold spN
  have hb : (bytesOf x.f1).length = x.f1.size := bytesOf_length _
  by_cases e : x.f0 = 2
  · rw [if_pos e, S.quote_length]
    have := List.count_le_length (a := S.qOf (bytesOf x.f1)) (l := bytesOf x.f1)
    omega
  · rw [if_neg e]; omega
/-- The text of tokens without anything between them. -/
def spL (l : List S53) : List Int := l.flatMap spN
theorem spL_take {l : List S53} {k : Nat} (h : k < l.length) : spL (l.take (k + 1)) = spL (l.take k) ++ spN (rd_T53 l (k : Int)) := by
  have : l.take (k + 1) = l.take k ++ [rd_T53 l (k : Int)] := by
    rw [List.take_add_one, List.getElem?_eq_getElem h]
    unfold rd_T53
    rw [Int.toNat_natCast, List.getD_eq_getElem?_getD, List.getElem?_eq_getElem h]
    rfl
  rw [this]
  simp [spL]
theorem spL_bytes (l : List S53) : ∀ y ∈ spL l, 0 ≤ y ∧ y < 256 := fun y hy => by
  obtain ⟨x, _, hx⟩ := List.mem_flatMap.1 hy
  exact sp_bytes x y hx
/-- A bound on what is written. -/
def szL (l : List S53) : Nat := (l.map fun x => 2 * x.f1.size + 2).sum
theorem szL_take (l : List S53) (k : Nat) : szL (l.take k) ≤ szL l := by
  unfold szL
  conv => { rhs; rw [← List.take_append_drop k l] }
  rw [List.map_append, List.sum_append]; omega
theorem spL_len : ∀ l : List S53, (spL l).length ≤ szL l
  | [] => Nat.le_refl _
  | x :: l => by
    have h1 := sp_len x
    have h2 := spL_len l
    simp only [spL, List.flatMap_cons, List.length_append, szL, List.map_cons, List.sum_cons] at h2 ⊢
    omega
theorem szL_mem {l : List S53} {x : S53} (h : x ∈ l) : 2 * x.f1.size + 2 ≤ szL l := by
  induction l with
  | nil => cases h
  | cons y l ih =>
    simp only [szL, List.map_cons, List.sum_cons] at ih ⊢
    rcases List.mem_cons.1 h with e | e
    · subst e; omega
    · have := ih e; omega
/-- The tokens that are no ends. -/
def noEnd (l : List S.Tk) : List S.Tk := l.filter fun t => !decide (t.kind = 4)
def commaB (l : List S53) : Bool := match l.getLast? with
  | none => false
  | some t => decide (t.f0 = 3) && (t.f1.toList == [44])
theorem comma_g (l : List S53) (hl : l.length ≤ 1000000) : scan_comma.f l = some (commaB l) := by
  unfold scan_comma.f commaB
  rcases List.eq_nil_or_concat l with rfl | ⟨a, t, rfl⟩
  · rfl
  · rw [List.concat_eq_append] at hl ⊢
    have hw : wrap64 (((a ++ [t]).length : Int) - 1) = (a.length : Int) := by
      simp only [List.length_append, List.length_cons, List.length_nil] at hl ⊢
      unfold wrap64; omega
    rw [hw, if_pos (by rw [List.length_append, List.length_singleton]; omega), if_pos (by omega), if_pos (by rw [List.length_append, List.length_singleton]; omega), List.getLast?_concat]
    have hr : rd_T53 (a ++ [t]) (a.length : Int) = t := by
      unfold rd_T53
      rw [Int.toNat_natCast, List.getD_eq_getElem?_getD, List.getElem?_append_right (Nat.le_refl _)]
      simp
    rw [hr]
    by_cases e : t.f0 = 3
    · rw [if_pos e]; simp [e]
    · rw [if_neg e]; simp [e]
theorem C_take {w : World} {A : Option Addr} {l : List S53} (k : Nat) (hk : k ≤ l.length) (h : Kd.C k53 w A l.length l) : Kd.C k53 w A k (l.take k) := by
  obtain ⟨h1, h2, h3⟩ := h
  refine ⟨by rw [List.length_take]; omega, by omega, fun hne => ?_⟩
  obtain ⟨ad, e, hj⟩ := h3 (by omega)
  exact ⟨ad, e, fun j p hp => hj j p (by rw [List.getElem?_take] at hp; split at hp; exact hp; cases hp)⟩
/-- Tokens that would be read otherwise. -/
def mergesB (l : List S53) : Bool :=
  (S.scan (spL l)).err.isSome || !(eqF likeB ((noEnd (S.tokens (spL l))).map toS) (if commaB l = true ∧ (noEnd (S.tokens (spL l))).length + 1 = l.length then l.take (l.length - 1) else l))
set_option maxRecDepth 100000 in
set_option maxHeartbeats 4000000 in
theorem scan_merges.calls (A0 : Option Addr) (c0 : Nat) (l0 : List S53) (w : World) (hT : TabOK w) (hr0 : Kd.C k53 w A0 l0.length l0) (hc0 : l0.length ≤ c0) (hsm : l0.length ≤ 1000) (hsz : szL l0 ≤ 20000) :
    Calls Tryz.prog 111 #[.slice A0 l0.length c0] w fun e w' => e = .returned (.bool (mergesB l0)) ∧ Below w.heap.size w w' := by
  have hu53 := Tryz.underlying53
  have HT := Aside0.mk hT
  have HR0 := Aside0.mk hr0
  have HCM := Lib.hid (fun W hW => scan_comma.calls A0 c0 l0 _ W hW hc0 (comma_g l0 (by omega)))
  clear hT hr0
  obtain ⟨n, hn⟩ : ∃ n, l0.length = n := ⟨_, rfl⟩
  have HL0 := Aside0.mk hn
  have hslt := Aside0.mk hsz
  rw [hn] at HR0 HCM hc0 hsm ⊢
  clear hn hsz
  go_enter Tryz.func111, Tryz.ntmps111
  go_upto_region 2 with (fail)
  obtain ⟨W0, hW0⟩ : ∃ W0, w.alloc (.cells #[.pointer none, .slice none 0 0] 126) = W0 := ⟨_, rfl⟩
  have hB0 : Aside0 (Bld w.heap.size w.heap.size [] W0) := ⟨by rw [← hW0]; exact Bld.new w⟩
  have hb0 : Aside0 (Below w.heap.size w W0) := ⟨by rw [← hW0]; exact below_alloc (Below.refl _ _) _⟩
  rw [hW0]
  clear hW0
  generalize hH : w.heap.size = H at *
  have HH := Aside0.mk hH
  clear hH
  go_wp2
  go_loopg [13] n (fun gg s13 wr => ∃ kk : Nat, kk ≤ n ∧ n - kk ≤ gg ∧ s13 = .int .i64 kk ∧ Aside0 (Below H w wr) ∧ Aside0 (Bld H H (spL (l0.take kk)) wr))
  case atStart => exact ⟨0, by omega, by omega, rfl, hb0, by rw [List.take_zero]; exact hB0⟩
  case round =>
    obtain ⟨kk, hkk, hg, rfl, HB, HBD⟩ := hrel
    by_cases hlt : kk < n
    · have hltz : (kk : Int) < (n : Int) := by omega
      have hz0 : (0 : Int) ≤ (kk : Int) := by omega
      have hw1 : IntKind.i64.wrap ((kk : Int) + 1) = ((kk + 1 : Nat) : Int) := by rw [w64 _ (by omega) (by omega)]; omega
      have HTK := Aside0.mk (spL_take (l := l0) (k := kk) (by rw [HL0.out]; exact hlt))
      have hl1 := Nat.le_trans (spL_len (l0.take kk)) (szL_take l0 kk)
      have hmem : rd_T53 l0 (kk : Int) ∈ l0 := by
        have := drop_rd (l := l0) (k := kk) (by rw [HL0.out]; exact hlt)
        exact List.mem_of_mem_drop (by rw [this]; exact List.mem_cons_self)
      have hxs := szL_mem hmem
      obtain ⟨ad, rfl, x0, x1, x2, x3, x4, x5⟩ := at_T53 (Kd.C_below HR0.out (by rw [HH.out]; exact HB.out)) (kk : Int) hz0 hltz
      simp only [Int.toNat_natCast] at x0 x1 x2 x3 x4 x5
      have hsl := hslt.out
      generalize rd_T53 l0 (kk : Int) = tx at *
      have HSP := Lib.hid (fun W hW => scan_spelled.calls tx.f0 tx.f1 tx.f2 tx.f3 tx.f4 tx.f5 _ W hW (sp_f tx (by omega)))
      have hspl := sp_len tx
      have HSB := Aside0.mk (bytesOf_str _ (sp_bytes tx))
      have hst : (strOfNums (spN tx)).size = (spN tx).length := by simp [strOfNums, ByteArray.size]
      clear hmem
      go_upto_region 5 with (fail)
      have hn1 := heap_alloc_new wr (.cells #[.int .i64 tx.f0, .string tx.f1, .bool tx.f2, .int .i64 tx.f3, .int .i64 tx.f4, .int .i64 tx.f5] 53)
      have hB1 : Below H w (wr.alloc (.cells #[.int .i64 tx.f0, .string tx.f1, .bool tx.f2, .int .i64 tx.f3, .int .i64 tx.f4, .int .i64 tx.f5] 53)) := HB.out.trans ((below_alloc (Below.refl wr.heap.size wr) (.cells #[.int .i64 tx.f0, .string tx.f1, .bool tx.f2, .int .i64 tx.f3, .int .i64 tx.f4, .int .i64 tx.f5] 53)).mono (by have := HB.out.size; have := HH.out; omega))
      have HBD1 := Aside0.mk (HBD.out.keep (below_alloc (Below.refl _ wr) (.cells #[.int .i64 tx.f0, .string tx.f1, .bool tx.f2, .int .i64 tx.f3, .int .i64 tx.f4, .int .i64 tx.f5] 53)))
      obtain ⟨h1, hh1⟩ : ∃ h1, wr.heap.size = h1 := ⟨_, rfl⟩
      rw [hh1] at hn1 ⊢
      clear x0 x1 x2 x3 x4 x5 hh1 HB HBD
      generalize wr.alloc (.cells #[.int .i64 tx.f0, .string tx.f1, .bool tx.f2, .int .i64 tx.f3, .int .i64 tx.f4, .int .i64 tx.f5] 53) = W1 at *
      have HB1 := Aside0.mk hB1
      have a0 : W1.cell? ⟨h1, 0, none⟩ = some (.int .i64 tx.f0) := (blk_cell hn1 0).trans rfl
      have a1 : W1.cell? ⟨h1, 1, none⟩ = some (.string tx.f1) := (blk_cell hn1 1).trans rfl
      have a2 : W1.cell? ⟨h1, 2, none⟩ = some (.bool tx.f2) := (blk_cell hn1 2).trans rfl
      have a3 : W1.cell? ⟨h1, 3, none⟩ = some (.int .i64 tx.f3) := (blk_cell hn1 3).trans rfl
      have a4 : W1.cell? ⟨h1, 4, none⟩ = some (.int .i64 tx.f4) := (blk_cell hn1 4).trans rfl
      have a5 : W1.cell? ⟨h1, 5, none⟩ = some (.int .i64 tx.f5) := (blk_cell hn1 5).trans rfl
      have HTW : Aside0 (TabOK W1) := ⟨HT.out.of_below (by rw [HH.out]; exact hB1)⟩
      have HWS : Aside0 (∀ w2, Below W1.heap.size W1 w2 → Calls Tryz.prog 112 #[.pointer (some ⟨H, 0, none⟩), .string (strOfNums (spN tx))] w2 fun e w' => ∃ nn : Nat, e = .returned (.tuple #[.int .i64 nn, .nilIface]) ∧ Bld H H (spL (l0.take (kk + 1))) w' ∧ Below H w w') := ⟨fun w2 hb => by
        have hs2 := hb.size
        have hs1 := hB1.size
        have hHe := HH.out
        refine (bld_WriteString H H _ (strOfNums (spN tx)) w2 (HBD1.out.keep hb) (by rw [hst]; omega) (by omega)).mono ?_
        rintro e w' ⟨rfl, hb1, hb2⟩
        rw [HSB.out] at hb1
        exact ⟨_, rfl, by rw [HTK.out]; exact hb1, hB1.trans ((hb.mono (by omega)).trans hb2)⟩⟩
      clear hn1 hB1 hst hsl hxs hspl hl1
      go_wp2_with (first | (go_at_call 113; refine (HSP.out _ HTW.out).mono ?_; rintro e w2 ⟨rfl, hb2⟩) | (go_at_call 112; refine (HWS.out _ hb2).mono ?_; rintro e w3 ⟨nn, rfl, hbd3, hb3⟩))
      go_roundg (n - (kk + 1))
      case measure => omega
      case rel => exact ⟨kk + 1, by omega, by omega, by go_num, ⟨hb3⟩, ⟨hbd3⟩⟩
    · have hltz : ¬ (kk : Int) < (n : Int) := by omega
      have hkn : n = kk := by omega
      subst hkn
      have HBD2 : Aside0 (Bld H H (spL l0) wr) := ⟨by have := HBD.out; rwa [List.take_of_length_le (by rw [HL0.out]; exact Nat.le_refl _)] at this⟩
      clear HBD
      obtain ⟨src, hsrc⟩ : ∃ src, strOfNums (spL l0) = src := ⟨_, rfl⟩
      have hsb : bytesOf src = spL l0 := by rw [← hsrc]; exact bytesOf_str _ (spL_bytes l0)
      have hssz : src.size ≤ 20000 := by
        have h1 : (bytesOf src).length = src.size := bytesOf_length src
        have h2 := spL_len l0
        have h3 := hslt.out
        rw [hsb] at h1; omega
      have hstr := bld_String H H (spL l0) wr HBD2.out (spL_bytes l0) (by have := HB.out.size; have := HH.out; omega)
      rw [hsrc] at hstr
      have htkc := fun W hW => scan_tokens_m.calls src W (by omega) hW
      obtain ⟨toks, htoks⟩ : ∃ toks, S.tokens (bytesOf src) = toks := ⟨_, rfl⟩
      obtain ⟨er, her⟩ : ∃ er, (S.scan (bytesOf src)).err = er := ⟨_, rfl⟩
      rw [htoks, her, errV_eq] at htkc
      obtain ⟨ec, hec⟩ : ∃ ec, errC er = ec := ⟨_, rfl⟩
      obtain ⟨el, hel⟩ : ∃ el, errL er = el := ⟨_, rfl⟩
      rw [hec, hel] at htkc
      have HST := Lib.hid hstr
      have HTK := Lib.hid htkc
      have hMB : mergesB l0 = (er.isSome || !(eqF likeB ((noEnd toks).map toS) (if commaB l0 = true ∧ (noEnd toks).length + 1 = l0.length then l0.take (l0.length - 1) else l0))) := by
        unfold mergesB
        rw [← hsb, htoks, her]
      have hEC : ec = 0 ↔ er = none := by
        rw [← hec]
        cases er with
        | none => exact ⟨fun _ => rfl, fun _ => rfl⟩
        | some p =>
          have := S.scan_err (c := p.1) (ln := p.2) her
          constructor
          · intro e
            exact absurd (Int.ofNat_eq_zero.1 e) this
          · intro e; cases e
      have HTLEN : Aside0 (toks.length ≤ 300000) := ⟨by rw [← htoks]; have h1 := S.tokens_length (bo_range src); have h2 : (bytesOf src).length = src.size := bytesOf_length src; omega⟩
      have HMB := Aside0.mk hMB
      have HEC := Aside0.mk hEC
      have HTW : Aside0 (∀ w2, Below H wr w2 → TabOK w2) := ⟨fun w2 hb => HT.out.of_below (by rw [HH.out]; exact HB.out.trans hb)⟩
      clear hMB hEC hsb hssz hec hel htoks her hsrc HBD2 htkc hstr
      go_upto_region 9 with (first | (go_at_call 107; refine HST.out.mono ?_; rintro e w2 ⟨rfl, _, hb2⟩) | (go_at_call 51; refine (HTK.out _ (HTW.out _ hb2)).mono ?_; rintro e w3 ⟨v, rfl, hown, hb3⟩))
      obtain ⟨A, N, cap, rfl, hN⟩ : ∃ A cn cap, v = .slice A cn cap ∧ toks.length = cn := by
        rcases hown.2 with ⟨rfl, e2⟩ | ⟨g, cap, cs, rfl, _⟩
        · exact ⟨_, _, _, rfl, e2⟩
        · exact ⟨_, _, _, rfl, rfl⟩
      have hn4 := heap_alloc_new w3 (.cells #[.int .i64 ec, .int .i64 el] 76)
      have hs4 := World.size_alloc w3 (.cells #[.int .i64 ec, .int .i64 el] 76)
      have ho4 := own_but hown ((But.refl (fun _ => False) w3).alloc (.cells #[.int .i64 ec, .int .i64 el] 76)) (fun _ e => e.elim)
      have hb4 : Below H w (w3.alloc (.cells #[.int .i64 ec, .int .i64 el] 76)) := by
        have e1 := HB.out.size
        have e2 := hb2.size
        have e3 := hb3.size
        have e4 := HH.out
        exact HB.out.trans (hb2.trans ((hb3.mono (by omega)).trans ((below_alloc (Below.refl w3.heap.size w3) _).mono (by omega))))
      obtain ⟨fb, hfb⟩ : ∃ fb, w3.heap.size = fb := ⟨_, rfl⟩
      rw [hfb] at hn4 hs4 ⊢
      clear hown hb2 hb3 hfb
      generalize w3.alloc (.cells #[.int .i64 ec, .int .i64 el] 76) = W4 at *
      obtain ⟨hxx, hNc, hC4⟩ := tks_C ho4
      clear hxx
      rw [List.length_map, hN] at hC4
      have HC4 := Aside0.mk hC4
      have HB4 := Aside0.mk hb4
      have HN4 := Aside0.mk hn4
      have HNN := Aside0.mk hN
      have hNs : N ≤ 300000 := by have := HTLEN.out; omega
      clear ho4 hC4 hb4 hn4 hN HST HTK HTW HB
      have HS4 := Aside0.mk hs4
      clear hs4
      go_wp2
      go_loopg [8, 28] N (fun gg s8 s28 wr => ∃ kk : Nat, kk ≤ N ∧ N - kk ≤ gg ∧ s28 = .int .i64 kk ∧ Aside0 (Below (fb + 1) W4 wr) ∧ Aside0 (wr.ownsRow (fb + 1) 53 6 s8 (noEnd (toks.take kk)).length (tksL (noEnd (toks.take kk)))))
      case atStart => exact ⟨0, by omega, by omega, rfl, ⟨Below.refl _ _⟩, ⟨World.ownsRow_nil _ _ _ _⟩⟩
      case round =>
        obtain ⟨kk, hkk, hg, rfl, HBr, HOw⟩ := hrel
        by_cases hlt : kk < N
        · have hltz : (kk : Int) < (N : Int) := by omega
          have hz0 : (0 : Int) ≤ (kk : Int) := by omega
          have hw1 : IntKind.i64.wrap ((kk : Int) + 1) = ((kk + 1 : Nat) : Int) := by rw [w64 _ (by omega) (by omega)]; omega
          obtain ⟨tk, htk⟩ : ∃ tk, toks[kk]? = some tk := ⟨_, List.getElem?_eq_getElem (by rw [HNN.out]; exact hlt)⟩
          have hrd : rd_T53 (toks.map toS) (kk : Int) = toS tk := by
            unfold rd_T53
            rw [Int.toNat_natCast, List.getD_eq_getElem?_getD, List.getElem?_map, htk]; rfl
          have hnk : noEnd (toks.take (kk + 1)) = noEnd (toks.take kk) ++ (if tk.kind = 4 then [] else [tk]) := by
            rw [List.take_add_one, htk]
            unfold noEnd
            rw [List.filter_append]
            by_cases e : tk.kind = 4
            · rw [if_pos e]; simp [e]
            · rw [if_neg e]; simp [e]
          have HNK := Aside0.mk hnk
          obtain ⟨ad, rfl, x0, x1, x2, x3, x4, x5⟩ := at_T53 (Kd.C_below HC4.out (by rw [HS4.out]; exact HBr.out)) (kk : Int) hz0 hltz
          simp only [Int.toNat_natCast] at x0 x1 x2 x3 x4 x5
          rw [hrd] at x0 x1 x2 x3 x4 x5
          simp only [toS] at x0 x1 x2 x3 x4 x5
          clear hrd htk hnk
          go_upto_region 12 with (fail)
          have hn1 := heap_alloc_new wr (.cells #[.int .i64 tk.kind, .string (strOfNums tk.text), .bool tk.gap, .int .i64 tk.line, .int .i64 tk.at_, .int .i64 tk.to] 53)
          have hB1 : Below (fb + 1) W4 (wr.alloc (.cells #[.int .i64 tk.kind, .string (strOfNums tk.text), .bool tk.gap, .int .i64 tk.line, .int .i64 tk.at_, .int .i64 tk.to] 53)) := HBr.out.trans ((below_alloc (Below.refl wr.heap.size wr) (.cells #[.int .i64 tk.kind, .string (strOfNums tk.text), .bool tk.gap, .int .i64 tk.line, .int .i64 tk.at_, .int .i64 tk.to] 53)).mono (by have := HBr.out.size; have := HS4.out; omega))
          have hO1 := own_but HOw.out ((But.refl (fun _ => False) wr).alloc (.cells #[.int .i64 tk.kind, .string (strOfNums tk.text), .bool tk.gap, .int .i64 tk.line, .int .i64 tk.at_, .int .i64 tk.to] 53)) (fun _ e => e.elim)
          obtain ⟨h1, hh1⟩ : ∃ h1, wr.heap.size = h1 := ⟨_, rfl⟩
          rw [hh1] at hn1 ⊢
          clear x0 x1 x2 x3 x4 x5 hh1 HBr HOw
          generalize wr.alloc (.cells #[.int .i64 tk.kind, .string (strOfNums tk.text), .bool tk.gap, .int .i64 tk.line, .int .i64 tk.at_, .int .i64 tk.to] 53) = W1 at *
          have HB1 := Aside0.mk hB1
          have HO1 := Aside0.mk hO1
          have a0 : W1.cell? ⟨h1, 0, none⟩ = some (.int .i64 tk.kind) := (blk_cell hn1 0).trans rfl
          have a1 : W1.cell? ⟨h1, 1, none⟩ = some (.string (strOfNums tk.text)) := (blk_cell hn1 1).trans rfl
          have a2 : W1.cell? ⟨h1, 2, none⟩ = some (.bool tk.gap) := (blk_cell hn1 2).trans rfl
          have a3 : W1.cell? ⟨h1, 3, none⟩ = some (.int .i64 tk.line) := (blk_cell hn1 3).trans rfl
          have a4 : W1.cell? ⟨h1, 4, none⟩ = some (.int .i64 tk.at_) := (blk_cell hn1 4).trans rfl
          have a5 : W1.cell? ⟨h1, 5, none⟩ = some (.int .i64 tk.to) := (blk_cell hn1 5).trans rfl
          clear hn1 hB1 hO1
          by_cases hk4 : tk.kind = 4
          · have g1 : ((tk.kind : Int) != 4) = false := bne_eq_false_iff_eq.2 (by omega)
            have HNK2 : Aside0 (noEnd (toks.take (kk + 1)) = noEnd (toks.take kk)) := ⟨by rw [HNK.out, if_pos hk4, List.append_nil]⟩
            go_wp2_with fail
            go_roundg (N - (kk + 1))
            case measure => omega
            case rel => exact ⟨kk + 1, by omega, by omega, by go_num, HB1, by rw [HNK2.out]; exact HO1⟩
          · have g1 : ((tk.kind : Int) != 4) = true := bne_iff_ne.2 (by omega)
            have HNK2 : Aside0 (noEnd (toks.take (kk + 1)) = noEnd (toks.take kk) ++ [tk]) := ⟨by rw [HNK.out, if_neg hk4]⟩
            have hol : (noEnd (toks.take kk)).length ≤ kk := Nat.le_trans (List.length_filter_le _ _) (by rw [List.length_take]; omega)
            obtain ⟨own, hown⟩ : ∃ own, noEnd (toks.take kk) = own := ⟨_, rfl⟩
            rw [hown] at HO1 HNK2 hol
            clear hown HNK
            obtain ⟨on, hon⟩ : ∃ on, own.length = on := ⟨_, rfl⟩
            rw [hon] at HO1 hol
            have HON := Aside0.mk hon
            clear hon
            obtain ⟨i0, hi0, hz0', hz1, hz2⟩ := info_parts (show (Tryz.prog.info? 53).map (fun i => (i.zero, i.size, i.bytes)) = some (some (.agg zTk), 6, 56) by kernel_rfl)
            have hXO := own_but HO1.out ((But.refl (fun _ => False) W1).alloc (.cells #[.int .i64 tk.kind, .string (strOfNums tk.text), .bool tk.gap, .int .i64 tk.line, .int .i64 tk.at_, .int .i64 tk.to] 53)) (fun _ e => e.elim)
            have hXN := heap_alloc_new W1 (.cells #[.int .i64 tk.kind, .string (strOfNums tk.text), .bool tk.gap, .int .i64 tk.line, .int .i64 tk.at_, .int .i64 tk.to] 53)
            have hXs := World.size_alloc W1 (.cells #[.int .i64 tk.kind, .string (strOfNums tk.text), .bool tk.gap, .int .i64 tk.line, .int .i64 tk.at_, .int .i64 tk.to] 53)
            have HXO := Aside0.mk hXO
            have HXN := Aside0.mk hXN
            have hfs : fb + 1 ≤ W1.heap.size := by have := HB1.out.size; have := HS4.out; omega
            clear hXO hXN
            go_wp2_with (at_builtin; refine wpList_append_own_at _ rfl (.tmp 35) (.tmp 37) 24 rfl (fb + 1) 53 i0 (.agg zTk) 6 56 Tryz.underlying24 hi0 hz0' hz1 hz2 rfl (by decide) _ on (tksL own) rfl HXO.out ⟨W1.heap.size, 0, none⟩ 1 1 (tkL tk) rfl rfl (fun j u hu => by rw [add_plain, blk_cell HXN.out j]; simpa [tkL] using hu) (tkL_one _) (by unfold maxLen; omega) (by omega) (by rw [hXs]; omega) ?_; intro v' w1 hown' hgrow _ hat; have HOW1 := Aside0.mk hown'; have HGR := Aside0.mk hgrow; have HAT := Aside0.mk hat; clear hown' hgrow hat)
            have hbw : Below (fb + 1) W4 w1 := HB1.out.trans ((((But.refl (fun k => fb + 1 ≤ k) W1).alloc (.cells #[.int .i64 tk.kind, .string (strOfNums tk.text), .bool tk.gap, .int .i64 tk.line, .int .i64 tk.at_, .int .i64 tk.to] 53)).grown HGR.out (fun k e => (HO1.out.lt k e).1)).belowB hfs (fun k hk e => by omega))
            have HBW := Aside0.mk hbw
            clear hbw HGR HAT HXO HXN hXs
            go_roundg (N - (kk + 1))
            case measure => omega
            case rel => exact ⟨kk + 1, by omega, by omega, by go_num, HBW, ⟨by rw [HNK2.out, List.length_append, List.length_singleton, HON.out]; have := HOW1.out; simpa [tksL] using this⟩⟩
        · have hltz : ¬ (kk : Int) < (N : Int) := by omega
          have hkn : N = kk := by omega
          subst hkn
          rw [← HNN.out, List.take_length] at HOw
          obtain ⟨own, hown⟩ : ∃ own, noEnd toks = own := ⟨_, rfl⟩
          rw [hown] at HOw HMB
          have hol : own.length ≤ N := by rw [← HNN.out]; rw [← hown]; exact List.length_filter_le _ _
          clear hown
          obtain ⟨A2, c2, rfl⟩ : ∃ A2 c2, u8 = .slice A2 own.length c2 := by
            rcases HOw.out.2 with ⟨e1, e2⟩ | ⟨g, cap, cs, e1, _⟩
            · exact ⟨none, 0, by rw [e1, e2]⟩
            · exact ⟨_, _, e1⟩
          obtain ⟨hxx, hc2, hC2⟩ := tks_C HOw.out
          clear hxx
          have HC2 := Aside0.mk hC2
          have hmw : Aside0 (Below H w wr) := ⟨HB4.out.trans (HBr.out.mono (by have := HB4.out.size; have := HS4.out; have := HH.out; omega))⟩
          have hf0 : wr.cell? ⟨fb, 0, none⟩ = some (.int .i64 ec) := (blk_cell ((HBr.out.block fb (by omega)).trans HN4.out) 0).trans rfl
          have HR1 : Aside0 (Kd.C k53 wr A0 l0.length l0) := ⟨Kd.C_below (by rw [HL0.out]; exact HR0.out) (by rw [HH.out]; exact hmw.out)⟩
          have hR1 := HR1.out
          rw [HL0.out] at hR1
          have HR1n := Aside0.mk hR1
          clear hR1
          clear HBr HB4 HOw HN4 HR0
          obtain ⟨on, hon⟩ : ∃ on, own.length = on := ⟨_, rfl⟩
          obtain ⟨cb, hcb⟩ : ∃ cb, commaB l0 = cb := ⟨_, rfl⟩
          rw [hcb] at HCM HMB
          have HON := Aside0.mk hon
          have hn1 : cb = true → 1 ≤ n := fun e => by
            rcases Nat.eq_zero_or_pos n with h | h
            · exfalso
              rw [List.length_eq_zero_iff.1 (HL0.out.trans h)] at hcb
              rw [← hcb] at e
              cases e
            · exact h
          rw [HL0.out, hon] at HMB
          rw [hon] at hol hc2 ⊢
          rw [List.length_map, hon] at HC2
          have hsmo : ((own.map toS)).length ≤ 1000000 := by rw [List.length_map, hon]; omega
          clear hon hcb
          have HEQ : ∀ (W : World) (n2 c2' : Nat) (m : List S53), Below wr.heap.size wr W → m.length = n2 → n2 ≤ c2' → Kd.C k53 wr A0 n2 m → Calls Tryz.prog 74 #[.slice A2 on c2, .slice A0 n2 c2', .func (.func 76) #[] #[]] W fun e w' => e = .returned (.bool (eqF likeB (own.map toS) m)) ∧ Below W.heap.size W w' := fun W n2 c2' m hb hm hc hC => by
            have h1 := eqf.calls A2 c2 (own.map toS) A0 c2' m 76 likeB W like_enters like_tells (by rw [List.length_map, HON.out]; exact Kd.C_below HC2.out hb) (by rw [List.length_map, HON.out]; exact hc2) (by rw [hm]; exact Kd.C_below hC hb) (by rw [hm]; exact hc) hsmo
            rw [List.length_map, HON.out, hm] at h1
            exact h1
          have HEQ := Lib.hid HEQ
          clear hsmo
          by_cases hcut : cb = true ∧ on + 1 = n
          · rw [if_pos hcut] at HMB
            obtain ⟨rfl, rfl⟩ := hcut
            rw [show on + 1 - 1 = on by omega] at HMB
            have hC3 := C_take on (by rw [HL0.out]; omega) (l := l0) (w := wr) (A := A0) (by rw [HL0.out]; exact HR1n.out)
            have hln : (l0.take on).length = on := by rw [List.length_take, HL0.out]; omega
            have HEQ2 := Lib.hid (fun W hb => HEQ.out W on on (l0.take on) hb hln (Nat.le_refl _) hC3)
            have hw2 : IntKind.i64.wrap (((on + 1 : Nat) : Int) - 1) = (on : Int) := by rw [w64 _ (by omega) (by omega)]; omega
            have hw3 : (((on + 1 : Nat) : Int) - 1) = (on : Int) := by omega
            have g2 : ((on : Int) == (on : Int)) = true := beq_self_eq_true _
            have g3 : (on == on) = true := beq_self_eq_true _
            have hon1 : on ≤ on + 1 := by omega
            have hon2 : on ≤ c0 := by omega
            clear hn1 hC3 hln HEQ
            by_cases he0 : ec = 0
            · have hm : mergesB l0 = !(eqF likeB (own.map toS) (l0.take on)) := by rw [HMB.out, (HEC.out.1 he0)]; rfl
              have HM := Aside0.mk hm
              have g1 : (ec != 0) = false := bne_eq_false_iff_eq.2 he0
              clear hm he0
              go_wp2_with (first | (go_at_call 92; refine (HCM.out _ HR1n.out).mono ?_; rintro e w' ⟨rfl, ⟨⟨q, rfl⟩⟩⟩) | (go_at_call 74; refine (HEQ2.out _ (pw_below_drewN (Below.refl _ _) _)).mono ?_; rintro e w5 ⟨rfl, hb5⟩))
              refine bodyPost_ret (results_tmp rfl _ _ _) rfl ?_
              exact ⟨by rw [HM.out]; rfl, by rw [HH.out]; exact (pw_below_drewN hmw.out q).trans (hb5.mono (by have := hmw.out.size; have := HH.out; show H ≤ wr.heap.size; omega))⟩
            · have hi : er.isSome = true := by
                cases er with
                | none => exact absurd (HEC.out.2 rfl) he0
                | some _ => rfl
              have HM : Aside0 (mergesB l0 = true) := ⟨by rw [HMB.out, hi]; rfl⟩
              have g1 : (ec != 0) = true := bne_iff_ne.2 he0
              clear hi he0
              go_wp2_with (go_at_call 92; refine (HCM.out _ HR1n.out).mono ?_; rintro e w' ⟨rfl, ⟨⟨q, rfl⟩⟩⟩)
              refine bodyPost_ret (results_tmp rfl _ _ _) rfl ?_
              exact ⟨by rw [HM.out]; rfl, by rw [HH.out]; exact pw_below_drewN hmw.out q⟩
          · rw [if_neg hcut] at HMB
            have HEQ2 := Lib.hid (fun W hb => HEQ.out W n c0 l0 hb HL0.out hc0 HR1n.out)
            clear HEQ
            cases cb with
            | false =>
              clear hcut hn1
              by_cases he0 : ec = 0
              · have hm : mergesB l0 = !(eqF likeB (own.map toS) l0) := by rw [HMB.out, (HEC.out.1 he0)]; rfl
                have HM := Aside0.mk hm
                have g1 : (ec != 0) = false := bne_eq_false_iff_eq.2 he0
                clear hm he0
                go_wp2_with (first | (go_at_call 92; refine (HCM.out _ HR1n.out).mono ?_; rintro e w' ⟨rfl, ⟨⟨q, rfl⟩⟩⟩) | (go_at_call 74; refine (HEQ2.out _ (pw_below_drewN (Below.refl _ _) _)).mono ?_; rintro e w5 ⟨rfl, hb5⟩))
                refine bodyPost_ret (results_tmp rfl _ _ _) rfl ?_
                exact ⟨by rw [HM.out]; rfl, by rw [HH.out]; exact (pw_below_drewN hmw.out q).trans (hb5.mono (by have := hmw.out.size; have := HH.out; show H ≤ wr.heap.size; omega))⟩
              · have hi : er.isSome = true := by
                  cases er with
                  | none => exact absurd (HEC.out.2 rfl) he0
                  | some _ => rfl
                have HM : Aside0 (mergesB l0 = true) := ⟨by rw [HMB.out, hi]; rfl⟩
                have g1 : (ec != 0) = true := bne_iff_ne.2 he0
                clear hi he0
                go_wp2_with (go_at_call 92; refine (HCM.out _ HR1n.out).mono ?_; rintro e w' ⟨rfl, ⟨⟨q, rfl⟩⟩⟩)
                refine bodyPost_ret (results_tmp rfl _ _ _) rfl ?_
                exact ⟨by rw [HM.out]; rfl, by rw [HH.out]; exact pw_below_drewN hmw.out q⟩
            | true =>
              have hn2 := hn1 rfl
              have hne : on + 1 ≠ n := fun e => hcut ⟨rfl, e⟩
              have hw2 : IntKind.i64.wrap ((n : Int) - 1) = ((n - 1 : Nat) : Int) := by rw [w64 _ (by omega) (by omega)]; omega
              have hw3 : ((n : Int) - 1) = ((n - 1 : Nat) : Int) := by omega
              have g2 : ((on : Int) == ((n - 1 : Nat) : Int)) = false := beq_eq_false_iff_ne.2 (by omega)
              have g3 : (on == n - 1) = false := beq_eq_false_iff_ne.2 (by omega)
              clear hcut hn1 hne hn2
              by_cases he0 : ec = 0
              · have hm : mergesB l0 = !(eqF likeB (own.map toS) l0) := by rw [HMB.out, (HEC.out.1 he0)]; rfl
                have HM := Aside0.mk hm
                have g1 : (ec != 0) = false := bne_eq_false_iff_eq.2 he0
                clear hm he0
                go_wp2_with (first | (go_at_call 92; refine (HCM.out _ HR1n.out).mono ?_; rintro e w' ⟨rfl, ⟨⟨q, rfl⟩⟩⟩) | (go_at_call 74; refine (HEQ2.out _ (pw_below_drewN (Below.refl _ _) _)).mono ?_; rintro e w5 ⟨rfl, hb5⟩))
                refine bodyPost_ret (results_tmp rfl _ _ _) rfl ?_
                exact ⟨by rw [HM.out]; rfl, by rw [HH.out]; exact (pw_below_drewN hmw.out q).trans (hb5.mono (by have := hmw.out.size; have := HH.out; show H ≤ wr.heap.size; omega))⟩
              · have hi : er.isSome = true := by
                  cases er with
                  | none => exact absurd (HEC.out.2 rfl) he0
                  | some _ => rfl
                have HM : Aside0 (mergesB l0 = true) := ⟨by rw [HMB.out, hi]; rfl⟩
                have g1 : (ec != 0) = true := bne_iff_ne.2 he0
                clear hi he0
                go_wp2_with (go_at_call 92; refine (HCM.out _ HR1n.out).mono ?_; rintro e w' ⟨rfl, ⟨⟨q, rfl⟩⟩⟩)
                refine bodyPost_ret (results_tmp rfl _ _ _) rfl ?_
                exact ⟨by rw [HM.out]; rfl, by rw [HH.out]; exact pw_below_drewN hmw.out q⟩
end Go.Proofs.YtkkpjonfaflkmaaGreatDoor.T

/- scan.written. -/
namespace Go.Proofs.YtkkpjonfaflkmaaGreatDoor.T
set_option linter.unusedSimpArgs false
set_option linter.unusedVariables false
open Go.RowKit Go.Maps Go.Proofs.YtkkpjonfaflkmaaGreatDoorW.PrintWords Go.Proofs.YtkkpjonfaflkmaaGreatDoorW.PrintLast Go.Proofs.YtkkpjonfaflkmaaGreatDoorW.PrintMore
attribute [local go_sem] Oper.semAt_some

def tkC (x : S53) : List Value := [.int .i64 x.f0, .string x.f1, .bool x.f2, .int .i64 x.f3, .int .i64 x.f4, .int .i64 x.f5]
def tksC (l : List S53) : List Value := (l.map tkC).flatten
theorem tksC_at : ∀ (l : List S53) (j : Nat) (t : S53), l[j]? = some t → ((tksC l).drop (j * 6)).take 6 = tkC t
  | [], j, t, h => by simp at h
  | x :: l, 0, t, h => by
    simp only [List.getElem?_cons_zero, Option.some.injEq] at h
    subst h
    simp [tksC, tkC]
  | x :: l, j + 1, t, h => by
    simp only [List.getElem?_cons_succ] at h
    have := tksC_at l j t h
    have e : (tksC (x :: l)).drop ((j + 1) * 6) = (tksC l).drop (j * 6) := by
      simp only [tksC, List.map_cons, List.flatten_cons]
      rw [List.drop_append, List.drop_eq_nil_of_le (by simp [tkC]; omega), List.nil_append]
      congr 1
      simp [tkC]; omega
    rw [e]; exact this
/-- A row of tokens in a block. -/
theorem row_C {W : World} {g : Nat} {cs : Array Value} {l : List S53} (hg : W.heap[g]? = some (.cells cs 53 (0, 0))) (ht : cs.toList = tksC l) (hl : l.length ≤ 300000) : Kd.C k53 W (some ⟨g, 0, none⟩) l.length l := by
  refine ⟨rfl, by omega, fun _ => ⟨_, rfl, fun j p hj => ?_⟩⟩
  refine ⟨tkC p, rfl, k53_mk W p, fun i u hu => ?_⟩
  have hi : i < 6 := (List.getElem?_eq_some_iff.1 hu).1
  have e1 : (tksC l)[j * 6 + i]? = some u := by
    rw [← tksC_at l j p hj, List.getElem?_take_of_lt hi, List.getElem?_drop] at hu
    exact hu
  rw [← ht] at e1
  show W.cell? ((⟨g, 0, none⟩ : Addr).add (j * 6 + i)) = some u
  rw [add_plain, blk_cell hg]
  simpa using e1
/-- A part of a row. -/
theorem C_cut {w : World} {ad : Addr} {l : List S53} (k m : Nat) (hk : k + m ≤ l.length) (h : Kd.C k53 w (some ad) l.length l) : Kd.C k53 w (some (ad.add (k * 6))) m ((l.drop k).take m) := by
  obtain ⟨h1, h2, h3⟩ := h
  refine ⟨by rw [List.length_take, List.length_drop]; omega, by omega, fun hne => ?_⟩
  obtain ⟨ad', e, hj⟩ := h3 (by omega)
  cases e
  refine ⟨_, rfl, fun j p hp => ?_⟩
  have hp2 : l[k + j]? = some p := by
    rw [List.getElem?_take] at hp
    split at hp
    · rw [List.getElem?_drop] at hp; exact hp
    · cases hp
  obtain ⟨c, c1, c2, c3⟩ := hj (k + j) p hp2
  refine ⟨c, c1, c2, fun i u hu => ?_⟩
  have := c3 i u hu
  have e6 : k53.sz = 6 := rfl
  rw [e6] at this ⊢
  rw [Go.Addr.add_add, show k * 6 + (j * 6 + i) = (k + j) * 6 + i by omega]
  exact this

def tkAt (l : List S53) (i : Nat) : S53 := rd_T53 l (i : Int)
/-- Whether a comment must part a token from the one ahead. -/
def sepB (l : List S53) (i first : Nat) : Bool :=
  mergesB [tkAt l (i - 1), tkAt l i] || (decide (first + 2 ≤ i) && !(tkAt l (i - 1)).f2 && decide ((tkAt l (i - 2)).f0 = 1) && mergesB [tkAt l (i - 2), tkAt l (i - 1), tkAt l i])
/-- What stands ahead of a token. -/
def gapN (l : List S53) (i first : Nat) : List Int :=
  if i = first then [] else if (tkAt l i).f2 = true then [32] else if sepB l i first = true then [47, 42, 42, 47] else []
def endN (l : List S53) (i first : Nat) : List Int := (if commaB ((l.drop first).take (i - first)) = true then [59] else []) ++ [10]
def wrStep (l : List S53) (i : Nat) (p : Nat × List Int) : Nat × List Int :=
  if (tkAt l i).f0 = 4 then (i + 1, p.2 ++ endN l i p.1) else (p.1, p.2 ++ gapN l i p.1 ++ spN (tkAt l i))
def wrN (l : List S53) : Nat → Nat × List Int
  | 0 => (0, [])
  | k + 1 => wrStep l k (wrN l k)
/-- The text of tokens. -/
def writtenN (l : List S53) : List Int := (wrN l l.length).2
theorem gapN_len (l : List S53) (i first : Nat) : (gapN l i first).length ≤ 4 := by
  unfold gapN
  split
  · simp
  · split
    · simp
    · split <;> simp
theorem gapN_bytes (l : List S53) (i first : Nat) : ∀ x ∈ gapN l i first, 0 ≤ x ∧ x < 256 := by
  unfold gapN
  split
  · simp
  · split
    · simp
    · split
      · intro x hx
        simp only [List.mem_cons, List.not_mem_nil, or_false] at hx
        omega
      · simp
theorem endN_bytes (l : List S53) (i first : Nat) : (endN l i first).length ≤ 4 ∧ ∀ x ∈ endN l i first, 0 ≤ x ∧ x < 256 := by
  unfold endN
  split <;> simp
theorem wrN_facts (l : List S53) : ∀ k, k ≤ l.length → (wrN l k).1 ≤ k ∧ (wrN l k).2.length ≤ szL (l.take k) + 4 * k ∧ ∀ x ∈ (wrN l k).2, 0 ≤ x ∧ x < 256
  | 0, _ => ⟨Nat.le_refl _, by simp [wrN], by simp [wrN]⟩
  | k + 1, hk => by
    obtain ⟨h1, h2, h3⟩ := wrN_facts l k (by omega)
    have hs : szL (l.take (k + 1)) = szL (l.take k) + (2 * (tkAt l k).f1.size + 2) := by
      have hd : l.take (k + 1) = l.take k ++ [tkAt l k] := by
        rw [List.take_add_one, List.getElem?_eq_getElem (by omega)]
        unfold tkAt rd_T53
        rw [Int.toNat_natCast, List.getD_eq_getElem?_getD, List.getElem?_eq_getElem (by omega)]
        rfl
      rw [hd]; simp [szL]
    have hsp := sp_len (tkAt l k)
    simp only [wrN, wrStep]
    split
    · obtain ⟨e1, e2⟩ := endN_bytes l k (wrN l k).1
      refine ⟨Nat.le_refl _, by rw [List.length_append]; omega, fun x hx => ?_⟩
      rcases List.mem_append.1 hx with e | e
      · exact h3 x e
      · exact e2 x e
    · have e1 := gapN_len l k (wrN l k).1
      refine ⟨by omega, by rw [List.length_append, List.length_append]; omega, fun x hx => ?_⟩
      rcases List.mem_append.1 hx with e | e
      · rcases List.mem_append.1 e with e | e
        · exact h3 x e
        · exact gapN_bytes l k _ x e
      · exact sp_bytes _ x e
theorem szL_two {l : List S53} {i : Nat} (hi : i + 1 < l.length) : szL [tkAt l i, tkAt l (i + 1)] ≤ szL l := by
  have h1 : l.drop i = tkAt l i :: l.drop (i + 1) := drop_rd (by omega)
  have h2 : l.drop (i + 1) = tkAt l (i + 1) :: l.drop (i + 1 + 1) := drop_rd hi
  conv => { rhs; rw [← List.take_append_drop i l, h1, h2] }
  simp only [szL, List.map_append, List.map_cons, List.map_nil, List.sum_append, List.sum_cons, List.sum_nil]
  omega
theorem szL_three {l : List S53} {i : Nat} (hi : i + 2 < l.length) : szL [tkAt l i, tkAt l (i + 1), tkAt l (i + 2)] ≤ szL l := by
  have h1 : l.drop i = tkAt l i :: l.drop (i + 1) := drop_rd (by omega)
  have h2 : l.drop (i + 1) = tkAt l (i + 1) :: l.drop (i + 1 + 1) := drop_rd (by omega)
  have h3 : l.drop (i + 2) = tkAt l (i + 2) :: l.drop (i + 2 + 1) := drop_rd hi
  conv => { rhs; rw [← List.take_append_drop i l, h1, h2, show i + 1 + 1 = i + 2 from rfl, h3] }
  simp only [szL, List.map_append, List.map_cons, List.map_nil, List.sum_append, List.sum_cons, List.sum_nil]
  omega
theorem Bld.lt {B b : Nat} {xs : List Int} {w : World} (h : Bld B b xs w) : b < w.heap.size := by
  rcases h with ⟨_, v, h2, _⟩ | ⟨_, v, h2, _⟩ <;> exact (Array.getElem?_eq_some_iff.1 h2).1
/-- What stands while a token is written: the builder, and the token's box. -/
structure Rd (H h1 : Nat) (w : World) (tx : S53) (o : List Int) (W : World) : Prop where
  bl : Below H w W
  bd : Bld H H o W
  bx : W.heap[h1]? = some (.cells #[.int .i64 tx.f0, .string tx.f1, .bool tx.f2, .int .i64 tx.f3, .int .i64 tx.f4, .int .i64 tx.f5] 53 (0, 0))
  hs : H ≤ W.heap.size
  ne : H < h1
theorem Rd.keep {H h1 : Nat} {w : World} {tx : S53} {o : List Int} {W W' : World} (h : Rd H h1 w tx o W) (hb : Below W.heap.size W W') : Rd H h1 w tx o W' :=
  ⟨h.bl.trans (hb.mono h.hs), h.bd.keep hb, (hb.block h1 (Array.getElem?_eq_some_iff.1 h.bx).1).trans h.bx, Nat.le_trans h.hs hb.size, h.ne⟩
theorem Rd.wb {H h1 : Nat} {w : World} {tx : S53} {o : List Int} {W : World} (h : Rd H h1 w tx o W) (c : Int) (hl : o.length ≤ 100000000) :
    Calls Tryz.prog 106 #[.pointer (some ⟨H, 0, none⟩), .int .u8 c] W fun e w' => e = .returned .nilIface ∧ Rd H h1 w tx (o ++ [c]) w' := by
  refine (Any.Builder_WriteByte_k bldLays167 bldExtra H H _ c W h.bd (by rw [List.length_map]; omega) h.hs).mono ?_
  rintro e w' ⟨rfl, k1, k2, k3⟩
  refine ⟨rfl, h.bl.trans k2, ?_, k3 _ _ h.bx (fun e => by have := h.ne; simp only [Option.some.injEq] at e; omega) (fun c fz e => ?_), Nat.le_trans h.hs k2.size, h.ne⟩
  · unfold Bld; rw [List.map_append]; exact .inr k1
  · injection e with e1 e2 e3; exact absurd e2 (by decide)
theorem Rd.ws {H h1 : Nat} {w : World} {tx : S53} {o : List Int} {W : World} (h : Rd H h1 w tx o W) (s : ByteArray) (hl : o.length + s.size ≤ 100000000) :
    Calls Tryz.prog 112 #[.pointer (some ⟨H, 0, none⟩), .string s] W fun e w' => (∃ nn : Nat, e = .returned (.tuple #[.int .i64 nn, .nilIface])) ∧ Rd H h1 w tx (o ++ bytesOf s) w' := by
  refine (Any.Builder_WriteString_k bldLays166 bldExtra H H _ s W h.bd (by rw [List.length_map]; omega) h.hs).mono ?_
  rintro e w' ⟨rfl, k1, k2, k3⟩
  refine ⟨⟨_, rfl⟩, h.bl.trans k2, ?_, k3 _ _ h.bx (fun e => by have := h.ne; simp only [Option.some.injEq] at e; omega) (fun c fz e => ?_), Nat.le_trans h.hs k2.size, h.ne⟩
  · unfold Bld
    rw [List.map_append]
    have e : (bytesOf s).map (Value.int .u8) = Lib.strCells s := by simp [bytesOf, Lib.strCells, Lib.byteCells, Function.comp_def]
    rw [e]
    exact .inr k1
  · injection e with e1 e2 e3; exact absurd e2 (by decide)
set_option maxRecDepth 100000 in
set_option maxHeartbeats 16000000 in
theorem scan_written.calls (A0 : Option Addr) (c0 : Nat) (l0 : List S53) (w : World) (hT : TabOK w) (hr0 : Kd.C k53 w A0 l0.length l0) (hc0 : l0.length ≤ c0) (hsm : l0.length ≤ 10000) (hsz : szL l0 ≤ 20000) :
    Calls Tryz.prog 72 #[.slice A0 l0.length c0] w fun e w' => e = .returned (.string (strOfNums (writtenN l0))) ∧ Below w.heap.size w w' := by
  have hu53 := Tryz.underlying53
  have HT := Aside0.mk hT
  have HR0 := Aside0.mk hr0
  clear hT hr0
  obtain ⟨n, hn⟩ : ∃ n, l0.length = n := ⟨_, rfl⟩
  have HL0 := Aside0.mk hn
  have hslt := Aside0.mk hsz
  have HWF := Aside0.mk (wrN_facts l0)
  rw [hn] at HR0 hc0 hsm HWF ⊢
  clear hn hsz
  go_enter Tryz.func72, Tryz.ntmps72
  go_upto_region 3 with (fail)
  obtain ⟨W0, hW0⟩ : ∃ W0, w.alloc (.cells #[.pointer none, .slice none 0 0] 126) = W0 := ⟨_, rfl⟩
  have hB0 : Aside0 (Bld w.heap.size w.heap.size [] W0) := ⟨by rw [← hW0]; exact Bld.new w⟩
  have hb0 : Aside0 (Below w.heap.size w W0) := ⟨by rw [← hW0]; exact below_alloc (Below.refl _ _) _⟩
  rw [hW0]
  clear hW0
  generalize hH : w.heap.size = H at *
  have HH := Aside0.mk hH
  clear hH
  go_wp2
  go_loopg [4, 9] n (fun gg s4 s9 wr => ∃ kk first : Nat, kk ≤ n ∧ n - kk ≤ gg ∧ s4 = .int .i64 first ∧ s9 = .int .i64 kk ∧ first ≤ kk ∧ Aside0 (Below H w wr) ∧ Aside0 (Bld H H (wrN l0 kk).2 wr) ∧ Aside0 ((wrN l0 kk).1 = first))
  case atStart => exact ⟨0, 0, by omega, by omega, rfl, rfl, by omega, hb0, hB0, ⟨rfl⟩⟩
  case round =>
    obtain ⟨kk, first, hkk, hg, rfl, rfl, hfk, HB, HBD, HFI⟩ := hrel
    obtain ⟨out, hout⟩ : ∃ out, (wrN l0 kk).2 = out := ⟨_, rfl⟩
    have HOUT := Aside0.mk hout
    rw [hout] at HBD
    have hwf := HWF.out kk hkk
    rw [hout] at hwf
    have hos : out.length ≤ 20000 + 4 * kk := by
      have h1 := szL_take l0 kk
      have h2 := hslt.out
      have h3 := hwf.2.1
      omega
    have HOB := Aside0.mk hwf.2.2
    clear hout hwf
    by_cases hlt : kk < n
    · have hltz : (kk : Int) < (n : Int) := by omega
      have hz0 : (0 : Int) ≤ (kk : Int) := by omega
      have hw1 : IntKind.i64.wrap ((kk : Int) + 1) = ((kk + 1 : Nat) : Int) := by rw [w64 _ (by omega) (by omega)]; omega
      have HWN : Aside0 (wrN l0 (kk + 1) = wrStep l0 kk (first, out)) := ⟨by
        show wrStep l0 kk (wrN l0 kk) = _
        rw [← HFI.out, ← HOUT.out]⟩
      have hCr := Kd.C_below HR0.out (by rw [HH.out]; exact HB.out)
      obtain ⟨ad, rfl, x0, x1, x2, x3, x4, x5⟩ := at_T53 hCr (kk : Int) hz0 hltz
      simp only [Int.toNat_natCast] at x0 x1 x2 x3 x4 x5
      have htx : tkAt l0 kk = rd_T53 l0 (kk : Int) := rfl
      generalize rd_T53 l0 (kk : Int) = tx at *
      have HTX := Aside0.mk htx
      have hmem : tx ∈ l0 := by
        have := drop_rd (l := l0) (k := kk) (by rw [HL0.out]; exact hlt)
        rw [← htx]
        exact List.mem_of_mem_drop (by rw [this]; exact List.mem_cons_self)
      have hxs := szL_mem hmem
      clear htx hmem
      go_upto_region 6 with (fail)
      have hn1 := heap_alloc_new wr (.cells #[.int .i64 tx.f0, .string tx.f1, .bool tx.f2, .int .i64 tx.f3, .int .i64 tx.f4, .int .i64 tx.f5] 53)
      have hB1 : Below H w (wr.alloc (.cells #[.int .i64 tx.f0, .string tx.f1, .bool tx.f2, .int .i64 tx.f3, .int .i64 tx.f4, .int .i64 tx.f5] 53)) := HB.out.trans ((below_alloc (Below.refl wr.heap.size wr) (.cells #[.int .i64 tx.f0, .string tx.f1, .bool tx.f2, .int .i64 tx.f3, .int .i64 tx.f4, .int .i64 tx.f5] 53)).mono (by have := HB.out.size; have := HH.out; omega))
      have HBD1 := Aside0.mk (HBD.out.keep (below_alloc (Below.refl _ wr) (.cells #[.int .i64 tx.f0, .string tx.f1, .bool tx.f2, .int .i64 tx.f3, .int .i64 tx.f4, .int .i64 tx.f5] 53)))
      have hC1 := Kd.C_alloc hCr (.cells #[.int .i64 tx.f0, .string tx.f1, .bool tx.f2, .int .i64 tx.f3, .int .i64 tx.f4, .int .i64 tx.f5] 53)
      have hlt1 := HBD.out.lt
      obtain ⟨h1, hh1⟩ : ∃ h1, wr.heap.size = h1 := ⟨_, rfl⟩
      rw [hh1] at hn1 hlt1 ⊢
      clear x0 x1 x2 x3 x4 x5 hh1 HB HBD hCr
      generalize wr.alloc (.cells #[.int .i64 tx.f0, .string tx.f1, .bool tx.f2, .int .i64 tx.f3, .int .i64 tx.f4, .int .i64 tx.f5] 53) = W1 at *
      have hrd : Rd H h1 w tx out W1 := ⟨hB1, HBD1.out, hn1, by have := hB1.size; have := HH.out; omega, hlt1⟩
      have HRD := Aside0.mk hrd
      have HC1 := Aside0.mk hC1
      have HTD : Aside0 (∀ W, Rd H h1 w tx out W → TabOK W) := ⟨fun W h => HT.out.of_below (by rw [HH.out]; exact h.bl)⟩
      have a0 : W1.cell? ⟨h1, 0, none⟩ = some (.int .i64 tx.f0) := (blk_cell hn1 0).trans rfl
      have a1 : W1.cell? ⟨h1, 1, none⟩ = some (.string tx.f1) := (blk_cell hn1 1).trans rfl
      have a2 : W1.cell? ⟨h1, 2, none⟩ = some (.bool tx.f2) := (blk_cell hn1 2).trans rfl
      have a3 : W1.cell? ⟨h1, 3, none⟩ = some (.int .i64 tx.f3) := (blk_cell hn1 3).trans rfl
      have a4 : W1.cell? ⟨h1, 4, none⟩ = some (.int .i64 tx.f4) := (blk_cell hn1 4).trans rfl
      have a5 : W1.cell? ⟨h1, 5, none⟩ = some (.int .i64 tx.f5) := (blk_cell hn1 5).trans rfl
      clear hn1 hB1 hrd HBD1 hlt1
      by_cases hk4 : tx.f0 = 4
      · have g1 : (tx.f0 == 4) = true := beq_iff_eq.2 hk4
        have hz1 : (0 : Int) ≤ (first : Int) := by omega
        have hz2 : (first : Int) ≤ (kk : Int) := by omega
        have hz3 : kk ≤ c0 := by omega
        have hHW : wrN l0 (kk + 1) = (kk + 1, out ++ endN l0 kk first) := by
          rw [HWN.out]
          unfold wrStep
          rw [HTX.out, if_pos hk4]
        obtain ⟨cl, hcl⟩ : ∃ cl, (l0.drop first).take (kk - first) = cl := ⟨_, rfl⟩
        have hclen : cl.length = kk - first := by rw [← hcl, List.length_take, List.length_drop, HL0.out]; omega
        have hCc := C_cut first (kk - first) (l := l0) (by rw [HL0.out]; omega) (by rw [HL0.out]; exact hC1)
        rw [hcl] at hCc
        have hcm := scan_comma.calls (some (ad.add (first * 6))) (c0 - first) cl _ W1 (by rw [hclen]; exact hCc) (by omega) (comma_g cl (by omega))
        rw [hclen] at hcm
        unfold endN at hHW
        rw [hcl] at hHW
        clear hCc hcl hclen hC1 a0 a1 a2 a3 a4 a5
        have a0 : W1.cell? ⟨h1, 0, none⟩ = some (.int .i64 tx.f0) := (blk_cell HRD.out.bx 0).trans rfl
        cases hcb : commaB cl with
        | true =>
          rw [hcb] at hcm hHW
          rw [if_pos rfl] at hHW
          have HHW := Aside0.mk hHW
          have HCM := Lib.hid hcm
          clear hcm hHW hcb
          go_wp2_with (first | (go_at_call 92; refine HCM.out.mono ?_; rintro e w2 ⟨rfl, ⟨⟨q, rfl⟩⟩⟩; have hr2 := HRD.out.keep (pw_below_drewN (Below.refl _ _) q)) | (go_at_call 106; with_reducible refine (hr2.wb 59 (by omega)).mono ?_; rintro e w3 ⟨rfl, hr3⟩) | (go_at_call 106; with_reducible refine (hr3.wb 10 (by simp; omega)).mono ?_; rintro e w4 ⟨rfl, hr4⟩))
          go_roundg (n - (kk + 1))
          case measure => omega
          case rel => exact ⟨kk + 1, kk + 1, by omega, by omega, by go_num, by go_num, Nat.le_refl _, ⟨hr4.bl⟩, ⟨by rw [HHW.out]; have := hr4.bd; simpa using this⟩, ⟨by rw [HHW.out]⟩⟩
        | false =>
          rw [hcb] at hcm hHW
          rw [if_neg Bool.false_ne_true, List.nil_append] at hHW
          have HHW := Aside0.mk hHW
          have HCM := Lib.hid hcm
          clear hcm hHW hcb
          go_wp2_with (first | (go_at_call 92; refine HCM.out.mono ?_; rintro e w2 ⟨rfl, ⟨⟨q, rfl⟩⟩⟩; have hr2 := HRD.out.keep (pw_below_drewN (Below.refl _ _) q)) | (go_at_call 106; with_reducible refine (hr2.wb 10 (by omega)).mono ?_; rintro e w4 ⟨rfl, hr4⟩))
          go_roundg (n - (kk + 1))
          case measure => omega
          case rel => exact ⟨kk + 1, kk + 1, by omega, by omega, by go_num, by go_num, Nat.le_refl _, ⟨hr4.bl⟩, ⟨by rw [HHW.out]; exact hr4.bd⟩, ⟨by rw [HHW.out]⟩⟩
      · have g1 : (tx.f0 == 4) = false := beq_eq_false_iff_ne.2 hk4
        have HHW : Aside0 (wrN l0 (kk + 1) = (first, out ++ gapN l0 kk first ++ spN tx)) := ⟨by
          rw [HWN.out]
          unfold wrStep
          rw [HTX.out, if_neg hk4]⟩
        have HTB : Aside0 (∀ W, Below H w W → TabOK W) := ⟨fun W h => HT.out.of_below (by rw [HH.out]; exact h)⟩
        have HSB := Aside0.mk (bytesOf_str _ (sp_bytes tx))
        have hst : (strOfNums (spN tx)).size = (spN tx).length := by simp [strOfNums, ByteArray.size]
        have hspl := sp_len tx
        have hsl := hslt.out
        go_upto_region 11 with (fail)
        by_cases hkf : kk = first
        · have HG : Aside0 (gapN l0 kk first = []) := ⟨by unfold gapN; rw [if_pos hkf]⟩
          have e1 : ((kk : Int) == (first : Int)) = true := beq_iff_eq.2 (by omega)
          have e2 : (kk == first) = true := beq_iff_eq.2 hkf
          have hrd := HRD.out
          clear hkf a0 a1 a2 a3 a4 a5 hC1
          go_upto_region 17 with (fail)
          have b0 : W1.cell? ⟨h1, 0, none⟩ = some (.int .i64 tx.f0) := (blk_cell hrd.bx 0).trans rfl
          have b1 : W1.cell? ⟨h1, 1, none⟩ = some (.string tx.f1) := (blk_cell hrd.bx 1).trans rfl
          have b2 : W1.cell? ⟨h1, 2, none⟩ = some (.bool tx.f2) := (blk_cell hrd.bx 2).trans rfl
          have b3 : W1.cell? ⟨h1, 3, none⟩ = some (.int .i64 tx.f3) := (blk_cell hrd.bx 3).trans rfl
          have b4 : W1.cell? ⟨h1, 4, none⟩ = some (.int .i64 tx.f4) := (blk_cell hrd.bx 4).trans rfl
          have b5 : W1.cell? ⟨h1, 5, none⟩ = some (.int .i64 tx.f5) := (blk_cell hrd.bx 5).trans rfl
          have HSPW := Lib.hid (scan_spelled.calls tx.f0 tx.f1 tx.f2 tx.f3 tx.f4 tx.f5 _ W1 (HTB.out _ hrd.bl) (sp_f tx (by omega)))
          go_wp2_with (first | (go_at_call 113; with_reducible refine HSPW.out.mono ?_; rintro e v5 ⟨rfl, hv5⟩; have hr5 := hrd.keep hv5) | (go_at_call 112; with_reducible refine (hr5.ws (strOfNums (spN tx)) (by first | omega | (simp only [List.length_append, List.length_cons, List.length_nil]; omega))).mono ?_; rintro e v6 ⟨⟨nn, rfl⟩, hr6⟩))
          go_roundg (n - (kk + 1))
          case measure => omega
          case rel => exact ⟨kk + 1, first, by omega, by omega, rfl, by go_num, by omega, ⟨hr6.bl⟩, ⟨by rw [HHW.out, HG.out]; have := hr6.bd; rw [HSB.out] at this; simpa using this⟩, ⟨by rw [HHW.out]⟩⟩
        · have e1 : ((kk : Int) == (first : Int)) = false := beq_eq_false_iff_ne.2 (by omega)
          have e2 : (kk == first) = false := beq_eq_false_iff_ne.2 hkf
          cases hgp : tx.f2 with
          | true =>
            have HG : Aside0 (gapN l0 kk first = [32]) := ⟨by unfold gapN; rw [if_neg hkf, HTX.out, if_pos hgp]⟩
            rw [hgp] at a2
            have hrd := HRD.out
            clear hkf a0 a1 a3 a4 a5 hC1 hgp
            go_upto_region 17 with (go_at_call 106; with_reducible refine (hrd.wb 32 (by omega)).mono ?_; rintro e w3 ⟨rfl, hr3⟩)
            clear a2
            have b0 : w3.cell? ⟨h1, 0, none⟩ = some (.int .i64 tx.f0) := (blk_cell hr3.bx 0).trans rfl
            have b1 : w3.cell? ⟨h1, 1, none⟩ = some (.string tx.f1) := (blk_cell hr3.bx 1).trans rfl
            have b2 : w3.cell? ⟨h1, 2, none⟩ = some (.bool tx.f2) := (blk_cell hr3.bx 2).trans rfl
            have b3 : w3.cell? ⟨h1, 3, none⟩ = some (.int .i64 tx.f3) := (blk_cell hr3.bx 3).trans rfl
            have b4 : w3.cell? ⟨h1, 4, none⟩ = some (.int .i64 tx.f4) := (blk_cell hr3.bx 4).trans rfl
            have b5 : w3.cell? ⟨h1, 5, none⟩ = some (.int .i64 tx.f5) := (blk_cell hr3.bx 5).trans rfl
            have HSPW := Lib.hid (scan_spelled.calls tx.f0 tx.f1 tx.f2 tx.f3 tx.f4 tx.f5 _ w3 (HTB.out _ hr3.bl) (sp_f tx (by omega)))
            go_wp2_with (first | (go_at_call 113; with_reducible refine HSPW.out.mono ?_; rintro e v5 ⟨rfl, hv5⟩; have hr5 := hr3.keep hv5) | (go_at_call 112; with_reducible refine (hr5.ws (strOfNums (spN tx)) (by first | omega | (simp only [List.length_append, List.length_cons, List.length_nil]; omega))).mono ?_; rintro e v6 ⟨⟨nn, rfl⟩, hr6⟩))
            go_roundg (n - (kk + 1))
            case measure => omega
            case rel => exact ⟨kk + 1, first, by omega, by omega, rfl, by go_num, by omega, ⟨hr6.bl⟩, ⟨by rw [HHW.out, HG.out]; have := hr6.bd; rw [HSB.out] at this; simpa using this⟩, ⟨by rw [HHW.out]⟩⟩
          | false =>
            rw [hgp] at a2
            obtain ⟨j, rfl⟩ : ∃ j, kk = j + 1 := ⟨kk - 1, by omega⟩
            obtain ⟨ad', e', y0, y1, y2, y3, y4, y5⟩ := at_T53 HC1.out (j : Int) (by omega) (by omega)
            cases e'
            simp only [Int.toNat_natCast] at y0 y1 y2 y3 y4 y5
            have hty : tkAt l0 j = rd_T53 l0 (j : Int) := rfl
            generalize rd_T53 l0 (j : Int) = ty at *
            have HTY := Aside0.mk hty
            clear hty
            have hj1 : j + 1 ≤ 10000 := by omega
            have hw2 : IntKind.i64.wrap (((j + 1 : Nat) : Int) - 1) = (j : Int) := by rw [w64 _ (by omega) (by omega)]; omega
            have hw3 : IntKind.i64.wrap (j : Int) = (j : Int) := w64 _ (by omega) (by omega)
            have hq0 : (0 : Int) ≤ (j : Int) := by omega
            have hq1 : (j : Int) < (n : Int) := by omega
            have hsz2 : szL [ty, tx] ≤ 20000 := by
              have := szL_two (l := l0) (i := j) (by rw [HL0.out]; exact hlt)
              rw [HTY.out, show tkAt l0 (j + 1) = tx from HTX.out] at this
              omega
            have HMG := Lib.hid (fun (W : World) (g : Nat) (h : W.heap[g]? = some (.cells #[.int .i64 ty.f0, .string ty.f1, .bool ty.f2, .int .i64 ty.f3, .int .i64 ty.f4, .int .i64 ty.f5, .int .i64 tx.f0, .string tx.f1, .bool false, .int .i64 tx.f3, .int .i64 tx.f4, .int .i64 tx.f5] 53 (0, 0))) (hW : TabOK W) => scan_merges.calls (some ⟨g, 0, none⟩) 2 [ty, tx] W hW (row_C h (by simp [tksC, tkC, hgp]) (by simp)) (Nat.le_refl _) (by simp) hsz2)
            have HB2 : Aside0 (TabOK (W1.alloc (.cells #[.int .i64 ty.f0, .string ty.f1, .bool ty.f2, .int .i64 ty.f3, .int .i64 ty.f4, .int .i64 ty.f5, .int .i64 tx.f0, .string tx.f1, .bool false, .int .i64 tx.f3, .int .i64 tx.f4, .int .i64 tx.f5] 53)).drew ∧ Below W1.heap.size W1 (W1.alloc (.cells #[.int .i64 ty.f0, .string ty.f1, .bool ty.f2, .int .i64 ty.f3, .int .i64 ty.f4, .int .i64 ty.f5, .int .i64 tx.f0, .string tx.f1, .bool false, .int .i64 tx.f3, .int .i64 tx.f4, .int .i64 tx.f5] 53)).drew) := ⟨by
              have h1 : Below W1.heap.size W1 (W1.alloc (.cells #[.int .i64 ty.f0, .string ty.f1, .bool ty.f2, .int .i64 ty.f3, .int .i64 ty.f4, .int .i64 ty.f5, .int .i64 tx.f0, .string tx.f1, .bool false, .int .i64 tx.f3, .int .i64 tx.f4, .int .i64 tx.f5] 53)).drew := below_drew (below_alloc (Below.refl _ _) _)
              exact ⟨(HTB.out _ HRD.out.bl).of_below h1, h1⟩⟩
            have HN2 : Aside0 ((W1.alloc (.cells #[.int .i64 ty.f0, .string ty.f1, .bool ty.f2, .int .i64 ty.f3, .int .i64 ty.f4, .int .i64 ty.f5, .int .i64 tx.f0, .string tx.f1, .bool false, .int .i64 tx.f3, .int .i64 tx.f4, .int .i64 tx.f5] 53)).drew.heap[W1.heap.size]? = some (.cells #[.int .i64 ty.f0, .string ty.f1, .bool ty.f2, .int .i64 ty.f3, .int .i64 ty.f4, .int .i64 ty.f5, .int .i64 tx.f0, .string tx.f1, .bool false, .int .i64 tx.f3, .int .i64 tx.f4, .int .i64 tx.f5] 53 (0, 0))) := ⟨heap_alloc_new W1 _⟩
            have HGP := Aside0.mk hgp
            obtain ⟨m2, hm2⟩ : ∃ m2, mergesB [ty, tx] = m2 := ⟨_, rfl⟩
            rw [hm2] at HMG
            have HM2 := Aside0.mk hm2
            have HKF := Aside0.mk hkf
            have hcs4 : (⟨#[47, 42, 42, 47]⟩ : ByteArray).size = 4 := rfl
            have HCK : Aside0 (∀ W, Below W1.heap.size W1 W → Kd.C k53 W (some ad) n l0) := ⟨fun W hb => Kd.C_below HC1.out hb⟩
            clear hm2 hgp hkf hC1
            go_upto_region 14 with (fail)
            refine wp_region_still_tail 6 (by kernel_rfl) (by kernel_rfl) ?_
            simp only [List.take_succ_cons, List.take_zero, List.drop_succ_cons, List.drop_zero]
            repeat still_step
            refine wpStill_nil ?_
            cases m2 with
            | true =>
              have HG : Aside0 (gapN l0 (j + 1) first = [47, 42, 42, 47]) := ⟨by
                unfold gapN
                rw [if_neg HKF.out, HTX.out, HGP.out, if_neg Bool.false_ne_true, if_pos]
                unfold sepB
                rw [Nat.add_sub_cancel, HTY.out, HTX.out, HM2.out]; rfl⟩
              clear a0 a1 a2 a3 a4 a5 y0 y1 y2 y3 y4 y5
              go_upto_region 17 with (first | (go_at_call 111; refine (HMG.out _ _ HN2.out HB2.out.1).mono ?_; rintro e w2 ⟨rfl, hb2⟩; have hr2 := HRD.out.keep (HB2.out.2.trans (hb2.mono HB2.out.2.size))) | (go_at_call 112; with_reducible refine (hr2.ws ⟨#[47, 42, 42, 47]⟩ (by rw [hcs4]; omega)).mono ?_; rintro e w3 ⟨⟨nn2, rfl⟩, hr3⟩))
              replace hr3 : Rd H h1 w tx (out ++ [47, 42, 42, 47]) w3 := hr3
              have b0 : w3.cell? ⟨h1, 0, none⟩ = some (.int .i64 tx.f0) := (blk_cell hr3.bx 0).trans rfl
              have b1 : w3.cell? ⟨h1, 1, none⟩ = some (.string tx.f1) := (blk_cell hr3.bx 1).trans rfl
              have b2 : w3.cell? ⟨h1, 2, none⟩ = some (.bool tx.f2) := (blk_cell hr3.bx 2).trans rfl
              have b3 : w3.cell? ⟨h1, 3, none⟩ = some (.int .i64 tx.f3) := (blk_cell hr3.bx 3).trans rfl
              have b4 : w3.cell? ⟨h1, 4, none⟩ = some (.int .i64 tx.f4) := (blk_cell hr3.bx 4).trans rfl
              have b5 : w3.cell? ⟨h1, 5, none⟩ = some (.int .i64 tx.f5) := (blk_cell hr3.bx 5).trans rfl
              have HSPW := Lib.hid (scan_spelled.calls tx.f0 tx.f1 tx.f2 tx.f3 tx.f4 tx.f5 _ w3 (HTB.out _ hr3.bl) (sp_f tx (by omega)))
              go_wp2_with (first | (go_at_call 113; with_reducible refine HSPW.out.mono ?_; rintro e v5 ⟨rfl, hv5⟩; have hr5 := hr3.keep hv5) | (go_at_call 112; with_reducible refine (hr5.ws (strOfNums (spN tx)) (by first | omega | (simp only [List.length_append, List.length_cons, List.length_nil]; omega))).mono ?_; rintro e v6 ⟨⟨nn, rfl⟩, hr6⟩))
              go_roundg (n - (j + 1 + 1))
              case measure => omega
              case rel => exact ⟨j + 1 + 1, first, by omega, by omega, rfl, by go_num, by omega, ⟨hr6.bl⟩, ⟨by rw [HHW.out, HG.out]; have := hr6.bd; rw [HSB.out] at this; simpa using this⟩, ⟨by rw [HHW.out]⟩⟩
            | false =>
              clear y0 y1 y2 y3 y4 y5
              go_upto_region 15 with (go_at_call 111; refine (HMG.out _ _ HN2.out HB2.out.1).mono ?_; rintro e w2 ⟨rfl, hb2⟩; have hr2 := HRD.out.keep (HB2.out.2.trans (hb2.mono HB2.out.2.size)); have hk2 := HCK.out _ (HB2.out.2.trans (hb2.mono HB2.out.2.size)))
              clear a0 a1 a2 a3 a4 a5
              by_cases hi : first + 2 ≤ j + 1
              · obtain ⟨i2, rfl⟩ : ∃ i2, j = i2 + 1 := ⟨j - 1, by omega⟩
                obtain ⟨ad1, e1', z0, z1, z2, z3, z4, z5⟩ := at_T53 hk2 ((i2 + 1 : Nat) : Int) (by omega) (by omega)
                cases e1'
                rw [show rd_T53 l0 ((i2 + 1 : Nat) : Int) = ty from HTY.out] at z0 z1 z2 z3 z4 z5
                simp only [Int.toNat_natCast] at z0 z1 z2 z3 z4 z5
                obtain ⟨ad1, e1', v0, v1, v2, v3, v4, v5⟩ := at_T53 hk2 (i2 : Int) (by omega) (by omega)
                cases e1'
                simp only [Int.toNat_natCast] at v0 v1 v2 v3 v4 v5
                have htz : tkAt l0 i2 = rd_T53 l0 (i2 : Int) := rfl
                generalize rd_T53 l0 (i2 : Int) = tz at *
                have HTZ := Aside0.mk htz
                have hw5 : IntKind.i64.wrap ((i2 : Int) + 1 + 1 - 2) = (i2 : Int) := by rw [w64 _ (by omega) (by omega)]; omega
                have hw6 : IntKind.i64.wrap ((i2 : Int) + 1) = (i2 : Int) + 1 := w64 _ (by omega) (by omega)
                have hw7 : IntKind.i64.wrap (i2 : Int) = (i2 : Int) := w64 _ (by omega) (by omega)
                have hge : decide ((first : Int) ≤ (i2 : Int)) = true := decide_eq_true (by omega)
                have hge2 : decide (first ≤ i2) = true := decide_eq_true (by omega)
                have hp0 : (0 : Int) ≤ (i2 : Int) := by omega
                have hp1 : (i2 : Int) < (n : Int) := by omega
                have hp2 : (0 : Int) ≤ (i2 : Int) + 1 := by omega
                have hp3 : (i2 : Int) + 1 < (n : Int) := by omega
                have hp4 : ((i2 : Int) + 1).toNat = i2 + 1 := by omega
                have HI := Aside0.mk hi
                have HK2 := Aside0.mk hk2
                clear htz hi hk2 hw3
                have c0' : w2.cell? ⟨h1, 0, none⟩ = some (.int .i64 tx.f0) := (blk_cell hr2.bx 0).trans rfl
                have c1 : w2.cell? ⟨h1, 1, none⟩ = some (.string tx.f1) := (blk_cell hr2.bx 1).trans rfl
                have c2 : w2.cell? ⟨h1, 2, none⟩ = some (.bool tx.f2) := (blk_cell hr2.bx 2).trans rfl
                have c3 : w2.cell? ⟨h1, 3, none⟩ = some (.int .i64 tx.f3) := (blk_cell hr2.bx 3).trans rfl
                have c4 : w2.cell? ⟨h1, 4, none⟩ = some (.int .i64 tx.f4) := (blk_cell hr2.bx 4).trans rfl
                have c5 : w2.cell? ⟨h1, 5, none⟩ = some (.int .i64 tx.f5) := (blk_cell hr2.bx 5).trans rfl
                have hsz3 : szL [tz, ty, tx] ≤ 20000 := by
                  have := szL_three (l := l0) (i := i2) (by rw [HL0.out]; omega)
                  rw [HTZ.out, HTY.out, show tkAt l0 (i2 + 2) = tx from HTX.out] at this
                  omega
                obtain ⟨g2, hg2⟩ : ∃ g2, ty.f2 = g2 := ⟨_, rfl⟩
                rw [hg2] at z2
                have HG2 := Aside0.mk hg2
                cases g2 with
                | true =>
                  have HG : Aside0 (gapN l0 (i2 + 1 + 1) first = []) := ⟨by
                    unfold gapN
                    rw [if_neg HKF.out, HTX.out, HGP.out, if_neg Bool.false_ne_true]
                    have e : sepB l0 (i2 + 1 + 1) first = false := by
                      unfold sepB
                      rw [show i2 + 1 + 1 - 1 = i2 + 1 by omega, HTY.out, HTX.out, HM2.out, HG2.out]
                      simp
                    rw [e]; rfl⟩
                  clear hg2 hsz3
                  go_quiet (fail)
                  go_upto_region 17 with (fail)
                  have b0 : (w2.drewN nq).cell? ⟨h1, 0, none⟩ = some (.int .i64 tx.f0) := (blk_cell (hr2.keep (pw_below_drewN (Below.refl _ _) nq)).bx 0).trans rfl
                  have b1 : (w2.drewN nq).cell? ⟨h1, 1, none⟩ = some (.string tx.f1) := (blk_cell (hr2.keep (pw_below_drewN (Below.refl _ _) nq)).bx 1).trans rfl
                  have b2 : (w2.drewN nq).cell? ⟨h1, 2, none⟩ = some (.bool tx.f2) := (blk_cell (hr2.keep (pw_below_drewN (Below.refl _ _) nq)).bx 2).trans rfl
                  have b3 : (w2.drewN nq).cell? ⟨h1, 3, none⟩ = some (.int .i64 tx.f3) := (blk_cell (hr2.keep (pw_below_drewN (Below.refl _ _) nq)).bx 3).trans rfl
                  have b4 : (w2.drewN nq).cell? ⟨h1, 4, none⟩ = some (.int .i64 tx.f4) := (blk_cell (hr2.keep (pw_below_drewN (Below.refl _ _) nq)).bx 4).trans rfl
                  have b5 : (w2.drewN nq).cell? ⟨h1, 5, none⟩ = some (.int .i64 tx.f5) := (blk_cell (hr2.keep (pw_below_drewN (Below.refl _ _) nq)).bx 5).trans rfl
                  have HSPW := Lib.hid (scan_spelled.calls tx.f0 tx.f1 tx.f2 tx.f3 tx.f4 tx.f5 _ (w2.drewN nq) (HTB.out _ (hr2.keep (pw_below_drewN (Below.refl _ _) nq)).bl) (sp_f tx (by omega)))
                  go_wp2_with (first | (go_at_call 113; with_reducible refine HSPW.out.mono ?_; rintro e v5 ⟨rfl, hv5⟩; have hr5 := (hr2.keep (pw_below_drewN (Below.refl _ _) nq)).keep hv5) | (go_at_call 112; with_reducible refine (hr5.ws (strOfNums (spN tx)) (by first | omega | (simp only [List.length_append, List.length_cons, List.length_nil]; omega))).mono ?_; rintro e v6 ⟨⟨nn, rfl⟩, hr6⟩))
                  go_roundg (n - (i2 + 1 + 1 + 1))
                  case measure => omega
                  case rel => exact ⟨i2 + 1 + 1 + 1, first, by omega, by omega, rfl, by go_num, by omega, ⟨hr6.bl⟩, ⟨by rw [HHW.out, HG.out]; have := hr6.bd; rw [HSB.out] at this; simpa using this⟩, ⟨by rw [HHW.out]⟩⟩
                | false =>
                  by_cases hz1' : tz.f0 = 1
                  · have q1 : (tz.f0 == 1) = true := beq_iff_eq.2 hz1'
                    have HMG3 := Lib.hid (fun (W : World) (g : Nat) (h : W.heap[g]? = some (.cells #[.int .i64 tz.f0, .string tz.f1, .bool tz.f2, .int .i64 tz.f3, .int .i64 tz.f4, .int .i64 tz.f5, .int .i64 ty.f0, .string ty.f1, .bool false, .int .i64 ty.f3, .int .i64 ty.f4, .int .i64 ty.f5, .int .i64 tx.f0, .string tx.f1, .bool tx.f2, .int .i64 tx.f3, .int .i64 tx.f4, .int .i64 tx.f5] 53 (0, 0))) (hW : TabOK W) => scan_merges.calls (some ⟨g, 0, none⟩) 3 [tz, ty, tx] W hW (row_C h (by simp [tksC, tkC, hg2]) (by simp)) (Nat.le_refl _) (by simp) hsz3)
                    have HB3 : Aside0 (TabOK (w2.alloc (.cells #[.int .i64 tz.f0, .string tz.f1, .bool tz.f2, .int .i64 tz.f3, .int .i64 tz.f4, .int .i64 tz.f5, .int .i64 ty.f0, .string ty.f1, .bool false, .int .i64 ty.f3, .int .i64 ty.f4, .int .i64 ty.f5, .int .i64 tx.f0, .string tx.f1, .bool tx.f2, .int .i64 tx.f3, .int .i64 tx.f4, .int .i64 tx.f5] 53)).drew ∧ Below w2.heap.size w2 (w2.alloc (.cells #[.int .i64 tz.f0, .string tz.f1, .bool tz.f2, .int .i64 tz.f3, .int .i64 tz.f4, .int .i64 tz.f5, .int .i64 ty.f0, .string ty.f1, .bool false, .int .i64 ty.f3, .int .i64 ty.f4, .int .i64 ty.f5, .int .i64 tx.f0, .string tx.f1, .bool tx.f2, .int .i64 tx.f3, .int .i64 tx.f4, .int .i64 tx.f5] 53)).drew) := ⟨by
                      have h1 : Below w2.heap.size w2 (w2.alloc (.cells #[.int .i64 tz.f0, .string tz.f1, .bool tz.f2, .int .i64 tz.f3, .int .i64 tz.f4, .int .i64 tz.f5, .int .i64 ty.f0, .string ty.f1, .bool false, .int .i64 ty.f3, .int .i64 ty.f4, .int .i64 ty.f5, .int .i64 tx.f0, .string tx.f1, .bool tx.f2, .int .i64 tx.f3, .int .i64 tx.f4, .int .i64 tx.f5] 53)).drew := below_drew (below_alloc (Below.refl _ _) _)
                      exact ⟨(HTB.out _ hr2.bl).of_below h1, h1⟩⟩
                    have HN3 : Aside0 ((w2.alloc (.cells #[.int .i64 tz.f0, .string tz.f1, .bool tz.f2, .int .i64 tz.f3, .int .i64 tz.f4, .int .i64 tz.f5, .int .i64 ty.f0, .string ty.f1, .bool false, .int .i64 ty.f3, .int .i64 ty.f4, .int .i64 ty.f5, .int .i64 tx.f0, .string tx.f1, .bool tx.f2, .int .i64 tx.f3, .int .i64 tx.f4, .int .i64 tx.f5] 53)).drew.heap[w2.heap.size]? = some (.cells #[.int .i64 tz.f0, .string tz.f1, .bool tz.f2, .int .i64 tz.f3, .int .i64 tz.f4, .int .i64 tz.f5, .int .i64 ty.f0, .string ty.f1, .bool false, .int .i64 ty.f3, .int .i64 ty.f4, .int .i64 ty.f5, .int .i64 tx.f0, .string tx.f1, .bool tx.f2, .int .i64 tx.f3, .int .i64 tx.f4, .int .i64 tx.f5] 53 (0, 0))) := ⟨heap_alloc_new w2 _⟩
                    obtain ⟨m3, hm3⟩ : ∃ m3, mergesB [tz, ty, tx] = m3 := ⟨_, rfl⟩
                    rw [hm3] at HMG3
                    have HM3 := Aside0.mk hm3
                    have HZ1 := Aside0.mk hz1'
                    clear hm3 hg2 hz1' hsz3
                    refine wp_region_still_tail 34 (by kernel_rfl) (by kernel_rfl) ?_
                    simp only [List.take_succ_cons, List.take_zero, List.drop_succ_cons, List.drop_zero]
                    repeat still_step
                    refine wpStill_nil ?_
                    cases m3 with
                    | true =>
                      have HG : Aside0 (gapN l0 (i2 + 1 + 1) first = [47, 42, 42, 47]) := ⟨by
                        unfold gapN
                        rw [if_neg HKF.out, HTX.out, HGP.out, if_neg Bool.false_ne_true]
                        have e : sepB l0 (i2 + 1 + 1) first = true := by
                          unfold sepB
                          rw [show i2 + 1 + 1 - 1 = i2 + 1 by omega, show i2 + 1 + 1 - 2 = i2 by omega, HTY.out, HTX.out, HTZ.out, HM2.out, HG2.out, HM3.out, HZ1.out, decide_eq_true HI.out]
                          rfl
                        rw [e]; rfl⟩
                      clear z0 z1 z2 z3 z4 z5 v0 v1 v2 v3 v4 v5 c0' c1 c2 c3 c4 c5
                      go_upto_region 17 with (first | (go_at_call 111; refine (HMG3.out _ _ HN3.out HB3.out.1).mono ?_; rintro e w4 ⟨rfl, hb4⟩; have hr4 := hr2.keep (HB3.out.2.trans (hb4.mono HB3.out.2.size))) | (go_at_call 112; with_reducible refine (hr4.ws ⟨#[47, 42, 42, 47]⟩ (by rw [hcs4]; omega)).mono ?_; rintro e w3 ⟨⟨nn2, rfl⟩, hr3⟩))
                      replace hr3 : Rd H h1 w tx (out ++ [47, 42, 42, 47]) w3 := hr3
                      have b0 : w3.cell? ⟨h1, 0, none⟩ = some (.int .i64 tx.f0) := (blk_cell hr3.bx 0).trans rfl
                      have b1 : w3.cell? ⟨h1, 1, none⟩ = some (.string tx.f1) := (blk_cell hr3.bx 1).trans rfl
                      have b2 : w3.cell? ⟨h1, 2, none⟩ = some (.bool tx.f2) := (blk_cell hr3.bx 2).trans rfl
                      have b3 : w3.cell? ⟨h1, 3, none⟩ = some (.int .i64 tx.f3) := (blk_cell hr3.bx 3).trans rfl
                      have b4 : w3.cell? ⟨h1, 4, none⟩ = some (.int .i64 tx.f4) := (blk_cell hr3.bx 4).trans rfl
                      have b5 : w3.cell? ⟨h1, 5, none⟩ = some (.int .i64 tx.f5) := (blk_cell hr3.bx 5).trans rfl
                      have HSPW := Lib.hid (scan_spelled.calls tx.f0 tx.f1 tx.f2 tx.f3 tx.f4 tx.f5 _ w3 (HTB.out _ hr3.bl) (sp_f tx (by omega)))
                      go_wp2_with (first | (go_at_call 113; with_reducible refine HSPW.out.mono ?_; rintro e v5 ⟨rfl, hv5⟩; have hr5 := hr3.keep hv5) | (go_at_call 112; with_reducible refine (hr5.ws (strOfNums (spN tx)) (by first | omega | (simp only [List.length_append, List.length_cons, List.length_nil]; omega))).mono ?_; rintro e v6 ⟨⟨nn, rfl⟩, hr6⟩))
                      go_roundg (n - (i2 + 1 + 1 + 1))
                      case measure => omega
                      case rel => exact ⟨i2 + 1 + 1 + 1, first, by omega, by omega, rfl, by go_num, by omega, ⟨hr6.bl⟩, ⟨by rw [HHW.out, HG.out]; have := hr6.bd; rw [HSB.out] at this; simpa using this⟩, ⟨by rw [HHW.out]⟩⟩
                    | false =>
                      have HG : Aside0 (gapN l0 (i2 + 1 + 1) first = []) := ⟨by
                        unfold gapN
                        rw [if_neg HKF.out, HTX.out, HGP.out, if_neg Bool.false_ne_true]
                        have e : sepB l0 (i2 + 1 + 1) first = false := by
                          unfold sepB
                          rw [show i2 + 1 + 1 - 1 = i2 + 1 by omega, show i2 + 1 + 1 - 2 = i2 by omega, HTY.out, HTX.out, HTZ.out, HM2.out, HG2.out, HM3.out]
                          simp
                        rw [e]; rfl⟩
                      clear z0 z1 z2 z3 z4 z5 v0 v1 v2 v3 v4 v5 c0' c1 c2 c3 c4 c5
                      go_upto_region 17 with (go_at_call 111; refine (HMG3.out _ _ HN3.out HB3.out.1).mono ?_; rintro e w4 ⟨rfl, hb4⟩; have hr4 := hr2.keep (HB3.out.2.trans (hb4.mono HB3.out.2.size)))
                      have b0 : w4.cell? ⟨h1, 0, none⟩ = some (.int .i64 tx.f0) := (blk_cell hr4.bx 0).trans rfl
                      have b1 : w4.cell? ⟨h1, 1, none⟩ = some (.string tx.f1) := (blk_cell hr4.bx 1).trans rfl
                      have b2 : w4.cell? ⟨h1, 2, none⟩ = some (.bool tx.f2) := (blk_cell hr4.bx 2).trans rfl
                      have b3 : w4.cell? ⟨h1, 3, none⟩ = some (.int .i64 tx.f3) := (blk_cell hr4.bx 3).trans rfl
                      have b4 : w4.cell? ⟨h1, 4, none⟩ = some (.int .i64 tx.f4) := (blk_cell hr4.bx 4).trans rfl
                      have b5 : w4.cell? ⟨h1, 5, none⟩ = some (.int .i64 tx.f5) := (blk_cell hr4.bx 5).trans rfl
                      have HSPW := Lib.hid (scan_spelled.calls tx.f0 tx.f1 tx.f2 tx.f3 tx.f4 tx.f5 _ w4 (HTB.out _ hr4.bl) (sp_f tx (by omega)))
                      go_wp2_with (first | (go_at_call 113; with_reducible refine HSPW.out.mono ?_; rintro e v5 ⟨rfl, hv5⟩; have hr5 := hr4.keep hv5) | (go_at_call 112; with_reducible refine (hr5.ws (strOfNums (spN tx)) (by first | omega | (simp only [List.length_append, List.length_cons, List.length_nil]; omega))).mono ?_; rintro e v6 ⟨⟨nn, rfl⟩, hr6⟩))
                      go_roundg (n - (i2 + 1 + 1 + 1))
                      case measure => omega
                      case rel => exact ⟨i2 + 1 + 1 + 1, first, by omega, by omega, rfl, by go_num, by omega, ⟨hr6.bl⟩, ⟨by rw [HHW.out, HG.out]; have := hr6.bd; rw [HSB.out] at this; simpa using this⟩, ⟨by rw [HHW.out]⟩⟩
                  · have q1 : (tz.f0 == 1) = false := beq_eq_false_iff_ne.2 hz1'
                    have HZ1 := Aside0.mk hz1'
                    have HG : Aside0 (gapN l0 (i2 + 1 + 1) first = []) := ⟨by
                      unfold gapN
                      rw [if_neg HKF.out, HTX.out, HGP.out, if_neg Bool.false_ne_true]
                      have e : sepB l0 (i2 + 1 + 1) first = false := by
                        unfold sepB
                        rw [show i2 + 1 + 1 - 1 = i2 + 1 by omega, show i2 + 1 + 1 - 2 = i2 by omega, HTY.out, HTX.out, HTZ.out, HM2.out, HG2.out, decide_eq_false HZ1.out]
                        simp
                      rw [e]; rfl⟩
                    clear hg2 hsz3 hz1'
                    go_quiet (fail)
                    go_upto_region 17 with (fail)
                    have b0 : (w2.drewN nq).cell? ⟨h1, 0, none⟩ = some (.int .i64 tx.f0) := (blk_cell (hr2.keep (pw_below_drewN (Below.refl _ _) nq)).bx 0).trans rfl
                    have b1 : (w2.drewN nq).cell? ⟨h1, 1, none⟩ = some (.string tx.f1) := (blk_cell (hr2.keep (pw_below_drewN (Below.refl _ _) nq)).bx 1).trans rfl
                    have b2 : (w2.drewN nq).cell? ⟨h1, 2, none⟩ = some (.bool tx.f2) := (blk_cell (hr2.keep (pw_below_drewN (Below.refl _ _) nq)).bx 2).trans rfl
                    have b3 : (w2.drewN nq).cell? ⟨h1, 3, none⟩ = some (.int .i64 tx.f3) := (blk_cell (hr2.keep (pw_below_drewN (Below.refl _ _) nq)).bx 3).trans rfl
                    have b4 : (w2.drewN nq).cell? ⟨h1, 4, none⟩ = some (.int .i64 tx.f4) := (blk_cell (hr2.keep (pw_below_drewN (Below.refl _ _) nq)).bx 4).trans rfl
                    have b5 : (w2.drewN nq).cell? ⟨h1, 5, none⟩ = some (.int .i64 tx.f5) := (blk_cell (hr2.keep (pw_below_drewN (Below.refl _ _) nq)).bx 5).trans rfl
                    have HSPW := Lib.hid (scan_spelled.calls tx.f0 tx.f1 tx.f2 tx.f3 tx.f4 tx.f5 _ (w2.drewN nq) (HTB.out _ (hr2.keep (pw_below_drewN (Below.refl _ _) nq)).bl) (sp_f tx (by omega)))
                    go_wp2_with (first | (go_at_call 113; with_reducible refine HSPW.out.mono ?_; rintro e v5 ⟨rfl, hv5⟩; have hr5 := (hr2.keep (pw_below_drewN (Below.refl _ _) nq)).keep hv5) | (go_at_call 112; with_reducible refine (hr5.ws (strOfNums (spN tx)) (by first | omega | (simp only [List.length_append, List.length_cons, List.length_nil]; omega))).mono ?_; rintro e v6 ⟨⟨nn, rfl⟩, hr6⟩))
                    go_roundg (n - (i2 + 1 + 1 + 1))
                    case measure => omega
                    case rel => exact ⟨i2 + 1 + 1 + 1, first, by omega, by omega, rfl, by go_num, by omega, ⟨hr6.bl⟩, ⟨by rw [HHW.out, HG.out]; have := hr6.bd; rw [HSB.out] at this; simpa using this⟩, ⟨by rw [HHW.out]⟩⟩
              · obtain ⟨qz, hqz⟩ : ∃ qz : Int, (j : Int) + 1 - 2 = qz := ⟨_, rfl⟩
                have hw5 : IntKind.i64.wrap ((j : Int) + 1 - 2) = qz := by rw [w64 _ (by omega) (by omega)]; omega
                have hge : decide ((first : Int) ≤ qz) = false := decide_eq_false (by omega)
                clear hqz
                have HI := Aside0.mk hi
                have HG : Aside0 (gapN l0 (j + 1) first = []) := ⟨by
                  unfold gapN
                  rw [if_neg HKF.out, HTX.out, HGP.out, if_neg Bool.false_ne_true]
                  have e : sepB l0 (j + 1) first = false := by
                    unfold sepB
                    rw [show j + 1 - 1 = j by omega, HTY.out, HTX.out, HM2.out, decide_eq_false HI.out]
                    rfl
                  rw [e]; rfl⟩
                clear hi hk2
                go_quiet (fail)
                go_upto_region 17 with (fail)
                have b0 : (w2.drewN nq).cell? ⟨h1, 0, none⟩ = some (.int .i64 tx.f0) := (blk_cell (hr2.keep (pw_below_drewN (Below.refl _ _) nq)).bx 0).trans rfl
                have b1 : (w2.drewN nq).cell? ⟨h1, 1, none⟩ = some (.string tx.f1) := (blk_cell (hr2.keep (pw_below_drewN (Below.refl _ _) nq)).bx 1).trans rfl
                have b2 : (w2.drewN nq).cell? ⟨h1, 2, none⟩ = some (.bool tx.f2) := (blk_cell (hr2.keep (pw_below_drewN (Below.refl _ _) nq)).bx 2).trans rfl
                have b3 : (w2.drewN nq).cell? ⟨h1, 3, none⟩ = some (.int .i64 tx.f3) := (blk_cell (hr2.keep (pw_below_drewN (Below.refl _ _) nq)).bx 3).trans rfl
                have b4 : (w2.drewN nq).cell? ⟨h1, 4, none⟩ = some (.int .i64 tx.f4) := (blk_cell (hr2.keep (pw_below_drewN (Below.refl _ _) nq)).bx 4).trans rfl
                have b5 : (w2.drewN nq).cell? ⟨h1, 5, none⟩ = some (.int .i64 tx.f5) := (blk_cell (hr2.keep (pw_below_drewN (Below.refl _ _) nq)).bx 5).trans rfl
                have HSPW := Lib.hid (scan_spelled.calls tx.f0 tx.f1 tx.f2 tx.f3 tx.f4 tx.f5 _ (w2.drewN nq) (HTB.out _ (hr2.keep (pw_below_drewN (Below.refl _ _) nq)).bl) (sp_f tx (by omega)))
                go_wp2_with (first | (go_at_call 113; with_reducible refine HSPW.out.mono ?_; rintro e v5 ⟨rfl, hv5⟩; have hr5 := (hr2.keep (pw_below_drewN (Below.refl _ _) nq)).keep hv5) | (go_at_call 112; with_reducible refine (hr5.ws (strOfNums (spN tx)) (by first | omega | (simp only [List.length_append, List.length_cons, List.length_nil]; omega))).mono ?_; rintro e v6 ⟨⟨nn, rfl⟩, hr6⟩))
                go_roundg (n - (j + 1 + 1))
                case measure => omega
                case rel => exact ⟨j + 1 + 1, first, by omega, by omega, rfl, by go_num, by omega, ⟨hr6.bl⟩, ⟨by rw [HHW.out, HG.out]; have := hr6.bd; rw [HSB.out] at this; simpa using this⟩, ⟨by rw [HHW.out]⟩⟩
    · have hltz : ¬ (kk : Int) < (n : Int) := by omega
      have hkn : n = kk := by omega
      have hwr : writtenN l0 = out := by
        unfold writtenN
        rw [HL0.out, hkn]; exact HOUT.out
      have HWR := Aside0.mk hwr
      have hst := bld_String H H out wr HBD.out HOB.out (by have := HB.out.size; have := HH.out; omega)
      have HST := Lib.hid hst
      clear hst hwr hkn
      go_wp2_with (go_at_call 107; refine HST.out.mono ?_; rintro e w2 ⟨rfl, _, hb2⟩)
      refine bodyPost_ret (results_tmp rfl _ _ _) rfl ?_
      exact ⟨by rw [HWR.out]; rfl, by rw [HH.out]; exact HB.out.trans hb2⟩
/-- What Write returns. -/
def scan_Write.f (l0 : List S53) : Option (ByteArray × Int) :=
  if l0.length ≤ 10000 ∧ szL l0 ≤ 20000 then
    (if (S.scan (writtenN l0)).err.isSome = true ∨ eqF sameB ((S.tokens (writtenN l0)).map toS) l0 = false then some (⟨#[]⟩, 2)
    else if 20000 < (writtenN l0).length then some (⟨#[]⟩, 3) else some (strOfNums (writtenN l0), 0))
  else none
end Go.Proofs.YtkkpjonfaflkmaaGreatDoor.T

/- scan.Write. -/
namespace Go.Proofs.YtkkpjonfaflkmaaGreatDoor.T
set_option linter.unusedSimpArgs false
set_option linter.unusedVariables false
open Go.RowKit Go.Maps Go.Proofs.YtkkpjonfaflkmaaGreatDoorW.PrintWords Go.Proofs.YtkkpjonfaflkmaaGreatDoorW.PrintLast Go.Proofs.YtkkpjonfaflkmaaGreatDoorW.PrintMore
attribute [local go_sem] Oper.semAt_some

set_option maxRecDepth 100000 in
set_option maxHeartbeats 4000000 in
theorem scan_Write.calls (A0 : Option Addr) (c0 : Nat) (l0 : List S53) (r1 : ByteArray) (r2 : Int) (w : World) (hT : TabOK w) (hr0 : Kd.C k53 w A0 l0.length l0) (hc0 : l0.length ≤ c0) (h : scan_Write.f l0 = some (r1, r2)) :
    Calls Tryz.prog 35 #[.slice A0 l0.length c0] w fun e w' => e = .returned (.tuple #[.string r1, .int .i64 r2]) ∧ Below w.heap.size w w' := by
  unfold scan_Write.f at h
  by_cases hg : l0.length ≤ 10000 ∧ szL l0 ≤ 20000
  · rw [if_pos hg] at h
    obtain ⟨hg1, hg2⟩ := hg
    have hwc := scan_written.calls A0 c0 l0 w hT hr0 hc0 hg1 hg2
    have hwf := wrN_facts l0 l0.length (Nat.le_refl _)
    rw [List.take_length] at hwf
    obtain ⟨out, hout⟩ : ∃ out, writtenN l0 = out := ⟨_, rfl⟩
    rw [show (wrN l0 l0.length).2 = out from hout] at hwf
    rw [hout] at hwc h
    obtain ⟨src, hsrc⟩ : ∃ src, strOfNums out = src := ⟨_, rfl⟩
    have hsb : bytesOf src = out := by rw [← hsrc]; exact bytesOf_str _ hwf.2.2
    have hss : src.size = out.length := by rw [← hsb, bytesOf_length]
    have hsz : src.size ≤ 100000 := by have := hwf.2.1; omega
    rw [hsrc] at hwc h
    have htk := fun W hW => scan_tokens_m.calls src W hsz hW
    rw [hsb] at htk
    obtain ⟨toks, htoks⟩ : ∃ toks, S.tokens out = toks := ⟨_, rfl⟩
    obtain ⟨er, her⟩ : ∃ er, (S.scan out).err = er := ⟨_, rfl⟩
    rw [htoks, her, errV_eq] at htk
    rw [htoks, her, ← hss] at h
    obtain ⟨ec, hec⟩ : ∃ ec, errC er = ec := ⟨_, rfl⟩
    obtain ⟨el, hel⟩ : ∃ el, errL er = el := ⟨_, rfl⟩
    rw [hec, hel] at htk
    have HEC : Aside0 (ec = 0 ↔ er = none) := ⟨by
      rw [← hec]
      cases er with
      | none => exact ⟨fun _ => rfl, fun _ => rfl⟩
      | some p =>
        have := S.scan_err (c := p.1) (ln := p.2) her
        constructor
        · intro e
          exact absurd (Int.ofNat_eq_zero.1 e) this
        · intro e; cases e⟩
    have HTLEN : Aside0 (toks.length ≤ 300000) := ⟨by
      rw [← htoks]
      have h1 := S.tokens_length (xs := out) hwf.2.2
      omega⟩
    have HT := Aside0.mk hT
    have HWC := Lib.hid hwc
    have HTK := Lib.hid htk
    have H := Aside0.mk h
    have HR0 := Aside0.mk hr0
    obtain ⟨n, hn⟩ : ∃ n, l0.length = n := ⟨_, rfl⟩
    have HL0 := Aside0.mk hn
    rw [hn] at HWC HR0 hc0 hg1 ⊢
    obtain ⟨ss, hss2⟩ : ∃ ss, src.size = ss := ⟨_, rfl⟩
    clear hwc htk h hec hel htoks her hsb hwf hss hsrc hout hg2 hT hr0 hn hsz
    go_enter Tryz.func35, Tryz.ntmps35
    go_upto_region 3 with (first | (go_at_call 72; refine HWC.out.mono ?_; rintro e w2 ⟨rfl, hb2⟩) | (go_at_call 51; refine (HTK.out _ (HT.out.of_below hb2)).mono ?_; rintro e w3 ⟨v, rfl, hown, hb3⟩))
    obtain ⟨A, N, cap, rfl, hN⟩ : ∃ A cn cap, v = .slice A cn cap ∧ toks.length = cn := by
      rcases hown.2 with ⟨rfl, e2⟩ | ⟨g, cap, cs, rfl, _⟩
      · exact ⟨_, _, _, rfl, e2⟩
      · exact ⟨_, _, _, rfl, rfl⟩
    have hn4 := heap_alloc_new w3 (.cells #[.int .i64 ec, .int .i64 el] 76)
    have ho4 := own_but hown ((But.refl (fun _ => False) w3).alloc (.cells #[.int .i64 ec, .int .i64 el] 76)) (fun _ e => e.elim)
    have hb4 : Below w.heap.size w (w3.alloc (.cells #[.int .i64 ec, .int .i64 el] 76)) := below_alloc (hb2.trans (hb3.mono hb2.size)) _
    obtain ⟨fb, hfb⟩ : ∃ fb, w3.heap.size = fb := ⟨_, rfl⟩
    rw [hfb] at hn4 ⊢
    clear hown hb2 hb3 hfb
    generalize w3.alloc (.cells #[.int .i64 ec, .int .i64 el] 76) = W4 at *
    obtain ⟨hxx, hNc, hC4⟩ := tks_C ho4
    clear hxx
    have hsc := fun r hr => scan_Same.calls A cap (toks.map toS) A0 c0 l0 r W4 hC4 (by rw [List.length_map, hN]; exact hNc) (by rw [HL0.out]; exact Kd.C_below HR0.out hb4) (by rw [HL0.out]; exact hc0) hr
    rw [List.length_map, hN, HL0.out] at hsc
    have hsf : scan_Same.f (toks.map toS) l0 = some (eqF sameB (toks.map toS) l0) := by
      unfold scan_Same.f
      rw [if_pos (by rw [List.length_map]; have := HTLEN.out; omega)]
    have HSC := Lib.hid (hsc _ hsf)
    have HB4 := Aside0.mk hb4
    have hf0 : W4.cell? ⟨fb, 0, none⟩ = some (.int .i64 ec) := (blk_cell hn4 0).trans rfl
    clear hsc hsf hb4 hn4 ho4 hC4 hN hNc
    obtain ⟨sm, hsm⟩ : ∃ sm, eqF sameB (toks.map toS) l0 = sm := ⟨_, rfl⟩
    rw [hsm] at HSC H
    clear hsm
    by_cases he0 : ec = 0
    · have hen : er = none := HEC.out.1 he0
      rw [hen] at H
      have g1 : (ec != 0) = false := bne_eq_false_iff_eq.2 he0
      cases sm with
      | false =>
        have h := H.out
        rw [if_pos (.inr rfl)] at h
        simp only [Option.some.injEq, Prod.mk.injEq] at h
        obtain ⟨rfl, rfl⟩ := h
        clear he0 hen
        go_wp2_with (go_at_call 37; refine HSC.out.mono ?_; rintro e w5 ⟨rfl, hb5⟩)
        refine bodyPost_ret (results_tmp2 rfl _ _ _) rfl ?_
        exact ⟨rfl, HB4.out.trans (hb5.mono HB4.out.size)⟩
      | true =>
        have h := H.out
        rw [if_neg (by rintro (e | e) <;> cases e)] at h
        rw [hss2] at h
        by_cases hbig : 20000 < ss
        · rw [if_pos hbig] at h
          simp only [Option.some.injEq, Prod.mk.injEq] at h
          obtain ⟨rfl, rfl⟩ := h
          have g2 : decide ((20000 : Int) < (ss : Int)) = true := decide_eq_true (by omega)
          have g3 : decide (20000 < ss) = true := decide_eq_true hbig
          clear he0 hen hbig
          go_wp2_with (go_at_call 37; refine HSC.out.mono ?_; rintro e w5 ⟨rfl, hb5⟩)
          refine bodyPost_ret (results_tmp2 rfl _ _ _) rfl ?_
          exact ⟨rfl, HB4.out.trans (hb5.mono HB4.out.size)⟩
        · rw [if_neg hbig] at h
          simp only [Option.some.injEq, Prod.mk.injEq] at h
          obtain ⟨rfl, rfl⟩ := h
          have g2 : decide ((20000 : Int) < (ss : Int)) = false := decide_eq_false (by omega)
          have g3 : decide (20000 < ss) = false := decide_eq_false hbig
          clear he0 hen hbig
          go_wp2_with (go_at_call 37; refine HSC.out.mono ?_; rintro e w5 ⟨rfl, hb5⟩)
          refine bodyPost_ret (results_tmp2 rfl _ _ _) rfl ?_
          exact ⟨rfl, HB4.out.trans (hb5.mono HB4.out.size)⟩
    · have hi : er.isSome = true := by
        cases er with
        | none => exact absurd (HEC.out.2 rfl) he0
        | some _ => rfl
      have h := H.out
      rw [if_pos (.inl hi)] at h
      simp only [Option.some.injEq, Prod.mk.injEq] at h
      obtain ⟨rfl, rfl⟩ := h
      have g1 : (ec != 0) = true := bne_iff_ne.2 he0
      clear he0 hi
      go_wp2_with fail
      refine bodyPost_ret (results_tmp2 rfl _ _ _) rfl ?_
      exact ⟨rfl, HB4.out⟩
  · rw [if_neg hg] at h; cases h
end Go.Proofs.YtkkpjonfaflkmaaGreatDoor.T

/- scan.Value: its deferred closure, and itself. -/
namespace Go.Proofs.YtkkpjonfaflkmaaGreatDoor.T
set_option linter.unusedSimpArgs false
set_option linter.unusedVariables false
open Go.RowKit Go.Proofs.YtkkpjonfaflkmaaGreatDoorW.PrintWords Go.Proofs.YtkkpjonfaflkmaaGreatDoorW.PrintLast Go.Proofs.YtkkpjonfaflkmaaGreatDoorW.PrintMore
attribute [local go_sem] Oper.semAt_some

theorem results_cells3 {P : Program} {fn : Func} {p q r : Tmp} {tp tq tr : TypeId} (h : fn.results = #[.cell p tp, .cell q tq, .cell r tr]) (tmps : Array Value) (w : World) (a b c : Addr) (u v x : Value)
    (hp : tmps.getD p undef = .pointer (some a)) (hq : tmps.getD q undef = .pointer (some b)) (hr : tmps.getD r undef = .pointer (some c)) (hu : (loadVar tp a).run P w = .ok u w) (hv : (loadVar tq b).run P w = .ok v w) (hx : (loadVar tr c).run P w = .ok x w) :
    (results fn tmps).run P w = .ok (.tuple #[u, v, x]) w := by
  have hp' : tmps[p]?.getD undef = .pointer (some a) := by simpa using hp
  have hq' : tmps[q]?.getD undef = .pointer (some b) := by simpa using hq
  have hr' : tmps[r]?.getD undef = .pointer (some c) := by simpa using hr
  simp [results, h, hp', hq', hr', asAddr, Sem.run_bind, hu, hv, hx, Result.andThen]

set_option maxRecDepth 100000 in
set_option maxHeartbeats 400000 in
theorem value_idle (p q r : Value) (W : World) :
    CallsD Tryz.prog 69 #[p, q, r] .returning W fun e u' W' => e = .returned (.tuple #[]) ∧ u' = .returning ∧ W' = W := by
  refine callsD_of_wpS Tryz.func69 rfl fun c₀ cs hu => ?_
  simp only [Tryz.ntmps69, List.size_toArray, List.length_cons, List.length_nil, Nat.reduceAdd, Nat.reduceSub, Array.replicate_succ, Array.replicate_zero, List.push_toArray, List.append_toArray, List.nil_append, List.cons_append]
  apply wpS_seq
  apply wpS_region
  simp [wpOpsS, go_sem, recoverD, hu, Tryz.ntmps69, Exit.thenS]
  refine wpS_of_wp ?_
  generalize hQ : (fun (e : Exit) (a' : Act) (w' : World) => _) = Q
  go_wp2
  rw [← hQ]
  refine ⟨rfl, .returning, ?_, _, results_none rfl _ _ _, rfl, rfl, rfl⟩
  rw [← hu]
set_option maxRecDepth 100000 in
set_option maxHeartbeats 4000000 in
theorem value_panic (c ln : Int) {A B C : Nat} {s0 : ByteArray} {x0 y0 : Int} (W : World) (hA : W.heap[A]? = some (.cells #[.string s0] 9 (0, 0))) (hB : W.heap[B]? = some (.cells #[.int .i64 x0] 3 (0, 0))) (hC : W.heap[C]? = some (.cells #[.int .i64 y0] 25 (0, 0))) (hne : A ≠ B ∧ A ≠ C ∧ B ≠ C) :
    CallsD Tryz.prog 69 #[.pointer (some ⟨A, 0, none⟩), .pointer (some ⟨B, 0, none⟩), .pointer (some ⟨C, 0, none⟩)] (.panicking [{ v := fl c ln, recovered := false }]) W fun e u' W' =>
      e = .returned (.tuple #[]) ∧ u' = .panicking [{ v := fl c ln, recovered := true }] ∧ W'.heap[A]? = some (.cells #[.string ⟨#[]⟩] 9 (0, 0)) ∧ W'.heap[B]? = some (.cells #[.int .i64 c] 3 (0, 0)) ∧ W'.heap[C]? = some (.cells #[.int .i64 7] 25 (0, 0)) ∧ But (fun k => k = A ∨ k = B ∨ k = C) W W' := by
  have HA := Aside0.mk hA
  have HB := Aside0.mk hB
  have HC := Aside0.mk hC
  have hta : ∀ X : World, (Instr.typeAssert (.iface 76 (.agg #[.int .i64 c, .int .i64 ln])) 20 76 true).run Tryz.prog X = .ok (.tuple #[.agg #[.int .i64 c, .int .i64 ln], .bool true]) X := fun X => by kernel_rfl
  have hu76 := Tryz.underlying76
  clear hA hB hC
  refine callsD_of_wpS Tryz.func69 rfl fun c₀ cs hu => ?_
  simp only [Tryz.ntmps69, List.size_toArray, List.length_cons, List.length_nil, Nat.reduceAdd, Nat.reduceSub, Array.replicate_succ, Array.replicate_zero, List.push_toArray, List.append_toArray, List.nil_append, List.cons_append]
  apply wpS_seq
  apply wpS_region
  simp [wpOpsS, go_sem, recoverD, hu, Tryz.ntmps69, Exit.thenS, fl]
  refine wpS_of_wp ?_
  generalize hQ : (fun (e : Exit) (a' : Act) (w' : World) => _) = Q
  go_upto_region 5 with (fail)
  have hb1 : But (fun _ => False) W (W.alloc (.cells #[.int .i64 c, .int .i64 ln] 76)) := (But.refl _ W).alloc _
  have hn1 := heap_alloc_new W (.cells #[.int .i64 c, .int .i64 ln] 76)
  have hf1 : ∀ (k : Nat) (o : Obj), W.heap[k]? = some o → (W.alloc (.cells #[.int .i64 c, .int .i64 ln] 76)).heap[k]? = some o := fun k o h => (hb1.block k (Array.getElem?_eq_some_iff.1 h).1 (fun e => e)).trans h
  have hA1 := hf1 _ _ HA.out
  have hB1 := hf1 _ _ HB.out
  have hC1 := hf1 _ _ HC.out
  have hlt : A < W.heap.size ∧ B < W.heap.size ∧ C < W.heap.size := ⟨(Array.getElem?_eq_some_iff.1 HA.out).1, (Array.getElem?_eq_some_iff.1 HB.out).1, (Array.getElem?_eq_some_iff.1 HC.out).1⟩
  obtain ⟨H, hH⟩ : ∃ H, W.heap.size = H := ⟨_, rfl⟩
  rw [hH] at hn1 hlt ⊢
  have HB1 := Aside0.mk hb1
  clear hf1 hta hH HA HB HC hb1
  generalize W.alloc (.cells #[.int .i64 c, .int .i64 ln] 76) = W1 at *
  have e0 : W1.cell? ⟨H, 0, none⟩ = some (.int .i64 c) := (blk_cell hn1 0).trans rfl
  have a0 : W1.cell? ⟨A, 0, none⟩ = some (.string s0) := (blk_cell hA1 0).trans rfl
  have b0 : W1.cell? ⟨B, 0, none⟩ = some (.int .i64 x0) := (blk_cell hB1 0).trans rfl
  have c0 : W1.cell? ⟨C, 0, none⟩ = some (.int .i64 y0) := (blk_cell hC1 0).trans rfl
  have fa := blk_frozen hA1 0
  have fb := blk_frozen hB1 0
  have fc := blk_frozen hC1 0
  obtain ⟨n1, n2, n3⟩ := hne
  obtain ⟨l1, l2, l3⟩ := hlt
  have hfin : Aside0 ((((W1.setCell ⟨A, 0, none⟩ (.string ⟨#[]⟩)).setCell ⟨B, 0, none⟩ (.int .i64 c)).setCell ⟨C, 0, none⟩ (.int .i64 7)).heap[A]? = some (.cells #[.string ⟨#[]⟩] 9 (0, 0)) ∧ (((W1.setCell ⟨A, 0, none⟩ (.string ⟨#[]⟩)).setCell ⟨B, 0, none⟩ (.int .i64 c)).setCell ⟨C, 0, none⟩ (.int .i64 7)).heap[B]? = some (.cells #[.int .i64 c] 3 (0, 0)) ∧
      (((W1.setCell ⟨A, 0, none⟩ (.string ⟨#[]⟩)).setCell ⟨B, 0, none⟩ (.int .i64 c)).setCell ⟨C, 0, none⟩ (.int .i64 7)).heap[C]? = some (.cells #[.int .i64 7] 25 (0, 0)) ∧ But (fun k => k = A ∨ k = B ∨ k = C) W (((W1.setCell ⟨A, 0, none⟩ (.string ⟨#[]⟩)).setCell ⟨B, 0, none⟩ (.int .i64 c)).setCell ⟨C, 0, none⟩ (.int .i64 7))) := ⟨by
    have k1 : (W1.setCell ⟨A, 0, none⟩ (.string ⟨#[]⟩)).heap[A]? = some (.cells #[.string ⟨#[]⟩] 9 (0, 0)) := blk_put hA1 0 _ rfl
    have k2 : (W1.setCell ⟨A, 0, none⟩ (.string ⟨#[]⟩)).heap[B]? = some (.cells #[.int .i64 x0] 3 (0, 0)) := (Below.heap_setCell _ ⟨A, 0, none⟩ _ B (by show B ≠ A; omega)).trans hB1
    have k3 : (W1.setCell ⟨A, 0, none⟩ (.string ⟨#[]⟩)).heap[C]? = some (.cells #[.int .i64 y0] 25 (0, 0)) := (Below.heap_setCell _ ⟨A, 0, none⟩ _ C (by show C ≠ A; omega)).trans hC1
    have k4 := blk_put k2 0 (.int .i64 c) rfl
    have k5 := (Below.heap_setCell (W1.setCell ⟨A, 0, none⟩ (.string ⟨#[]⟩)) ⟨B, 0, none⟩ (.int .i64 c) A (by show A ≠ B; omega)).trans k1
    have k6 := (Below.heap_setCell (W1.setCell ⟨A, 0, none⟩ (.string ⟨#[]⟩)) ⟨B, 0, none⟩ (.int .i64 c) C (by show C ≠ B; omega)).trans k3
    refine ⟨(Below.heap_setCell _ ⟨C, 0, none⟩ _ A (by show A ≠ C; omega)).trans k5, (Below.heap_setCell _ ⟨C, 0, none⟩ _ B (by show B ≠ C; omega)).trans k4, blk_put k6 0 _ rfl, ?_⟩
    exact ((((HB1.out.mono (fun _ _ e => e.elim)).set _ _ (.inl rfl)).set _ _ (.inr (.inl rfl))).set _ _ (.inr (.inr rfl)))⟩
  clear hA1 hB1 hC1 hn1
  go_region
  all_goals go_wp2
  all_goals rw [← hQ]
  all_goals obtain ⟨f1, f2, f3, f4⟩ := hfin.out
  all_goals first
    | exact ⟨rfl, _, rfl, _, results_none rfl _ _ _, rfl, rfl, f1, f2, f3, f4⟩
    | exact ⟨rfl, _, rfl, _, results_none rfl _ _ _, rfl, rfl, f1, f2, f3, f4.drew⟩
/-- What Value returns. -/
def valRes (a0 : ByteArray) : S.TR → ByteArray × Int × Int
  | .err c => (⟨#[]⟩, c, 7)
  | .ok t n => if n < a0.size then (⟨#[]⟩, 0, 2) else (strOfNums t, 0, 0)
def scan_Value.f (a0 : ByteArray) : Option (ByteArray × Int × Int) :=
  if 100000 < a0.size then none
  else if a0.size = 0 ∨ (bt a0 0 ≠ 39 ∧ bt a0 0 ≠ 34) then some (⟨#[]⟩, 0, 2) else some (valRes a0 (S.litTok (bytesOf a0)))
theorem val_ret {W : World} {H : Nat} {s : ByteArray} {x y : Int} (tmps : Array Value) (h0 : W.heap[H]? = some (.cells #[.string s] 9 (0, 0))) (h1 : W.heap[H + 1]? = some (.cells #[.int .i64 x] 3 (0, 0))) (h2 : W.heap[H + 1 + 1]? = some (.cells #[.int .i64 y] 25 (0, 0)))
    (t2 : tmps.getD 2 undef = .pointer (some ⟨H, 0, none⟩)) (t3 : tmps.getD 3 undef = .pointer (some ⟨H + 1, 0, none⟩)) (t4 : tmps.getD 4 undef = .pointer (some ⟨H + 1 + 1, 0, none⟩)) :
    (results Tryz.f32 tmps).run Tryz.prog W = .ok (.tuple #[.string s, .int .i64 x, .int .i64 y]) W := by
  have e0 : W.cell? ⟨H, 0, none⟩ = some (.string s) := (blk_cell h0 0).trans rfl
  have e1 : W.cell? ⟨H + 1, 0, none⟩ = some (.int .i64 x) := (blk_cell h1 0).trans rfl
  have e2 : W.cell? ⟨H + 1 + 1, 0, none⟩ = some (.int .i64 y) := (blk_cell h2 0).trans rfl
  exact results_cells3 rfl _ _ _ _ _ _ _ _ t2 t3 t4 (by simp [go_sem, loadVar, e0]) (by simp [go_sem, loadVar, e1]) (by simp [go_sem, loadVar, e2])
/-- The three results' boxes. -/
structure Vb (w : World) (H : Nat) (s : ByteArray) (x y : Int) (W : World) : Prop where
  b0 : W.heap[H]? = some (.cells #[.string s] 9 (0, 0))
  b1 : W.heap[H + 1]? = some (.cells #[.int .i64 x] 3 (0, 0))
  b2 : W.heap[H + 1 + 1]? = some (.cells #[.int .i64 y] 25 (0, 0))
  bl : Below H w W
theorem Vb.put {w : World} {H : Nat} {s s' : ByteArray} {x y x' y' : Int} {W : World} (h : Vb w H s x y W) (hw : H ≤ w.heap.size) : Vb w H s' x' y' (((W.setCell ⟨H, 0, none⟩ (.string s')).setCell ⟨H + 1, 0, none⟩ (.int .i64 x')).setCell ⟨H + 1 + 1, 0, none⟩ (.int .i64 y')) := by
  have k1 : (W.setCell ⟨H, 0, none⟩ (.string s')).heap[H]? = some (.cells #[.string s'] 9 (0, 0)) := blk_put h.b0 0 _ rfl
  have k2 : (W.setCell ⟨H, 0, none⟩ (.string s')).heap[H + 1]? = some (.cells #[.int .i64 x] 3 (0, 0)) := (Below.heap_setCell _ ⟨H, 0, none⟩ _ (H + 1) (by show H + 1 ≠ H; omega)).trans h.b1
  have k3 : (W.setCell ⟨H, 0, none⟩ (.string s')).heap[H + 1 + 1]? = some (.cells #[.int .i64 y] 25 (0, 0)) := (Below.heap_setCell _ ⟨H, 0, none⟩ _ (H + 1 + 1) (by show H + 1 + 1 ≠ H; omega)).trans h.b2
  have k4 := blk_put k2 0 (.int .i64 x') rfl
  have k5 := (Below.heap_setCell (W.setCell ⟨H, 0, none⟩ (.string s')) ⟨H + 1, 0, none⟩ (.int .i64 x') H (by show H ≠ H + 1; omega)).trans k1
  have k6 := (Below.heap_setCell (W.setCell ⟨H, 0, none⟩ (.string s')) ⟨H + 1, 0, none⟩ (.int .i64 x') (H + 1 + 1) (by show H + 1 + 1 ≠ H + 1; omega)).trans k3
  refine ⟨(Below.heap_setCell _ ⟨H + 1 + 1, 0, none⟩ _ H (by show H ≠ H + 1 + 1; omega)).trans k5, (Below.heap_setCell _ ⟨H + 1 + 1, 0, none⟩ _ (H + 1) (by show H + 1 ≠ H + 1 + 1; omega)).trans k4, blk_put k6 0 _ rfl, ?_⟩
  have : But (fun k => H ≤ k) W (((W.setCell ⟨H, 0, none⟩ (.string s')).setCell ⟨H + 1, 0, none⟩ (.int .i64 x')).setCell ⟨H + 1 + 1, 0, none⟩ (.int .i64 y')) := (((But.refl _ W).set _ _ (Nat.le_refl H)).set _ _ (by show H ≤ H + 1; omega)).set _ _ (by show H ≤ H + 1 + 1; omega)
  exact h.bl.trans (this.belowB (Nat.le_trans hw h.bl.size) (fun k hk e => by omega))
theorem Vb.but {w : World} {H : Nat} {s : ByteArray} {x y : Int} {W W' : World} {A : Nat → Prop} (h : Vb w H s x y W) (hb : But A W W') (hw : H ≤ w.heap.size) (hA : ∀ k, A k → H + 3 ≤ k) : Vb w H s x y W' := by
  have hk : ∀ k (o : Obj), k < H + 3 → W.heap[k]? = some o → W'.heap[k]? = some o := fun k o hk h => (hb.block k (Array.getElem?_eq_some_iff.1 h).1 (fun e => by have := hA k e; omega)).trans h
  exact ⟨hk _ _ (by omega) h.b0, hk _ _ (by omega) h.b1, hk _ _ (by omega) h.b2, h.bl.trans (hb.belowB (Nat.le_trans hw h.bl.size) (fun k hk e => by have := hA k e; omega))⟩
theorem Vb.put1 {w : World} {H : Nat} {s s' : ByteArray} {x y : Int} {W : World} (h : Vb w H s x y W) (hw : H ≤ w.heap.size) : Vb w H s' x y (W.setCell ⟨H, 0, none⟩ (.string s')) := by
  have : But (fun k => H ≤ k) W (W.setCell ⟨H, 0, none⟩ (.string s')) := (But.refl _ W).set _ _ (Nat.le_refl H)
  exact ⟨blk_put h.b0 0 _ rfl, (Below.heap_setCell _ ⟨H, 0, none⟩ _ (H + 1) (by show H + 1 ≠ H; omega)).trans h.b1, (Below.heap_setCell _ ⟨H, 0, none⟩ _ (H + 1 + 1) (by show H + 1 + 1 ≠ H; omega)).trans h.b2, h.bl.trans (this.belowB (Nat.le_trans hw h.bl.size) (fun k hk e => by omega))⟩
theorem vb_new (w : World) : Vb w w.heap.size ⟨#[]⟩ 0 0 (((w.alloc (.cells #[.string ⟨#[]⟩] 9)).alloc (.cells #[.int .i64 0] 3)).alloc (.cells #[.int .i64 0] 25)) ∧ (((w.alloc (.cells #[.string ⟨#[]⟩] 9)).alloc (.cells #[.int .i64 0] 3)).alloc (.cells #[.int .i64 0] 25)).heap.size = w.heap.size + 1 + 1 + 1 := by
  have s1 := World.size_alloc w (.cells #[.string ⟨#[]⟩] 9)
  have s2 := World.size_alloc (w.alloc (.cells #[.string ⟨#[]⟩] 9)) (.cells #[.int .i64 0] 3)
  have s3 := World.size_alloc ((w.alloc (.cells #[.string ⟨#[]⟩] 9)).alloc (.cells #[.int .i64 0] 3)) (.cells #[.int .i64 0] 25)
  have n1 := heap_alloc_new w (.cells #[.string ⟨#[]⟩] 9)
  have n2 := heap_alloc_new (w.alloc (.cells #[.string ⟨#[]⟩] 9)) (.cells #[.int .i64 0] 3)
  have n3 := heap_alloc_new ((w.alloc (.cells #[.string ⟨#[]⟩] 9)).alloc (.cells #[.int .i64 0] 3)) (.cells #[.int .i64 0] 25)
  have o1 := ((But.refl (fun _ => False) (w.alloc (.cells #[.string ⟨#[]⟩] 9))).alloc (.cells #[.int .i64 0] 3)).block w.heap.size (by omega) (fun e => e)
  have o2 := ((But.refl (fun _ => False) ((w.alloc (.cells #[.string ⟨#[]⟩] 9)).alloc (.cells #[.int .i64 0] 3))).alloc (.cells #[.int .i64 0] 25)).block w.heap.size (by omega) (fun e => e)
  have o3 := ((But.refl (fun _ => False) ((w.alloc (.cells #[.string ⟨#[]⟩] 9)).alloc (.cells #[.int .i64 0] 3))).alloc (.cells #[.int .i64 0] 25)).block (w.heap.size + 1) (by omega) (fun e => e)
  rw [s1] at n2
  rw [s2, s1] at n3
  exact ⟨⟨o2.trans (o1.trans n1), o3.trans n2, n3, below_alloc (below_alloc (below_alloc (Below.refl _ _) _) _) _⟩, by omega⟩
set_option maxRecDepth 100000 in
set_option maxHeartbeats 4000000 in
theorem scan_Value.calls (a0 : ByteArray) (r1 : ByteArray) (r2 r3 : Int) (w : World) (h : scan_Value.f a0 = some (r1, r2, r3)) :
    Calls Tryz.prog 32 #[.string a0] w fun e w' => e = .returned (.tuple #[.string r1, .int .i64 r2, .int .i64 r3]) ∧ Below w.heap.size w w' := by
  unfold scan_Value.f at h
  have hmf : ∀ (fn : Fn) (first cap : Array Value) (w : World), (Instr.makeFunc fn first cap).run Tryz.prog w = .ok (.func fn first cap) w := fun _ _ _ _ => rfl
  by_cases hbig : 100000 < a0.size
  · rw [if_pos hbig] at h; cases h
  rw [if_neg hbig] at h
  obtain ⟨v0, vs⟩ := vb_new w
  have HV0 := Aside0.mk v0
  have HSE := Aside0.mk (str_empty a0)
  obtain ⟨n, hn⟩ : ∃ n, a0.size = n := ⟨_, rfl⟩
  have hlb : (bytesOf a0).length = n := by rw [bytesOf_length]; exact hn
  by_cases h0 : n = 0
  · rw [if_pos (.inl (hn.trans h0))] at h
    simp only [Option.some.injEq, Prod.mk.injEq] at h
    obtain ⟨rfl, rfl, rfl⟩ := h
    have he : (a0.toList == ([] : List UInt8)) = true := by rw [HSE.out]; exact decide_eq_true (List.length_eq_zero_iff.1 (hlb.trans h0))
    clear HSE hlb hn h0 hbig v0
    go_enter_defers Tryz.func32, Tryz.ntmps32
    go_upto_region 1 with (fail)
    obtain ⟨H, hH⟩ : ∃ H, w.heap.size = H := ⟨_, rfl⟩
    rw [hH] at HV0 vs ⊢
    generalize ((w.alloc (.cells #[.string ⟨#[]⟩] 9)).alloc (.cells #[.int .i64 0] 3)).alloc (.cells #[.int .i64 0] 25) = W0 at *
    have a0c : W0.cell? ⟨H, 0, none⟩ = some (.string ⟨#[]⟩) := (blk_cell HV0.out.b0 0).trans rfl
    have b0c : W0.cell? ⟨H + 1, 0, none⟩ = some (.int .i64 0) := (blk_cell HV0.out.b1 0).trans rfl
    have c0c : W0.cell? ⟨H + 1 + 1, 0, none⟩ = some (.int .i64 0) := (blk_cell HV0.out.b2 0).trans rfl
    have fa := blk_frozen HV0.out.b0 0
    have fb := blk_frozen HV0.out.b1 0
    have fc := blk_frozen HV0.out.b2 0
    have HF := Aside0.mk (HV0.out.put (s' := ⟨#[]⟩) (x' := 0) (y' := 2) (Nat.le_of_eq hH.symm))
    go_wp2_with fail
    exact ⟨_, val_ret _ HF.out.b0 HF.out.b1 HF.out.b2 rfl rfl rfl, rfl, by rw [hH]; exact HF.out.bl⟩
  · have he : (a0.toList == ([] : List UInt8)) = false := by rw [HSE.out]; exact decide_eq_false (fun e => h0 (by rw [← hlb, e]; rfl))
    have hl : 0 < a0.size := by omega
    have hx : ((a0[0]'hl).toNat : Int) = bt a0 0 := by simp [bt, hl]
    by_cases hq : bt a0 0 ≠ 39 ∧ bt a0 0 ≠ 34
    · rw [if_pos (.inr hq)] at h
      simp only [Option.some.injEq, Prod.mk.injEq] at h
      obtain ⟨rfl, rfl, rfl⟩ := h
      generalize bt a0 0 = y at hx hq
      have g1 : (y != 39) = true := bne_iff_ne.2 hq.1
      have g2 : (y != 34) = true := bne_iff_ne.2 hq.2
      clear HSE hlb h0 hbig v0 hq
      go_enter_defers Tryz.func32, Tryz.ntmps32
      go_upto_region 1 with (fail)
      obtain ⟨H, hH⟩ : ∃ H, w.heap.size = H := ⟨_, rfl⟩
      rw [hH] at HV0 vs ⊢
      generalize ((w.alloc (.cells #[.string ⟨#[]⟩] 9)).alloc (.cells #[.int .i64 0] 3)).alloc (.cells #[.int .i64 0] 25) = W0 at *
      have a0c : W0.cell? ⟨H, 0, none⟩ = some (.string ⟨#[]⟩) := (blk_cell HV0.out.b0 0).trans rfl
      have b0c : W0.cell? ⟨H + 1, 0, none⟩ = some (.int .i64 0) := (blk_cell HV0.out.b1 0).trans rfl
      have c0c : W0.cell? ⟨H + 1 + 1, 0, none⟩ = some (.int .i64 0) := (blk_cell HV0.out.b2 0).trans rfl
      have fa := blk_frozen HV0.out.b0 0
      have fb := blk_frozen HV0.out.b1 0
      have fc := blk_frozen HV0.out.b2 0
      have HF := Aside0.mk (HV0.out.put (s' := ⟨#[]⟩) (x' := 0) (y' := 2) (Nat.le_of_eq hH.symm))
      go_wp2_with fail
      exact ⟨_, val_ret _ HF.out.b0 HF.out.b1 HF.out.b2 rfl rfl rfl, rfl, by rw [hH]; exact HF.out.bl⟩
    · rw [if_neg (by rintro (e | e); omega; exact hq e)] at h
      have h := Option.some.inj h
      generalize hy : bt a0 0 = y at hx hq
      have hor : y = 39 ∨ y = 34 := by omega
      have HLT := Lib.hid (fun W m hW => scan_literal_m.calls (w.heap.size + 1 + 1 + 1) a0 m 0 1 W (by omega) (by omega) (by omega) hW)
      rw [List.drop_zero] at HLT
      clear HSE hlb h0 hbig v0 hq hy
      cases hst : S.litTok (bytesOf a0) with
      | err c =>
        rw [hst] at h HLT
        simp only [valRes, Prod.mk.injEq] at h
        obtain ⟨rfl, rfl, rfl⟩ := h
        clear hst
        rcases hor with rfl | rfl
        all_goals
          go_enter_defers Tryz.func32, Tryz.ntmps32
          go_upto_region 1 with (fail)
          obtain ⟨H, hH⟩ : ∃ H, w.heap.size = H := ⟨_, rfl⟩
          rw [hH] at HV0 vs HLT ⊢
          generalize ((w.alloc (.cells #[.string ⟨#[]⟩] 9)).alloc (.cells #[.int .i64 0] 3)).alloc (.cells #[.int .i64 0] 25) = W0 at *
          have a0c : W0.cell? ⟨H, 0, none⟩ = some (.string ⟨#[]⟩) := (blk_cell HV0.out.b0 0).trans rfl
          have b0c : W0.cell? ⟨H + 1, 0, none⟩ = some (.int .i64 0) := (blk_cell HV0.out.b1 0).trans rfl
          have c0c : W0.cell? ⟨H + 1 + 1, 0, none⟩ = some (.int .i64 0) := (blk_cell HV0.out.b2 0).trans rfl
          have fa := blk_frozen HV0.out.b0 0
          have fb := blk_frozen HV0.out.b1 0
          have fc := blk_frozen HV0.out.b2 0
          have hsc : Sc (H + 1 + 1 + 1) a0 ((0 : Nat) : Int) ((1 : Nat) : Int) (.map none) (W0.alloc (.cells #[.string a0, .int .i64 0, .int .i64 1, .map none] 93)) := by
            have := heap_alloc_new W0 (.cells #[.string a0, .int .i64 0, .int .i64 1, .map none] 93)
            rw [vs] at this
            exact this
          have HSC := Aside0.mk hsc
          have HVA := Aside0.mk (HV0.out.but (A := fun k => H + 3 ≤ k) ((But.refl _ W0).alloc (.cells #[.string a0, .int .i64 0, .int .i64 1, .map none] 93)) (Nat.le_of_eq hH.symm) (fun k e => e))
          clear hsc a0c b0c c0c fa fb fc
          go_wp2_with (go_at_call 70; refine (HLT.out _ _ HSC.out).mono ?_; rintro e w3 ⟨hb3, hp3⟩; obtain ⟨rfl, _⟩ := (show _ ∧ _ from hp3); unfold Fails)
          have HV3 := HVA.out.but hb3 (Nat.le_of_eq hH.symm) (fun k e => by have := show k = H + 1 + 1 + 1 from e; omega)
          refine leaves_cons (f := 69) (args := #[.pointer (some ⟨H, 0, none⟩), .pointer (some ⟨H + 1, 0, none⟩), .pointer (some ⟨H + 1 + 1, 0, none⟩)]) (by simp) (by simp [go_sem]) ?_
          refine (value_panic c 1 w3 HV3.b0 HV3.b1 HV3.b2 ⟨by omega, by omega, by omega⟩).mono ?_
          rintro e u' w'' ⟨rfl, rfl, k0, k1, k2, hb4⟩
          simp only [Leaves, settle, List.dropWhile_nil]
          have hbl := HV3.bl.trans (hb4.belowB (B := H) (by have := HV3.bl.size; omega) (fun k hk e => by rcases e with e | e | e <;> omega))
          exact ⟨_, val_ret _ k0 k1 k2 rfl rfl rfl, rfl, by rw [hH]; exact hbl⟩
      | ok t m =>
        rw [hst] at h HLT
        clear hst
        rcases hor with rfl | rfl
        all_goals
          go_enter_defers Tryz.func32, Tryz.ntmps32
          go_upto_region 1 with (fail)
          obtain ⟨H, hH⟩ : ∃ H, w.heap.size = H := ⟨_, rfl⟩
          rw [hH] at HV0 vs HLT ⊢
          generalize ((w.alloc (.cells #[.string ⟨#[]⟩] 9)).alloc (.cells #[.int .i64 0] 3)).alloc (.cells #[.int .i64 0] 25) = W0 at *
          have hsc : Sc (H + 1 + 1 + 1) a0 ((0 : Nat) : Int) ((1 : Nat) : Int) (.map none) (W0.alloc (.cells #[.string a0, .int .i64 0, .int .i64 1, .map none] 93)) := by
            have := heap_alloc_new W0 (.cells #[.string a0, .int .i64 0, .int .i64 1, .map none] 93)
            rw [vs] at this
            exact this
          have HSC := Aside0.mk hsc
          have HVA := Aside0.mk (HV0.out.but (A := fun k => H + 3 ≤ k) ((But.refl _ W0).alloc (.cells #[.string a0, .int .i64 0, .int .i64 1, .map none] 93)) (Nat.le_of_eq hH.symm) (fun k e => e))
          clear hsc
          have HHH := Aside0.mk hH
          have HPP : Aside0 (∀ w3 : World, But (· = H + 1 + 1 + 1) (W0.alloc (.cells #[.string a0, .int .i64 0, .int .i64 1, .map none] 93)) w3 → Vb w H ⟨#[]⟩ 0 0 w3) := ⟨fun w3 hb3 => HVA.out.but hb3 (Nat.le_of_eq hH.symm) (fun k e => by have := show k = H + 1 + 1 + 1 from e; omega)⟩
          have hxa : Aside0 (((a0[0]'hl).toNat : Int) = _) := ⟨hx⟩
          go_upto_region 6 with (go_at_call 70; refine (HLT.out _ _ HSC.out).mono ?_; rintro e w3 ⟨hb3, hp3⟩; obtain ⟨rfl, hs3⟩ := (show _ ∧ _ from hp3); have HV3 := HPP.out _ hb3; have a0c : w3.cell? ⟨H, 0, none⟩ = some (.string ⟨#[]⟩) := (blk_cell HV3.b0 0).trans rfl; have fa := blk_frozen HV3.b0 0)
          rw [Nat.zero_add] at hs3
          have HV4 := Aside0.mk (HV3.put1 (s' := strOfNums t) (Nat.le_of_eq HHH.out.symm))
          have hs4 : Sc (H + 1 + 1 + 1) a0 m ((1 : Nat) : Int) (.map none) (w3.setCell ⟨H, 0, none⟩ (.string (strOfNums t))) := (Below.heap_setCell w3 ⟨H, 0, none⟩ (.string (strOfNums t)) (H + 1 + 1 + 1) (by show H + 1 + 1 + 1 ≠ H; omega)).trans hs3
          clear hp3 hb3 hs3 HV3 a0c fa HPP HSC HVA HLT hxa hx hl HV0 vs he
          obtain ⟨st, hst⟩ : ∃ st, strOfNums t = st := ⟨_, rfl⟩
          simp only [hst] at HV4 hs4 h ⊢
          generalize w3.setCell ⟨H, 0, none⟩ (.string st) = w4 at *
          have a0c : w4.cell? ⟨H, 0, none⟩ = some (.string st) := (blk_cell HV4.out.b0 0).trans rfl
          have b0c : w4.cell? ⟨H + 1, 0, none⟩ = some (.int .i64 0) := (blk_cell HV4.out.b1 0).trans rfl
          have c0c : w4.cell? ⟨H + 1 + 1, 0, none⟩ = some (.int .i64 0) := (blk_cell HV4.out.b2 0).trans rfl
          have fa := blk_frozen HV4.out.b0 0
          have fb := blk_frozen HV4.out.b1 0
          have fc := blk_frozen HV4.out.b2 0
          have d1 := hs4.c1
          clear hs4
          by_cases hm : m < n
          · have g3 : decide ((m : Int) < (n : Int)) = true := decide_eq_true (by omega)
            have g4 : decide (m < n) = true := decide_eq_true hm
            simp only [valRes] at h
            rw [if_pos (by omega)] at h
            simp only [Prod.mk.injEq] at h
            obtain ⟨rfl, rfl, rfl⟩ := h
            have HF := Aside0.mk (HV4.out.put (s' := ⟨#[]⟩) (x' := 0) (y' := 2) (Nat.le_of_eq HHH.out.symm))
            clear hH
            go_wp2_with fail
            refine leaves_cons (f := 69) (args := #[.pointer (some ⟨H, 0, none⟩), .pointer (some ⟨H + 1, 0, none⟩), .pointer (some ⟨H + 1 + 1, 0, none⟩)]) (by simp) (by simp [go_sem]) ?_
            refine (value_idle _ _ _ _).mono ?_
            rintro e u' w'' ⟨rfl, rfl, rfl⟩
            simp only [Leaves, settle]
            exact ⟨_, val_ret _ HF.out.b0 HF.out.b1 HF.out.b2 rfl rfl rfl, rfl, by rw [HHH.out]; exact HF.out.bl⟩
          · have g3 : decide ((m : Int) < (n : Int)) = false := decide_eq_false (by omega)
            have g4 : decide (m < n) = false := decide_eq_false hm
            simp only [valRes] at h
            rw [if_neg (by omega)] at h
            simp only [Prod.mk.injEq, hst] at h
            obtain ⟨rfl, rfl, rfl⟩ := h
            have HF := Aside0.mk (HV4.out.put (s' := st) (x' := 0) (y' := 0) (Nat.le_of_eq HHH.out.symm))
            clear hH
            go_wp2_with fail
            refine leaves_cons (f := 69) (args := #[.pointer (some ⟨H, 0, none⟩), .pointer (some ⟨H + 1, 0, none⟩), .pointer (some ⟨H + 1 + 1, 0, none⟩)]) (by simp) (by simp [go_sem]) ?_
            refine (value_idle _ _ _ _).mono ?_
            rintro e u' w'' ⟨rfl, rfl, rfl⟩
            simp only [Leaves, settle]
            exact ⟨_, val_ret _ HF.out.b0 HF.out.b1 HF.out.b2 rfl rfl rfl, rfl, by rw [HHH.out]; exact HF.out.bl⟩
end Go.Proofs.YtkkpjonfaflkmaaGreatDoor.T

-- Written by a program of this session (mp.py over the kit's print.py), out of the translation.
namespace Go.Proofs.YtkkpjonfaflkmaaGreatDoor.T
set_option linter.unusedSimpArgs false
open Go.RowKit Go.Proofs.YtkkpjonfaflkmaaGreatDoorW.PrintWords Go.Proofs.YtkkpjonfaflkmaaGreatDoorW.PrintLast Go.Proofs.YtkkpjonfaflkmaaGreatDoorW.PrintMore
attribute [local go_sem] max2_int min2_int max_two min_two max_three min_three max_four min_four   -- for this text's walks alone
set_option linter.unusedVariables false
set_option linter.unusedSimpArgs false

/-! ### scan_Split: function 27 -/
def scan_Split.f (a0 : ByteArray) : Option (ByteArray × List ByteArray × Int) := (scan_Symbol.f a0).bind fun bt136 => (if bt136.2.2 = 0 then (if bt136.2.1 = 3 then (some (bt136.1, ([] : List ByteArray), 0)) else (if bt136.2.1 = 4 then ((strings_Cut.f bt136.1 (⟨#[46]⟩ : ByteArray)).bind fun bt139 => (if bt139.1.size + 1 ≤ 9223372036854775807 then ((strings_Split.f bt139.2.1 (⟨#[46]⟩ : ByteArray)).bind fun t142 => (some (bt139.1 ++ (⟨#[46]⟩ : ByteArray), t142, 0))) else (none))) else (some ((⟨#[]⟩ : ByteArray), ([] : List ByteArray), 2)))) else (some ((⟨#[]⟩ : ByteArray), ([] : List ByteArray), bt136.2.2)))
set_option maxHeartbeats 8000000 in
set_option maxRecDepth 100000 in
theorem scan_Split.calls (a0 : ByteArray) (r1 : ByteArray) (r2 : List ByteArray) (r3 : Int) (w : World) (hT : TabOK w) (h : scan_Split.f a0 = some (r1, r2, r3)) :
    Calls Tryz.prog 27 #[.string a0] w fun e w' => ∃ v1_ : Value, e = .returned (.tuple #[.string r1, v1_, .int .i64 r3]) ∧ Kd.R Kd.string 9 w' w.heap.size (fun _ => True) v1_ r2 ∧ Below w.heap.size w w' := by
  have HB := Aside0.mk (Below.refl w.heap.size w)
  have H : ((scan_Symbol.f a0).bind fun bt136 => (if bt136.2.2 = 0 then (if bt136.2.1 = 3 then (some (bt136.1, ([] : List ByteArray), 0)) else (if bt136.2.1 = 4 then ((strings_Cut.f bt136.1 (⟨#[46]⟩ : ByteArray)).bind fun bt139 => (if bt139.1.size + 1 ≤ 9223372036854775807 then ((strings_Split.f bt139.2.1 (⟨#[46]⟩ : ByteArray)).bind fun t142 => (some (bt139.1 ++ (⟨#[46]⟩ : ByteArray), t142, 0))) else (none))) else (some ((⟨#[]⟩ : ByteArray), ([] : List ByteArray), 2)))) else (some ((⟨#[]⟩ : ByteArray), ([] : List ByteArray), bt136.2.2)))) = some (r1, r2, r3) := h
  clear h
  replace H := Option.bind_eq_some_iff.mp H
  obtain ⟨⟨t136, t137, t138⟩, A20, H⟩ := H
  replace H : (if t138 = 0 then (if t137 = 3 then (some (t136, ([] : List ByteArray), 0)) else (if t137 = 4 then ((strings_Cut.f t136 (⟨#[46]⟩ : ByteArray)).bind fun bt139 => (if bt139.1.size + 1 ≤ 9223372036854775807 then ((strings_Split.f bt139.2.1 (⟨#[46]⟩ : ByteArray)).bind fun t142 => (some (bt139.1 ++ (⟨#[46]⟩ : ByteArray), t142, 0))) else (none))) else (some ((⟨#[]⟩ : ByteArray), ([] : List ByteArray), 2)))) else (some ((⟨#[]⟩ : ByteArray), ([] : List ByteArray), t138))) = some (r1, r2, r3) := H
  have A2 := Aside0.mk A20
  clear A20
  by_cases c3 : t138 = 0
  · rw [if_pos c3] at H
    have c3b0 : (t138 == 0) = true := beq_iff_eq.mpr c3
    have c3b1 : (t138 != 0) = false := bne_eq_false_iff_eq.mpr c3
    clear c3
    by_cases c4 : t137 = 3
    · rw [if_pos c4] at H
      have c4b0 : (t137 == 3) = true := beq_iff_eq.mpr c4
      have c4b1 : (t137 != 3) = false := bne_eq_false_iff_eq.mpr c4
      clear c4
      simp only [Option.some.injEq, Prod.mk.injEq] at H
      obtain ⟨rfl, rfl, rfl⟩ := H
      go_enter Tryz.func27, Tryz.ntmps27
      go_wp2_with (first | ((with_reducible refine gate_callee (f := 25) rfl ?_); refine goesL_ (some 13) rfl rfl Tryz.func25 (by kernel_rfl) rfl #[.string a0] rfl (by (try simp only [List.map_toArray, List.map_cons, List.map_nil]); first | done | rfl | (simp only [List.length_drop, List.length_take]; rfl)) ?_; (with_reducible refine (scan_Symbol.calls a0 t136 t137 t138 _ A2.out).mono ?_); rintro e w5 ⟨rfl, hb⟩; refine ⟨_, rfl, ?_⟩; have n0_ := Aside0.mk (below_step (by repeat (first | (with_reducible first | exact HB.out | apply below_alloc | apply pw_below_drewN | apply below_drew1) | exact HB.out)) hb); clear HB; have HB := n0_; clear n0_; (try clear hb); (try clear hb2); (try clear hk); (try clear hi)))
      go_ret3
      exact ⟨_, by first | rfl | (simp [errW_none, errW_some] <;> rfl) | (simp [*, errW_none, errW_some] <;> rfl), by first | exact Kd.R_nil _ _ _ _ _ | exact Kd.N_nil _ _ _ _ _ | exact Kd.V_nil _ _ _ _ _ | exact Kd.Q_nil _ _ _ _ _ | exact Kd.S_nil _ _ _ _ _, by repeat (first | (with_reducible first | exact HB.out | apply below_alloc | apply pw_below_drewN | apply below_drew1) | exact HB.out)⟩
    · rw [if_neg c4] at H
      have c4b0 : (t137 == 3) = false := beq_eq_false_iff_ne.mpr c4
      have c4b1 : (t137 != 3) = true := bne_iff_ne.mpr c4
      by_cases c6 : t137 = 4
      · rw [if_pos c6] at H
        have c6b0 : (t137 == 4) = true := beq_iff_eq.mpr c6
        have c6b1 : (t137 != 4) = false := bne_eq_false_iff_eq.mpr c6
        clear c6
        replace H := Option.bind_eq_some_iff.mp H
        obtain ⟨⟨t139, t140, t141⟩, A70, H⟩ := H
        replace H : (if t139.size + 1 ≤ 9223372036854775807 then ((strings_Split.f t140 (⟨#[46]⟩ : ByteArray)).bind fun t142 => (some (t139 ++ (⟨#[46]⟩ : ByteArray), t142, 0))) else (none)) = some (r1, r2, r3) := H
        have A7 := Aside0.mk A70
        clear A70
        by_cases c8 : t139.size + 1 ≤ 9223372036854775807
        · rw [if_pos c8] at H
          have c8b0 := eq_true c8
          have c8b1 : decide (t139.size + 1 ≤ 9223372036854775807) = true := decide_eq_true c8
          try have c8b2 : (9223372036854775807 < t139.size + 1) = False := eq_false (Nat.not_lt.2 c8)
          replace H := Option.bind_eq_some_iff.mp H
          obtain ⟨t142, A90, H⟩ := H
          replace H : (some (t139 ++ (⟨#[46]⟩ : ByteArray), t142, 0)) = some (r1, r2, r3) := H
          have A9 := Aside0.mk A90
          clear A90
          simp only [Option.some.injEq, Prod.mk.injEq] at H
          obtain ⟨rfl, rfl, rfl⟩ := H
          go_enter Tryz.func27, Tryz.ntmps27
          go_wp2_with (first | ((with_reducible refine gate_callee (f := 25) rfl ?_); refine goesL_ (some 13) rfl rfl Tryz.func25 (by kernel_rfl) rfl #[.string a0] rfl (by (try simp only [List.map_toArray, List.map_cons, List.map_nil]); first | done | rfl | (simp only [List.length_drop, List.length_take]; rfl)) ?_; (with_reducible refine (scan_Symbol.calls a0 t136 t137 t138 _ A2.out).mono ?_); rintro e w10 ⟨rfl, hb⟩; refine ⟨_, rfl, ?_⟩; have n0_ := Aside0.mk (below_step (by repeat (first | (with_reducible first | exact HB.out | apply below_alloc | apply pw_below_drewN | apply below_drew1) | exact HB.out)) hb); clear HB; have HB := n0_; clear n0_; (try clear hb); (try clear hb2); (try clear hk); (try clear hi)) | ((with_reducible refine gate_callee (f := 61) rfl ?_); refine goesL_ (some 30) rfl rfl Tryz.func61 (by kernel_rfl) rfl #[.string t136, .string (⟨#[46]⟩ : ByteArray)] rfl (by (try simp only [List.map_toArray, List.map_cons, List.map_nil]); first | done | rfl | (simp only [List.length_drop, List.length_take]; rfl)) ?_; (with_reducible refine (strings_Cut.calls t136 (⟨#[46]⟩ : ByteArray) t139 t140 t141 _ (TabOK.of_below hT (by repeat (first | (with_reducible first | exact HB.out | apply below_alloc | apply pw_below_drewN | apply below_drew1) | exact HB.out))) A7.out).mono ?_); rintro e w' ⟨rfl, ⟨nd, rfl⟩⟩; refine ⟨_, rfl, ?_⟩) | ((with_reducible refine gate_callee (f := 62) rfl ?_); refine goesL_ (some 37) rfl rfl Tryz.func62 (by kernel_rfl) rfl #[.string t140, .string (⟨#[46]⟩ : ByteArray)] rfl (by (try simp only [List.map_toArray, List.map_cons, List.map_nil]); first | done | rfl | (simp only [List.length_drop, List.length_take]; rfl)) ?_; (with_reducible refine (strings_Split.calls t140 (⟨#[46]⟩ : ByteArray) t142 _ (TabOK.of_below hT (by repeat (first | (with_reducible first | exact HB.out | apply below_alloc | apply pw_below_drewN | apply below_drew1) | exact HB.out))) A9.out).mono ?_); rintro e w11 ⟨v143, rfl, ho0, hb⟩; refine ⟨_, rfl, ?_⟩; have n0_ := Aside0.mk (Kd.R_lower ho0 (below_size (by repeat (first | (with_reducible first | exact HB.out | apply below_alloc | apply pw_below_drewN | apply below_drew1) | exact HB.out)))); have n1_ := Aside0.mk (below_step (by repeat (first | (with_reducible first | exact HB.out | apply below_alloc | apply pw_below_drewN | apply below_drew1) | exact HB.out)) hb); clear HB; have HO144 := n0_; have HB := n1_; clear n0_ n1_; (try clear hb); (try clear hb2); (try clear hk); (try clear hi); (try clear ho0)))
          go_ret3
          exact ⟨_, by first | rfl | (simp [errW_none, errW_some] <;> rfl) | (simp [*, errW_none, errW_some] <;> rfl), by (with_reducible repeat (first | apply Kd.R_alloc | apply Kd.R_drewN | apply Kd.R_drew)); exact HO144.out, by repeat (first | (with_reducible first | exact HB.out | apply below_alloc | apply pw_below_drewN | apply below_drew1) | exact HB.out)⟩
        · rw [if_neg c8] at H
          exact absurd H (by simp)
      · rw [if_neg c6] at H
        have c6b0 : (t137 == 4) = false := beq_eq_false_iff_ne.mpr c6
        have c6b1 : (t137 != 4) = true := bne_iff_ne.mpr c6
        simp only [Option.some.injEq, Prod.mk.injEq] at H
        obtain ⟨rfl, rfl, rfl⟩ := H
        go_enter Tryz.func27, Tryz.ntmps27
        go_wp2_with (first | ((with_reducible refine gate_callee (f := 25) rfl ?_); refine goesL_ (some 13) rfl rfl Tryz.func25 (by kernel_rfl) rfl #[.string a0] rfl (by (try simp only [List.map_toArray, List.map_cons, List.map_nil]); first | done | rfl | (simp only [List.length_drop, List.length_take]; rfl)) ?_; (with_reducible refine (scan_Symbol.calls a0 t136 t137 t138 _ A2.out).mono ?_); rintro e w12 ⟨rfl, hb⟩; refine ⟨_, rfl, ?_⟩; have n0_ := Aside0.mk (below_step (by repeat (first | (with_reducible first | exact HB.out | apply below_alloc | apply pw_below_drewN | apply below_drew1) | exact HB.out)) hb); clear HB; have HB := n0_; clear n0_; (try clear hb); (try clear hb2); (try clear hk); (try clear hi)))
        go_ret3
        exact ⟨_, by first | rfl | (simp [errW_none, errW_some] <;> rfl) | (simp [*, errW_none, errW_some] <;> rfl), by first | exact Kd.R_nil _ _ _ _ _ | exact Kd.N_nil _ _ _ _ _ | exact Kd.V_nil _ _ _ _ _ | exact Kd.Q_nil _ _ _ _ _ | exact Kd.S_nil _ _ _ _ _, by repeat (first | (with_reducible first | exact HB.out | apply below_alloc | apply pw_below_drewN | apply below_drew1) | exact HB.out)⟩
  · rw [if_neg c3] at H
    have c3b0 : (t138 == 0) = false := beq_eq_false_iff_ne.mpr c3
    have c3b1 : (t138 != 0) = true := bne_iff_ne.mpr c3
    simp only [Option.some.injEq, Prod.mk.injEq] at H
    obtain ⟨rfl, rfl, rfl⟩ := H
    go_enter Tryz.func27, Tryz.ntmps27
    go_wp2_with (first | ((with_reducible refine gate_callee (f := 25) rfl ?_); refine goesL_ (some 13) rfl rfl Tryz.func25 (by kernel_rfl) rfl #[.string a0] rfl (by (try simp only [List.map_toArray, List.map_cons, List.map_nil]); first | done | rfl | (simp only [List.length_drop, List.length_take]; rfl)) ?_; (with_reducible refine (scan_Symbol.calls a0 t136 t137 t138 _ A2.out).mono ?_); rintro e w13 ⟨rfl, hb⟩; refine ⟨_, rfl, ?_⟩; have n0_ := Aside0.mk (below_step (by repeat (first | (with_reducible first | exact HB.out | apply below_alloc | apply pw_below_drewN | apply below_drew1) | exact HB.out)) hb); clear HB; have HB := n0_; clear n0_; (try clear hb); (try clear hb2); (try clear hk); (try clear hi)))
    go_ret3
    exact ⟨_, by first | rfl | (simp [errW_none, errW_some] <;> rfl) | (simp [*, errW_none, errW_some] <;> rfl), by first | exact Kd.R_nil _ _ _ _ _ | exact Kd.N_nil _ _ _ _ _ | exact Kd.V_nil _ _ _ _ _ | exact Kd.Q_nil _ _ _ _ _ | exact Kd.S_nil _ _ _ _ _, by repeat (first | (with_reducible first | exact HB.out | apply below_alloc | apply pw_below_drewN | apply below_drew1) | exact HB.out)⟩

end Go.Proofs.YtkkpjonfaflkmaaGreatDoor.T

/- scan.Clauses: the range over the clauses. -/
namespace Go.Proofs.YtkkpjonfaflkmaaGreatDoor.T
set_option linter.unusedSimpArgs false
set_option linter.unusedVariables false
open Go.RowKit Go.Maps Go.Proofs.YtkkpjonfaflkmaaGreatDoorW.PrintWords Go.Proofs.YtkkpjonfaflkmaaGreatDoorW.PrintLast Go.Proofs.YtkkpjonfaflkmaaGreatDoorW.PrintMore
attribute [local go_sem] Oper.semAt_some

/-- The headers hs are the lists cls, their rows lie in blocks of G. -/
def Hdrs (G : Nat → Prop) (W : World) (hs : List Value) (cls : List (List S.Tk)) : Prop :=
  hs.length = cls.length ∧ ∀ (j : Nat) (h : Value) (c : List S.Tk), hs[j]? = some h → cls[j]? = some c → ∃ g cs, h = .slice (some ⟨g, 0, none⟩) c.length c.length ∧ G g ∧ W.heap[g]? = some (.cells cs 53 (0, 0)) ∧ cs.toList.take (c.length * 6) = tksL c ∧ c.length ≤ 300000
structure ClI (w0 : World) (H : Nat) (rd : Loop) (v : Value) (hs : List Value) (G : Nat → Prop) (pre : List (List S.Tk)) (W : World) : Prop where
  out : W.heap[H]? = some (.cells #[v] 31 (0, 0))
  dfr : W.heap[H + 4]? = some (.deferred (some []))
  lop : W.heap[H + 5]? = some (.loop rd)
  own : W.ownsRow (H + 6) 24 1 v hs.length hs
  els : Hdrs G W hs (pre.map List.dropLast)
  one : ∀ u ∈ hs, u.oneCell' = true
  pne : pre.length ≤ pre.flatten.length
  gs : ∀ g, G g → H ≤ g ∧ g < W.heap.size ∧ v.ownBlock ≠ some g ∧ g ≠ H ∧ g ≠ H + 4 ∧ g ≠ H + 5
  below : Below H w0 W
def ClF (H : Nat) (v : Value) (G : Nat → Prop) (k : Nat) : Prop := k < H ∨ k = H ∨ k = H + 4 ∨ k = H + 5 ∨ v.ownBlock = some k ∨ G k
def ClJ (w0 : World) (H : Nat) (rd : Loop) (pre : List (List S.Tk)) (F : Nat → Prop) (W : World) : Prop := ∃ v hs G, F = ClF H v G ∧ ClI w0 H rd v hs G pre W
theorem Hdrs.keep {G : Nat → Prop} {W W' : World} {hs : List Value} {cls : List (List S.Tk)} (h : Hdrs G W hs cls) (hk : ∀ g, G g → g < W.heap.size → W'.heap[g]? = W.heap[g]?) : Hdrs G W' hs cls :=
  ⟨h.1, fun j u c hu hc => by
    obtain ⟨g, cs, e1, e2, e3, e4⟩ := h.2 j u c hu hc
    exact ⟨g, cs, e1, e2, (hk g e2 (Array.getElem?_eq_some_iff.1 e3).1).trans e3, e4⟩⟩
theorem ClI.lw {w0 : World} {H : Nat} {rd : Loop} {v : Value} {hs : List Value} {G : Nat → Prop} {pre : List (List S.Tk)} {W : World} (h : ClI w0 H rd v hs G pre W) : H + 5 < W.heap.size := (Array.getElem?_eq_some_iff.1 h.lop).1
theorem own_butE {W W' : World} {e base n size : Nat} {v : Value} {xs : List Value} {A : Nat → Prop} (h : W.ownsRow base e size v n xs) (hb : But A W W') (hA : ∀ k, A k → v.ownBlock ≠ some k) : W'.ownsRow base e size v n xs := by
  obtain ⟨h1, h2⟩ := h
  refine ⟨h1, h2.imp id ?_⟩
  rintro ⟨g, cap, cur, hv, hbg, hg, rest⟩
  have hlt : g < W.heap.size := (Array.getElem?_eq_some_iff.1 hg).1
  exact ⟨g, cap, cur, hv, hbg, (hb.block g hlt (fun e => hA g e (by rw [hv]; rfl))).trans hg, rest⟩
theorem ClI.keep {w0 : World} {H : Nat} {rd : Loop} {v : Value} {hs : List Value} {G : Nat → Prop} {pre : List (List S.Tk)} {W W' : World} (h : ClI w0 H rd v hs G pre W) (hb : But (fun k => ¬ ClF H v G k) W W') : ClI w0 H rd v hs G pre W' := by
  have hlw := h.lw
  have hk : ∀ k, ClF H v G k → k < W.heap.size → W'.heap[k]? = W.heap[k]? := fun k hf hl => hb.block k hl (fun e => e hf)
  exact ⟨(hk H (.inr (.inl rfl)) (by omega)).trans h.out, (hk _ (.inr (.inr (.inl rfl))) (by omega)).trans h.dfr, (hk _ (.inr (.inr (.inr (.inl rfl)))) (by omega)).trans h.lop, own_butE h.own hb (fun k e e2 => e (.inr (.inr (.inr (.inr (.inl e2)))))),
    h.els.keep (fun g hg hl => hk g (.inr (.inr (.inr (.inr (.inr hg))))) hl), h.one, h.pne, fun g hg => by obtain ⟨a, b, c⟩ := h.gs g hg; exact ⟨a, Nat.lt_of_lt_of_le b hb.size, c⟩, h.below.trans (hb.belowB (by omega) (fun k hk e => e (.inl hk)))⟩
theorem TkI_cbE {WB w1 : World} {OB t : Nat} {cs : Array Value} {vo : Value} (hg : WB.grownBy w1 vo.ownBlock) (h : WB.heap[OB]? = some (.cells cs t (0, 0))) (hne : ∀ k, vo.ownBlock = some k → k ≠ OB) : w1.heap[OB]? = some (.cells cs t (0, 0)) :=
  (hg.block OB (Array.getElem?_eq_some_iff.1 h).1 (fun e => hne OB e.symm rfl)).trans h
/-- One clause more: its row lies in g2. -/
theorem ClI.next {w0 : World} {H g2 c2 : Nat} {rd rb : Loop} {v v' : Value} {hs : List Value} {G : Nat → Prop} {pre : List (List S.Tk)} {cl : List S.Tk} {base : Nat} {W X w1 : World} (h : ClI w0 H rd v hs G pre W) (hne : cl ≠ []) (hrow : W.ownsRow base 53 6 (.slice (some ⟨g2, 0, none⟩) cl.length c2) cl.length (tksL cl))
    (hdis : ∀ k, ClF H v G k → k ≠ g2) (hcl : cl.length ≤ 300000) (hX : But (fun _ => False) (W.putObj (H + 5) (.loop rb)) X)
    (ho : w1.ownsRow (H + 6) 24 1 v' (hs.length + 1) (hs ++ [.slice (some ⟨g2, 0, none⟩) (cl.length - 1) (cl.length - 1)])) (hg : X.grownBy w1 v.ownBlock) (hv : v'.ownBlock = v.ownBlock ∨ v'.ownBlock = some X.heap.size) :
    (w1.setCell ⟨H, 0, none⟩ v').heap[H + 5]? = some (.loop rb) ∧ (ClJ w0 H rd (pre ++ [cl]) (ClF H v' (fun k => G k ∨ k = g2)) ((w1.setCell ⟨H, 0, none⟩ v').putObj (H + 5) (.loop rd)) ∧ But (ClF H v G) W ((w1.setCell ⟨H, 0, none⟩ v').putObj (H + 5) (.loop rd)) ∧ ∀ k, ClF H v' (fun k => G k ∨ k = g2) k → ClF H v G k ∨ W.heap.size ≤ k ∨ k = g2) := by
  have hlw := h.lw
  have hge : ∀ k, v.ownBlock = some k → H + 6 ≤ k := fun k e => (h.own.lt k e).1
  have hge' : ∀ k, v'.ownBlock = some k → H + 6 ≤ k := fun k e => (ho.lt k e).1
  have hpl : (W.putObj (H + 5) (.loop rb)).heap.size = W.heap.size := World.putObj_size
  have b1 : But (fun k => k = H + 5 ∨ k = H ∨ v.ownBlock = some k) W (W.putObj (H + 5) (.loop rb)) := (But.refl (fun k => k = H + 5 ∨ k = H ∨ v.ownBlock = some k) W).putObj _ _ (.inl rfl)
  have b1x := b1.trans hX (C := fun k => k = H + 5 ∨ k = H ∨ v.ownBlock = some k) (fun _ _ e => e) (fun _ _ e => e.elim)
  have b2 := b1x.grown hg (fun k e => .inr (.inr e))
  have b3 := b2.set ⟨H, 0, none⟩ v' (.inr (.inl rfl))
  have b4 := b3.putObj (H + 5) (.loop rd) (.inl rfl)
  have hsX : W.heap.size ≤ X.heap.size := b1x.size
  have hs1 : W.heap.size ≤ w1.heap.size := b2.size
  have hl1 : w1.heap[H + 5]? = some (.loop rb) := (hg.block (H + 5) (by omega) (fun e => by have := hge _ e.symm; omega)).trans ((hX.block (H + 5) (by rw [hpl]; omega) (fun e => e)).trans (World.putObj_heap_same (by omega)))
  have hl2 : (w1.setCell ⟨H, 0, none⟩ v').heap[H + 5]? = some (.loop rb) := (Below.heap_setCell _ ⟨H, 0, none⟩ _ (H + 5) (by show H + 5 ≠ H; omega)).trans hl1
  have hg2l : g2 < W.heap.size := (hrow.lt g2 rfl).2
  have hnx : ∀ k, k ≠ H + 5 → k ≠ H → v.ownBlock ≠ some k → k < W.heap.size → ((w1.setCell ⟨H, 0, none⟩ v').putObj (H + 5) (.loop rd)).heap[k]? = W.heap[k]? := fun k a b c hl => b4.block k hl (fun e => by
    rcases e with e | e | e
    · exact a e
    · exact b e
    · exact c e)
  have hv5 : v.ownBlock ≠ some (H + 4) := fun e => by have := hge _ e; omega
  have hvg2 : v.ownBlock ≠ some g2 := fun e => hdis g2 (.inr (.inr (.inr (.inr (.inl e))))) rfl
  have hd1 := fun e : g2 = H => hdis g2 (.inr (.inl e)) rfl
  have hd2 := fun e : g2 = H + 4 => hdis g2 (.inr (.inr (.inl e))) rfl
  have hd3 := fun e : g2 = H + 5 => hdis g2 (.inr (.inr (.inr (.inl e)))) rfl
  have hd4 : H ≤ g2 := by
    rcases Nat.lt_or_ge g2 H with e | e
    · exact absurd rfl (hdis g2 (.inl e))
    · exact e
  refine ⟨hl2, ⟨v', hs ++ [.slice (some ⟨g2, 0, none⟩) (cl.length - 1) (cl.length - 1)], _, rfl, ?_, (hnx (H + 4) (by omega) (by omega) hv5 (by omega)).trans h.dfr, World.putObj_heap_same (Array.getElem?_eq_some_iff.1 hl2).1, ?_, ?_, ?_, ?_, ?_, h.below.trans (b4.belowB (by omega) (fun k hk e => by rcases e with e | e | e; omega; omega; have := hge k e; omega))⟩, b4.mono (fun k _ e => ?_), fun k hk => ?_⟩
  · refine (World.putObj_heap_other (by omega)).trans ?_
    exact blk_put (cs := #[v]) ((hg.block H (by omega) (fun e => by have := hge _ e.symm; omega)).trans ((hX.block H (by rw [hpl]; omega) (fun e => e)).trans ((World.putObj_heap_other (by omega)).trans h.out))) 0 _ rfl
  · rw [List.length_append]
    refine own_butE ho (((But.refl (fun k => k = H ∨ k = H + 5) w1).set ⟨H, 0, none⟩ v' (.inl rfl)).putObj (H + 5) (.loop rd) (.inr rfl)) (fun k e e2 => ?_)
    have := hge' k e2
    omega
  · refine ⟨by rw [List.length_append, List.map_append, List.length_append, h.els.1]; rfl, fun j u c hu hc => ?_⟩
    rw [List.map_append] at hc
    rcases Nat.lt_or_ge j hs.length with hj | hj
    · rw [List.getElem?_append_left hj] at hu
      rw [List.getElem?_append_left (by rw [← h.els.1]; exact hj)] at hc
      obtain ⟨g, cs, e1, e2, e3, e4⟩ := h.els.2 j u c hu hc
      obtain ⟨q1, q2, q3, q4, q5, q6⟩ := h.gs g e2
      exact ⟨g, cs, e1, .inl e2, (hnx g q6 q4 q3 q2).trans e3, e4⟩
    · rw [List.getElem?_append_right hj] at hu
      rw [List.getElem?_append_right (by rw [← h.els.1]; exact hj), ← h.els.1] at hc
      have hj0 : j - hs.length = 0 := by
        rcases Nat.lt_or_ge 0 (j - hs.length) with e | e
        · rw [List.getElem?_eq_none (by simp only [List.length_cons, List.length_nil]; omega)] at hu; cases hu
        · omega
      rw [hj0] at hu hc
      simp only [List.getElem?_cons_zero, Option.some.injEq, List.map_cons, List.map_nil] at hu hc
      subst hu hc
      rcases hrow.2 with ⟨e, _⟩ | ⟨g, cap, cs, e, _, hgg, _, _, _, htk⟩
      · cases e
      · simp only [Value.slice.injEq, Option.some.injEq, Addr.mk.injEq, and_true, true_and] at e
        obtain ⟨rfl, rfl⟩ := e
        refine ⟨g2, cs, by rw [List.length_dropLast], .inr rfl, (hnx g2 hd3 hd1 hvg2 hg2l).trans hgg, ?_, by rw [List.length_dropLast]; omega⟩
        have e1 : cl.dropLast = cl.take (cl.length - 1) := List.dropLast_eq_take
        rw [List.length_dropLast, e1, ← tksL_take, ← htk, List.take_take]
        congr 1
        have := List.length_pos_iff.2 hne
        omega
  · intro u hu
    rcases List.mem_append.1 hu with e | e
    · exact h.one u e
    · rw [List.mem_singleton.1 e]; rfl
  · have := h.pne
    have := List.length_pos_iff.2 hne
    simp only [List.flatten_append, List.flatten_cons, List.flatten_nil, List.append_nil, List.length_append, List.length_cons, List.length_nil]
    omega
  · intro g hgg
    have hsz4 : W.heap.size ≤ ((w1.setCell ⟨H, 0, none⟩ v').putObj (H + 5) (.loop rd)).heap.size := b4.size
    have hnv : ∀ k, k < W.heap.size → v.ownBlock ≠ some k → v'.ownBlock ≠ some k := fun k hk hn e => by
      rcases hv with hv | hv
      · exact hn (by rw [← hv, e])
      · rw [hv] at e; cases e; omega
    rcases hgg with e | rfl
    · obtain ⟨q1, q2, q3, q4, q5, q6⟩ := h.gs g e
      exact ⟨q1, by omega, hnv g q2 q3, q4, q5, q6⟩
    · exact ⟨hd4, by omega, hnv _ hg2l hvg2, hd1, hd2, hd3⟩
  · rcases e with e | e | e
    · exact .inr (.inr (.inr (.inl e)))
    · exact .inr (.inl e)
    · exact .inr (.inr (.inr (.inr (.inl e))))
  · rcases hk with e | e | e | e | e | e
    · exact .inl (.inl e)
    · exact .inl (.inr (.inl e))
    · exact .inl (.inr (.inr (.inl e)))
    · exact .inl (.inr (.inr (.inr (.inl e))))
    · rcases hv with hv | hv
      · exact .inl (.inr (.inr (.inr (.inr (.inl (by rw [← hv, e]))))))
      · rw [hv] at e; cases e; exact .inr (.inl (by omega))
    · rcases e with e | e
      · exact .inl (.inr (.inr (.inr (.inr (.inr e)))))
      · exact .inr (.inr e)
end Go.Proofs.YtkkpjonfaflkmaaGreatDoor.T

/- scan.Clauses: the walk. -/
namespace Go.Proofs.YtkkpjonfaflkmaaGreatDoor.T
set_option linter.unusedSimpArgs false
set_option linter.unusedVariables false
open Go.RowKit Go.Maps Go.Proofs.YtkkpjonfaflkmaaGreatDoorW.PrintWords Go.Proofs.YtkkpjonfaflkmaaGreatDoorW.PrintLast Go.Proofs.YtkkpjonfaflkmaaGreatDoorW.PrintMore
attribute [local go_sem] Oper.semAt_some

theorem stepIn_appendF {F : Fence} {n : Nat} {P : Program} {ops : Array Oper} {o : Oper} {a : Act} {w w' : World} {K : Act → World → Prop} {Q : Exit → Act → World → Prop} {E : Prop} (hgd : o.guard = none) (s x : Operand) (t : TypeId)
    (ho : o.op = .call { callee := .builtin .append, args := #[s, x], argTypes := #[t, t] }) (v u v' : Value) (hs : a.eval s = v) (hx : a.eval x = u)
    (hr : (Builtin.append_ #[t, t] o.type #[v, u]).run P w = .ok v' w') (hK : K (a.put o.dst v') w') : if Region.wanted o (yielded ops a.tmps) = true then Oper.wpIn F n P o a w K Q else E := by
  have hw : Region.wanted o (yielded ops a.tmps) = true := by simp [Region.wanted, hgd]
  rw [if_pos hw]
  unfold Oper.wpIn
  refine ⟨by simp [Oper.about, ho, resolve, Target.leads, Sem.run_pure], ?_⟩
  rw [Oper.semAt_plain F _ _ (by rw [ho]; intro c hc'; cases hc')]
  unfold execOp
  simp only [ho, resolve, invoke, builtin, Sem.run_bind, Sem.run_pure, Result.andThen_ok, List.map_toArray, List.map_cons, List.map_nil, hs, hx, hr]
  exact hK

/-- What Clauses returns. -/
def ClPost (H : Nat) (o : S.Out) (e : Ending) (w' : World) : Prop := match o.err with
  | some p => e = .returned (.tuple #[.slice none 0 0, .int .i64 p.1, .int .i64 p.2, .int .i64 7])
  | none => ∃ v hs G, e = .returned (.tuple #[v, .int .i64 0, .int .i64 0, .int .i64 0]) ∧ w'.ownsRow H 24 1 v hs.length hs ∧ Hdrs G w' hs (o.cl.map List.dropLast) ∧ ∀ g, G g → H ≤ g ∧ v.ownBlock ≠ some g
set_option maxRecDepth 100000 in
set_option maxHeartbeats 8000000 in
theorem scan_Clauses_m.calls (src : ByteArray) (w : World) (hsz : src.size ≤ 20000) (hT : TabOK w) (hne : ∀ c ln, (S.scan (bytesOf src)).err = some (c, ln) → c ≠ 0) :
    Calls Tryz.prog 19 #[.string src] w fun e w' => Below w.heap.size w w' ∧ ClPost w.heap.size (S.scan (bytesOf src)) e w' := by
  have hwf : ∀ f, Fence.wide.fn f := fun _ => trivial
  have HT := Aside0.mk hT
  have HNE := Aside0.mk hne
  clear hT hne
  obtain ⟨H, hH⟩ : ∃ H, w.heap.size = H := ⟨_, rfl⟩
  have HH := Aside0.mk hH
  have HCL := Lib.hid (fun W => clauses.calls src ⟨H + 1, 0, none⟩ W)
  have HLM := Lib.hid (scan_limited.calls src 0 w (by unfold scan_limited.f; rw [if_neg (by omega)]))
  refine (callsIn_wide (n := 8)).1 ?_
  refine callsIn_of_wp_marks Tryz.func19 rfl trivial ?_ rfl
  simp only [Tryz.ntmps19, List.size_toArray, List.length_cons, List.length_nil, Nat.reduceAdd, Nat.reduceSub, Array.replicate_succ, Array.replicate_zero, List.push_toArray, List.append_toArray, List.nil_append, List.cons_append]
  gi_wp2_with (first | (gi_at_call 50; refine (callsIn_wide.2 HLM.out).mono ?_; rintro e w' ⟨rfl, ⟨⟨q, rfl⟩⟩⟩) | (gi_at_call 53; refine (callsIn_wide.2 (HCL.out _)).mono ?_; rintro e w' ⟨rfl, rfl⟩))
  generalize hU : ((((w.drewN q).alloc _).alloc _).alloc _).alloc _ = U
  have hq : (w.drewN q).heap.size = H := hH
  have hUs : U.heap.size = H + 4 := by rw [← hU, ← hH]; simp
  have hUb : Below H w U := by rw [← hU, ← hH]; exact below_alloc (below_alloc (below_alloc (below_alloc (pw_below_drewN (Below.refl _ _) q) _) _) _) _
  have u0 : U.heap[H]? = some (.cells #[.slice none 0 0] 31 (0, 0)) := by
    rw [← hU, ← hH]; exact (Below.heap_alloc _ _ _ (by simp <;> omega)).trans ((Below.heap_alloc _ _ _ (by simp <;> omega)).trans ((Below.heap_alloc _ _ _ (by simp)).trans (heap_alloc_new (w.drewN q) _)))
  have u1 : U.heap[H + 1]? = some (.cells #[.int .i64 0, .int .i64 0] 76 (0, 0)) := by
    rw [← hU, ← hH]; refine (Below.heap_alloc _ _ _ (by simp <;> omega)).trans ((Below.heap_alloc _ _ _ (by simp)).trans ?_)
    have := heap_alloc_new ((w.drewN q).alloc (.cells #[.slice none 0 0] 31)) (.cells #[.int .i64 0, .int .i64 0] 76)
    rw [World.size_alloc] at this; exact this
  have u2 : U.heap[H + 2]? = some (.cells #[.string src] 9 (0, 0)) := by
    rw [← hU, ← hH]; refine (Below.heap_alloc _ _ _ (by simp)).trans ?_
    have := heap_alloc_new (((w.drewN q).alloc (.cells #[.slice none 0 0] 31)).alloc (.cells #[.int .i64 0, .int .i64 0] 76)) (.cells #[.string src] 9)
    rw [World.size_alloc, World.size_alloc] at this; exact this
  have u3 : U.heap[H + 3]? = some (.cells #[.pointer (some ⟨H + 1, 0, none⟩)] 88 (0, 0)) := by
    have := heap_alloc_new ((((w.drewN q).alloc (.cells #[.slice none 0 0] 31)).alloc (.cells #[.int .i64 0, .int .i64 0] 76)).alloc (.cells #[.string src] 9)) (.cells #[.pointer (some ⟨H + 1, 0, none⟩)] 88)
    rw [World.size_alloc, World.size_alloc, World.size_alloc, hq] at this
    rw [← hU]; exact this
  have hTU : TabOK U := HT.out.of_below (hUb.mono (by omega))
  clear hU
  refine rf_enter (F := Fence.wide) (n := 8) (gf := 87) rfl (by omega) rfl trivial iter_enters
    (fun Z => ∃ v hs G, Z.heap[H]? = some (.cells #[v] 31 (0, 0)) ∧ Z.heap[H + 4]? = some (.deferred (some [])) ∧ Z.ownsRow (H + 6) 24 1 v hs.length hs ∧ Hdrs G Z hs ((S.scan (bytesOf src)).cl.map List.dropLast) ∧ (∀ g, G g → H ≤ g ∧ v.ownBlock ≠ some g ∧ g ≠ H + 4 ∧ g ≠ H + 5) ∧ Below H w Z ∧ Z.heap[H + 1]? = some (.cells (errV (S.scan (bytesOf src)).err) 76 (0, 0)))
    (fun _ => False) ?hcall ?hready ?hdone
  case hdone => rintro Z r _ h; exact h.elim
  case hcall =>
    intro fn rd X hfn hrd hXs hXB x7 x8
    rw [hUs] at hXs hXB x7 x8 ⊢
    have hkx : ∀ k, k < H + 4 → X.heap[k]? = U.heap[k]? := fun k hk => hXB.block k (by omega)
    have hJ0 : ClJ w H rd [] (ClF H (.slice none 0 0) (fun _ => False)) X := ⟨_, [], _, rfl, (hkx _ (by omega)).trans u0, x7, x8, World.ownsRow_nil _ _ _ _, ⟨rfl, fun j u c hu _ => by simp at hu⟩, by simp, Nat.le_refl _, fun g e => e.elim, hUb.trans (hXB.mono (by omega))⟩
    have C : Client (H + 5) 5 (ClJ w H rd) := by
      refine ⟨?_, ?_, ?_⟩
      · rintro pre F W W' ⟨v, hs, G, rfl, hI⟩ hb
        exact ⟨v, hs, G, rfl, hI.keep hb⟩
      · rintro pre F W ⟨v, hs, G, rfl, hI⟩ k hk
        have hlw := hI.lw
        rcases hk with e | e | e | e | e | e
        · omega
        · omega
        · omega
        · omega
        · exact (hI.own.lt k e).2
        · exact (hI.gs k e).2.1
      · rintro pre F W base v cl ⟨vo, hs, G, rfl, hI⟩ hown hne hdis hlen
        obtain ⟨g2, c2, rfl⟩ : ∃ g2 c2, v = .slice (some ⟨g2, 0, none⟩) cl.length c2 := by
          rcases hown.2 with ⟨_, e2⟩ | ⟨g, cap, cs, e, _⟩
          · exact absurd (List.length_eq_zero_iff.1 e2) hne
          · exact ⟨_, _, e⟩
        have hd2 : ∀ k, ClF H vo G k → k ≠ g2 := fun k hk e => hdis k hk (by rw [e]; rfl)
        have hcap := (tks_C hown).2.1
        obtain ⟨cn, hcn⟩ : ∃ cn, cl.length = cn + 1 := ⟨cl.length - 1, by have := List.length_pos_iff.2 hne; omega⟩
        have hnx := fun (Y w1 : World) (v' : Value) (rb : Loop) => hI.next (rb := rb) (X := Y) (w1 := w1) (v' := v') hne hown hd2 (by omega)
        rw [hcn] at hcap hlen
        simp only [hcn, Nat.add_sub_cancel] at hnx
        have hhl : hs.length ≤ 300000 := by
          have h1 := hI.els.1
          rw [List.length_map] at h1
          have := hI.pne
          omega
        rw [hcn]
        refine rf_round (l := H + 5) hrd trivial hI.lop rfl ?_
        have HRD := Aside0.mk hrd
        clear hrd
        gi_wp2
        refine ⟨hI.lop, ?_⟩
        have HRF : Aside0 (∀ r2 : Loop, r2 = { rd with state := LoopState.busy } → ({ r2 with state := .ready, pending := none } : Loop) = rd) := ⟨fun r2 e => by rw [e, HRD.out]; rfl⟩
        generalize hrb : ({ rd with state := LoopState.busy } : Loop) = rb
        have HRB := Aside0.mk (HRF.out rb hrb.symm)
        have hbB : But (fun k => k = H + 5) W (W.putObj (H + 5) (.loop rb)) := (But.refl (fun k => k = H + 5) W).putObj _ _ rfl
        have hge : ∀ k, vo.ownBlock = some k → H + 6 ≤ k := fun k e => (hI.own.lt k e).1
        have hoB := own_butE hI.own hbB (fun k e e2 => by have := hge k e2; omega)
        have hoc : (W.putObj (H + 5) (.loop rb)).heap[H]? = some (.cells #[vo] 31 (0, 0)) := (hbB.block H (by have := hI.lw; omega) (by omega)).trans hI.out
        have hps : (W.putObj (H + 5) (.loop rb)).heap.size = W.heap.size := World.putObj_size
        have hlw := hI.lw
        have HNX := Aside0.mk (fun (Y w1 : World) (v' : Value) => hnx Y w1 v' rb)
        have HONE := Aside0.mk hI.one
        generalize W.putObj (H + 5) (.loop rb) = WB at *
        obtain ⟨hl, hhl2⟩ : ∃ hl, hs.length = hl := ⟨_, rfl⟩
        rw [hhl2] at hoB hhl
        obtain ⟨i1, hi0, hz0, hz1, hz2⟩ := info_parts (show (Tryz.prog.info? 24).map (fun i => (i.zero, i.size, i.bytes)) = some (some (.slice none 0 0), 1, 24) by kernel_rfl)
        obtain ⟨Xh, hXh⟩ : ∃ Xh, WB.heap.size = Xh := ⟨_, rfl⟩
        obtain ⟨Y, hY⟩ : ∃ Y, WB.drew.alloc (.cells #[.slice (some ⟨g2, 0, none⟩) cn cn] 24) = Y := ⟨_, rfl⟩
        have hYb : But (fun _ => False) WB Y := by rw [← hY]; exact ((But.refl _ WB).drew).alloc _
        have hYs : Y.heap.size = Xh + 1 := by rw [← hY, ← hXh]; exact World.size_alloc _ _
        have hYn : Y.heap[Xh]? = some (.cells #[.slice (some ⟨g2, 0, none⟩) cn cn] 24 (0, 0)) := by rw [← hY, ← hXh]; exact heap_alloc_new WB.drew _
        have hYo := own_butE hoB hYb (fun k e => e.elim)
        obtain ⟨g', cap', w1, hrun, hown1, hgrow, hat, hlt⟩ := run_append_lies (P := Tryz.prog) Y 31 31 (H + 6) 24 i1 (.slice none 0 0) 1 24 Tryz.underlying31 hi0 hz0 hz1 hz2 rfl (by decide) vo hl hs hYo
          ⟨Xh, 0, none⟩ 1 1 [.slice (some ⟨g2, 0, none⟩) cn cn] rfl (fun j u hu => by
            rw [add_plain, blk_cell hYn j]
            simpa using hu) (by simp [Value.oneCell']) (by decide) (by unfold maxLen; omega) (by omega) (by omega) (Xh + 1) hYs
        have c0 : WB.cell? ⟨H, 0, none⟩ = some vo := (blk_cell hoc 0).trans rfl
        have hYc := (hYb.block H (by omega) (fun e => e)).trans hoc
        have cY : Y.cell? ⟨H, 0, none⟩ = some vo := (blk_cell hYc 0).trans rfl
        have hwc := TkI_cbE hgrow hYc (fun k e => by have := hge k e; omega)
        have e1 := blk_cell hwc 0
        have q1 := blk_frozen hwc 0
        have HFIN := Aside0.mk (HNX.out Y w1 (.slice (some ⟨g', 0, none⟩) (hl + 1) cap') hYb (by rw [hhl2]; exact hown1) hgrow (by
          rcases hat with e | e
          · exact .inl e.symm
          · exact .inr (by rw [e, hYs]; rfl)))
        have hw1 : IntKind.i64.wrap (((cn + 1 : Nat) : Int) - 1) = (cn : Int) := (w64 _ (by omega) (by omega)).trans (by omega)
        have hw3 : IntKind.i64.wrap ((cn : Int) + 1 - 1) = (cn : Int) := (w64 _ (by omega) (by omega)).trans (by omega)
        have hw4 : (cn : Int) + 1 - 1 = (cn : Int) := by omega
        have hle : cn ≤ c2 := by omega
        clear hrb hI HRF HRD hbB hoB hoc hnx hown hd2 HNX hYo hYn hown1 hgrow hat hwc hYc hlt hYb hps
        gi_upto_region 9 with (fail)
        refine wpIn_region_any (by kernel_rfl) ?_
        change wpAnyIn _ _ _ _ _ _ _ _ _ (World.drew WB)
        refine wpAnyIn_ready (rs := [0, 1, 2, 3]) (by kernel_rfl) (by simp) ?_
        refine AllReadyIn.cons rfl (fun K hK => ?_) (AllReadyIn.cons rfl (fun K hK => ?_) (AllReadyIn.cons rfl (fun K hK => ?_) (AllReadyIn.cons rfl (fun K hK => ?_) AllReadyIn.nil)))
        · go_simp; refine hK _ _ ?_; clear hK K
          refine wpAnyIn_ready (rs := [1, 2, 3]) (by kernel_rfl) (by simp) ?_
          refine AllReadyIn.cons rfl (fun K hK => ?_) (AllReadyIn.cons rfl (fun K hK => ?_) (AllReadyIn.cons rfl (fun K hK => ?_) AllReadyIn.nil))
          · go_simp; refine hK _ _ ?_; clear hK K
            refine wpAnyIn_ready (rs := [2, 3]) (by kernel_rfl) (by simp) ?_
            refine AllReadyIn.cons rfl (fun K hK => ?_) (AllReadyIn.cons rfl (fun K hK => ?_) AllReadyIn.nil)
            · go_simp; refine hK _ _ ?_; clear hK K
              refine wpAnyIn_ready (rs := [3]) (by kernel_rfl) (by simp) ?_
              refine AllReadyIn.cons rfl (fun K hK => ?_) AllReadyIn.nil
              go_simp; refine hK _ _ ?_; clear hK K
              refine wpAnyIn_ready (rs := [4]) (by kernel_rfl) (by simp) ?_
              refine AllReadyIn.cons rfl (fun K hK => ?_) AllReadyIn.nil
              go_simp; refine hK _ _ ?_; clear hK K
              refine wpAnyIn_ready (rs := [5]) (by kernel_rfl) (by simp) ?_
              refine AllReadyIn.cons rfl (fun K hK => ?_) AllReadyIn.nil
              go_simp; refine hK _ _ ?_; clear hK K
              refine wpAnyIn_ready (rs := [6]) (by kernel_rfl) (by simp) ?_
              refine AllReadyIn.cons rfl (fun K hK => ?_) AllReadyIn.nil
              refine stepIn_appendF rfl (.tmp 22) (.tmp 27) _ rfl _ _ _ rfl rfl hrun ?_; (try go_simp); refine hK _ _ ?_; clear hK K
              refine wpAnyIn_ready (rs := [7]) (by kernel_rfl) (by simp) ?_
              refine AllReadyIn.cons rfl (fun K hK => ?_) AllReadyIn.nil
              go_simp; refine hK _ _ ?_; clear hK K
              refine wpAnyIn_done (by kernel_rfl) ?_ _
              (try gi_wp2)
              refine ⟨rb, HFIN.out.1, rfl, ClF H (.slice (some ⟨g', 0, none⟩) (hl + 1) cap') (fun k => G k ∨ k = g2), ?_, ?_, fun k hk => ?_⟩
              · rw [HRB.out]; exact HFIN.out.2.1
              · rw [HRB.out]; exact HFIN.out.2.2.1
              · rcases HFIN.out.2.2.2 k hk with e | e | e
                · exact .inl e
                · exact .inr (.inl e)
                · exact .inr (.inr (by rw [e]; rfl))
            · go_simp; refine hK _ _ ?_; clear hK K
              refine wpAnyIn_ready (rs := [2]) (by kernel_rfl) (by simp) ?_
              refine AllReadyIn.cons rfl (fun K hK => ?_) AllReadyIn.nil
              go_simp; refine hK _ _ ?_; clear hK K
              refine wpAnyIn_ready (rs := [4]) (by kernel_rfl) (by simp) ?_
              refine AllReadyIn.cons rfl (fun K hK => ?_) AllReadyIn.nil
              go_simp; refine hK _ _ ?_; clear hK K
              refine wpAnyIn_ready (rs := [5]) (by kernel_rfl) (by simp) ?_
              refine AllReadyIn.cons rfl (fun K hK => ?_) AllReadyIn.nil
              go_simp; refine hK _ _ ?_; clear hK K
              refine wpAnyIn_ready (rs := [6]) (by kernel_rfl) (by simp) ?_
              refine AllReadyIn.cons rfl (fun K hK => ?_) AllReadyIn.nil
              refine stepIn_appendF rfl (.tmp 22) (.tmp 27) _ rfl _ _ _ rfl rfl hrun ?_; (try go_simp); refine hK _ _ ?_; clear hK K
              refine wpAnyIn_ready (rs := [7]) (by kernel_rfl) (by simp) ?_
              refine AllReadyIn.cons rfl (fun K hK => ?_) AllReadyIn.nil
              go_simp; refine hK _ _ ?_; clear hK K
              refine wpAnyIn_done (by kernel_rfl) ?_ _
              (try gi_wp2)
              refine ⟨rb, HFIN.out.1, rfl, ClF H (.slice (some ⟨g', 0, none⟩) (hl + 1) cap') (fun k => G k ∨ k = g2), ?_, ?_, fun k hk => ?_⟩
              · rw [HRB.out]; exact HFIN.out.2.1
              · rw [HRB.out]; exact HFIN.out.2.2.1
              · rcases HFIN.out.2.2.2 k hk with e | e | e
                · exact .inl e
                · exact .inr (.inl e)
                · exact .inr (.inr (by rw [e]; rfl))
          · go_simp; refine hK _ _ ?_; clear hK K
            refine wpAnyIn_ready (rs := [1, 3]) (by kernel_rfl) (by simp) ?_
            refine AllReadyIn.cons rfl (fun K hK => ?_) (AllReadyIn.cons rfl (fun K hK => ?_) AllReadyIn.nil)
            · go_simp; refine hK _ _ ?_; clear hK K
              refine wpAnyIn_ready (rs := [3]) (by kernel_rfl) (by simp) ?_
              refine AllReadyIn.cons rfl (fun K hK => ?_) AllReadyIn.nil
              go_simp; refine hK _ _ ?_; clear hK K
              refine wpAnyIn_ready (rs := [4]) (by kernel_rfl) (by simp) ?_
              refine AllReadyIn.cons rfl (fun K hK => ?_) AllReadyIn.nil
              go_simp; refine hK _ _ ?_; clear hK K
              refine wpAnyIn_ready (rs := [5]) (by kernel_rfl) (by simp) ?_
              refine AllReadyIn.cons rfl (fun K hK => ?_) AllReadyIn.nil
              go_simp; refine hK _ _ ?_; clear hK K
              refine wpAnyIn_ready (rs := [6]) (by kernel_rfl) (by simp) ?_
              refine AllReadyIn.cons rfl (fun K hK => ?_) AllReadyIn.nil
              refine stepIn_appendF rfl (.tmp 22) (.tmp 27) _ rfl _ _ _ rfl rfl hrun ?_; (try go_simp); refine hK _ _ ?_; clear hK K
              refine wpAnyIn_ready (rs := [7]) (by kernel_rfl) (by simp) ?_
              refine AllReadyIn.cons rfl (fun K hK => ?_) AllReadyIn.nil
              go_simp; refine hK _ _ ?_; clear hK K
              refine wpAnyIn_done (by kernel_rfl) ?_ _
              (try gi_wp2)
              refine ⟨rb, HFIN.out.1, rfl, ClF H (.slice (some ⟨g', 0, none⟩) (hl + 1) cap') (fun k => G k ∨ k = g2), ?_, ?_, fun k hk => ?_⟩
              · rw [HRB.out]; exact HFIN.out.2.1
              · rw [HRB.out]; exact HFIN.out.2.2.1
              · rcases HFIN.out.2.2.2 k hk with e | e | e
                · exact .inl e
                · exact .inr (.inl e)
                · exact .inr (.inr (by rw [e]; rfl))
            · go_simp; refine hK _ _ ?_; clear hK K
              refine wpAnyIn_ready (rs := [1]) (by kernel_rfl) (by simp) ?_
              refine AllReadyIn.cons rfl (fun K hK => ?_) AllReadyIn.nil
              go_simp; refine hK _ _ ?_; clear hK K
              refine wpAnyIn_ready (rs := [4]) (by kernel_rfl) (by simp) ?_
              refine AllReadyIn.cons rfl (fun K hK => ?_) AllReadyIn.nil
              go_simp; refine hK _ _ ?_; clear hK K
              refine wpAnyIn_ready (rs := [5]) (by kernel_rfl) (by simp) ?_
              refine AllReadyIn.cons rfl (fun K hK => ?_) AllReadyIn.nil
              go_simp; refine hK _ _ ?_; clear hK K
              refine wpAnyIn_ready (rs := [6]) (by kernel_rfl) (by simp) ?_
              refine AllReadyIn.cons rfl (fun K hK => ?_) AllReadyIn.nil
              refine stepIn_appendF rfl (.tmp 22) (.tmp 27) _ rfl _ _ _ rfl rfl hrun ?_; (try go_simp); refine hK _ _ ?_; clear hK K
              refine wpAnyIn_ready (rs := [7]) (by kernel_rfl) (by simp) ?_
              refine AllReadyIn.cons rfl (fun K hK => ?_) AllReadyIn.nil
              go_simp; refine hK _ _ ?_; clear hK K
              refine wpAnyIn_done (by kernel_rfl) ?_ _
              (try gi_wp2)
              refine ⟨rb, HFIN.out.1, rfl, ClF H (.slice (some ⟨g', 0, none⟩) (hl + 1) cap') (fun k => G k ∨ k = g2), ?_, ?_, fun k hk => ?_⟩
              · rw [HRB.out]; exact HFIN.out.2.1
              · rw [HRB.out]; exact HFIN.out.2.2.1
              · rcases HFIN.out.2.2.2 k hk with e | e | e
                · exact .inl e
                · exact .inr (.inl e)
                · exact .inr (.inr (by rw [e]; rfl))
          · go_simp; refine hK _ _ ?_; clear hK K
            refine wpAnyIn_ready (rs := [1, 2]) (by kernel_rfl) (by simp) ?_
            refine AllReadyIn.cons rfl (fun K hK => ?_) (AllReadyIn.cons rfl (fun K hK => ?_) AllReadyIn.nil)
            · go_simp; refine hK _ _ ?_; clear hK K
              refine wpAnyIn_ready (rs := [2]) (by kernel_rfl) (by simp) ?_
              refine AllReadyIn.cons rfl (fun K hK => ?_) AllReadyIn.nil
              go_simp; refine hK _ _ ?_; clear hK K
              refine wpAnyIn_ready (rs := [4]) (by kernel_rfl) (by simp) ?_
              refine AllReadyIn.cons rfl (fun K hK => ?_) AllReadyIn.nil
              go_simp; refine hK _ _ ?_; clear hK K
              refine wpAnyIn_ready (rs := [5]) (by kernel_rfl) (by simp) ?_
              refine AllReadyIn.cons rfl (fun K hK => ?_) AllReadyIn.nil
              go_simp; refine hK _ _ ?_; clear hK K
              refine wpAnyIn_ready (rs := [6]) (by kernel_rfl) (by simp) ?_
              refine AllReadyIn.cons rfl (fun K hK => ?_) AllReadyIn.nil
              refine stepIn_appendF rfl (.tmp 22) (.tmp 27) _ rfl _ _ _ rfl rfl hrun ?_; (try go_simp); refine hK _ _ ?_; clear hK K
              refine wpAnyIn_ready (rs := [7]) (by kernel_rfl) (by simp) ?_
              refine AllReadyIn.cons rfl (fun K hK => ?_) AllReadyIn.nil
              go_simp; refine hK _ _ ?_; clear hK K
              refine wpAnyIn_done (by kernel_rfl) ?_ _
              (try gi_wp2)
              refine ⟨rb, HFIN.out.1, rfl, ClF H (.slice (some ⟨g', 0, none⟩) (hl + 1) cap') (fun k => G k ∨ k = g2), ?_, ?_, fun k hk => ?_⟩
              · rw [HRB.out]; exact HFIN.out.2.1
              · rw [HRB.out]; exact HFIN.out.2.2.1
              · rcases HFIN.out.2.2.2 k hk with e | e | e
                · exact .inl e
                · exact .inr (.inl e)
                · exact .inr (.inr (by rw [e]; rfl))
            · go_simp; refine hK _ _ ?_; clear hK K
              refine wpAnyIn_ready (rs := [1]) (by kernel_rfl) (by simp) ?_
              refine AllReadyIn.cons rfl (fun K hK => ?_) AllReadyIn.nil
              go_simp; refine hK _ _ ?_; clear hK K
              refine wpAnyIn_ready (rs := [4]) (by kernel_rfl) (by simp) ?_
              refine AllReadyIn.cons rfl (fun K hK => ?_) AllReadyIn.nil
              go_simp; refine hK _ _ ?_; clear hK K
              refine wpAnyIn_ready (rs := [5]) (by kernel_rfl) (by simp) ?_
              refine AllReadyIn.cons rfl (fun K hK => ?_) AllReadyIn.nil
              go_simp; refine hK _ _ ?_; clear hK K
              refine wpAnyIn_ready (rs := [6]) (by kernel_rfl) (by simp) ?_
              refine AllReadyIn.cons rfl (fun K hK => ?_) AllReadyIn.nil
              refine stepIn_appendF rfl (.tmp 22) (.tmp 27) _ rfl _ _ _ rfl rfl hrun ?_; (try go_simp); refine hK _ _ ?_; clear hK K
              refine wpAnyIn_ready (rs := [7]) (by kernel_rfl) (by simp) ?_
              refine AllReadyIn.cons rfl (fun K hK => ?_) AllReadyIn.nil
              go_simp; refine hK _ _ ?_; clear hK K
              refine wpAnyIn_done (by kernel_rfl) ?_ _
              (try gi_wp2)
              refine ⟨rb, HFIN.out.1, rfl, ClF H (.slice (some ⟨g', 0, none⟩) (hl + 1) cap') (fun k => G k ∨ k = g2), ?_, ?_, fun k hk => ?_⟩
              · rw [HRB.out]; exact HFIN.out.2.1
              · rw [HRB.out]; exact HFIN.out.2.2.1
              · rcases HFIN.out.2.2.2 k hk with e | e | e
                · exact .inl e
                · exact .inr (.inl e)
                · exact .inr (.inr (by rw [e]; rfl))
        · go_simp; refine hK _ _ ?_; clear hK K
          refine wpAnyIn_ready (rs := [0, 2, 3]) (by kernel_rfl) (by simp) ?_
          refine AllReadyIn.cons rfl (fun K hK => ?_) (AllReadyIn.cons rfl (fun K hK => ?_) (AllReadyIn.cons rfl (fun K hK => ?_) AllReadyIn.nil))
          · go_simp; refine hK _ _ ?_; clear hK K
            refine wpAnyIn_ready (rs := [2, 3]) (by kernel_rfl) (by simp) ?_
            refine AllReadyIn.cons rfl (fun K hK => ?_) (AllReadyIn.cons rfl (fun K hK => ?_) AllReadyIn.nil)
            · go_simp; refine hK _ _ ?_; clear hK K
              refine wpAnyIn_ready (rs := [3]) (by kernel_rfl) (by simp) ?_
              refine AllReadyIn.cons rfl (fun K hK => ?_) AllReadyIn.nil
              go_simp; refine hK _ _ ?_; clear hK K
              refine wpAnyIn_ready (rs := [4]) (by kernel_rfl) (by simp) ?_
              refine AllReadyIn.cons rfl (fun K hK => ?_) AllReadyIn.nil
              go_simp; refine hK _ _ ?_; clear hK K
              refine wpAnyIn_ready (rs := [5]) (by kernel_rfl) (by simp) ?_
              refine AllReadyIn.cons rfl (fun K hK => ?_) AllReadyIn.nil
              go_simp; refine hK _ _ ?_; clear hK K
              refine wpAnyIn_ready (rs := [6]) (by kernel_rfl) (by simp) ?_
              refine AllReadyIn.cons rfl (fun K hK => ?_) AllReadyIn.nil
              refine stepIn_appendF rfl (.tmp 22) (.tmp 27) _ rfl _ _ _ rfl rfl hrun ?_; (try go_simp); refine hK _ _ ?_; clear hK K
              refine wpAnyIn_ready (rs := [7]) (by kernel_rfl) (by simp) ?_
              refine AllReadyIn.cons rfl (fun K hK => ?_) AllReadyIn.nil
              go_simp; refine hK _ _ ?_; clear hK K
              refine wpAnyIn_done (by kernel_rfl) ?_ _
              (try gi_wp2)
              refine ⟨rb, HFIN.out.1, rfl, ClF H (.slice (some ⟨g', 0, none⟩) (hl + 1) cap') (fun k => G k ∨ k = g2), ?_, ?_, fun k hk => ?_⟩
              · rw [HRB.out]; exact HFIN.out.2.1
              · rw [HRB.out]; exact HFIN.out.2.2.1
              · rcases HFIN.out.2.2.2 k hk with e | e | e
                · exact .inl e
                · exact .inr (.inl e)
                · exact .inr (.inr (by rw [e]; rfl))
            · go_simp; refine hK _ _ ?_; clear hK K
              refine wpAnyIn_ready (rs := [2]) (by kernel_rfl) (by simp) ?_
              refine AllReadyIn.cons rfl (fun K hK => ?_) AllReadyIn.nil
              go_simp; refine hK _ _ ?_; clear hK K
              refine wpAnyIn_ready (rs := [4]) (by kernel_rfl) (by simp) ?_
              refine AllReadyIn.cons rfl (fun K hK => ?_) AllReadyIn.nil
              go_simp; refine hK _ _ ?_; clear hK K
              refine wpAnyIn_ready (rs := [5]) (by kernel_rfl) (by simp) ?_
              refine AllReadyIn.cons rfl (fun K hK => ?_) AllReadyIn.nil
              go_simp; refine hK _ _ ?_; clear hK K
              refine wpAnyIn_ready (rs := [6]) (by kernel_rfl) (by simp) ?_
              refine AllReadyIn.cons rfl (fun K hK => ?_) AllReadyIn.nil
              refine stepIn_appendF rfl (.tmp 22) (.tmp 27) _ rfl _ _ _ rfl rfl hrun ?_; (try go_simp); refine hK _ _ ?_; clear hK K
              refine wpAnyIn_ready (rs := [7]) (by kernel_rfl) (by simp) ?_
              refine AllReadyIn.cons rfl (fun K hK => ?_) AllReadyIn.nil
              go_simp; refine hK _ _ ?_; clear hK K
              refine wpAnyIn_done (by kernel_rfl) ?_ _
              (try gi_wp2)
              refine ⟨rb, HFIN.out.1, rfl, ClF H (.slice (some ⟨g', 0, none⟩) (hl + 1) cap') (fun k => G k ∨ k = g2), ?_, ?_, fun k hk => ?_⟩
              · rw [HRB.out]; exact HFIN.out.2.1
              · rw [HRB.out]; exact HFIN.out.2.2.1
              · rcases HFIN.out.2.2.2 k hk with e | e | e
                · exact .inl e
                · exact .inr (.inl e)
                · exact .inr (.inr (by rw [e]; rfl))
          · go_simp; refine hK _ _ ?_; clear hK K
            refine wpAnyIn_ready (rs := [0, 3]) (by kernel_rfl) (by simp) ?_
            refine AllReadyIn.cons rfl (fun K hK => ?_) (AllReadyIn.cons rfl (fun K hK => ?_) AllReadyIn.nil)
            · go_simp; refine hK _ _ ?_; clear hK K
              refine wpAnyIn_ready (rs := [3]) (by kernel_rfl) (by simp) ?_
              refine AllReadyIn.cons rfl (fun K hK => ?_) AllReadyIn.nil
              go_simp; refine hK _ _ ?_; clear hK K
              refine wpAnyIn_ready (rs := [4]) (by kernel_rfl) (by simp) ?_
              refine AllReadyIn.cons rfl (fun K hK => ?_) AllReadyIn.nil
              go_simp; refine hK _ _ ?_; clear hK K
              refine wpAnyIn_ready (rs := [5]) (by kernel_rfl) (by simp) ?_
              refine AllReadyIn.cons rfl (fun K hK => ?_) AllReadyIn.nil
              go_simp; refine hK _ _ ?_; clear hK K
              refine wpAnyIn_ready (rs := [6]) (by kernel_rfl) (by simp) ?_
              refine AllReadyIn.cons rfl (fun K hK => ?_) AllReadyIn.nil
              refine stepIn_appendF rfl (.tmp 22) (.tmp 27) _ rfl _ _ _ rfl rfl hrun ?_; (try go_simp); refine hK _ _ ?_; clear hK K
              refine wpAnyIn_ready (rs := [7]) (by kernel_rfl) (by simp) ?_
              refine AllReadyIn.cons rfl (fun K hK => ?_) AllReadyIn.nil
              go_simp; refine hK _ _ ?_; clear hK K
              refine wpAnyIn_done (by kernel_rfl) ?_ _
              (try gi_wp2)
              refine ⟨rb, HFIN.out.1, rfl, ClF H (.slice (some ⟨g', 0, none⟩) (hl + 1) cap') (fun k => G k ∨ k = g2), ?_, ?_, fun k hk => ?_⟩
              · rw [HRB.out]; exact HFIN.out.2.1
              · rw [HRB.out]; exact HFIN.out.2.2.1
              · rcases HFIN.out.2.2.2 k hk with e | e | e
                · exact .inl e
                · exact .inr (.inl e)
                · exact .inr (.inr (by rw [e]; rfl))
            · go_simp; refine hK _ _ ?_; clear hK K
              refine wpAnyIn_ready (rs := [0, 4]) (by kernel_rfl) (by simp) ?_
              refine AllReadyIn.cons rfl (fun K hK => ?_) (AllReadyIn.cons rfl (fun K hK => ?_) AllReadyIn.nil)
              · go_simp; refine hK _ _ ?_; clear hK K
                refine wpAnyIn_ready (rs := [4]) (by kernel_rfl) (by simp) ?_
                refine AllReadyIn.cons rfl (fun K hK => ?_) AllReadyIn.nil
                go_simp; refine hK _ _ ?_; clear hK K
                refine wpAnyIn_ready (rs := [5]) (by kernel_rfl) (by simp) ?_
                refine AllReadyIn.cons rfl (fun K hK => ?_) AllReadyIn.nil
                go_simp; refine hK _ _ ?_; clear hK K
                refine wpAnyIn_ready (rs := [6]) (by kernel_rfl) (by simp) ?_
                refine AllReadyIn.cons rfl (fun K hK => ?_) AllReadyIn.nil
                refine stepIn_appendF rfl (.tmp 22) (.tmp 27) _ rfl _ _ _ rfl rfl hrun ?_; (try go_simp); refine hK _ _ ?_; clear hK K
                refine wpAnyIn_ready (rs := [7]) (by kernel_rfl) (by simp) ?_
                refine AllReadyIn.cons rfl (fun K hK => ?_) AllReadyIn.nil
                go_simp; refine hK _ _ ?_; clear hK K
                refine wpAnyIn_done (by kernel_rfl) ?_ _
                (try gi_wp2)
                refine ⟨rb, HFIN.out.1, rfl, ClF H (.slice (some ⟨g', 0, none⟩) (hl + 1) cap') (fun k => G k ∨ k = g2), ?_, ?_, fun k hk => ?_⟩
                · rw [HRB.out]; exact HFIN.out.2.1
                · rw [HRB.out]; exact HFIN.out.2.2.1
                · rcases HFIN.out.2.2.2 k hk with e | e | e
                  · exact .inl e
                  · exact .inr (.inl e)
                  · exact .inr (.inr (by rw [e]; rfl))
              · go_simp; refine hK _ _ ?_; clear hK K
                refine wpAnyIn_ready (rs := [0, 5]) (by kernel_rfl) (by simp) ?_
                refine AllReadyIn.cons rfl (fun K hK => ?_) (AllReadyIn.cons rfl (fun K hK => ?_) AllReadyIn.nil)
                · go_simp; refine hK _ _ ?_; clear hK K
                  refine wpAnyIn_ready (rs := [5]) (by kernel_rfl) (by simp) ?_
                  refine AllReadyIn.cons rfl (fun K hK => ?_) AllReadyIn.nil
                  go_simp; refine hK _ _ ?_; clear hK K
                  refine wpAnyIn_ready (rs := [6]) (by kernel_rfl) (by simp) ?_
                  refine AllReadyIn.cons rfl (fun K hK => ?_) AllReadyIn.nil
                  refine stepIn_appendF rfl (.tmp 22) (.tmp 27) _ rfl _ _ _ rfl rfl hrun ?_; (try go_simp); refine hK _ _ ?_; clear hK K
                  refine wpAnyIn_ready (rs := [7]) (by kernel_rfl) (by simp) ?_
                  refine AllReadyIn.cons rfl (fun K hK => ?_) AllReadyIn.nil
                  go_simp; refine hK _ _ ?_; clear hK K
                  refine wpAnyIn_done (by kernel_rfl) ?_ _
                  (try gi_wp2)
                  refine ⟨rb, HFIN.out.1, rfl, ClF H (.slice (some ⟨g', 0, none⟩) (hl + 1) cap') (fun k => G k ∨ k = g2), ?_, ?_, fun k hk => ?_⟩
                  · rw [HRB.out]; exact HFIN.out.2.1
                  · rw [HRB.out]; exact HFIN.out.2.2.1
                  · rcases HFIN.out.2.2.2 k hk with e | e | e
                    · exact .inl e
                    · exact .inr (.inl e)
                    · exact .inr (.inr (by rw [e]; rfl))
                · go_simp; refine hK _ _ ?_; clear hK K
                  refine wpAnyIn_ready (rs := [0]) (by kernel_rfl) (by simp) ?_
                  refine AllReadyIn.cons rfl (fun K hK => ?_) AllReadyIn.nil
                  go_simp; refine hK _ _ ?_; clear hK K
                  refine wpAnyIn_ready (rs := [6]) (by kernel_rfl) (by simp) ?_
                  refine AllReadyIn.cons rfl (fun K hK => ?_) AllReadyIn.nil
                  refine stepIn_appendF rfl (.tmp 22) (.tmp 27) _ rfl _ _ _ rfl rfl hrun ?_; (try go_simp); refine hK _ _ ?_; clear hK K
                  refine wpAnyIn_ready (rs := [7]) (by kernel_rfl) (by simp) ?_
                  refine AllReadyIn.cons rfl (fun K hK => ?_) AllReadyIn.nil
                  go_simp; refine hK _ _ ?_; clear hK K
                  refine wpAnyIn_done (by kernel_rfl) ?_ _
                  (try gi_wp2)
                  refine ⟨rb, HFIN.out.1, rfl, ClF H (.slice (some ⟨g', 0, none⟩) (hl + 1) cap') (fun k => G k ∨ k = g2), ?_, ?_, fun k hk => ?_⟩
                  · rw [HRB.out]; exact HFIN.out.2.1
                  · rw [HRB.out]; exact HFIN.out.2.2.1
                  · rcases HFIN.out.2.2.2 k hk with e | e | e
                    · exact .inl e
                    · exact .inr (.inl e)
                    · exact .inr (.inr (by rw [e]; rfl))
          · go_simp; refine hK _ _ ?_; clear hK K
            refine wpAnyIn_ready (rs := [0, 2]) (by kernel_rfl) (by simp) ?_
            refine AllReadyIn.cons rfl (fun K hK => ?_) (AllReadyIn.cons rfl (fun K hK => ?_) AllReadyIn.nil)
            · go_simp; refine hK _ _ ?_; clear hK K
              refine wpAnyIn_ready (rs := [2]) (by kernel_rfl) (by simp) ?_
              refine AllReadyIn.cons rfl (fun K hK => ?_) AllReadyIn.nil
              go_simp; refine hK _ _ ?_; clear hK K
              refine wpAnyIn_ready (rs := [4]) (by kernel_rfl) (by simp) ?_
              refine AllReadyIn.cons rfl (fun K hK => ?_) AllReadyIn.nil
              go_simp; refine hK _ _ ?_; clear hK K
              refine wpAnyIn_ready (rs := [5]) (by kernel_rfl) (by simp) ?_
              refine AllReadyIn.cons rfl (fun K hK => ?_) AllReadyIn.nil
              go_simp; refine hK _ _ ?_; clear hK K
              refine wpAnyIn_ready (rs := [6]) (by kernel_rfl) (by simp) ?_
              refine AllReadyIn.cons rfl (fun K hK => ?_) AllReadyIn.nil
              refine stepIn_appendF rfl (.tmp 22) (.tmp 27) _ rfl _ _ _ rfl rfl hrun ?_; (try go_simp); refine hK _ _ ?_; clear hK K
              refine wpAnyIn_ready (rs := [7]) (by kernel_rfl) (by simp) ?_
              refine AllReadyIn.cons rfl (fun K hK => ?_) AllReadyIn.nil
              go_simp; refine hK _ _ ?_; clear hK K
              refine wpAnyIn_done (by kernel_rfl) ?_ _
              (try gi_wp2)
              refine ⟨rb, HFIN.out.1, rfl, ClF H (.slice (some ⟨g', 0, none⟩) (hl + 1) cap') (fun k => G k ∨ k = g2), ?_, ?_, fun k hk => ?_⟩
              · rw [HRB.out]; exact HFIN.out.2.1
              · rw [HRB.out]; exact HFIN.out.2.2.1
              · rcases HFIN.out.2.2.2 k hk with e | e | e
                · exact .inl e
                · exact .inr (.inl e)
                · exact .inr (.inr (by rw [e]; rfl))
            · go_simp; refine hK _ _ ?_; clear hK K
              refine wpAnyIn_ready (rs := [0, 4]) (by kernel_rfl) (by simp) ?_
              refine AllReadyIn.cons rfl (fun K hK => ?_) (AllReadyIn.cons rfl (fun K hK => ?_) AllReadyIn.nil)
              · go_simp; refine hK _ _ ?_; clear hK K
                refine wpAnyIn_ready (rs := [4]) (by kernel_rfl) (by simp) ?_
                refine AllReadyIn.cons rfl (fun K hK => ?_) AllReadyIn.nil
                go_simp; refine hK _ _ ?_; clear hK K
                refine wpAnyIn_ready (rs := [5]) (by kernel_rfl) (by simp) ?_
                refine AllReadyIn.cons rfl (fun K hK => ?_) AllReadyIn.nil
                go_simp; refine hK _ _ ?_; clear hK K
                refine wpAnyIn_ready (rs := [6]) (by kernel_rfl) (by simp) ?_
                refine AllReadyIn.cons rfl (fun K hK => ?_) AllReadyIn.nil
                refine stepIn_appendF rfl (.tmp 22) (.tmp 27) _ rfl _ _ _ rfl rfl hrun ?_; (try go_simp); refine hK _ _ ?_; clear hK K
                refine wpAnyIn_ready (rs := [7]) (by kernel_rfl) (by simp) ?_
                refine AllReadyIn.cons rfl (fun K hK => ?_) AllReadyIn.nil
                go_simp; refine hK _ _ ?_; clear hK K
                refine wpAnyIn_done (by kernel_rfl) ?_ _
                (try gi_wp2)
                refine ⟨rb, HFIN.out.1, rfl, ClF H (.slice (some ⟨g', 0, none⟩) (hl + 1) cap') (fun k => G k ∨ k = g2), ?_, ?_, fun k hk => ?_⟩
                · rw [HRB.out]; exact HFIN.out.2.1
                · rw [HRB.out]; exact HFIN.out.2.2.1
                · rcases HFIN.out.2.2.2 k hk with e | e | e
                  · exact .inl e
                  · exact .inr (.inl e)
                  · exact .inr (.inr (by rw [e]; rfl))
              · go_simp; refine hK _ _ ?_; clear hK K
                refine wpAnyIn_ready (rs := [0, 5]) (by kernel_rfl) (by simp) ?_
                refine AllReadyIn.cons rfl (fun K hK => ?_) (AllReadyIn.cons rfl (fun K hK => ?_) AllReadyIn.nil)
                · go_simp; refine hK _ _ ?_; clear hK K
                  refine wpAnyIn_ready (rs := [5]) (by kernel_rfl) (by simp) ?_
                  refine AllReadyIn.cons rfl (fun K hK => ?_) AllReadyIn.nil
                  go_simp; refine hK _ _ ?_; clear hK K
                  refine wpAnyIn_ready (rs := [6]) (by kernel_rfl) (by simp) ?_
                  refine AllReadyIn.cons rfl (fun K hK => ?_) AllReadyIn.nil
                  refine stepIn_appendF rfl (.tmp 22) (.tmp 27) _ rfl _ _ _ rfl rfl hrun ?_; (try go_simp); refine hK _ _ ?_; clear hK K
                  refine wpAnyIn_ready (rs := [7]) (by kernel_rfl) (by simp) ?_
                  refine AllReadyIn.cons rfl (fun K hK => ?_) AllReadyIn.nil
                  go_simp; refine hK _ _ ?_; clear hK K
                  refine wpAnyIn_done (by kernel_rfl) ?_ _
                  (try gi_wp2)
                  refine ⟨rb, HFIN.out.1, rfl, ClF H (.slice (some ⟨g', 0, none⟩) (hl + 1) cap') (fun k => G k ∨ k = g2), ?_, ?_, fun k hk => ?_⟩
                  · rw [HRB.out]; exact HFIN.out.2.1
                  · rw [HRB.out]; exact HFIN.out.2.2.1
                  · rcases HFIN.out.2.2.2 k hk with e | e | e
                    · exact .inl e
                    · exact .inr (.inl e)
                    · exact .inr (.inr (by rw [e]; rfl))
                · go_simp; refine hK _ _ ?_; clear hK K
                  refine wpAnyIn_ready (rs := [0]) (by kernel_rfl) (by simp) ?_
                  refine AllReadyIn.cons rfl (fun K hK => ?_) AllReadyIn.nil
                  go_simp; refine hK _ _ ?_; clear hK K
                  refine wpAnyIn_ready (rs := [6]) (by kernel_rfl) (by simp) ?_
                  refine AllReadyIn.cons rfl (fun K hK => ?_) AllReadyIn.nil
                  refine stepIn_appendF rfl (.tmp 22) (.tmp 27) _ rfl _ _ _ rfl rfl hrun ?_; (try go_simp); refine hK _ _ ?_; clear hK K
                  refine wpAnyIn_ready (rs := [7]) (by kernel_rfl) (by simp) ?_
                  refine AllReadyIn.cons rfl (fun K hK => ?_) AllReadyIn.nil
                  go_simp; refine hK _ _ ?_; clear hK K
                  refine wpAnyIn_done (by kernel_rfl) ?_ _
                  (try gi_wp2)
                  refine ⟨rb, HFIN.out.1, rfl, ClF H (.slice (some ⟨g', 0, none⟩) (hl + 1) cap') (fun k => G k ∨ k = g2), ?_, ?_, fun k hk => ?_⟩
                  · rw [HRB.out]; exact HFIN.out.2.1
                  · rw [HRB.out]; exact HFIN.out.2.2.1
                  · rcases HFIN.out.2.2.2 k hk with e | e | e
                    · exact .inl e
                    · exact .inr (.inl e)
                    · exact .inr (.inr (by rw [e]; rfl))
        · go_simp; refine hK _ _ ?_; clear hK K
          refine wpAnyIn_ready (rs := [0, 1, 3]) (by kernel_rfl) (by simp) ?_
          refine AllReadyIn.cons rfl (fun K hK => ?_) (AllReadyIn.cons rfl (fun K hK => ?_) (AllReadyIn.cons rfl (fun K hK => ?_) AllReadyIn.nil))
          · go_simp; refine hK _ _ ?_; clear hK K
            refine wpAnyIn_ready (rs := [1, 3]) (by kernel_rfl) (by simp) ?_
            refine AllReadyIn.cons rfl (fun K hK => ?_) (AllReadyIn.cons rfl (fun K hK => ?_) AllReadyIn.nil)
            · go_simp; refine hK _ _ ?_; clear hK K
              refine wpAnyIn_ready (rs := [3]) (by kernel_rfl) (by simp) ?_
              refine AllReadyIn.cons rfl (fun K hK => ?_) AllReadyIn.nil
              go_simp; refine hK _ _ ?_; clear hK K
              refine wpAnyIn_ready (rs := [4]) (by kernel_rfl) (by simp) ?_
              refine AllReadyIn.cons rfl (fun K hK => ?_) AllReadyIn.nil
              go_simp; refine hK _ _ ?_; clear hK K
              refine wpAnyIn_ready (rs := [5]) (by kernel_rfl) (by simp) ?_
              refine AllReadyIn.cons rfl (fun K hK => ?_) AllReadyIn.nil
              go_simp; refine hK _ _ ?_; clear hK K
              refine wpAnyIn_ready (rs := [6]) (by kernel_rfl) (by simp) ?_
              refine AllReadyIn.cons rfl (fun K hK => ?_) AllReadyIn.nil
              refine stepIn_appendF rfl (.tmp 22) (.tmp 27) _ rfl _ _ _ rfl rfl hrun ?_; (try go_simp); refine hK _ _ ?_; clear hK K
              refine wpAnyIn_ready (rs := [7]) (by kernel_rfl) (by simp) ?_
              refine AllReadyIn.cons rfl (fun K hK => ?_) AllReadyIn.nil
              go_simp; refine hK _ _ ?_; clear hK K
              refine wpAnyIn_done (by kernel_rfl) ?_ _
              (try gi_wp2)
              refine ⟨rb, HFIN.out.1, rfl, ClF H (.slice (some ⟨g', 0, none⟩) (hl + 1) cap') (fun k => G k ∨ k = g2), ?_, ?_, fun k hk => ?_⟩
              · rw [HRB.out]; exact HFIN.out.2.1
              · rw [HRB.out]; exact HFIN.out.2.2.1
              · rcases HFIN.out.2.2.2 k hk with e | e | e
                · exact .inl e
                · exact .inr (.inl e)
                · exact .inr (.inr (by rw [e]; rfl))
            · go_simp; refine hK _ _ ?_; clear hK K
              refine wpAnyIn_ready (rs := [1]) (by kernel_rfl) (by simp) ?_
              refine AllReadyIn.cons rfl (fun K hK => ?_) AllReadyIn.nil
              go_simp; refine hK _ _ ?_; clear hK K
              refine wpAnyIn_ready (rs := [4]) (by kernel_rfl) (by simp) ?_
              refine AllReadyIn.cons rfl (fun K hK => ?_) AllReadyIn.nil
              go_simp; refine hK _ _ ?_; clear hK K
              refine wpAnyIn_ready (rs := [5]) (by kernel_rfl) (by simp) ?_
              refine AllReadyIn.cons rfl (fun K hK => ?_) AllReadyIn.nil
              go_simp; refine hK _ _ ?_; clear hK K
              refine wpAnyIn_ready (rs := [6]) (by kernel_rfl) (by simp) ?_
              refine AllReadyIn.cons rfl (fun K hK => ?_) AllReadyIn.nil
              refine stepIn_appendF rfl (.tmp 22) (.tmp 27) _ rfl _ _ _ rfl rfl hrun ?_; (try go_simp); refine hK _ _ ?_; clear hK K
              refine wpAnyIn_ready (rs := [7]) (by kernel_rfl) (by simp) ?_
              refine AllReadyIn.cons rfl (fun K hK => ?_) AllReadyIn.nil
              go_simp; refine hK _ _ ?_; clear hK K
              refine wpAnyIn_done (by kernel_rfl) ?_ _
              (try gi_wp2)
              refine ⟨rb, HFIN.out.1, rfl, ClF H (.slice (some ⟨g', 0, none⟩) (hl + 1) cap') (fun k => G k ∨ k = g2), ?_, ?_, fun k hk => ?_⟩
              · rw [HRB.out]; exact HFIN.out.2.1
              · rw [HRB.out]; exact HFIN.out.2.2.1
              · rcases HFIN.out.2.2.2 k hk with e | e | e
                · exact .inl e
                · exact .inr (.inl e)
                · exact .inr (.inr (by rw [e]; rfl))
          · go_simp; refine hK _ _ ?_; clear hK K
            refine wpAnyIn_ready (rs := [0, 3]) (by kernel_rfl) (by simp) ?_
            refine AllReadyIn.cons rfl (fun K hK => ?_) (AllReadyIn.cons rfl (fun K hK => ?_) AllReadyIn.nil)
            · go_simp; refine hK _ _ ?_; clear hK K
              refine wpAnyIn_ready (rs := [3]) (by kernel_rfl) (by simp) ?_
              refine AllReadyIn.cons rfl (fun K hK => ?_) AllReadyIn.nil
              go_simp; refine hK _ _ ?_; clear hK K
              refine wpAnyIn_ready (rs := [4]) (by kernel_rfl) (by simp) ?_
              refine AllReadyIn.cons rfl (fun K hK => ?_) AllReadyIn.nil
              go_simp; refine hK _ _ ?_; clear hK K
              refine wpAnyIn_ready (rs := [5]) (by kernel_rfl) (by simp) ?_
              refine AllReadyIn.cons rfl (fun K hK => ?_) AllReadyIn.nil
              go_simp; refine hK _ _ ?_; clear hK K
              refine wpAnyIn_ready (rs := [6]) (by kernel_rfl) (by simp) ?_
              refine AllReadyIn.cons rfl (fun K hK => ?_) AllReadyIn.nil
              refine stepIn_appendF rfl (.tmp 22) (.tmp 27) _ rfl _ _ _ rfl rfl hrun ?_; (try go_simp); refine hK _ _ ?_; clear hK K
              refine wpAnyIn_ready (rs := [7]) (by kernel_rfl) (by simp) ?_
              refine AllReadyIn.cons rfl (fun K hK => ?_) AllReadyIn.nil
              go_simp; refine hK _ _ ?_; clear hK K
              refine wpAnyIn_done (by kernel_rfl) ?_ _
              (try gi_wp2)
              refine ⟨rb, HFIN.out.1, rfl, ClF H (.slice (some ⟨g', 0, none⟩) (hl + 1) cap') (fun k => G k ∨ k = g2), ?_, ?_, fun k hk => ?_⟩
              · rw [HRB.out]; exact HFIN.out.2.1
              · rw [HRB.out]; exact HFIN.out.2.2.1
              · rcases HFIN.out.2.2.2 k hk with e | e | e
                · exact .inl e
                · exact .inr (.inl e)
                · exact .inr (.inr (by rw [e]; rfl))
            · go_simp; refine hK _ _ ?_; clear hK K
              refine wpAnyIn_ready (rs := [0, 4]) (by kernel_rfl) (by simp) ?_
              refine AllReadyIn.cons rfl (fun K hK => ?_) (AllReadyIn.cons rfl (fun K hK => ?_) AllReadyIn.nil)
              · go_simp; refine hK _ _ ?_; clear hK K
                refine wpAnyIn_ready (rs := [4]) (by kernel_rfl) (by simp) ?_
                refine AllReadyIn.cons rfl (fun K hK => ?_) AllReadyIn.nil
                go_simp; refine hK _ _ ?_; clear hK K
                refine wpAnyIn_ready (rs := [5]) (by kernel_rfl) (by simp) ?_
                refine AllReadyIn.cons rfl (fun K hK => ?_) AllReadyIn.nil
                go_simp; refine hK _ _ ?_; clear hK K
                refine wpAnyIn_ready (rs := [6]) (by kernel_rfl) (by simp) ?_
                refine AllReadyIn.cons rfl (fun K hK => ?_) AllReadyIn.nil
                refine stepIn_appendF rfl (.tmp 22) (.tmp 27) _ rfl _ _ _ rfl rfl hrun ?_; (try go_simp); refine hK _ _ ?_; clear hK K
                refine wpAnyIn_ready (rs := [7]) (by kernel_rfl) (by simp) ?_
                refine AllReadyIn.cons rfl (fun K hK => ?_) AllReadyIn.nil
                go_simp; refine hK _ _ ?_; clear hK K
                refine wpAnyIn_done (by kernel_rfl) ?_ _
                (try gi_wp2)
                refine ⟨rb, HFIN.out.1, rfl, ClF H (.slice (some ⟨g', 0, none⟩) (hl + 1) cap') (fun k => G k ∨ k = g2), ?_, ?_, fun k hk => ?_⟩
                · rw [HRB.out]; exact HFIN.out.2.1
                · rw [HRB.out]; exact HFIN.out.2.2.1
                · rcases HFIN.out.2.2.2 k hk with e | e | e
                  · exact .inl e
                  · exact .inr (.inl e)
                  · exact .inr (.inr (by rw [e]; rfl))
              · go_simp; refine hK _ _ ?_; clear hK K
                refine wpAnyIn_ready (rs := [0, 5]) (by kernel_rfl) (by simp) ?_
                refine AllReadyIn.cons rfl (fun K hK => ?_) (AllReadyIn.cons rfl (fun K hK => ?_) AllReadyIn.nil)
                · go_simp; refine hK _ _ ?_; clear hK K
                  refine wpAnyIn_ready (rs := [5]) (by kernel_rfl) (by simp) ?_
                  refine AllReadyIn.cons rfl (fun K hK => ?_) AllReadyIn.nil
                  go_simp; refine hK _ _ ?_; clear hK K
                  refine wpAnyIn_ready (rs := [6]) (by kernel_rfl) (by simp) ?_
                  refine AllReadyIn.cons rfl (fun K hK => ?_) AllReadyIn.nil
                  refine stepIn_appendF rfl (.tmp 22) (.tmp 27) _ rfl _ _ _ rfl rfl hrun ?_; (try go_simp); refine hK _ _ ?_; clear hK K
                  refine wpAnyIn_ready (rs := [7]) (by kernel_rfl) (by simp) ?_
                  refine AllReadyIn.cons rfl (fun K hK => ?_) AllReadyIn.nil
                  go_simp; refine hK _ _ ?_; clear hK K
                  refine wpAnyIn_done (by kernel_rfl) ?_ _
                  (try gi_wp2)
                  refine ⟨rb, HFIN.out.1, rfl, ClF H (.slice (some ⟨g', 0, none⟩) (hl + 1) cap') (fun k => G k ∨ k = g2), ?_, ?_, fun k hk => ?_⟩
                  · rw [HRB.out]; exact HFIN.out.2.1
                  · rw [HRB.out]; exact HFIN.out.2.2.1
                  · rcases HFIN.out.2.2.2 k hk with e | e | e
                    · exact .inl e
                    · exact .inr (.inl e)
                    · exact .inr (.inr (by rw [e]; rfl))
                · go_simp; refine hK _ _ ?_; clear hK K
                  refine wpAnyIn_ready (rs := [0]) (by kernel_rfl) (by simp) ?_
                  refine AllReadyIn.cons rfl (fun K hK => ?_) AllReadyIn.nil
                  go_simp; refine hK _ _ ?_; clear hK K
                  refine wpAnyIn_ready (rs := [6]) (by kernel_rfl) (by simp) ?_
                  refine AllReadyIn.cons rfl (fun K hK => ?_) AllReadyIn.nil
                  refine stepIn_appendF rfl (.tmp 22) (.tmp 27) _ rfl _ _ _ rfl rfl hrun ?_; (try go_simp); refine hK _ _ ?_; clear hK K
                  refine wpAnyIn_ready (rs := [7]) (by kernel_rfl) (by simp) ?_
                  refine AllReadyIn.cons rfl (fun K hK => ?_) AllReadyIn.nil
                  go_simp; refine hK _ _ ?_; clear hK K
                  refine wpAnyIn_done (by kernel_rfl) ?_ _
                  (try gi_wp2)
                  refine ⟨rb, HFIN.out.1, rfl, ClF H (.slice (some ⟨g', 0, none⟩) (hl + 1) cap') (fun k => G k ∨ k = g2), ?_, ?_, fun k hk => ?_⟩
                  · rw [HRB.out]; exact HFIN.out.2.1
                  · rw [HRB.out]; exact HFIN.out.2.2.1
                  · rcases HFIN.out.2.2.2 k hk with e | e | e
                    · exact .inl e
                    · exact .inr (.inl e)
                    · exact .inr (.inr (by rw [e]; rfl))
          · go_simp; refine hK _ _ ?_; clear hK K
            refine wpAnyIn_ready (rs := [0, 1]) (by kernel_rfl) (by simp) ?_
            refine AllReadyIn.cons rfl (fun K hK => ?_) (AllReadyIn.cons rfl (fun K hK => ?_) AllReadyIn.nil)
            · go_simp; refine hK _ _ ?_; clear hK K
              refine wpAnyIn_ready (rs := [1]) (by kernel_rfl) (by simp) ?_
              refine AllReadyIn.cons rfl (fun K hK => ?_) AllReadyIn.nil
              go_simp; refine hK _ _ ?_; clear hK K
              refine wpAnyIn_ready (rs := [4]) (by kernel_rfl) (by simp) ?_
              refine AllReadyIn.cons rfl (fun K hK => ?_) AllReadyIn.nil
              go_simp; refine hK _ _ ?_; clear hK K
              refine wpAnyIn_ready (rs := [5]) (by kernel_rfl) (by simp) ?_
              refine AllReadyIn.cons rfl (fun K hK => ?_) AllReadyIn.nil
              go_simp; refine hK _ _ ?_; clear hK K
              refine wpAnyIn_ready (rs := [6]) (by kernel_rfl) (by simp) ?_
              refine AllReadyIn.cons rfl (fun K hK => ?_) AllReadyIn.nil
              refine stepIn_appendF rfl (.tmp 22) (.tmp 27) _ rfl _ _ _ rfl rfl hrun ?_; (try go_simp); refine hK _ _ ?_; clear hK K
              refine wpAnyIn_ready (rs := [7]) (by kernel_rfl) (by simp) ?_
              refine AllReadyIn.cons rfl (fun K hK => ?_) AllReadyIn.nil
              go_simp; refine hK _ _ ?_; clear hK K
              refine wpAnyIn_done (by kernel_rfl) ?_ _
              (try gi_wp2)
              refine ⟨rb, HFIN.out.1, rfl, ClF H (.slice (some ⟨g', 0, none⟩) (hl + 1) cap') (fun k => G k ∨ k = g2), ?_, ?_, fun k hk => ?_⟩
              · rw [HRB.out]; exact HFIN.out.2.1
              · rw [HRB.out]; exact HFIN.out.2.2.1
              · rcases HFIN.out.2.2.2 k hk with e | e | e
                · exact .inl e
                · exact .inr (.inl e)
                · exact .inr (.inr (by rw [e]; rfl))
            · go_simp; refine hK _ _ ?_; clear hK K
              refine wpAnyIn_ready (rs := [0, 4]) (by kernel_rfl) (by simp) ?_
              refine AllReadyIn.cons rfl (fun K hK => ?_) (AllReadyIn.cons rfl (fun K hK => ?_) AllReadyIn.nil)
              · go_simp; refine hK _ _ ?_; clear hK K
                refine wpAnyIn_ready (rs := [4]) (by kernel_rfl) (by simp) ?_
                refine AllReadyIn.cons rfl (fun K hK => ?_) AllReadyIn.nil
                go_simp; refine hK _ _ ?_; clear hK K
                refine wpAnyIn_ready (rs := [5]) (by kernel_rfl) (by simp) ?_
                refine AllReadyIn.cons rfl (fun K hK => ?_) AllReadyIn.nil
                go_simp; refine hK _ _ ?_; clear hK K
                refine wpAnyIn_ready (rs := [6]) (by kernel_rfl) (by simp) ?_
                refine AllReadyIn.cons rfl (fun K hK => ?_) AllReadyIn.nil
                refine stepIn_appendF rfl (.tmp 22) (.tmp 27) _ rfl _ _ _ rfl rfl hrun ?_; (try go_simp); refine hK _ _ ?_; clear hK K
                refine wpAnyIn_ready (rs := [7]) (by kernel_rfl) (by simp) ?_
                refine AllReadyIn.cons rfl (fun K hK => ?_) AllReadyIn.nil
                go_simp; refine hK _ _ ?_; clear hK K
                refine wpAnyIn_done (by kernel_rfl) ?_ _
                (try gi_wp2)
                refine ⟨rb, HFIN.out.1, rfl, ClF H (.slice (some ⟨g', 0, none⟩) (hl + 1) cap') (fun k => G k ∨ k = g2), ?_, ?_, fun k hk => ?_⟩
                · rw [HRB.out]; exact HFIN.out.2.1
                · rw [HRB.out]; exact HFIN.out.2.2.1
                · rcases HFIN.out.2.2.2 k hk with e | e | e
                  · exact .inl e
                  · exact .inr (.inl e)
                  · exact .inr (.inr (by rw [e]; rfl))
              · go_simp; refine hK _ _ ?_; clear hK K
                refine wpAnyIn_ready (rs := [0, 5]) (by kernel_rfl) (by simp) ?_
                refine AllReadyIn.cons rfl (fun K hK => ?_) (AllReadyIn.cons rfl (fun K hK => ?_) AllReadyIn.nil)
                · go_simp; refine hK _ _ ?_; clear hK K
                  refine wpAnyIn_ready (rs := [5]) (by kernel_rfl) (by simp) ?_
                  refine AllReadyIn.cons rfl (fun K hK => ?_) AllReadyIn.nil
                  go_simp; refine hK _ _ ?_; clear hK K
                  refine wpAnyIn_ready (rs := [6]) (by kernel_rfl) (by simp) ?_
                  refine AllReadyIn.cons rfl (fun K hK => ?_) AllReadyIn.nil
                  refine stepIn_appendF rfl (.tmp 22) (.tmp 27) _ rfl _ _ _ rfl rfl hrun ?_; (try go_simp); refine hK _ _ ?_; clear hK K
                  refine wpAnyIn_ready (rs := [7]) (by kernel_rfl) (by simp) ?_
                  refine AllReadyIn.cons rfl (fun K hK => ?_) AllReadyIn.nil
                  go_simp; refine hK _ _ ?_; clear hK K
                  refine wpAnyIn_done (by kernel_rfl) ?_ _
                  (try gi_wp2)
                  refine ⟨rb, HFIN.out.1, rfl, ClF H (.slice (some ⟨g', 0, none⟩) (hl + 1) cap') (fun k => G k ∨ k = g2), ?_, ?_, fun k hk => ?_⟩
                  · rw [HRB.out]; exact HFIN.out.2.1
                  · rw [HRB.out]; exact HFIN.out.2.2.1
                  · rcases HFIN.out.2.2.2 k hk with e | e | e
                    · exact .inl e
                    · exact .inr (.inl e)
                    · exact .inr (.inr (by rw [e]; rfl))
                · go_simp; refine hK _ _ ?_; clear hK K
                  refine wpAnyIn_ready (rs := [0]) (by kernel_rfl) (by simp) ?_
                  refine AllReadyIn.cons rfl (fun K hK => ?_) AllReadyIn.nil
                  go_simp; refine hK _ _ ?_; clear hK K
                  refine wpAnyIn_ready (rs := [6]) (by kernel_rfl) (by simp) ?_
                  refine AllReadyIn.cons rfl (fun K hK => ?_) AllReadyIn.nil
                  refine stepIn_appendF rfl (.tmp 22) (.tmp 27) _ rfl _ _ _ rfl rfl hrun ?_; (try go_simp); refine hK _ _ ?_; clear hK K
                  refine wpAnyIn_ready (rs := [7]) (by kernel_rfl) (by simp) ?_
                  refine AllReadyIn.cons rfl (fun K hK => ?_) AllReadyIn.nil
                  go_simp; refine hK _ _ ?_; clear hK K
                  refine wpAnyIn_done (by kernel_rfl) ?_ _
                  (try gi_wp2)
                  refine ⟨rb, HFIN.out.1, rfl, ClF H (.slice (some ⟨g', 0, none⟩) (hl + 1) cap') (fun k => G k ∨ k = g2), ?_, ?_, fun k hk => ?_⟩
                  · rw [HRB.out]; exact HFIN.out.2.1
                  · rw [HRB.out]; exact HFIN.out.2.2.1
                  · rcases HFIN.out.2.2.2 k hk with e | e | e
                    · exact .inl e
                    · exact .inr (.inl e)
                    · exact .inr (.inr (by rw [e]; rfl))
        · go_simp; refine hK _ _ ?_; clear hK K
          refine wpAnyIn_ready (rs := [0, 1, 2]) (by kernel_rfl) (by simp) ?_
          refine AllReadyIn.cons rfl (fun K hK => ?_) (AllReadyIn.cons rfl (fun K hK => ?_) (AllReadyIn.cons rfl (fun K hK => ?_) AllReadyIn.nil))
          · go_simp; refine hK _ _ ?_; clear hK K
            refine wpAnyIn_ready (rs := [1, 2]) (by kernel_rfl) (by simp) ?_
            refine AllReadyIn.cons rfl (fun K hK => ?_) (AllReadyIn.cons rfl (fun K hK => ?_) AllReadyIn.nil)
            · go_simp; refine hK _ _ ?_; clear hK K
              refine wpAnyIn_ready (rs := [2]) (by kernel_rfl) (by simp) ?_
              refine AllReadyIn.cons rfl (fun K hK => ?_) AllReadyIn.nil
              go_simp; refine hK _ _ ?_; clear hK K
              refine wpAnyIn_ready (rs := [4]) (by kernel_rfl) (by simp) ?_
              refine AllReadyIn.cons rfl (fun K hK => ?_) AllReadyIn.nil
              go_simp; refine hK _ _ ?_; clear hK K
              refine wpAnyIn_ready (rs := [5]) (by kernel_rfl) (by simp) ?_
              refine AllReadyIn.cons rfl (fun K hK => ?_) AllReadyIn.nil
              go_simp; refine hK _ _ ?_; clear hK K
              refine wpAnyIn_ready (rs := [6]) (by kernel_rfl) (by simp) ?_
              refine AllReadyIn.cons rfl (fun K hK => ?_) AllReadyIn.nil
              refine stepIn_appendF rfl (.tmp 22) (.tmp 27) _ rfl _ _ _ rfl rfl hrun ?_; (try go_simp); refine hK _ _ ?_; clear hK K
              refine wpAnyIn_ready (rs := [7]) (by kernel_rfl) (by simp) ?_
              refine AllReadyIn.cons rfl (fun K hK => ?_) AllReadyIn.nil
              go_simp; refine hK _ _ ?_; clear hK K
              refine wpAnyIn_done (by kernel_rfl) ?_ _
              (try gi_wp2)
              refine ⟨rb, HFIN.out.1, rfl, ClF H (.slice (some ⟨g', 0, none⟩) (hl + 1) cap') (fun k => G k ∨ k = g2), ?_, ?_, fun k hk => ?_⟩
              · rw [HRB.out]; exact HFIN.out.2.1
              · rw [HRB.out]; exact HFIN.out.2.2.1
              · rcases HFIN.out.2.2.2 k hk with e | e | e
                · exact .inl e
                · exact .inr (.inl e)
                · exact .inr (.inr (by rw [e]; rfl))
            · go_simp; refine hK _ _ ?_; clear hK K
              refine wpAnyIn_ready (rs := [1]) (by kernel_rfl) (by simp) ?_
              refine AllReadyIn.cons rfl (fun K hK => ?_) AllReadyIn.nil
              go_simp; refine hK _ _ ?_; clear hK K
              refine wpAnyIn_ready (rs := [4]) (by kernel_rfl) (by simp) ?_
              refine AllReadyIn.cons rfl (fun K hK => ?_) AllReadyIn.nil
              go_simp; refine hK _ _ ?_; clear hK K
              refine wpAnyIn_ready (rs := [5]) (by kernel_rfl) (by simp) ?_
              refine AllReadyIn.cons rfl (fun K hK => ?_) AllReadyIn.nil
              go_simp; refine hK _ _ ?_; clear hK K
              refine wpAnyIn_ready (rs := [6]) (by kernel_rfl) (by simp) ?_
              refine AllReadyIn.cons rfl (fun K hK => ?_) AllReadyIn.nil
              refine stepIn_appendF rfl (.tmp 22) (.tmp 27) _ rfl _ _ _ rfl rfl hrun ?_; (try go_simp); refine hK _ _ ?_; clear hK K
              refine wpAnyIn_ready (rs := [7]) (by kernel_rfl) (by simp) ?_
              refine AllReadyIn.cons rfl (fun K hK => ?_) AllReadyIn.nil
              go_simp; refine hK _ _ ?_; clear hK K
              refine wpAnyIn_done (by kernel_rfl) ?_ _
              (try gi_wp2)
              refine ⟨rb, HFIN.out.1, rfl, ClF H (.slice (some ⟨g', 0, none⟩) (hl + 1) cap') (fun k => G k ∨ k = g2), ?_, ?_, fun k hk => ?_⟩
              · rw [HRB.out]; exact HFIN.out.2.1
              · rw [HRB.out]; exact HFIN.out.2.2.1
              · rcases HFIN.out.2.2.2 k hk with e | e | e
                · exact .inl e
                · exact .inr (.inl e)
                · exact .inr (.inr (by rw [e]; rfl))
          · go_simp; refine hK _ _ ?_; clear hK K
            refine wpAnyIn_ready (rs := [0, 2]) (by kernel_rfl) (by simp) ?_
            refine AllReadyIn.cons rfl (fun K hK => ?_) (AllReadyIn.cons rfl (fun K hK => ?_) AllReadyIn.nil)
            · go_simp; refine hK _ _ ?_; clear hK K
              refine wpAnyIn_ready (rs := [2]) (by kernel_rfl) (by simp) ?_
              refine AllReadyIn.cons rfl (fun K hK => ?_) AllReadyIn.nil
              go_simp; refine hK _ _ ?_; clear hK K
              refine wpAnyIn_ready (rs := [4]) (by kernel_rfl) (by simp) ?_
              refine AllReadyIn.cons rfl (fun K hK => ?_) AllReadyIn.nil
              go_simp; refine hK _ _ ?_; clear hK K
              refine wpAnyIn_ready (rs := [5]) (by kernel_rfl) (by simp) ?_
              refine AllReadyIn.cons rfl (fun K hK => ?_) AllReadyIn.nil
              go_simp; refine hK _ _ ?_; clear hK K
              refine wpAnyIn_ready (rs := [6]) (by kernel_rfl) (by simp) ?_
              refine AllReadyIn.cons rfl (fun K hK => ?_) AllReadyIn.nil
              refine stepIn_appendF rfl (.tmp 22) (.tmp 27) _ rfl _ _ _ rfl rfl hrun ?_; (try go_simp); refine hK _ _ ?_; clear hK K
              refine wpAnyIn_ready (rs := [7]) (by kernel_rfl) (by simp) ?_
              refine AllReadyIn.cons rfl (fun K hK => ?_) AllReadyIn.nil
              go_simp; refine hK _ _ ?_; clear hK K
              refine wpAnyIn_done (by kernel_rfl) ?_ _
              (try gi_wp2)
              refine ⟨rb, HFIN.out.1, rfl, ClF H (.slice (some ⟨g', 0, none⟩) (hl + 1) cap') (fun k => G k ∨ k = g2), ?_, ?_, fun k hk => ?_⟩
              · rw [HRB.out]; exact HFIN.out.2.1
              · rw [HRB.out]; exact HFIN.out.2.2.1
              · rcases HFIN.out.2.2.2 k hk with e | e | e
                · exact .inl e
                · exact .inr (.inl e)
                · exact .inr (.inr (by rw [e]; rfl))
            · go_simp; refine hK _ _ ?_; clear hK K
              refine wpAnyIn_ready (rs := [0, 4]) (by kernel_rfl) (by simp) ?_
              refine AllReadyIn.cons rfl (fun K hK => ?_) (AllReadyIn.cons rfl (fun K hK => ?_) AllReadyIn.nil)
              · go_simp; refine hK _ _ ?_; clear hK K
                refine wpAnyIn_ready (rs := [4]) (by kernel_rfl) (by simp) ?_
                refine AllReadyIn.cons rfl (fun K hK => ?_) AllReadyIn.nil
                go_simp; refine hK _ _ ?_; clear hK K
                refine wpAnyIn_ready (rs := [5]) (by kernel_rfl) (by simp) ?_
                refine AllReadyIn.cons rfl (fun K hK => ?_) AllReadyIn.nil
                go_simp; refine hK _ _ ?_; clear hK K
                refine wpAnyIn_ready (rs := [6]) (by kernel_rfl) (by simp) ?_
                refine AllReadyIn.cons rfl (fun K hK => ?_) AllReadyIn.nil
                refine stepIn_appendF rfl (.tmp 22) (.tmp 27) _ rfl _ _ _ rfl rfl hrun ?_; (try go_simp); refine hK _ _ ?_; clear hK K
                refine wpAnyIn_ready (rs := [7]) (by kernel_rfl) (by simp) ?_
                refine AllReadyIn.cons rfl (fun K hK => ?_) AllReadyIn.nil
                go_simp; refine hK _ _ ?_; clear hK K
                refine wpAnyIn_done (by kernel_rfl) ?_ _
                (try gi_wp2)
                refine ⟨rb, HFIN.out.1, rfl, ClF H (.slice (some ⟨g', 0, none⟩) (hl + 1) cap') (fun k => G k ∨ k = g2), ?_, ?_, fun k hk => ?_⟩
                · rw [HRB.out]; exact HFIN.out.2.1
                · rw [HRB.out]; exact HFIN.out.2.2.1
                · rcases HFIN.out.2.2.2 k hk with e | e | e
                  · exact .inl e
                  · exact .inr (.inl e)
                  · exact .inr (.inr (by rw [e]; rfl))
              · go_simp; refine hK _ _ ?_; clear hK K
                refine wpAnyIn_ready (rs := [0, 5]) (by kernel_rfl) (by simp) ?_
                refine AllReadyIn.cons rfl (fun K hK => ?_) (AllReadyIn.cons rfl (fun K hK => ?_) AllReadyIn.nil)
                · go_simp; refine hK _ _ ?_; clear hK K
                  refine wpAnyIn_ready (rs := [5]) (by kernel_rfl) (by simp) ?_
                  refine AllReadyIn.cons rfl (fun K hK => ?_) AllReadyIn.nil
                  go_simp; refine hK _ _ ?_; clear hK K
                  refine wpAnyIn_ready (rs := [6]) (by kernel_rfl) (by simp) ?_
                  refine AllReadyIn.cons rfl (fun K hK => ?_) AllReadyIn.nil
                  refine stepIn_appendF rfl (.tmp 22) (.tmp 27) _ rfl _ _ _ rfl rfl hrun ?_; (try go_simp); refine hK _ _ ?_; clear hK K
                  refine wpAnyIn_ready (rs := [7]) (by kernel_rfl) (by simp) ?_
                  refine AllReadyIn.cons rfl (fun K hK => ?_) AllReadyIn.nil
                  go_simp; refine hK _ _ ?_; clear hK K
                  refine wpAnyIn_done (by kernel_rfl) ?_ _
                  (try gi_wp2)
                  refine ⟨rb, HFIN.out.1, rfl, ClF H (.slice (some ⟨g', 0, none⟩) (hl + 1) cap') (fun k => G k ∨ k = g2), ?_, ?_, fun k hk => ?_⟩
                  · rw [HRB.out]; exact HFIN.out.2.1
                  · rw [HRB.out]; exact HFIN.out.2.2.1
                  · rcases HFIN.out.2.2.2 k hk with e | e | e
                    · exact .inl e
                    · exact .inr (.inl e)
                    · exact .inr (.inr (by rw [e]; rfl))
                · go_simp; refine hK _ _ ?_; clear hK K
                  refine wpAnyIn_ready (rs := [0]) (by kernel_rfl) (by simp) ?_
                  refine AllReadyIn.cons rfl (fun K hK => ?_) AllReadyIn.nil
                  go_simp; refine hK _ _ ?_; clear hK K
                  refine wpAnyIn_ready (rs := [6]) (by kernel_rfl) (by simp) ?_
                  refine AllReadyIn.cons rfl (fun K hK => ?_) AllReadyIn.nil
                  refine stepIn_appendF rfl (.tmp 22) (.tmp 27) _ rfl _ _ _ rfl rfl hrun ?_; (try go_simp); refine hK _ _ ?_; clear hK K
                  refine wpAnyIn_ready (rs := [7]) (by kernel_rfl) (by simp) ?_
                  refine AllReadyIn.cons rfl (fun K hK => ?_) AllReadyIn.nil
                  go_simp; refine hK _ _ ?_; clear hK K
                  refine wpAnyIn_done (by kernel_rfl) ?_ _
                  (try gi_wp2)
                  refine ⟨rb, HFIN.out.1, rfl, ClF H (.slice (some ⟨g', 0, none⟩) (hl + 1) cap') (fun k => G k ∨ k = g2), ?_, ?_, fun k hk => ?_⟩
                  · rw [HRB.out]; exact HFIN.out.2.1
                  · rw [HRB.out]; exact HFIN.out.2.2.1
                  · rcases HFIN.out.2.2.2 k hk with e | e | e
                    · exact .inl e
                    · exact .inr (.inl e)
                    · exact .inr (.inr (by rw [e]; rfl))
          · go_simp; refine hK _ _ ?_; clear hK K
            refine wpAnyIn_ready (rs := [0, 1]) (by kernel_rfl) (by simp) ?_
            refine AllReadyIn.cons rfl (fun K hK => ?_) (AllReadyIn.cons rfl (fun K hK => ?_) AllReadyIn.nil)
            · go_simp; refine hK _ _ ?_; clear hK K
              refine wpAnyIn_ready (rs := [1]) (by kernel_rfl) (by simp) ?_
              refine AllReadyIn.cons rfl (fun K hK => ?_) AllReadyIn.nil
              go_simp; refine hK _ _ ?_; clear hK K
              refine wpAnyIn_ready (rs := [4]) (by kernel_rfl) (by simp) ?_
              refine AllReadyIn.cons rfl (fun K hK => ?_) AllReadyIn.nil
              go_simp; refine hK _ _ ?_; clear hK K
              refine wpAnyIn_ready (rs := [5]) (by kernel_rfl) (by simp) ?_
              refine AllReadyIn.cons rfl (fun K hK => ?_) AllReadyIn.nil
              go_simp; refine hK _ _ ?_; clear hK K
              refine wpAnyIn_ready (rs := [6]) (by kernel_rfl) (by simp) ?_
              refine AllReadyIn.cons rfl (fun K hK => ?_) AllReadyIn.nil
              refine stepIn_appendF rfl (.tmp 22) (.tmp 27) _ rfl _ _ _ rfl rfl hrun ?_; (try go_simp); refine hK _ _ ?_; clear hK K
              refine wpAnyIn_ready (rs := [7]) (by kernel_rfl) (by simp) ?_
              refine AllReadyIn.cons rfl (fun K hK => ?_) AllReadyIn.nil
              go_simp; refine hK _ _ ?_; clear hK K
              refine wpAnyIn_done (by kernel_rfl) ?_ _
              (try gi_wp2)
              refine ⟨rb, HFIN.out.1, rfl, ClF H (.slice (some ⟨g', 0, none⟩) (hl + 1) cap') (fun k => G k ∨ k = g2), ?_, ?_, fun k hk => ?_⟩
              · rw [HRB.out]; exact HFIN.out.2.1
              · rw [HRB.out]; exact HFIN.out.2.2.1
              · rcases HFIN.out.2.2.2 k hk with e | e | e
                · exact .inl e
                · exact .inr (.inl e)
                · exact .inr (.inr (by rw [e]; rfl))
            · go_simp; refine hK _ _ ?_; clear hK K
              refine wpAnyIn_ready (rs := [0, 4]) (by kernel_rfl) (by simp) ?_
              refine AllReadyIn.cons rfl (fun K hK => ?_) (AllReadyIn.cons rfl (fun K hK => ?_) AllReadyIn.nil)
              · go_simp; refine hK _ _ ?_; clear hK K
                refine wpAnyIn_ready (rs := [4]) (by kernel_rfl) (by simp) ?_
                refine AllReadyIn.cons rfl (fun K hK => ?_) AllReadyIn.nil
                go_simp; refine hK _ _ ?_; clear hK K
                refine wpAnyIn_ready (rs := [5]) (by kernel_rfl) (by simp) ?_
                refine AllReadyIn.cons rfl (fun K hK => ?_) AllReadyIn.nil
                go_simp; refine hK _ _ ?_; clear hK K
                refine wpAnyIn_ready (rs := [6]) (by kernel_rfl) (by simp) ?_
                refine AllReadyIn.cons rfl (fun K hK => ?_) AllReadyIn.nil
                refine stepIn_appendF rfl (.tmp 22) (.tmp 27) _ rfl _ _ _ rfl rfl hrun ?_; (try go_simp); refine hK _ _ ?_; clear hK K
                refine wpAnyIn_ready (rs := [7]) (by kernel_rfl) (by simp) ?_
                refine AllReadyIn.cons rfl (fun K hK => ?_) AllReadyIn.nil
                go_simp; refine hK _ _ ?_; clear hK K
                refine wpAnyIn_done (by kernel_rfl) ?_ _
                (try gi_wp2)
                refine ⟨rb, HFIN.out.1, rfl, ClF H (.slice (some ⟨g', 0, none⟩) (hl + 1) cap') (fun k => G k ∨ k = g2), ?_, ?_, fun k hk => ?_⟩
                · rw [HRB.out]; exact HFIN.out.2.1
                · rw [HRB.out]; exact HFIN.out.2.2.1
                · rcases HFIN.out.2.2.2 k hk with e | e | e
                  · exact .inl e
                  · exact .inr (.inl e)
                  · exact .inr (.inr (by rw [e]; rfl))
              · go_simp; refine hK _ _ ?_; clear hK K
                refine wpAnyIn_ready (rs := [0, 5]) (by kernel_rfl) (by simp) ?_
                refine AllReadyIn.cons rfl (fun K hK => ?_) (AllReadyIn.cons rfl (fun K hK => ?_) AllReadyIn.nil)
                · go_simp; refine hK _ _ ?_; clear hK K
                  refine wpAnyIn_ready (rs := [5]) (by kernel_rfl) (by simp) ?_
                  refine AllReadyIn.cons rfl (fun K hK => ?_) AllReadyIn.nil
                  go_simp; refine hK _ _ ?_; clear hK K
                  refine wpAnyIn_ready (rs := [6]) (by kernel_rfl) (by simp) ?_
                  refine AllReadyIn.cons rfl (fun K hK => ?_) AllReadyIn.nil
                  refine stepIn_appendF rfl (.tmp 22) (.tmp 27) _ rfl _ _ _ rfl rfl hrun ?_; (try go_simp); refine hK _ _ ?_; clear hK K
                  refine wpAnyIn_ready (rs := [7]) (by kernel_rfl) (by simp) ?_
                  refine AllReadyIn.cons rfl (fun K hK => ?_) AllReadyIn.nil
                  go_simp; refine hK _ _ ?_; clear hK K
                  refine wpAnyIn_done (by kernel_rfl) ?_ _
                  (try gi_wp2)
                  refine ⟨rb, HFIN.out.1, rfl, ClF H (.slice (some ⟨g', 0, none⟩) (hl + 1) cap') (fun k => G k ∨ k = g2), ?_, ?_, fun k hk => ?_⟩
                  · rw [HRB.out]; exact HFIN.out.2.1
                  · rw [HRB.out]; exact HFIN.out.2.2.1
                  · rcases HFIN.out.2.2.2 k hk with e | e | e
                    · exact .inl e
                    · exact .inr (.inl e)
                    · exact .inr (.inr (by rw [e]; rfl))
                · go_simp; refine hK _ _ ?_; clear hK K
                  refine wpAnyIn_ready (rs := [0]) (by kernel_rfl) (by simp) ?_
                  refine AllReadyIn.cons rfl (fun K hK => ?_) AllReadyIn.nil
                  go_simp; refine hK _ _ ?_; clear hK K
                  refine wpAnyIn_ready (rs := [6]) (by kernel_rfl) (by simp) ?_
                  refine AllReadyIn.cons rfl (fun K hK => ?_) AllReadyIn.nil
                  refine stepIn_appendF rfl (.tmp 22) (.tmp 27) _ rfl _ _ _ rfl rfl hrun ?_; (try go_simp); refine hK _ _ ?_; clear hK K
                  refine wpAnyIn_ready (rs := [7]) (by kernel_rfl) (by simp) ?_
                  refine AllReadyIn.cons rfl (fun K hK => ?_) AllReadyIn.nil
                  go_simp; refine hK _ _ ?_; clear hK K
                  refine wpAnyIn_done (by kernel_rfl) ?_ _
                  (try gi_wp2)
                  refine ⟨rb, HFIN.out.1, rfl, ClF H (.slice (some ⟨g', 0, none⟩) (hl + 1) cap') (fun k => G k ∨ k = g2), ?_, ?_, fun k hk => ?_⟩
                  · rw [HRB.out]; exact HFIN.out.2.1
                  · rw [HRB.out]; exact HFIN.out.2.2.1
                  · rcases HFIN.out.2.2.2 k hk with e | e | e
                    · exact .inl e
                    · exact .inr (.inl e)
                    · exact .inr (.inr (by rw [e]; rfl))
    have hit := iter_in 5 (l := H + 5) (B0 := H + 2) (FB := H + 3) (fp := H + 1) (src := src) C X (by omega) (hTU.of_below (hXB.mono (by omega))) hJ0 (fun k hk => by
      rcases hk with e | e | e | e | e | e
      · omega
      · omega
      · omega
      · omega
      · simp [Value.ownBlock] at e
      · exact e.elim) ((hkx _ (by omega)).trans u2) ((hkx _ (by omega)).trans u3) ((hkx _ (by omega)).trans u1)
    refine hit.mono ?_
    rintro e Z ⟨hv, F', ⟨v, hs, G, rfl, hI⟩, hp⟩
    exact ⟨hv, .inl ⟨hI.lop, v, hs, G, hI.out, hI.dfr, hI.own, hI.els, fun g hg => by obtain ⟨a, b, c, d, e, f⟩ := hI.gs g hg; exact ⟨a, c, e, f⟩, hI.below, hp⟩⟩
  case hready =>
    rintro Z r hlt ⟨v, hs, G, z0, z4, zo, ze, zg, zb, z1⟩
    rw [hUs] at hlt ⊢
    have hb := grownBy_putObj' Z (H + 4 + 1) (.loop r)
    have hk : ∀ k, k ≠ H + 5 → (Z.putObj (H + 4 + 1) (.loop r)).heap[k]? = Z.heap[k]? := fun k hk => World.putObj_heap_other (by omega)
    have y0 := (hk H (by omega)).trans z0
    have y1 := (hk (H + 1) (by omega)).trans z1
    have y4 := (hk (H + 4) (by omega)).trans z4
    have yo := own_butE zo ((But.refl (fun k => k = H + 4 + 1) Z).putObj (H + 4 + 1) (.loop r) rfl) (fun k e e2 => by have := (zo.lt k e2).1; omega)
    have ye := ze.keep (W' := Z.putObj (H + 4 + 1) (.loop r)) (fun g hg _ => hk g (zg g hg).2.2.2)
    have yb : Below H w (Z.putObj (H + 4 + 1) (.loop r)) := zb.grown hb (by omega) (fun k e => by cases e; omega)
    clear hb hk z0 z1 z4 zo ze zb u0 u1 u2 u3 hUb hTU
    generalize Z.putObj (H + 4 + 1) (.loop r) = Y at *
    have hl4 : H + 4 < Y.heap.size := (Array.getElem?_eq_some_iff.1 y4).1
    have hp5 : But (fun k => k = H + 4) Y (Y.putObj (H + 4) (.deferred none)) := (But.refl (fun k => k = H + 4) Y).putObj _ _ rfl
    have HFO := Aside0.mk (own_butE yo hp5 (fun k e e2 => by have := (yo.lt k e2).1; omega))
    have HFE := Aside0.mk (ye.keep (W' := Y.putObj (H + 4) (.deferred none)) (fun g hg hl => World.putObj_heap_other (zg g hg).2.2.1))
    have HFB := Aside0.mk (yb.trans (hp5.belowB (by omega) (fun k hk => by omega)))
    have HZG := Aside0.mk zg
    have Y4 := Aside0.mk y4
    have c1 : Y.cell? ⟨H, 0, none⟩ = some v := (blk_cell y0 0).trans rfl
    have hu76 := Tryz.underlying76
    cases he : (S.scan (bytesOf src)).err with
    | none =>
      rw [he] at y1
      have d0 : Y.cell? ⟨H + 1, 0, none⟩ = some (.int .i64 0) := (blk_cell y1 0).trans rfl
      have d1 : Y.cell? ⟨H + 1, 1, none⟩ = some (.int .i64 0) := (blk_cell y1 1).trans rfl
      have HE := Aside0.mk he
      clear y0 y1 y4 yo ye yb hlt hp5 zg
      gi_wp2
      refine ⟨by simp, .inl ⟨_, _, rfl, run_takeDeferred Y4.out, ?_⟩⟩
      refine ⟨_, results_tmp4 rfl _ _ _, by rw [hH]; exact HFB.out, ?_⟩
      unfold ClPost
      rw [HE.out]
      refine ⟨v, hs, G, rfl, ?_, HFE.out, fun g hg => ?_⟩
      · rw [hH]
        obtain ⟨o1, o2⟩ := HFO.out
        refine ⟨o1, o2.imp id ?_⟩
        rintro ⟨g, cap, cur, hv, hg, rest⟩
        exact ⟨g, cap, cur, hv, by omega, rest⟩
      · rw [hH]; exact ⟨(HZG.out g hg).1, (HZG.out g hg).2.1⟩
    | some p =>
      obtain ⟨c, ln⟩ := p
      have hc0 := HNE.out c ln he
      rw [he] at y1
      have d0 : Y.cell? ⟨H + 1, 0, none⟩ = some (.int .i64 c) := (blk_cell y1 0).trans rfl
      have d1 : Y.cell? ⟨H + 1, 1, none⟩ = some (.int .i64 ln) := (blk_cell y1 1).trans rfl
      have g0 : ((c : Int) != 0) = true := bne_iff_ne.2 (by omega)
      have HE := Aside0.mk he
      clear y0 y1 y4 yo ye yb hlt hp5 zg
      gi_upto_region 11 with (fail)
      gi_region
      all_goals
        gi_wp2
        refine ⟨by simp, .inl ⟨_, _, rfl, run_takeDeferred (show (World.heap _)[_]? = _ from Y4.out), ?_⟩⟩
        refine ⟨_, results_tmp4 rfl _ _ _, ?_, ?_⟩
        · rw [hH]; exact HFB.out.trans (below_drew (Below.refl _ _))
        · unfold ClPost; rw [HE.out]; rfl
end Go.Proofs.YtkkpjonfaflkmaaGreatDoor.T

/- scan.Clauses in the printer's form. -/
namespace Go.Proofs.YtkkpjonfaflkmaaGreatDoor.T
set_option linter.unusedSimpArgs false
set_option linter.unusedVariables false
open Go.RowKit Go.Maps Go.Proofs.YtkkpjonfaflkmaaGreatDoorW.PrintWords Go.Proofs.YtkkpjonfaflkmaaGreatDoorW.PrintLast Go.Proofs.YtkkpjonfaflkmaaGreatDoorW.PrintMore

theorem cells_C {W : World} {g : Nat} {cs : Array Value} {c : List S.Tk} (hg : W.heap[g]? = some (.cells cs 53 (0, 0))) (ht : cs.toList.take (c.length * 6) = tksL c) (hl : c.length ≤ 300000) : Kd.C k53 W (some ⟨g, 0, none⟩) (c.map toS).length (c.map toS) := by
  refine ⟨rfl, by rw [List.length_map]; omega, fun _ => ⟨_, rfl, fun j p hj => ?_⟩⟩
  rw [List.getElem?_map] at hj
  cases hc : c[j]? with
  | none => rw [hc] at hj; cases hj
  | some t =>
    rw [hc] at hj
    simp only [Option.map_some, Option.some.injEq] at hj
    subst hj
    have hjl : j < c.length := (List.getElem?_eq_some_iff.1 hc).1
    refine ⟨tkL t, rfl, k53_mk W (toS t), fun i u hu => ?_⟩
    have hi : i < 6 := (List.getElem?_eq_some_iff.1 hu).1
    have e1 : (tksL c)[j * 6 + i]? = some u := by
      rw [← tksL_at c j t hc, List.getElem?_take_of_lt hi, List.getElem?_drop] at hu
      exact hu
    rw [← ht, List.getElem?_take_of_lt (by omega)] at e1
    show W.cell? ((⟨g, 0, none⟩ : Addr).add (j * 6 + i)) = some u
    rw [add_plain, blk_cell hg]
    simpa using e1
theorem hdrs_N {G : Nat → Prop} {W : World} {base : Nat} {v : Value} {hs : List Value} {cls : List (List S.Tk)} (ho : W.ownsRow base 24 1 v hs.length hs) (h : Hdrs G W hs cls) (hG : ∀ g, G g → base ≤ g ∧ v.ownBlock ≠ some g) :
    Kd.N (Kd.slice 53 k53) 24 W base (fun k => base ≤ k) v (cls.map (List.map toS)) := by
  have hone : ∀ (j : Nat) (u : Value), hs[j]? = some u → u.oneCell' = true := fun j u hu => by
    have hj : j < cls.length := by rw [← h.1]; exact (List.getElem?_eq_some_iff.1 hu).1
    obtain ⟨g, cs, e1, _⟩ := h.2 j u _ hu (List.getElem?_eq_getElem hj)
    rw [e1]; rfl
  refine ⟨fun k hk => (ho.lt k hk).1, hs.map (fun u => [u]), by rw [List.length_map, List.length_map, h.1], ⟨fun k hk => hk.symm, hs, by rw [List.length_map]; exact ho, by rw [List.length_map]; exact (Nat.mul_one _).symm, fun j p hj => ?_⟩, fun j x c hx hc => ?_⟩
  · rw [List.getElem?_map] at hj
    cases hu : hs[j]? with
    | none => rw [hu] at hj; cases hj
    | some u =>
      rw [hu] at hj
      simp only [Option.map_some, Option.some.injEq] at hj
      subst hj
      have hjl : j < hs.length := (List.getElem?_eq_some_iff.1 hu).1
      have e : (hs.drop (j * 1)).take 1 = [u] := by
        rw [Nat.mul_one, List.drop_eq_getElem_cons hjl]
        rw [List.getElem?_eq_getElem hjl] at hu
        simp only [Option.some.injEq] at hu
        simp [hu]
      show (hs.drop (j * 1)).take 1 = [u] ∧ ((hs.drop (j * 1)).take 1).length = 1 ∧ ∀ u' ∈ (hs.drop (j * 1)).take 1, u'.oneCell' = true
      exact ⟨e, by rw [e]; rfl, fun u' hu' => by rw [e] at hu'; rw [List.mem_singleton.1 hu']; exact hone j u hu⟩
  · rw [List.getElem?_map] at hc hx
    cases hu : hs[j]? with
    | none => rw [hu] at hc; cases hc
    | some u =>
      cases hcl : cls[j]? with
      | none => rw [hcl] at hx; cases hx
      | some cl =>
        rw [hu] at hc
        rw [hcl] at hx
        simp only [Option.map_some, Option.some.injEq] at hc hx
        subst hc hx
        obtain ⟨g, cs, e1, e2, e3, e4, e5⟩ := h.2 j u cl hu hcl
        intro W' hW
        have hg' : W'.heap[g]? = some (.cells cs 53 (0, 0)) := (hW g ⟨(hG g e2).1, fun e => (hG g e2).2 e.symm⟩ (Array.getElem?_eq_some_iff.1 e3).1).trans e3
        exact ⟨_, _, by rw [e1, List.length_map], by rw [List.length_map]; exact Nat.le_refl _, cells_C hg' e4 e5⟩
/-- What Clauses returns. -/
def scan_Clauses.f (a0 : ByteArray) : Option (List (List S53) × Int × Int × Int) :=
  if a0.size ≤ 20000 then
    (match (S.scan (bytesOf a0)).err with
    | none => some ((S.scan (bytesOf a0)).cl.map fun c => c.dropLast.map toS, 0, 0, 0)
    | some p => some ([], p.1, p.2, 7))
  else some ([], 0, 0, 3)
set_option maxRecDepth 100000 in
set_option maxHeartbeats 4000000 in
theorem scan_Clauses.calls (a0 : ByteArray) (r1 : List (List S53)) (r2 r3 r4 : Int) (w : World) (hT : TabOK w) (h : scan_Clauses.f a0 = some (r1, r2, r3, r4)) :
    Calls Tryz.prog 19 #[.string a0] w fun e w' => ∃ v0 : Value, e = .returned (.tuple #[v0, .int .i64 r2, .int .i64 r3, .int .i64 r4]) ∧ Kd.N (Kd.slice 53 k53) 24 w' w.heap.size (fun k => w.heap.size ≤ k) v0 r1 ∧ Below w.heap.size w w' := by
  unfold scan_Clauses.f at h
  by_cases hs : a0.size ≤ 20000
  · rw [if_pos hs] at h
    refine (scan_Clauses_m.calls a0 w hs hT (fun c ln he => S.scan_err he)).mono ?_
    rintro e w' ⟨hb, hp⟩
    unfold ClPost at hp
    cases he : (S.scan (bytesOf a0)).err with
    | none =>
      rw [he] at h hp
      simp only [Option.some.injEq, Prod.mk.injEq] at h
      obtain ⟨rfl, rfl, rfl, rfl⟩ := h
      obtain ⟨v, hss, G, rfl, ho, hh, hG⟩ := hp
      have := hdrs_N ho hh hG
      rw [List.map_map] at this
      exact ⟨v, rfl, this, hb⟩
    | some p =>
      rw [he] at h hp
      simp only [Option.some.injEq, Prod.mk.injEq] at h
      obtain ⟨rfl, rfl, rfl, rfl⟩ := h
      exact ⟨_, hp, Kd.N_nil _ _ _ _ _, hb⟩
  · rw [if_neg hs] at h
    simp only [Option.some.injEq, Prod.mk.injEq] at h
    obtain ⟨rfl, rfl, rfl, rfl⟩ := h
    have HLM := Lib.hid (scan_limited.calls a0 3 w (by unfold scan_limited.f; rw [if_pos (by omega)]))
    clear hT
    refine (callsIn_wide (n := 8)).1 ?_
    refine callsIn_of_wp_marks Tryz.func19 rfl trivial ?_ rfl
    simp only [Tryz.ntmps19, List.size_toArray, List.length_cons, List.length_nil, Nat.reduceAdd, Nat.reduceSub, Array.replicate_succ, Array.replicate_zero, List.push_toArray, List.append_toArray, List.nil_append, List.cons_append]
    have hwf : ∀ f, Fence.wide.fn f := fun _ => trivial
    gi_wp2_with (gi_at_call 50; refine (callsIn_wide.2 HLM.out).mono ?_; rintro e w' ⟨rfl, ⟨⟨q, rfl⟩⟩⟩)
    refine ⟨_, results_tmp4 rfl _ _ _, ?_⟩
    exact ⟨_, rfl, Kd.N_nil _ _ _ _ _, pw_below_drewN (Below.refl _ _) _⟩
end Go.Proofs.YtkkpjonfaflkmaaGreatDoor.T
