/- Part 15 of the proof of ScanLocal: the functions that it calls return what their plain descriptions say. -/
import Derived.Test.YtkkpjonfaflkmaaGreatDoorCScanLocal14
import Derived.StillTail
import Derived.StillTactics

namespace Go.Proofs.YtkkpjonfaflkmaaGreatDoor.T
set_option linter.unusedSimpArgs false
set_option linter.unusedVariables false
open Go.RowKit Go.Maps Go.Proofs.YtkkpjonfaflkmaaGreatDoorW.PrintWords Go.Proofs.YtkkpjonfaflkmaaGreatDoorW.PrintLast Go.Proofs.YtkkpjonfaflkmaaGreatDoorW.PrintMore
attribute [local go_sem] Oper.semAt_some
def tkC (x : S53) : List Value := [.int .i64 x.f0, .string x.f1, .bool x.f2, .int .i64 x.f3, .int .i64 x.f4, .int .i64 x.f5]
def tksC (l : List S53) : List Value := (l.map tkC).flatten
theorem tksC_at : ∀ (l : List S53) (j : Nat) (t : S53), l[j]? = some t → ((tksC l).drop (j * 6)).take 6 = tkC t
  | [], j, t, h => by simp at h
  | x :: l, 0, t, h => by
    simp only [List.getElem?_cons_zero, Option.some.injEq] at h
    subst h
    simp [tksC, tkC]
  | x :: l, j + 1, t, h => by
    simp only [List.getElem?_cons_succ] at h
    have := tksC_at l j t h
    have e : (tksC (x :: l)).drop ((j + 1) * 6) = (tksC l).drop (j * 6) := by
      simp only [tksC, List.map_cons, List.flatten_cons]
      rw [List.drop_append, List.drop_eq_nil_of_le (by simp [tkC]; omega), List.nil_append]
      congr 1
      simp [tkC]; omega
    rw [e]; exact this
theorem row_C {W : World} {g : Nat} {cs : Array Value} {l : List S53} (hg : W.heap[g]? = some (.cells cs 53 (0, 0))) (ht : cs.toList = tksC l) (hl : l.length ≤ 300000) : Kd.C k53 W (some ⟨g, 0, none⟩) l.length l := by
  refine ⟨rfl, by omega, fun _ => ⟨_, rfl, fun j p hj => ?_⟩⟩
  refine ⟨tkC p, rfl, k53_mk W p, fun i u hu => ?_⟩
  have hi : i < 6 := (List.getElem?_eq_some_iff.1 hu).1
  have e1 : (tksC l)[j * 6 + i]? = some u := by
    rw [← tksC_at l j p hj, List.getElem?_take_of_lt hi, List.getElem?_drop] at hu
    exact hu
  rw [← ht] at e1
  show W.cell? ((⟨g, 0, none⟩ : Addr).add (j * 6 + i)) = some u
  rw [add_plain, blk_cell hg]
  simpa using e1
theorem C_cut {w : World} {ad : Addr} {l : List S53} (k m : Nat) (hk : k + m ≤ l.length) (h : Kd.C k53 w (some ad) l.length l) : Kd.C k53 w (some (ad.add (k * 6))) m ((l.drop k).take m) := by
  obtain ⟨h1, h2, h3⟩ := h
  refine ⟨by rw [List.length_take, List.length_drop]; omega, by omega, fun hne => ?_⟩
  obtain ⟨ad', e, hj⟩ := h3 (by omega)
  cases e
  refine ⟨_, rfl, fun j p hp => ?_⟩
  have hp2 : l[k + j]? = some p := by
    rw [List.getElem?_take] at hp
    split at hp
    · rw [List.getElem?_drop] at hp; exact hp
    · cases hp
  obtain ⟨c, c1, c2, c3⟩ := hj (k + j) p hp2
  refine ⟨c, c1, c2, fun i u hu => ?_⟩
  have := c3 i u hu
  have e6 : k53.sz = 6 := rfl
  rw [e6] at this ⊢
  rw [Go.Addr.add_add, show k * 6 + (j * 6 + i) = (k + j) * 6 + i by omega]
  exact this
def tkAt (l : List S53) (i : Nat) : S53 := rd_T53 l (i : Int)
def sepB (l : List S53) (i first : Nat) : Bool :=
  mergesB [tkAt l (i - 1), tkAt l i] || (decide (first + 2 ≤ i) && !(tkAt l (i - 1)).f2 && decide ((tkAt l (i - 2)).f0 = 1) && mergesB [tkAt l (i - 2), tkAt l (i - 1), tkAt l i])
def gapN (l : List S53) (i first : Nat) : List Int :=
  if i = first then [] else if (tkAt l i).f2 = true then [32] else if sepB l i first = true then [47, 42, 42, 47] else []
def endN (l : List S53) (i first : Nat) : List Int := (if commaB ((l.drop first).take (i - first)) = true then [59] else []) ++ [10]
def wrStep (l : List S53) (i : Nat) (p : Nat × List Int) : Nat × List Int :=
  if (tkAt l i).f0 = 4 then (i + 1, p.2 ++ endN l i p.1) else (p.1, p.2 ++ gapN l i p.1 ++ spN (tkAt l i))
def wrN (l : List S53) : Nat → Nat × List Int
  | 0 => (0, [])
  | k + 1 => wrStep l k (wrN l k)
def writtenN (l : List S53) : List Int := (wrN l l.length).2
theorem gapN_len (l : List S53) (i first : Nat) : (gapN l i first).length ≤ 4 := by
  unfold gapN
  split
  · simp
  · split
    · simp
    · split <;> simp
theorem gapN_bytes (l : List S53) (i first : Nat) : ∀ x ∈ gapN l i first, 0 ≤ x ∧ x < 256 := by
  unfold gapN
  split
  · simp
  · split
    · simp
    · split
      · intro x hx
        simp only [List.mem_cons, List.not_mem_nil, or_false] at hx
        omega
      · simp
theorem endN_bytes (l : List S53) (i first : Nat) : (endN l i first).length ≤ 4 ∧ ∀ x ∈ endN l i first, 0 ≤ x ∧ x < 256 := by
  unfold endN
  split <;> simp
theorem wrN_facts (l : List S53) : ∀ k, k ≤ l.length → (wrN l k).1 ≤ k ∧ (wrN l k).2.length ≤ szL (l.take k) + 4 * k ∧ ∀ x ∈ (wrN l k).2, 0 ≤ x ∧ x < 256
  | 0, _ => ⟨Nat.le_refl _, by simp [wrN], by simp [wrN]⟩
  | k + 1, hk => by
    obtain ⟨h1, h2, h3⟩ := wrN_facts l k (by omega)
    have hs : szL (l.take (k + 1)) = szL (l.take k) + (2 * (tkAt l k).f1.size + 2) := by
      have hd : l.take (k + 1) = l.take k ++ [tkAt l k] := by
        rw [List.take_add_one, List.getElem?_eq_getElem (by omega)]
        unfold tkAt rd_T53
        rw [Int.toNat_natCast, List.getD_eq_getElem?_getD, List.getElem?_eq_getElem (by omega)]
        rfl
      rw [hd]; simp [szL]
    have hsp := sp_len (tkAt l k)
    simp only [wrN, wrStep]
    split
    · obtain ⟨e1, e2⟩ := endN_bytes l k (wrN l k).1
      refine ⟨Nat.le_refl _, by rw [List.length_append]; omega, fun x hx => ?_⟩
      rcases List.mem_append.1 hx with e | e
      · exact h3 x e
      · exact e2 x e
    · have e1 := gapN_len l k (wrN l k).1
      refine ⟨by omega, by rw [List.length_append, List.length_append]; omega, fun x hx => ?_⟩
      rcases List.mem_append.1 hx with e | e
      · rcases List.mem_append.1 e with e | e
        · exact h3 x e
        · exact gapN_bytes l k _ x e
      · exact sp_bytes _ x e
theorem szL_two {l : List S53} {i : Nat} (hi : i + 1 < l.length) : szL [tkAt l i, tkAt l (i + 1)] ≤ szL l := by
  have h1 : l.drop i = tkAt l i :: l.drop (i + 1) := drop_rd (by omega)
  have h2 : l.drop (i + 1) = tkAt l (i + 1) :: l.drop (i + 1 + 1) := drop_rd hi
  conv => { rhs; rw [← List.take_append_drop i l, h1, h2] }
  simp only [szL, List.map_append, List.map_cons, List.map_nil, List.sum_append, List.sum_cons, List.sum_nil]
  omega
theorem szL_three {l : List S53} {i : Nat} (hi : i + 2 < l.length) : szL [tkAt l i, tkAt l (i + 1), tkAt l (i + 2)] ≤ szL l := by
  have h1 : l.drop i = tkAt l i :: l.drop (i + 1) := drop_rd (by omega)
  have h2 : l.drop (i + 1) = tkAt l (i + 1) :: l.drop (i + 1 + 1) := drop_rd (by omega)
  have h3 : l.drop (i + 2) = tkAt l (i + 2) :: l.drop (i + 2 + 1) := drop_rd hi
  conv => { rhs; rw [← List.take_append_drop i l, h1, h2, show i + 1 + 1 = i + 2 from rfl, h3] }
  simp only [szL, List.map_append, List.map_cons, List.map_nil, List.sum_append, List.sum_cons, List.sum_nil]
  omega
theorem Bld.lt {B b : Nat} {xs : List Int} {w : World} (h : Bld B b xs w) : b < w.heap.size := by
  rcases h with ⟨_, v, h2, _⟩ | ⟨_, v, h2, _⟩ <;> exact (Array.getElem?_eq_some_iff.1 h2).1
structure Rd (H h1 : Nat) (w : World) (tx : S53) (o : List Int) (W : World) : Prop where
  bl : Below H w W
  bd : Bld H H o W
  bx : W.heap[h1]? = some (.cells #[.int .i64 tx.f0, .string tx.f1, .bool tx.f2, .int .i64 tx.f3, .int .i64 tx.f4, .int .i64 tx.f5] 53 (0, 0))
  hs : H ≤ W.heap.size
  ne : H < h1
theorem Rd.keep {H h1 : Nat} {w : World} {tx : S53} {o : List Int} {W W' : World} (h : Rd H h1 w tx o W) (hb : Below W.heap.size W W') : Rd H h1 w tx o W' :=
  ⟨h.bl.trans (hb.mono h.hs), h.bd.keep hb, (hb.block h1 (Array.getElem?_eq_some_iff.1 h.bx).1).trans h.bx, Nat.le_trans h.hs hb.size, h.ne⟩
theorem Rd.wb {H h1 : Nat} {w : World} {tx : S53} {o : List Int} {W : World} (h : Rd H h1 w tx o W) (c : Int) (hl : o.length ≤ 100000000) :
    Calls Tryz.prog 106 #[.pointer (some ⟨H, 0, none⟩), .int .u8 c] W fun e w' => e = .returned .nilIface ∧ Rd H h1 w tx (o ++ [c]) w' := by
  refine (Any.Builder_WriteByte_k bldLays167 bldExtra H H _ c W h.bd (by rw [List.length_map]; omega) h.hs).mono ?_
  rintro e w' ⟨rfl, k1, k2, k3⟩
  refine ⟨rfl, h.bl.trans k2, ?_, k3 _ _ h.bx (fun e => by have := h.ne; simp only [Option.some.injEq] at e; omega) (fun c fz e => ?_), Nat.le_trans h.hs k2.size, h.ne⟩
  · unfold Bld; rw [List.map_append]; exact .inr k1
  · injection e with e1 e2 e3; exact absurd e2 (by decide)
theorem Rd.ws {H h1 : Nat} {w : World} {tx : S53} {o : List Int} {W : World} (h : Rd H h1 w tx o W) (s : ByteArray) (hl : o.length + s.size ≤ 100000000) :
    Calls Tryz.prog 112 #[.pointer (some ⟨H, 0, none⟩), .string s] W fun e w' => (∃ nn : Nat, e = .returned (.tuple #[.int .i64 nn, .nilIface])) ∧ Rd H h1 w tx (o ++ bytesOf s) w' := by
  refine (Any.Builder_WriteString_k bldLays166 bldExtra H H _ s W h.bd (by rw [List.length_map]; omega) h.hs).mono ?_
  rintro e w' ⟨rfl, k1, k2, k3⟩
  refine ⟨⟨_, rfl⟩, h.bl.trans k2, ?_, k3 _ _ h.bx (fun e => by have := h.ne; simp only [Option.some.injEq] at e; omega) (fun c fz e => ?_), Nat.le_trans h.hs k2.size, h.ne⟩
  · unfold Bld
    rw [List.map_append]
    have e : (bytesOf s).map (Value.int .u8) = Lib.strCells s := by simp [bytesOf, Lib.strCells, Lib.byteCells, Function.comp_def]
    rw [e]
    exact .inr k1
  · injection e with e1 e2 e3; exact absurd e2 (by decide)
set_option maxRecDepth 100000 in
set_option maxHeartbeats 16000000 in
theorem scan_written.calls (A0 : Option Addr) (c0 : Nat) (l0 : List S53) (w : World) (hT : TabOK w) (hr0 : Kd.C k53 w A0 l0.length l0) (hc0 : l0.length ≤ c0) (hsm : l0.length ≤ 10000) (hsz : szL l0 ≤ 20000) :
    Calls Tryz.prog 72 #[.slice A0 l0.length c0] w fun e w' => e = .returned (.string (strOfNums (writtenN l0))) ∧ Below w.heap.size w w' := by
  have hu53 := Tryz.underlying53
  have HT := Aside0.mk hT
  have HR0 := Aside0.mk hr0
  clear hT hr0
  obtain ⟨n, hn⟩ : ∃ n, l0.length = n := ⟨_, rfl⟩
  have HL0 := Aside0.mk hn
  have hslt := Aside0.mk hsz
  have HWF := Aside0.mk (wrN_facts l0)
  rw [hn] at HR0 hc0 hsm HWF ⊢
  clear hn hsz
  go_enter Tryz.func72, Tryz.ntmps72
  go_upto_region 3 with (fail)
  obtain ⟨W0, hW0⟩ : ∃ W0, w.alloc (.cells #[.pointer none, .slice none 0 0] 126) = W0 := ⟨_, rfl⟩
  have hB0 : Aside0 (Bld w.heap.size w.heap.size [] W0) := ⟨by rw [← hW0]; exact Bld.new w⟩
  have hb0 : Aside0 (Below w.heap.size w W0) := ⟨by rw [← hW0]; exact below_alloc (Below.refl _ _) _⟩
  rw [hW0]
  clear hW0
  generalize hH : w.heap.size = H at *
  have HH := Aside0.mk hH
  clear hH
  go_wp2
  go_loopg [4, 9] n (fun gg s4 s9 wr => ∃ kk first : Nat, kk ≤ n ∧ n - kk ≤ gg ∧ s4 = .int .i64 first ∧ s9 = .int .i64 kk ∧ first ≤ kk ∧ Aside0 (Below H w wr) ∧ Aside0 (Bld H H (wrN l0 kk).2 wr) ∧ Aside0 ((wrN l0 kk).1 = first))
  case atStart => exact ⟨0, 0, by omega, by omega, rfl, rfl, by omega, hb0, hB0, ⟨rfl⟩⟩
  case round =>
    obtain ⟨kk, first, hkk, hg, rfl, rfl, hfk, HB, HBD, HFI⟩ := hrel
    obtain ⟨out, hout⟩ : ∃ out, (wrN l0 kk).2 = out := ⟨_, rfl⟩
    have HOUT := Aside0.mk hout
    rw [hout] at HBD
    have hwf := HWF.out kk hkk
    rw [hout] at hwf
    have hos : out.length ≤ 20000 + 4 * kk := by
      have h1 := szL_take l0 kk
      have h2 := hslt.out
      have h3 := hwf.2.1
      omega
    have HOB := Aside0.mk hwf.2.2
    clear hout hwf
    by_cases hlt : kk < n
    · have hltz : (kk : Int) < (n : Int) := by omega
      have hz0 : (0 : Int) ≤ (kk : Int) := by omega
      have hw1 : IntKind.i64.wrap ((kk : Int) + 1) = ((kk + 1 : Nat) : Int) := by rw [w64 _ (by omega) (by omega)]; omega
      have HWN : Aside0 (wrN l0 (kk + 1) = wrStep l0 kk (first, out)) := ⟨by
        show wrStep l0 kk (wrN l0 kk) = _
        rw [← HFI.out, ← HOUT.out]⟩
      have hCr := Kd.C_below HR0.out (by rw [HH.out]; exact HB.out)
      obtain ⟨ad, rfl, x0, x1, x2, x3, x4, x5⟩ := at_T53 hCr (kk : Int) hz0 hltz
      simp only [Int.toNat_natCast] at x0 x1 x2 x3 x4 x5
      have htx : tkAt l0 kk = rd_T53 l0 (kk : Int) := rfl
      generalize rd_T53 l0 (kk : Int) = tx at *
      have HTX := Aside0.mk htx
      have hmem : tx ∈ l0 := by
        have := drop_rd (l := l0) (k := kk) (by rw [HL0.out]; exact hlt)
        rw [← htx]
        exact List.mem_of_mem_drop (by rw [this]; exact List.mem_cons_self)
      have hxs := szL_mem hmem
      clear htx hmem
      go_upto_region 6 with (fail)
      have hn1 := heap_alloc_new wr (.cells #[.int .i64 tx.f0, .string tx.f1, .bool tx.f2, .int .i64 tx.f3, .int .i64 tx.f4, .int .i64 tx.f5] 53)
      have hB1 : Below H w (wr.alloc (.cells #[.int .i64 tx.f0, .string tx.f1, .bool tx.f2, .int .i64 tx.f3, .int .i64 tx.f4, .int .i64 tx.f5] 53)) := HB.out.trans ((below_alloc (Below.refl wr.heap.size wr) (.cells #[.int .i64 tx.f0, .string tx.f1, .bool tx.f2, .int .i64 tx.f3, .int .i64 tx.f4, .int .i64 tx.f5] 53)).mono (by have := HB.out.size; have := HH.out; omega))
      have HBD1 := Aside0.mk (HBD.out.keep (below_alloc (Below.refl _ wr) (.cells #[.int .i64 tx.f0, .string tx.f1, .bool tx.f2, .int .i64 tx.f3, .int .i64 tx.f4, .int .i64 tx.f5] 53)))
      have hC1 := Kd.C_alloc hCr (.cells #[.int .i64 tx.f0, .string tx.f1, .bool tx.f2, .int .i64 tx.f3, .int .i64 tx.f4, .int .i64 tx.f5] 53)
      have hlt1 := HBD.out.lt
      obtain ⟨h1, hh1⟩ : ∃ h1, wr.heap.size = h1 := ⟨_, rfl⟩
      rw [hh1] at hn1 hlt1 ⊢
      clear x0 x1 x2 x3 x4 x5 hh1 HB HBD hCr
      generalize wr.alloc (.cells #[.int .i64 tx.f0, .string tx.f1, .bool tx.f2, .int .i64 tx.f3, .int .i64 tx.f4, .int .i64 tx.f5] 53) = W1 at *
      have hrd : Rd H h1 w tx out W1 := ⟨hB1, HBD1.out, hn1, by have := hB1.size; have := HH.out; omega, hlt1⟩
      have HRD := Aside0.mk hrd
      have HC1 := Aside0.mk hC1
      have HTD : Aside0 (∀ W, Rd H h1 w tx out W → TabOK W) := ⟨fun W h => HT.out.of_below (by rw [HH.out]; exact h.bl)⟩
      have a0 : W1.cell? ⟨h1, 0, none⟩ = some (.int .i64 tx.f0) := (blk_cell hn1 0).trans rfl
      have a1 : W1.cell? ⟨h1, 1, none⟩ = some (.string tx.f1) := (blk_cell hn1 1).trans rfl
      have a2 : W1.cell? ⟨h1, 2, none⟩ = some (.bool tx.f2) := (blk_cell hn1 2).trans rfl
      have a3 : W1.cell? ⟨h1, 3, none⟩ = some (.int .i64 tx.f3) := (blk_cell hn1 3).trans rfl
      have a4 : W1.cell? ⟨h1, 4, none⟩ = some (.int .i64 tx.f4) := (blk_cell hn1 4).trans rfl
      have a5 : W1.cell? ⟨h1, 5, none⟩ = some (.int .i64 tx.f5) := (blk_cell hn1 5).trans rfl
      clear hn1 hB1 hrd HBD1 hlt1
      by_cases hk4 : tx.f0 = 4
      · have g1 : (tx.f0 == 4) = true := beq_iff_eq.2 hk4
        have hz1 : (0 : Int) ≤ (first : Int) := by omega
        have hz2 : (first : Int) ≤ (kk : Int) := by omega
        have hz3 : kk ≤ c0 := by omega
        have hHW : wrN l0 (kk + 1) = (kk + 1, out ++ endN l0 kk first) := by
          rw [HWN.out]
          unfold wrStep
          rw [HTX.out, if_pos hk4]
        obtain ⟨cl, hcl⟩ : ∃ cl, (l0.drop first).take (kk - first) = cl := ⟨_, rfl⟩
        have hclen : cl.length = kk - first := by rw [← hcl, List.length_take, List.length_drop, HL0.out]; omega
        have hCc := C_cut first (kk - first) (l := l0) (by rw [HL0.out]; omega) (by rw [HL0.out]; exact hC1)
        rw [hcl] at hCc
        have hcm := scan_comma.calls (some (ad.add (first * 6))) (c0 - first) cl _ W1 (by rw [hclen]; exact hCc) (by omega) (comma_g cl (by omega))
        rw [hclen] at hcm
        unfold endN at hHW
        rw [hcl] at hHW
        clear hCc hcl hclen hC1 a0 a1 a2 a3 a4 a5
        have a0 : W1.cell? ⟨h1, 0, none⟩ = some (.int .i64 tx.f0) := (blk_cell HRD.out.bx 0).trans rfl
        cases hcb : commaB cl with
        | true =>
          rw [hcb] at hcm hHW
          rw [if_pos rfl] at hHW
          have HHW := Aside0.mk hHW
          have HCM := Lib.hid hcm
          clear hcm hHW hcb
          go_wp2_with (first | (go_at_call 92; refine HCM.out.mono ?_; rintro e w2 ⟨rfl, ⟨⟨q, rfl⟩⟩⟩; have hr2 := HRD.out.keep (pw_below_drewN (Below.refl _ _) q)) | (go_at_call 106; with_reducible refine (hr2.wb 59 (by omega)).mono ?_; rintro e w3 ⟨rfl, hr3⟩) | (go_at_call 106; with_reducible refine (hr3.wb 10 (by simp; omega)).mono ?_; rintro e w4 ⟨rfl, hr4⟩))
          go_roundg (n - (kk + 1))
          case measure => omega
          case rel => exact ⟨kk + 1, kk + 1, by omega, by omega, by go_num, by go_num, Nat.le_refl _, ⟨hr4.bl⟩, ⟨by rw [HHW.out]; have := hr4.bd; simpa using this⟩, ⟨by rw [HHW.out]⟩⟩
        | false =>
          rw [hcb] at hcm hHW
          rw [if_neg Bool.false_ne_true, List.nil_append] at hHW
          have HHW := Aside0.mk hHW
          have HCM := Lib.hid hcm
          clear hcm hHW hcb
          go_wp2_with (first | (go_at_call 92; refine HCM.out.mono ?_; rintro e w2 ⟨rfl, ⟨⟨q, rfl⟩⟩⟩; have hr2 := HRD.out.keep (pw_below_drewN (Below.refl _ _) q)) | (go_at_call 106; with_reducible refine (hr2.wb 10 (by omega)).mono ?_; rintro e w4 ⟨rfl, hr4⟩))
          go_roundg (n - (kk + 1))
          case measure => omega
          case rel => exact ⟨kk + 1, kk + 1, by omega, by omega, by go_num, by go_num, Nat.le_refl _, ⟨hr4.bl⟩, ⟨by rw [HHW.out]; exact hr4.bd⟩, ⟨by rw [HHW.out]⟩⟩
      · have g1 : (tx.f0 == 4) = false := beq_eq_false_iff_ne.2 hk4
        have HHW : Aside0 (wrN l0 (kk + 1) = (first, out ++ gapN l0 kk first ++ spN tx)) := ⟨by
          rw [HWN.out]
          unfold wrStep
          rw [HTX.out, if_neg hk4]⟩
        have HTB : Aside0 (∀ W, Below H w W → TabOK W) := ⟨fun W h => HT.out.of_below (by rw [HH.out]; exact h)⟩
        have HSB := Aside0.mk (bytesOf_str _ (sp_bytes tx))
        have hst : (strOfNums (spN tx)).size = (spN tx).length := by simp [strOfNums, ByteArray.size]
        have hspl := sp_len tx
        have hsl := hslt.out
        go_upto_region 11 with (fail)
        by_cases hkf : kk = first
        · have HG : Aside0 (gapN l0 kk first = []) := ⟨by unfold gapN; rw [if_pos hkf]⟩
          have e1 : ((kk : Int) == (first : Int)) = true := beq_iff_eq.2 (by omega)
          have e2 : (kk == first) = true := beq_iff_eq.2 hkf
          have hrd := HRD.out
          clear hkf a0 a1 a2 a3 a4 a5 hC1
          go_upto_region 17 with (fail)
          have b0 : W1.cell? ⟨h1, 0, none⟩ = some (.int .i64 tx.f0) := (blk_cell hrd.bx 0).trans rfl
          have b1 : W1.cell? ⟨h1, 1, none⟩ = some (.string tx.f1) := (blk_cell hrd.bx 1).trans rfl
          have b2 : W1.cell? ⟨h1, 2, none⟩ = some (.bool tx.f2) := (blk_cell hrd.bx 2).trans rfl
          have b3 : W1.cell? ⟨h1, 3, none⟩ = some (.int .i64 tx.f3) := (blk_cell hrd.bx 3).trans rfl
          have b4 : W1.cell? ⟨h1, 4, none⟩ = some (.int .i64 tx.f4) := (blk_cell hrd.bx 4).trans rfl
          have b5 : W1.cell? ⟨h1, 5, none⟩ = some (.int .i64 tx.f5) := (blk_cell hrd.bx 5).trans rfl
          have HSPW := Lib.hid (scan_spelled.calls tx.f0 tx.f1 tx.f2 tx.f3 tx.f4 tx.f5 _ W1 (HTB.out _ hrd.bl) (sp_f tx (by omega)))
          go_wp2_with (first | (go_at_call 113; with_reducible refine HSPW.out.mono ?_; rintro e v5 ⟨rfl, hv5⟩; have hr5 := hrd.keep hv5) | (go_at_call 112; with_reducible refine (hr5.ws (strOfNums (spN tx)) (by first | omega | (simp only [List.length_append, List.length_cons, List.length_nil]; omega))).mono ?_; rintro e v6 ⟨⟨nn, rfl⟩, hr6⟩))
          go_roundg (n - (kk + 1))
          case measure => omega
          case rel => exact ⟨kk + 1, first, by omega, by omega, rfl, by go_num, by omega, ⟨hr6.bl⟩, ⟨by rw [HHW.out, HG.out]; have := hr6.bd; rw [HSB.out] at this; simpa using this⟩, ⟨by rw [HHW.out]⟩⟩
        · have e1 : ((kk : Int) == (first : Int)) = false := beq_eq_false_iff_ne.2 (by omega)
          have e2 : (kk == first) = false := beq_eq_false_iff_ne.2 hkf
          cases hgp : tx.f2 with
          | true =>
            have HG : Aside0 (gapN l0 kk first = [32]) := ⟨by unfold gapN; rw [if_neg hkf, HTX.out, if_pos hgp]⟩
            rw [hgp] at a2
            have hrd := HRD.out
            clear hkf a0 a1 a3 a4 a5 hC1 hgp
            go_upto_region 17 with (go_at_call 106; with_reducible refine (hrd.wb 32 (by omega)).mono ?_; rintro e w3 ⟨rfl, hr3⟩)
            clear a2
            have b0 : w3.cell? ⟨h1, 0, none⟩ = some (.int .i64 tx.f0) := (blk_cell hr3.bx 0).trans rfl
            have b1 : w3.cell? ⟨h1, 1, none⟩ = some (.string tx.f1) := (blk_cell hr3.bx 1).trans rfl
            have b2 : w3.cell? ⟨h1, 2, none⟩ = some (.bool tx.f2) := (blk_cell hr3.bx 2).trans rfl
            have b3 : w3.cell? ⟨h1, 3, none⟩ = some (.int .i64 tx.f3) := (blk_cell hr3.bx 3).trans rfl
            have b4 : w3.cell? ⟨h1, 4, none⟩ = some (.int .i64 tx.f4) := (blk_cell hr3.bx 4).trans rfl
            have b5 : w3.cell? ⟨h1, 5, none⟩ = some (.int .i64 tx.f5) := (blk_cell hr3.bx 5).trans rfl
            have HSPW := Lib.hid (scan_spelled.calls tx.f0 tx.f1 tx.f2 tx.f3 tx.f4 tx.f5 _ w3 (HTB.out _ hr3.bl) (sp_f tx (by omega)))
            go_wp2_with (first | (go_at_call 113; with_reducible refine HSPW.out.mono ?_; rintro e v5 ⟨rfl, hv5⟩; have hr5 := hr3.keep hv5) | (go_at_call 112; with_reducible refine (hr5.ws (strOfNums (spN tx)) (by first | omega | (simp only [List.length_append, List.length_cons, List.length_nil]; omega))).mono ?_; rintro e v6 ⟨⟨nn, rfl⟩, hr6⟩))
            go_roundg (n - (kk + 1))
            case measure => omega
            case rel => exact ⟨kk + 1, first, by omega, by omega, rfl, by go_num, by omega, ⟨hr6.bl⟩, ⟨by rw [HHW.out, HG.out]; have := hr6.bd; rw [HSB.out] at this; simpa using this⟩, ⟨by rw [HHW.out]⟩⟩
          | false =>
            rw [hgp] at a2
            obtain ⟨j, rfl⟩ : ∃ j, kk = j + 1 := ⟨kk - 1, by omega⟩
            obtain ⟨ad', e', y0, y1, y2, y3, y4, y5⟩ := at_T53 HC1.out (j : Int) (by omega) (by omega)
            cases e'
            simp only [Int.toNat_natCast] at y0 y1 y2 y3 y4 y5
            have hty : tkAt l0 j = rd_T53 l0 (j : Int) := rfl
            generalize rd_T53 l0 (j : Int) = ty at *
            have HTY := Aside0.mk hty
            clear hty
            have hj1 : j + 1 ≤ 10000 := by omega
            have hw2 : IntKind.i64.wrap (((j + 1 : Nat) : Int) - 1) = (j : Int) := by rw [w64 _ (by omega) (by omega)]; omega
            have hw3 : IntKind.i64.wrap (j : Int) = (j : Int) := w64 _ (by omega) (by omega)
            have hq0 : (0 : Int) ≤ (j : Int) := by omega
            have hq1 : (j : Int) < (n : Int) := by omega
            have hsz2 : szL [ty, tx] ≤ 20000 := by
              have := szL_two (l := l0) (i := j) (by rw [HL0.out]; exact hlt)
              rw [HTY.out, show tkAt l0 (j + 1) = tx from HTX.out] at this
              omega
            have HMG := Lib.hid (fun (W : World) (g : Nat) (h : W.heap[g]? = some (.cells #[.int .i64 ty.f0, .string ty.f1, .bool ty.f2, .int .i64 ty.f3, .int .i64 ty.f4, .int .i64 ty.f5, .int .i64 tx.f0, .string tx.f1, .bool false, .int .i64 tx.f3, .int .i64 tx.f4, .int .i64 tx.f5] 53 (0, 0))) (hW : TabOK W) => scan_merges.calls (some ⟨g, 0, none⟩) 2 [ty, tx] W hW (row_C h (by simp [tksC, tkC, hgp]) (by simp)) (Nat.le_refl _) (by simp) hsz2)
            have HB2 : Aside0 (TabOK (W1.alloc (.cells #[.int .i64 ty.f0, .string ty.f1, .bool ty.f2, .int .i64 ty.f3, .int .i64 ty.f4, .int .i64 ty.f5, .int .i64 tx.f0, .string tx.f1, .bool false, .int .i64 tx.f3, .int .i64 tx.f4, .int .i64 tx.f5] 53)).drew ∧ Below W1.heap.size W1 (W1.alloc (.cells #[.int .i64 ty.f0, .string ty.f1, .bool ty.f2, .int .i64 ty.f3, .int .i64 ty.f4, .int .i64 ty.f5, .int .i64 tx.f0, .string tx.f1, .bool false, .int .i64 tx.f3, .int .i64 tx.f4, .int .i64 tx.f5] 53)).drew) := ⟨by
              have h1 : Below W1.heap.size W1 (W1.alloc (.cells #[.int .i64 ty.f0, .string ty.f1, .bool ty.f2, .int .i64 ty.f3, .int .i64 ty.f4, .int .i64 ty.f5, .int .i64 tx.f0, .string tx.f1, .bool false, .int .i64 tx.f3, .int .i64 tx.f4, .int .i64 tx.f5] 53)).drew := below_drew (below_alloc (Below.refl _ _) _)
              exact ⟨(HTB.out _ HRD.out.bl).of_below h1, h1⟩⟩
            have HN2 : Aside0 ((W1.alloc (.cells #[.int .i64 ty.f0, .string ty.f1, .bool ty.f2, .int .i64 ty.f3, .int .i64 ty.f4, .int .i64 ty.f5, .int .i64 tx.f0, .string tx.f1, .bool false, .int .i64 tx.f3, .int .i64 tx.f4, .int .i64 tx.f5] 53)).drew.heap[W1.heap.size]? = some (.cells #[.int .i64 ty.f0, .string ty.f1, .bool ty.f2, .int .i64 ty.f3, .int .i64 ty.f4, .int .i64 ty.f5, .int .i64 tx.f0, .string tx.f1, .bool false, .int .i64 tx.f3, .int .i64 tx.f4, .int .i64 tx.f5] 53 (0, 0))) := ⟨heap_alloc_new W1 _⟩
            have HGP := Aside0.mk hgp
            obtain ⟨m2, hm2⟩ : ∃ m2, mergesB [ty, tx] = m2 := ⟨_, rfl⟩
            rw [hm2] at HMG
            have HM2 := Aside0.mk hm2
            have HKF := Aside0.mk hkf
            have hcs4 : (⟨#[47, 42, 42, 47]⟩ : ByteArray).size = 4 := rfl
            have HCK : Aside0 (∀ W, Below W1.heap.size W1 W → Kd.C k53 W (some ad) n l0) := ⟨fun W hb => Kd.C_below HC1.out hb⟩
            clear hm2 hgp hkf hC1
            go_upto_region 14 with (fail)
            refine wp_region_still_tail 6 (by kernel_rfl) (by kernel_rfl) ?_
            simp only [List.take_succ_cons, List.take_zero, List.drop_succ_cons, List.drop_zero]
            repeat still_step
            refine wpStill_nil ?_
            cases m2 with
            | true =>
              have HG : Aside0 (gapN l0 (j + 1) first = [47, 42, 42, 47]) := ⟨by
                unfold gapN
                rw [if_neg HKF.out, HTX.out, HGP.out, if_neg Bool.false_ne_true, if_pos]
                unfold sepB
                rw [Nat.add_sub_cancel, HTY.out, HTX.out, HM2.out]; rfl⟩
              clear a0 a1 a2 a3 a4 a5 y0 y1 y2 y3 y4 y5
              go_upto_region 17 with (first | (go_at_call 111; refine (HMG.out _ _ HN2.out HB2.out.1).mono ?_; rintro e w2 ⟨rfl, hb2⟩; have hr2 := HRD.out.keep (HB2.out.2.trans (hb2.mono HB2.out.2.size))) | (go_at_call 112; with_reducible refine (hr2.ws ⟨#[47, 42, 42, 47]⟩ (by rw [hcs4]; omega)).mono ?_; rintro e w3 ⟨⟨nn2, rfl⟩, hr3⟩))
              replace hr3 : Rd H h1 w tx (out ++ [47, 42, 42, 47]) w3 := hr3
              have b0 : w3.cell? ⟨h1, 0, none⟩ = some (.int .i64 tx.f0) := (blk_cell hr3.bx 0).trans rfl
              have b1 : w3.cell? ⟨h1, 1, none⟩ = some (.string tx.f1) := (blk_cell hr3.bx 1).trans rfl
              have b2 : w3.cell? ⟨h1, 2, none⟩ = some (.bool tx.f2) := (blk_cell hr3.bx 2).trans rfl
              have b3 : w3.cell? ⟨h1, 3, none⟩ = some (.int .i64 tx.f3) := (blk_cell hr3.bx 3).trans rfl
              have b4 : w3.cell? ⟨h1, 4, none⟩ = some (.int .i64 tx.f4) := (blk_cell hr3.bx 4).trans rfl
              have b5 : w3.cell? ⟨h1, 5, none⟩ = some (.int .i64 tx.f5) := (blk_cell hr3.bx 5).trans rfl
              have HSPW := Lib.hid (scan_spelled.calls tx.f0 tx.f1 tx.f2 tx.f3 tx.f4 tx.f5 _ w3 (HTB.out _ hr3.bl) (sp_f tx (by omega)))
              go_wp2_with (first | (go_at_call 113; with_reducible refine HSPW.out.mono ?_; rintro e v5 ⟨rfl, hv5⟩; have hr5 := hr3.keep hv5) | (go_at_call 112; with_reducible refine (hr5.ws (strOfNums (spN tx)) (by first | omega | (simp only [List.length_append, List.length_cons, List.length_nil]; omega))).mono ?_; rintro e v6 ⟨⟨nn, rfl⟩, hr6⟩))
              go_roundg (n - (j + 1 + 1))
              case measure => omega
              case rel => exact ⟨j + 1 + 1, first, by omega, by omega, rfl, by go_num, by omega, ⟨hr6.bl⟩, ⟨by rw [HHW.out, HG.out]; have := hr6.bd; rw [HSB.out] at this; simpa using this⟩, ⟨by rw [HHW.out]⟩⟩
            | false =>
              clear y0 y1 y2 y3 y4 y5
              go_upto_region 15 with (go_at_call 111; refine (HMG.out _ _ HN2.out HB2.out.1).mono ?_; rintro e w2 ⟨rfl, hb2⟩; have hr2 := HRD.out.keep (HB2.out.2.trans (hb2.mono HB2.out.2.size)); have hk2 := HCK.out _ (HB2.out.2.trans (hb2.mono HB2.out.2.size)))
              clear a0 a1 a2 a3 a4 a5
              by_cases hi : first + 2 ≤ j + 1
              · obtain ⟨i2, rfl⟩ : ∃ i2, j = i2 + 1 := ⟨j - 1, by omega⟩
                obtain ⟨ad1, e1', z0, z1, z2, z3, z4, z5⟩ := at_T53 hk2 ((i2 + 1 : Nat) : Int) (by omega) (by omega)
                cases e1'
                rw [show rd_T53 l0 ((i2 + 1 : Nat) : Int) = ty from HTY.out] at z0 z1 z2 z3 z4 z5
                simp only [Int.toNat_natCast] at z0 z1 z2 z3 z4 z5
                obtain ⟨ad1, e1', v0, v1, v2, v3, v4, v5⟩ := at_T53 hk2 (i2 : Int) (by omega) (by omega)
                cases e1'
                simp only [Int.toNat_natCast] at v0 v1 v2 v3 v4 v5
                have htz : tkAt l0 i2 = rd_T53 l0 (i2 : Int) := rfl
                generalize rd_T53 l0 (i2 : Int) = tz at *
                have HTZ := Aside0.mk htz
                have hw5 : IntKind.i64.wrap ((i2 : Int) + 1 + 1 - 2) = (i2 : Int) := by rw [w64 _ (by omega) (by omega)]; omega
                have hw6 : IntKind.i64.wrap ((i2 : Int) + 1) = (i2 : Int) + 1 := w64 _ (by omega) (by omega)
                have hw7 : IntKind.i64.wrap (i2 : Int) = (i2 : Int) := w64 _ (by omega) (by omega)
                have hge : decide ((first : Int) ≤ (i2 : Int)) = true := decide_eq_true (by omega)
                have hge2 : decide (first ≤ i2) = true := decide_eq_true (by omega)
                have hp0 : (0 : Int) ≤ (i2 : Int) := by omega
                have hp1 : (i2 : Int) < (n : Int) := by omega
                have hp2 : (0 : Int) ≤ (i2 : Int) + 1 := by omega
                have hp3 : (i2 : Int) + 1 < (n : Int) := by omega
                have hp4 : ((i2 : Int) + 1).toNat = i2 + 1 := by omega
                have HI := Aside0.mk hi
                have HK2 := Aside0.mk hk2
                clear htz hi hk2 hw3
                have c0' : w2.cell? ⟨h1, 0, none⟩ = some (.int .i64 tx.f0) := (blk_cell hr2.bx 0).trans rfl
                have c1 : w2.cell? ⟨h1, 1, none⟩ = some (.string tx.f1) := (blk_cell hr2.bx 1).trans rfl
                have c2 : w2.cell? ⟨h1, 2, none⟩ = some (.bool tx.f2) := (blk_cell hr2.bx 2).trans rfl
                have c3 : w2.cell? ⟨h1, 3, none⟩ = some (.int .i64 tx.f3) := (blk_cell hr2.bx 3).trans rfl
                have c4 : w2.cell? ⟨h1, 4, none⟩ = some (.int .i64 tx.f4) := (blk_cell hr2.bx 4).trans rfl
                have c5 : w2.cell? ⟨h1, 5, none⟩ = some (.int .i64 tx.f5) := (blk_cell hr2.bx 5).trans rfl
                have hsz3 : szL [tz, ty, tx] ≤ 20000 := by
                  have := szL_three (l := l0) (i := i2) (by rw [HL0.out]; omega)
                  rw [HTZ.out, HTY.out, show tkAt l0 (i2 + 2) = tx from HTX.out] at this
                  omega
                obtain ⟨g2, hg2⟩ : ∃ g2, ty.f2 = g2 := ⟨_, rfl⟩
                rw [hg2] at z2
                have HG2 := Aside0.mk hg2
                cases g2 with
                | true =>
                  have HG : Aside0 (gapN l0 (i2 + 1 + 1) first = []) := ⟨by
                    unfold gapN
                    rw [if_neg HKF.out, HTX.out, HGP.out, if_neg Bool.false_ne_true]
                    have e : sepB l0 (i2 + 1 + 1) first = false := by
                      unfold sepB
                      rw [show i2 + 1 + 1 - 1 = i2 + 1 by omega, HTY.out, HTX.out, HM2.out, HG2.out]
                      simp
                    rw [e]; rfl⟩
                  clear hg2 hsz3
                  go_quiet (fail)
                  go_upto_region 17 with (fail)
                  have b0 : (w2.drewN nq).cell? ⟨h1, 0, none⟩ = some (.int .i64 tx.f0) := (blk_cell (hr2.keep (pw_below_drewN (Below.refl _ _) nq)).bx 0).trans rfl
                  have b1 : (w2.drewN nq).cell? ⟨h1, 1, none⟩ = some (.string tx.f1) := (blk_cell (hr2.keep (pw_below_drewN (Below.refl _ _) nq)).bx 1).trans rfl
                  have b2 : (w2.drewN nq).cell? ⟨h1, 2, none⟩ = some (.bool tx.f2) := (blk_cell (hr2.keep (pw_below_drewN (Below.refl _ _) nq)).bx 2).trans rfl
                  have b3 : (w2.drewN nq).cell? ⟨h1, 3, none⟩ = some (.int .i64 tx.f3) := (blk_cell (hr2.keep (pw_below_drewN (Below.refl _ _) nq)).bx 3).trans rfl
                  have b4 : (w2.drewN nq).cell? ⟨h1, 4, none⟩ = some (.int .i64 tx.f4) := (blk_cell (hr2.keep (pw_below_drewN (Below.refl _ _) nq)).bx 4).trans rfl
                  have b5 : (w2.drewN nq).cell? ⟨h1, 5, none⟩ = some (.int .i64 tx.f5) := (blk_cell (hr2.keep (pw_below_drewN (Below.refl _ _) nq)).bx 5).trans rfl
                  have HSPW := Lib.hid (scan_spelled.calls tx.f0 tx.f1 tx.f2 tx.f3 tx.f4 tx.f5 _ (w2.drewN nq) (HTB.out _ (hr2.keep (pw_below_drewN (Below.refl _ _) nq)).bl) (sp_f tx (by omega)))
                  go_wp2_with (first | (go_at_call 113; with_reducible refine HSPW.out.mono ?_; rintro e v5 ⟨rfl, hv5⟩; have hr5 := (hr2.keep (pw_below_drewN (Below.refl _ _) nq)).keep hv5) | (go_at_call 112; with_reducible refine (hr5.ws (strOfNums (spN tx)) (by first | omega | (simp only [List.length_append, List.length_cons, List.length_nil]; omega))).mono ?_; rintro e v6 ⟨⟨nn, rfl⟩, hr6⟩))
                  go_roundg (n - (i2 + 1 + 1 + 1))
                  case measure => omega
                  case rel => exact ⟨i2 + 1 + 1 + 1, first, by omega, by omega, rfl, by go_num, by omega, ⟨hr6.bl⟩, ⟨by rw [HHW.out, HG.out]; have := hr6.bd; rw [HSB.out] at this; simpa using this⟩, ⟨by rw [HHW.out]⟩⟩
                | false =>
                  by_cases hz1' : tz.f0 = 1
                  · have q1 : (tz.f0 == 1) = true := beq_iff_eq.2 hz1'
                    have HMG3 := Lib.hid (fun (W : World) (g : Nat) (h : W.heap[g]? = some (.cells #[.int .i64 tz.f0, .string tz.f1, .bool tz.f2, .int .i64 tz.f3, .int .i64 tz.f4, .int .i64 tz.f5, .int .i64 ty.f0, .string ty.f1, .bool false, .int .i64 ty.f3, .int .i64 ty.f4, .int .i64 ty.f5, .int .i64 tx.f0, .string tx.f1, .bool tx.f2, .int .i64 tx.f3, .int .i64 tx.f4, .int .i64 tx.f5] 53 (0, 0))) (hW : TabOK W) => scan_merges.calls (some ⟨g, 0, none⟩) 3 [tz, ty, tx] W hW (row_C h (by simp [tksC, tkC, hg2]) (by simp)) (Nat.le_refl _) (by simp) hsz3)
                    have HB3 : Aside0 (TabOK (w2.alloc (.cells #[.int .i64 tz.f0, .string tz.f1, .bool tz.f2, .int .i64 tz.f3, .int .i64 tz.f4, .int .i64 tz.f5, .int .i64 ty.f0, .string ty.f1, .bool false, .int .i64 ty.f3, .int .i64 ty.f4, .int .i64 ty.f5, .int .i64 tx.f0, .string tx.f1, .bool tx.f2, .int .i64 tx.f3, .int .i64 tx.f4, .int .i64 tx.f5] 53)).drew ∧ Below w2.heap.size w2 (w2.alloc (.cells #[.int .i64 tz.f0, .string tz.f1, .bool tz.f2, .int .i64 tz.f3, .int .i64 tz.f4, .int .i64 tz.f5, .int .i64 ty.f0, .string ty.f1, .bool false, .int .i64 ty.f3, .int .i64 ty.f4, .int .i64 ty.f5, .int .i64 tx.f0, .string tx.f1, .bool tx.f2, .int .i64 tx.f3, .int .i64 tx.f4, .int .i64 tx.f5] 53)).drew) := ⟨by
                      have h1 : Below w2.heap.size w2 (w2.alloc (.cells #[.int .i64 tz.f0, .string tz.f1, .bool tz.f2, .int .i64 tz.f3, .int .i64 tz.f4, .int .i64 tz.f5, .int .i64 ty.f0, .string ty.f1, .bool false, .int .i64 ty.f3, .int .i64 ty.f4, .int .i64 ty.f5, .int .i64 tx.f0, .string tx.f1, .bool tx.f2, .int .i64 tx.f3, .int .i64 tx.f4, .int .i64 tx.f5] 53)).drew := below_drew (below_alloc (Below.refl _ _) _)
                      exact ⟨(HTB.out _ hr2.bl).of_below h1, h1⟩⟩
                    have HN3 : Aside0 ((w2.alloc (.cells #[.int .i64 tz.f0, .string tz.f1, .bool tz.f2, .int .i64 tz.f3, .int .i64 tz.f4, .int .i64 tz.f5, .int .i64 ty.f0, .string ty.f1, .bool false, .int .i64 ty.f3, .int .i64 ty.f4, .int .i64 ty.f5, .int .i64 tx.f0, .string tx.f1, .bool tx.f2, .int .i64 tx.f3, .int .i64 tx.f4, .int .i64 tx.f5] 53)).drew.heap[w2.heap.size]? = some (.cells #[.int .i64 tz.f0, .string tz.f1, .bool tz.f2, .int .i64 tz.f3, .int .i64 tz.f4, .int .i64 tz.f5, .int .i64 ty.f0, .string ty.f1, .bool false, .int .i64 ty.f3, .int .i64 ty.f4, .int .i64 ty.f5, .int .i64 tx.f0, .string tx.f1, .bool tx.f2, .int .i64 tx.f3, .int .i64 tx.f4, .int .i64 tx.f5] 53 (0, 0))) := ⟨heap_alloc_new w2 _⟩
                    obtain ⟨m3, hm3⟩ : ∃ m3, mergesB [tz, ty, tx] = m3 := ⟨_, rfl⟩
                    rw [hm3] at HMG3
                    have HM3 := Aside0.mk hm3
                    have HZ1 := Aside0.mk hz1'
                    clear hm3 hg2 hz1' hsz3
                    refine wp_region_still_tail 34 (by kernel_rfl) (by kernel_rfl) ?_
                    simp only [List.take_succ_cons, List.take_zero, List.drop_succ_cons, List.drop_zero]
                    repeat still_step
                    refine wpStill_nil ?_
                    cases m3 with
                    | true =>
                      have HG : Aside0 (gapN l0 (i2 + 1 + 1) first = [47, 42, 42, 47]) := ⟨by
                        unfold gapN
                        rw [if_neg HKF.out, HTX.out, HGP.out, if_neg Bool.false_ne_true]
                        have e : sepB l0 (i2 + 1 + 1) first = true := by
                          unfold sepB
                          rw [show i2 + 1 + 1 - 1 = i2 + 1 by omega, show i2 + 1 + 1 - 2 = i2 by omega, HTY.out, HTX.out, HTZ.out, HM2.out, HG2.out, HM3.out, HZ1.out, decide_eq_true HI.out]
                          rfl
                        rw [e]; rfl⟩
                      clear z0 z1 z2 z3 z4 z5 v0 v1 v2 v3 v4 v5 c0' c1 c2 c3 c4 c5
                      go_upto_region 17 with (first | (go_at_call 111; refine (HMG3.out _ _ HN3.out HB3.out.1).mono ?_; rintro e w4 ⟨rfl, hb4⟩; have hr4 := hr2.keep (HB3.out.2.trans (hb4.mono HB3.out.2.size))) | (go_at_call 112; with_reducible refine (hr4.ws ⟨#[47, 42, 42, 47]⟩ (by rw [hcs4]; omega)).mono ?_; rintro e w3 ⟨⟨nn2, rfl⟩, hr3⟩))
                      replace hr3 : Rd H h1 w tx (out ++ [47, 42, 42, 47]) w3 := hr3
                      have b0 : w3.cell? ⟨h1, 0, none⟩ = some (.int .i64 tx.f0) := (blk_cell hr3.bx 0).trans rfl
                      have b1 : w3.cell? ⟨h1, 1, none⟩ = some (.string tx.f1) := (blk_cell hr3.bx 1).trans rfl
                      have b2 : w3.cell? ⟨h1, 2, none⟩ = some (.bool tx.f2) := (blk_cell hr3.bx 2).trans rfl
                      have b3 : w3.cell? ⟨h1, 3, none⟩ = some (.int .i64 tx.f3) := (blk_cell hr3.bx 3).trans rfl
                      have b4 : w3.cell? ⟨h1, 4, none⟩ = some (.int .i64 tx.f4) := (blk_cell hr3.bx 4).trans rfl
                      have b5 : w3.cell? ⟨h1, 5, none⟩ = some (.int .i64 tx.f5) := (blk_cell hr3.bx 5).trans rfl
                      have HSPW := Lib.hid (scan_spelled.calls tx.f0 tx.f1 tx.f2 tx.f3 tx.f4 tx.f5 _ w3 (HTB.out _ hr3.bl) (sp_f tx (by omega)))
                      go_wp2_with (first | (go_at_call 113; with_reducible refine HSPW.out.mono ?_; rintro e v5 ⟨rfl, hv5⟩; have hr5 := hr3.keep hv5) | (go_at_call 112; with_reducible refine (hr5.ws (strOfNums (spN tx)) (by first | omega | (simp only [List.length_append, List.length_cons, List.length_nil]; omega))).mono ?_; rintro e v6 ⟨⟨nn, rfl⟩, hr6⟩))
                      go_roundg (n - (i2 + 1 + 1 + 1))
                      case measure => omega
                      case rel => exact ⟨i2 + 1 + 1 + 1, first, by omega, by omega, rfl, by go_num, by omega, ⟨hr6.bl⟩, ⟨by rw [HHW.out, HG.out]; have := hr6.bd; rw [HSB.out] at this; simpa using this⟩, ⟨by rw [HHW.out]⟩⟩
                    | false =>
                      have HG : Aside0 (gapN l0 (i2 + 1 + 1) first = []) := ⟨by
                        unfold gapN
                        rw [if_neg HKF.out, HTX.out, HGP.out, if_neg Bool.false_ne_true]
                        have e : sepB l0 (i2 + 1 + 1) first = false := by
                          unfold sepB
                          rw [show i2 + 1 + 1 - 1 = i2 + 1 by omega, show i2 + 1 + 1 - 2 = i2 by omega, HTY.out, HTX.out, HTZ.out, HM2.out, HG2.out, HM3.out]
                          simp
                        rw [e]; rfl⟩
                      clear z0 z1 z2 z3 z4 z5 v0 v1 v2 v3 v4 v5 c0' c1 c2 c3 c4 c5
                      go_upto_region 17 with (go_at_call 111; refine (HMG3.out _ _ HN3.out HB3.out.1).mono ?_; rintro e w4 ⟨rfl, hb4⟩; have hr4 := hr2.keep (HB3.out.2.trans (hb4.mono HB3.out.2.size)))
                      have b0 : w4.cell? ⟨h1, 0, none⟩ = some (.int .i64 tx.f0) := (blk_cell hr4.bx 0).trans rfl
                      have b1 : w4.cell? ⟨h1, 1, none⟩ = some (.string tx.f1) := (blk_cell hr4.bx 1).trans rfl
                      have b2 : w4.cell? ⟨h1, 2, none⟩ = some (.bool tx.f2) := (blk_cell hr4.bx 2).trans rfl
                      have b3 : w4.cell? ⟨h1, 3, none⟩ = some (.int .i64 tx.f3) := (blk_cell hr4.bx 3).trans rfl
                      have b4 : w4.cell? ⟨h1, 4, none⟩ = some (.int .i64 tx.f4) := (blk_cell hr4.bx 4).trans rfl
                      have b5 : w4.cell? ⟨h1, 5, none⟩ = some (.int .i64 tx.f5) := (blk_cell hr4.bx 5).trans rfl
                      have HSPW := Lib.hid (scan_spelled.calls tx.f0 tx.f1 tx.f2 tx.f3 tx.f4 tx.f5 _ w4 (HTB.out _ hr4.bl) (sp_f tx (by omega)))
                      go_wp2_with (first | (go_at_call 113; with_reducible refine HSPW.out.mono ?_; rintro e v5 ⟨rfl, hv5⟩; have hr5 := hr4.keep hv5) | (go_at_call 112; with_reducible refine (hr5.ws (strOfNums (spN tx)) (by first | omega | (simp only [List.length_append, List.length_cons, List.length_nil]; omega))).mono ?_; rintro e v6 ⟨⟨nn, rfl⟩, hr6⟩))
                      go_roundg (n - (i2 + 1 + 1 + 1))
                      case measure => omega
                      case rel => exact ⟨i2 + 1 + 1 + 1, first, by omega, by omega, rfl, by go_num, by omega, ⟨hr6.bl⟩, ⟨by rw [HHW.out, HG.out]; have := hr6.bd; rw [HSB.out] at this; simpa using this⟩, ⟨by rw [HHW.out]⟩⟩
                  · have q1 : (tz.f0 == 1) = false := beq_eq_false_iff_ne.2 hz1'
                    have HZ1 := Aside0.mk hz1'
                    have HG : Aside0 (gapN l0 (i2 + 1 + 1) first = []) := ⟨by
                      unfold gapN
                      rw [if_neg HKF.out, HTX.out, HGP.out, if_neg Bool.false_ne_true]
                      have e : sepB l0 (i2 + 1 + 1) first = false := by
                        unfold sepB
                        rw [show i2 + 1 + 1 - 1 = i2 + 1 by omega, show i2 + 1 + 1 - 2 = i2 by omega, HTY.out, HTX.out, HTZ.out, HM2.out, HG2.out, decide_eq_false HZ1.out]
                        simp
                      rw [e]; rfl⟩
                    clear hg2 hsz3 hz1'
                    go_quiet (fail)
                    go_upto_region 17 with (fail)
                    have b0 : (w2.drewN nq).cell? ⟨h1, 0, none⟩ = some (.int .i64 tx.f0) := (blk_cell (hr2.keep (pw_below_drewN (Below.refl _ _) nq)).bx 0).trans rfl
                    have b1 : (w2.drewN nq).cell? ⟨h1, 1, none⟩ = some (.string tx.f1) := (blk_cell (hr2.keep (pw_below_drewN (Below.refl _ _) nq)).bx 1).trans rfl
                    have b2 : (w2.drewN nq).cell? ⟨h1, 2, none⟩ = some (.bool tx.f2) := (blk_cell (hr2.keep (pw_below_drewN (Below.refl _ _) nq)).bx 2).trans rfl
                    have b3 : (w2.drewN nq).cell? ⟨h1, 3, none⟩ = some (.int .i64 tx.f3) := (blk_cell (hr2.keep (pw_below_drewN (Below.refl _ _) nq)).bx 3).trans rfl
                    have b4 : (w2.drewN nq).cell? ⟨h1, 4, none⟩ = some (.int .i64 tx.f4) := (blk_cell (hr2.keep (pw_below_drewN (Below.refl _ _) nq)).bx 4).trans rfl
                    have b5 : (w2.drewN nq).cell? ⟨h1, 5, none⟩ = some (.int .i64 tx.f5) := (blk_cell (hr2.keep (pw_below_drewN (Below.refl _ _) nq)).bx 5).trans rfl
                    have HSPW := Lib.hid (scan_spelled.calls tx.f0 tx.f1 tx.f2 tx.f3 tx.f4 tx.f5 _ (w2.drewN nq) (HTB.out _ (hr2.keep (pw_below_drewN (Below.refl _ _) nq)).bl) (sp_f tx (by omega)))
                    go_wp2_with (first | (go_at_call 113; with_reducible refine HSPW.out.mono ?_; rintro e v5 ⟨rfl, hv5⟩; have hr5 := (hr2.keep (pw_below_drewN (Below.refl _ _) nq)).keep hv5) | (go_at_call 112; with_reducible refine (hr5.ws (strOfNums (spN tx)) (by first | omega | (simp only [List.length_append, List.length_cons, List.length_nil]; omega))).mono ?_; rintro e v6 ⟨⟨nn, rfl⟩, hr6⟩))
                    go_roundg (n - (i2 + 1 + 1 + 1))
                    case measure => omega
                    case rel => exact ⟨i2 + 1 + 1 + 1, first, by omega, by omega, rfl, by go_num, by omega, ⟨hr6.bl⟩, ⟨by rw [HHW.out, HG.out]; have := hr6.bd; rw [HSB.out] at this; simpa using this⟩, ⟨by rw [HHW.out]⟩⟩
              · obtain ⟨qz, hqz⟩ : ∃ qz : Int, (j : Int) + 1 - 2 = qz := ⟨_, rfl⟩
                have hw5 : IntKind.i64.wrap ((j : Int) + 1 - 2) = qz := by rw [w64 _ (by omega) (by omega)]; omega
                have hge : decide ((first : Int) ≤ qz) = false := decide_eq_false (by omega)
                clear hqz
                have HI := Aside0.mk hi
                have HG : Aside0 (gapN l0 (j + 1) first = []) := ⟨by
                  unfold gapN
                  rw [if_neg HKF.out, HTX.out, HGP.out, if_neg Bool.false_ne_true]
                  have e : sepB l0 (j + 1) first = false := by
                    unfold sepB
                    rw [show j + 1 - 1 = j by omega, HTY.out, HTX.out, HM2.out, decide_eq_false HI.out]
                    rfl
                  rw [e]; rfl⟩
                clear hi hk2
                go_quiet (fail)
                go_upto_region 17 with (fail)
                have b0 : (w2.drewN nq).cell? ⟨h1, 0, none⟩ = some (.int .i64 tx.f0) := (blk_cell (hr2.keep (pw_below_drewN (Below.refl _ _) nq)).bx 0).trans rfl
                have b1 : (w2.drewN nq).cell? ⟨h1, 1, none⟩ = some (.string tx.f1) := (blk_cell (hr2.keep (pw_below_drewN (Below.refl _ _) nq)).bx 1).trans rfl
                have b2 : (w2.drewN nq).cell? ⟨h1, 2, none⟩ = some (.bool tx.f2) := (blk_cell (hr2.keep (pw_below_drewN (Below.refl _ _) nq)).bx 2).trans rfl
                have b3 : (w2.drewN nq).cell? ⟨h1, 3, none⟩ = some (.int .i64 tx.f3) := (blk_cell (hr2.keep (pw_below_drewN (Below.refl _ _) nq)).bx 3).trans rfl
                have b4 : (w2.drewN nq).cell? ⟨h1, 4, none⟩ = some (.int .i64 tx.f4) := (blk_cell (hr2.keep (pw_below_drewN (Below.refl _ _) nq)).bx 4).trans rfl
                have b5 : (w2.drewN nq).cell? ⟨h1, 5, none⟩ = some (.int .i64 tx.f5) := (blk_cell (hr2.keep (pw_below_drewN (Below.refl _ _) nq)).bx 5).trans rfl
                have HSPW := Lib.hid (scan_spelled.calls tx.f0 tx.f1 tx.f2 tx.f3 tx.f4 tx.f5 _ (w2.drewN nq) (HTB.out _ (hr2.keep (pw_below_drewN (Below.refl _ _) nq)).bl) (sp_f tx (by omega)))
                go_wp2_with (first | (go_at_call 113; with_reducible refine HSPW.out.mono ?_; rintro e v5 ⟨rfl, hv5⟩; have hr5 := (hr2.keep (pw_below_drewN (Below.refl _ _) nq)).keep hv5) | (go_at_call 112; with_reducible refine (hr5.ws (strOfNums (spN tx)) (by first | omega | (simp only [List.length_append, List.length_cons, List.length_nil]; omega))).mono ?_; rintro e v6 ⟨⟨nn, rfl⟩, hr6⟩))
                go_roundg (n - (j + 1 + 1))
                case measure => omega
                case rel => exact ⟨j + 1 + 1, first, by omega, by omega, rfl, by go_num, by omega, ⟨hr6.bl⟩, ⟨by rw [HHW.out, HG.out]; have := hr6.bd; rw [HSB.out] at this; simpa using this⟩, ⟨by rw [HHW.out]⟩⟩
    · have hltz : ¬ (kk : Int) < (n : Int) := by omega
      have hkn : n = kk := by omega
      have hwr : writtenN l0 = out := by
        unfold writtenN
        rw [HL0.out, hkn]; exact HOUT.out
      have HWR := Aside0.mk hwr
      have hst := bld_String H H out wr HBD.out HOB.out (by have := HB.out.size; have := HH.out; omega)
      have HST := Lib.hid hst
      clear hst hwr hkn
      go_wp2_with (go_at_call 107; refine HST.out.mono ?_; rintro e w2 ⟨rfl, _, hb2⟩)
      refine bodyPost_ret (results_tmp rfl _ _ _) rfl ?_
      exact ⟨by rw [HWR.out]; rfl, by rw [HH.out]; exact HB.out.trans hb2⟩
def scan_Write.f (l0 : List S53) : Option (ByteArray × Int) :=
  if l0.length ≤ 10000 ∧ szL l0 ≤ 20000 then
    (if (S.scan (writtenN l0)).err.isSome = true ∨ eqF sameB ((S.tokens (writtenN l0)).map toS) l0 = false then some (⟨#[]⟩, 2)
    else if 20000 < (writtenN l0).length then some (⟨#[]⟩, 3) else some (strOfNums (writtenN l0), 0))
  else none
end Go.Proofs.YtkkpjonfaflkmaaGreatDoor.T

namespace Go.Proofs.YtkkpjonfaflkmaaGreatDoor.T
set_option linter.unusedSimpArgs false
set_option linter.unusedVariables false
open Go.RowKit Go.Maps Go.Proofs.YtkkpjonfaflkmaaGreatDoorW.PrintWords Go.Proofs.YtkkpjonfaflkmaaGreatDoorW.PrintLast Go.Proofs.YtkkpjonfaflkmaaGreatDoorW.PrintMore
attribute [local go_sem] Oper.semAt_some
set_option maxRecDepth 100000 in
set_option maxHeartbeats 4000000 in
theorem scan_Write.calls (A0 : Option Addr) (c0 : Nat) (l0 : List S53) (r1 : ByteArray) (r2 : Int) (w : World) (hT : TabOK w) (hr0 : Kd.C k53 w A0 l0.length l0) (hc0 : l0.length ≤ c0) (h : scan_Write.f l0 = some (r1, r2)) :
    Calls Tryz.prog 35 #[.slice A0 l0.length c0] w fun e w' => e = .returned (.tuple #[.string r1, .int .i64 r2]) ∧ Below w.heap.size w w' := by
  unfold scan_Write.f at h
  by_cases hg : l0.length ≤ 10000 ∧ szL l0 ≤ 20000
  · rw [if_pos hg] at h
    obtain ⟨hg1, hg2⟩ := hg
    have hwc := scan_written.calls A0 c0 l0 w hT hr0 hc0 hg1 hg2
    have hwf := wrN_facts l0 l0.length (Nat.le_refl _)
    rw [List.take_length] at hwf
    obtain ⟨out, hout⟩ : ∃ out, writtenN l0 = out := ⟨_, rfl⟩
    rw [show (wrN l0 l0.length).2 = out from hout] at hwf
    rw [hout] at hwc h
    obtain ⟨src, hsrc⟩ : ∃ src, strOfNums out = src := ⟨_, rfl⟩
    have hsb : bytesOf src = out := by rw [← hsrc]; exact bytesOf_str _ hwf.2.2
    have hss : src.size = out.length := by rw [← hsb, bytesOf_length]
    have hsz : src.size ≤ 100000 := by have := hwf.2.1; omega
    rw [hsrc] at hwc h
    have htk := fun W hW => scan_tokens_m.calls src W hsz hW
    rw [hsb] at htk
    obtain ⟨toks, htoks⟩ : ∃ toks, S.tokens out = toks := ⟨_, rfl⟩
    obtain ⟨er, her⟩ : ∃ er, (S.scan out).err = er := ⟨_, rfl⟩
    rw [htoks, her, errV_eq] at htk
    rw [htoks, her, ← hss] at h
    obtain ⟨ec, hec⟩ : ∃ ec, errC er = ec := ⟨_, rfl⟩
    obtain ⟨el, hel⟩ : ∃ el, errL er = el := ⟨_, rfl⟩
    rw [hec, hel] at htk
    have HEC : Aside0 (ec = 0 ↔ er = none) := ⟨by
      rw [← hec]
      cases er with
      | none => exact ⟨fun _ => rfl, fun _ => rfl⟩
      | some p =>
        have := S.scan_err (c := p.1) (ln := p.2) her
        constructor
        · intro e
          exact absurd (Int.ofNat_eq_zero.1 e) this
        · intro e; cases e⟩
    have HTLEN : Aside0 (toks.length ≤ 300000) := ⟨by
      rw [← htoks]
      have h1 := S.tokens_length (xs := out) hwf.2.2
      omega⟩
    have HT := Aside0.mk hT
    have HWC := Lib.hid hwc
    have HTK := Lib.hid htk
    have H := Aside0.mk h
    have HR0 := Aside0.mk hr0
    obtain ⟨n, hn⟩ : ∃ n, l0.length = n := ⟨_, rfl⟩
    have HL0 := Aside0.mk hn
    rw [hn] at HWC HR0 hc0 hg1 ⊢
    obtain ⟨ss, hss2⟩ : ∃ ss, src.size = ss := ⟨_, rfl⟩
    clear hwc htk h hec hel htoks her hsb hwf hss hsrc hout hg2 hT hr0 hn hsz
    go_enter Tryz.func35, Tryz.ntmps35
    go_upto_region 3 with (first | (go_at_call 72; refine HWC.out.mono ?_; rintro e w2 ⟨rfl, hb2⟩) | (go_at_call 51; refine (HTK.out _ (HT.out.of_below hb2)).mono ?_; rintro e w3 ⟨v, rfl, hown, hb3⟩))
    obtain ⟨A, N, cap, rfl, hN⟩ : ∃ A cn cap, v = .slice A cn cap ∧ toks.length = cn := by
      rcases hown.2 with ⟨rfl, e2⟩ | ⟨g, cap, cs, rfl, _⟩
      · exact ⟨_, _, _, rfl, e2⟩
      · exact ⟨_, _, _, rfl, rfl⟩
    have hn4 := heap_alloc_new w3 (.cells #[.int .i64 ec, .int .i64 el] 76)
    have ho4 := own_but hown ((But.refl (fun _ => False) w3).alloc (.cells #[.int .i64 ec, .int .i64 el] 76)) (fun _ e => e.elim)
    have hb4 : Below w.heap.size w (w3.alloc (.cells #[.int .i64 ec, .int .i64 el] 76)) := below_alloc (hb2.trans (hb3.mono hb2.size)) _
    obtain ⟨fb, hfb⟩ : ∃ fb, w3.heap.size = fb := ⟨_, rfl⟩
    rw [hfb] at hn4 ⊢
    clear hown hb2 hb3 hfb
    generalize w3.alloc (.cells #[.int .i64 ec, .int .i64 el] 76) = W4 at *
    obtain ⟨hxx, hNc, hC4⟩ := tks_C ho4
    clear hxx
    have hsc := fun r hr => scan_Same.calls A cap (toks.map toS) A0 c0 l0 r W4 hC4 (by rw [List.length_map, hN]; exact hNc) (by rw [HL0.out]; exact Kd.C_below HR0.out hb4) (by rw [HL0.out]; exact hc0) hr
    rw [List.length_map, hN, HL0.out] at hsc
    have hsf : scan_Same.f (toks.map toS) l0 = some (eqF sameB (toks.map toS) l0) := by
      unfold scan_Same.f
      rw [if_pos (by rw [List.length_map]; have := HTLEN.out; omega)]
    have HSC := Lib.hid (hsc _ hsf)
    have HB4 := Aside0.mk hb4
    have hf0 : W4.cell? ⟨fb, 0, none⟩ = some (.int .i64 ec) := (blk_cell hn4 0).trans rfl
    clear hsc hsf hb4 hn4 ho4 hC4 hN hNc
    obtain ⟨sm, hsm⟩ : ∃ sm, eqF sameB (toks.map toS) l0 = sm := ⟨_, rfl⟩
    rw [hsm] at HSC H
    clear hsm
    by_cases he0 : ec = 0
    · have hen : er = none := HEC.out.1 he0
      rw [hen] at H
      have g1 : (ec != 0) = false := bne_eq_false_iff_eq.2 he0
      cases sm with
      | false =>
        have h := H.out
        rw [if_pos (.inr rfl)] at h
        simp only [Option.some.injEq, Prod.mk.injEq] at h
        obtain ⟨rfl, rfl⟩ := h
        clear he0 hen
        go_wp2_with (go_at_call 37; refine HSC.out.mono ?_; rintro e w5 ⟨rfl, hb5⟩)
        refine bodyPost_ret (results_tmp2 rfl _ _ _) rfl ?_
        exact ⟨rfl, HB4.out.trans (hb5.mono HB4.out.size)⟩
      | true =>
        have h := H.out
        rw [if_neg (by rintro (e | e) <;> cases e)] at h
        rw [hss2] at h
        by_cases hbig : 20000 < ss
        · rw [if_pos hbig] at h
          simp only [Option.some.injEq, Prod.mk.injEq] at h
          obtain ⟨rfl, rfl⟩ := h
          have g2 : decide ((20000 : Int) < (ss : Int)) = true := decide_eq_true (by omega)
          have g3 : decide (20000 < ss) = true := decide_eq_true hbig
          clear he0 hen hbig
          go_wp2_with (go_at_call 37; refine HSC.out.mono ?_; rintro e w5 ⟨rfl, hb5⟩)
          refine bodyPost_ret (results_tmp2 rfl _ _ _) rfl ?_
          exact ⟨rfl, HB4.out.trans (hb5.mono HB4.out.size)⟩
        · rw [if_neg hbig] at h
          simp only [Option.some.injEq, Prod.mk.injEq] at h
          obtain ⟨rfl, rfl⟩ := h
          have g2 : decide ((20000 : Int) < (ss : Int)) = false := decide_eq_false (by omega)
          have g3 : decide (20000 < ss) = false := decide_eq_false hbig
          clear he0 hen hbig
          go_wp2_with (go_at_call 37; refine HSC.out.mono ?_; rintro e w5 ⟨rfl, hb5⟩)
          refine bodyPost_ret (results_tmp2 rfl _ _ _) rfl ?_
          exact ⟨rfl, HB4.out.trans (hb5.mono HB4.out.size)⟩
    · have hi : er.isSome = true := by
        cases er with
        | none => exact absurd (HEC.out.2 rfl) he0
        | some _ => rfl
      have h := H.out
      rw [if_pos (.inl hi)] at h
      simp only [Option.some.injEq, Prod.mk.injEq] at h
      obtain ⟨rfl, rfl⟩ := h
      have g1 : (ec != 0) = true := bne_iff_ne.2 he0
      clear he0 hi
      go_wp2_with fail
      refine bodyPost_ret (results_tmp2 rfl _ _ _) rfl ?_
      exact ⟨rfl, HB4.out⟩
  · rw [if_neg hg] at h; cases h
end Go.Proofs.YtkkpjonfaflkmaaGreatDoor.T
