/- Part 12 of the proof of ScanLocal: the functions that it calls return what their plain descriptions say. -/
import Derived.Test.YtkkpjonfaflkmaaGreatDoorCScanLocal11
import Derived.Test.YtkkpjonfaflkmaaGreatDoorCScanLocal4
import Derived.Maps.OwnIn

namespace Go.Proofs.YtkkpjonfaflkmaaGreatDoor.T
set_option linter.unusedSimpArgs false
set_option linter.unusedVariables false
open Go.RowKit Go.Maps Go.Proofs.YtkkpjonfaflkmaaGreatDoorW.PrintWords Go.Proofs.YtkkpjonfaflkmaaGreatDoorW.PrintLast Go.Proofs.YtkkpjonfaflkmaaGreatDoorW.PrintMore
attribute [local go_sem] Oper.semAt_some
structure It (l H s fp FB : Nat) (src : ByteArray) (hd : Int → Value) (D : DataW Unit) (J : List (List S.Tk) → (Nat → Prop) → World → Prop) (i line : Nat) (v : Value) (cur : List S.Tk) (gap : Bool) (pre : List (List S.Tk)) (F : Nat → Prop) (W : World) : Prop where
  sm : ScM s src i line (H + 1) (H + 1 + 2) hd D W
  cu : Cur (s + 1) (s + 1 + 1) H l (s + 3) v cur gap W
  jj : J pre F W
  ff : ∀ k, F k → (k < H ∨ s + 3 ≤ k) ∧ v.ownBlock ≠ some k ∧ k ≠ fp ∧ k ≠ FB
  hfp : W.heap[fp]? = some (.cells #[.int .i64 0, .int .i64 0] 76 (0, 0))
  hfb : W.heap[FB]? = some (.cells #[.pointer (some ⟨fp, 0, none⟩)] 88 (0, 0))
  byt : ∀ t ∈ cur, Bytes t
  len : pre.flatten.length + 2 * cur.length ≤ 2 * i
  l1 : H + 1 < s
  l2 : fp < H
  l3 : FB < H
  rows : ∀ c g, (hd c).ownBlock = some g → H + 1 < g ∧ g < s
section
variable {l n H s fp FB : Nat} {src : ByteArray} {hd : Int → Value} {D : DataW Unit} {J : List (List S.Tk) → (Nat → Prop) → World → Prop} {i line : Nat} {v : Value} {cur : List S.Tk} {gap : Bool} {pre : List (List S.Tk)} {F : Nat → Prop} {W W' : World}
theorem It.own_ge (h : It l H s fp FB src hd D J i line v cur gap pre F W) : ∀ k, v.ownBlock = some k → s + 3 ≤ k := fun k e => (h.cu.own.lt k e).1
theorem It.step (C : Client l n J) (h : It l H s fp FB src hd D J i line v cur gap pre F W) {i' line' : Nat} (hb : But (· = s) W W') (hs : Sc s src i' line' (.map (some (H + 1))) W') (hi : i ≤ i') : It l H s fp FB src hd D J i' line' v cur gap pre F W' := by
  have h1 := h.l1
  have h2 := h.l2
  have h3 := h.l3
  have hsm := h.sm
  refine ⟨⟨hs, hsm.sg.but hsm.nm hsm.nr hb, hsm.nm, hsm.nr⟩, h.cu.but hb (fun k e => ⟨by omega, by omega, by omega, fun e2 => by have := h.own_ge k e2; omega⟩), C.stable h.jj (hb.mono (fun k _ e hf => by have := (h.ff k hf).1; omega)), h.ff, (hb.block fp (Array.getElem?_eq_some_iff.1 h.hfp).1 (by show ¬ fp = s; omega)).trans h.hfp, (hb.block FB (Array.getElem?_eq_some_iff.1 h.hfb).1 (by show ¬ FB = s; omega)).trans h.hfb, h.byt, by have := h.len; omega, h1, h2, h3, h.rows⟩
theorem It.new (C : Client l n J) (h : It l H s fp FB src hd D J i line v cur gap pre F W) (hb : But (fun _ => False) W W') : It l H s fp FB src hd D J i line v cur gap pre F W' := by
  have hb2 : But (· = s) W W' := hb.mono (fun _ _ e => e.elim)
  refine h.step C hb2 ?_ (Nat.le_refl _)
  exact (hb.block s h.sm.sc.lt (fun e => e)).trans h.sm.sc
theorem It.put (C : Client l n J) (h : It l H s fp FB src hd D J i line v cur gap pre F W) {v' : Value} {cur' : List S.Tk} {gap' : Bool} (hb : But (fun k => k = s + 1 ∨ k = s + 1 + 1 ∨ v.ownBlock = some k) W W') (hc : Cur (s + 1) (s + 1 + 1) H l (s + 3) v' cur' gap' W')
    (hv : ∀ k, v'.ownBlock = some k → v.ownBlock = some k ∨ W.heap.size ≤ k) (hby : ∀ t ∈ cur', Bytes t) (hl : pre.flatten.length + 2 * cur'.length ≤ 2 * i) : It l H s fp FB src hd D J i line v' cur' gap' pre F W' := by
  have h1 := h.l1
  have h2 := h.l2
  have h3 := h.l3
  have hsm := h.sm
  have ho := h.own_ge
  have hne : ∀ k, k < s + 1 → ¬ (k = s + 1 ∨ k = s + 1 + 1 ∨ v.ownBlock = some k) := fun k hk e => by
    rcases e with e | e | e
    · omega
    · omega
    · have := ho k e; omega
  have hblk : ∀ k, k < s + 1 → k < W.heap.size → W'.heap[k]? = W.heap[k]? := fun k hk hl => hb.block k hl (hne k hk)
  refine ⟨⟨(hblk s (by omega) hsm.sc.lt).trans hsm.sc, hsm.sg.blk (hblk _ (by omega) hsm.sg.map.lt) (fun c g hg => hblk g (by have := h.rows c g hg; omega) ((hsm.sg.row c).lt g hg).2), hsm.nm, hsm.nr⟩, hc, C.stable h.jj (hb.mono (fun k _ e hf => ?_)), fun k hf => ?_,
    (hblk fp (by omega) (Array.getElem?_eq_some_iff.1 h.hfp).1).trans h.hfp, (hblk FB (by omega) (Array.getElem?_eq_some_iff.1 h.hfb).1).trans h.hfb, hby, hl, h1, h2, h3, h.rows⟩
  · obtain ⟨q1, q2, _⟩ := h.ff k hf
    rcases e with e | e | e
    · omega
    · omega
    · exact q2 e
  · obtain ⟨q1, q2, q3, q4⟩ := h.ff k hf
    refine ⟨q1, fun e => ?_, q3, q4⟩
    rcases hv k e with e2 | e2
    · exact q2 e2
    · have := C.lt h.jj k hf; omega
theorem It.ended (C : Client l n J) (h : It l H s fp FB src hd D J i line v cur gap pre F W) {pre' : List (List S.Tk)} {F' : Nat → Prop} (hj : J pre' F' W') (hc : Cur (s + 1) (s + 1 + 1) H l (s + 3) (.slice none 0 0) [] false W')
    (hb : But (fun k => F k ∨ k = s + 1 ∨ k = s + 1 + 1 ∨ v.ownBlock = some k) W W') (hF : ∀ k, F' k → F k ∨ W.heap.size ≤ k ∨ v.ownBlock = some k) (hl : pre'.flatten.length ≤ 2 * i) : It l H s fp FB src hd D J i line (.slice none 0 0) [] false pre' F' W' := by
  have h1 := h.l1
  have h2 := h.l2
  have h3 := h.l3
  have hsm := h.sm
  have ho := h.own_ge
  have hne : ∀ k, H ≤ k → k < s + 1 → ¬ (F k ∨ k = s + 1 ∨ k = s + 1 + 1 ∨ v.ownBlock = some k) := fun k hk hk2 e => by
    rcases e with e | e | e | e
    · have := (h.ff k e).1; omega
    · omega
    · omega
    · have := ho k e; omega
  have hblk : ∀ k, H ≤ k → k < s + 1 → k < W.heap.size → W'.heap[k]? = W.heap[k]? := fun k hk hk2 hl => hb.block k hl (hne k hk hk2)
  have hfb : ∀ k, (k = fp ∨ k = FB) → k < W.heap.size → W'.heap[k]? = W.heap[k]? := fun k hk hl => hb.block k hl (fun e => by
    rcases e with e | e | e | e
    · have := (h.ff k e).2.2; omega
    · omega
    · omega
    · have := ho k e; omega)
  have hsz : s + 3 ≤ W.heap.size := h.cu.lw
  refine ⟨⟨(hblk s (by omega) (by omega) hsm.sc.lt).trans hsm.sc, hsm.sg.blk (hblk _ (by omega) (by omega) hsm.sg.map.lt) (fun c g hg => hblk g (by have := h.rows c g hg; omega) (by have := h.rows c g hg; omega) ((hsm.sg.row c).lt g hg).2), hsm.nm, hsm.nr⟩, hc, hj, fun k hf => ?_,
    (hfb fp (.inl rfl) (Array.getElem?_eq_some_iff.1 h.hfp).1).trans h.hfp, (hfb FB (.inr rfl) (Array.getElem?_eq_some_iff.1 h.hfb).1).trans h.hfb, by simp, by simpa using hl, h1, h2, h3, h.rows⟩
  refine ⟨?_, by simp [Value.ownBlock], ?_, ?_⟩
  · rcases hF k hf with e | e | e
    · exact (h.ff k e).1
    · omega
    · have := ho k e; omega
  · rcases hF k hf with e | e | e
    · exact (h.ff k e).2.2.1
    · omega
    · have := ho k e; omega
  · rcases hF k hf with e | e | e
    · exact (h.ff k e).2.2.2
    · omega
    · have := ho k e; omega
theorem It.drewN (C : Client l n J) (h : It l H s fp FB src hd D J i line v cur gap pre F W) (q : Nat) : It l H s fp FB src hd D J i line v cur gap pre F (W.drewN q) := h.new C ((But.refl _ W).drewN q)
theorem It.setGap (C : Client l n J) (h : It l H s fp FB src hd D J i line v cur gap pre F W) (g : Bool) : It l H s fp FB src hd D J i line v cur g pre F (W.setCell ⟨s + 1 + 1, 0, none⟩ (.bool g)) := by
  have hb : But (fun k => k = s + 1 + 1) W (W.setCell ⟨s + 1 + 1, 0, none⟩ (.bool g)) := (But.refl (fun k => k = s + 1 + 1) W).set ⟨s + 1 + 1, 0, none⟩ _ rfl
  have h1 := h.l1
  have hc := h.cu
  refine h.put C (hb.mono (fun k _ e => .inr (.inl e))) ⟨(hb.block (s + 1) (by have := hc.lw; omega) (by omega)).trans hc.cb, blk_put (cs := #[_]) hc.gb 0 _ rfl, (hb.block H (by have := hc.lw; omega) (by omega)).trans hc.yb, own_but hc.own hb (fun k e e2 => by have := h.own_ge k e2; omega), hc.l1, hc.l2, hc.l3, hc.n1, hc.n2, hc.n3, Nat.le_trans hc.lw hb.size⟩ (fun k e => .inl e) h.byt h.len
theorem It.setCur (C : Client l n J) (h : It l H s fp FB src hd D J i line v cur gap pre F W) {v' : Value} {cur' : List S.Tk} (ho : W.ownsRow (s + 3) 53 6 v' cur'.length (tksL cur')) (hv : ∀ k, v'.ownBlock = some k → v.ownBlock = some k) (hby : ∀ t ∈ cur', Bytes t) (hl : pre.flatten.length + 2 * cur'.length ≤ 2 * i) :
    It l H s fp FB src hd D J i line v' cur' gap pre F (W.setCell ⟨s + 1, 0, none⟩ v') := by
  have hb : But (fun k => k = s + 1) W (W.setCell ⟨s + 1, 0, none⟩ v') := (But.refl (fun k => k = s + 1) W).set ⟨s + 1, 0, none⟩ _ rfl
  have h1 := h.l1
  have hc := h.cu
  refine h.put C (hb.mono (fun k _ e => .inl e)) ⟨blk_put (cs := #[_]) hc.cb 0 _ rfl, (hb.block (s + 1 + 1) (by have := hc.lw; omega) (by omega)).trans hc.gb, (hb.block H (by have := hc.lw; omega) (by omega)).trans hc.yb, own_but ho hb (fun k e e2 => by have := (ho.lt k e2).1; omega), hc.l1, hc.l2, hc.l3, hc.n1, hc.n2, hc.n3, Nat.le_trans hc.lw hb.size⟩ (fun k e => .inl (hv k e)) hby hl
theorem own_cut {A : Option Addr} {cn cap base : Nat} (h : W.ownsRow base 53 6 (.slice A cn cap) cur.length (tksL cur)) (hne : cur ≠ []) : W.ownsRow base 53 6 (.slice A (cn - 1) cap) cur.dropLast.length (tksL cur.dropLast) := by
  refine ⟨tksL_length _, .inr ?_⟩
  rcases h.2 with ⟨e, e2⟩ | ⟨g, cap', cs, e, hg, hb, h1, h2, h3, h4⟩
  · exact absurd (List.length_eq_zero_iff.1 e2) hne
  · simp only [Value.slice.injEq] at e
    obtain ⟨rfl, rfl, rfl⟩ := e
    refine ⟨g, cap, cs, by rw [List.length_dropLast], hg, hb, by rw [List.length_dropLast]; omega, h2, h3, ?_⟩
    have e1 : cur.dropLast = cur.take (cur.length - 1) := List.dropLast_eq_take
    rw [List.length_dropLast, e1, ← tksL_take, ← h4, List.take_take]
    congr 1
    omega
theorem It.cutc (C : Client l n J) {A : Option Addr} {cn cap : Nat} (h : It l H s fp FB src hd D J i line (.slice A cn cap) cur gap pre F W) (hne : cur ≠ []) : It l H s fp FB src hd D J i line (.slice A (cn - 1) cap) cur.dropLast gap pre F (W.setCell ⟨s + 1, 0, none⟩ (.slice A (cn - 1) cap)) :=
  h.setCur C (own_cut h.cu.own hne) (fun k e => by cases A with | none => simp [Value.ownBlock] at e | some a => exact e) (fun t ht => h.byt t ((List.dropLast_sublist _).subset ht)) (by have := h.len; rw [List.length_dropLast]; omega)
theorem It.more (C : Client l n J) {X w1 : World} (h : It l H s fp FB src hd D J i line v cur gap pre F W) (hX : But (fun _ => False) W X) {v' : Value} {t : S.Tk} (ho : w1.ownsRow (s + 3) 53 6 v' (cur.length + 1) (tksL cur ++ tkL t)) (hg : X.grownBy w1 v.ownBlock)
    (hv : v'.ownBlock = v.ownBlock ∨ v'.ownBlock = some X.heap.size) (hby : Bytes t) (hl : pre.flatten.length + 2 * (cur.length + 1) ≤ 2 * i) :
    It l H s fp FB src hd D J i line v' (cur ++ [t]) false pre F ((w1.setCell ⟨s + 1, 0, none⟩ v').setCell ⟨s + 1 + 1, 0, none⟩ (.bool false)) := by
  have hb1 : But (fun k => v.ownBlock = some k) X w1 := ⟨hg.os, hg.tape, hg.output, hg.size, fun k hk hn => hg.block k hk (fun e => hn e.symm)⟩
  have hb2 : But (fun k => k = s + 1 ∨ k = s + 1 + 1) w1 ((w1.setCell ⟨s + 1, 0, none⟩ v').setCell ⟨s + 1 + 1, 0, none⟩ (.bool false)) := ((But.refl (fun k => k = s + 1 ∨ k = s + 1 + 1) w1).set ⟨s + 1, 0, none⟩ _ (.inl rfl)).set ⟨s + 1 + 1, 0, none⟩ _ (.inr rfl)
  have h01 : But (fun k => v.ownBlock = some k) W w1 := hX.trans hb1 (fun _ _ e => e.elim) (fun _ _ e => e)
  have h02 : But (fun k => k = s + 1 ∨ k = s + 1 + 1 ∨ v.ownBlock = some k) W ((w1.setCell ⟨s + 1, 0, none⟩ v').setCell ⟨s + 1 + 1, 0, none⟩ (.bool false)) :=
    h01.trans hb2 (fun _ _ e => .inr (.inr e)) (fun _ _ e => e.elim .inl (fun e => .inr (.inl e)))
  have h1 := h.l1
  have hc := h.cu
  have hlw := hc.lw
  have hge := h.own_ge
  have hs1 := h01.size
  refine h.put C h02 ⟨?_, ?_, ?_, ?_, hc.l1, hc.l2, hc.l3, hc.n1, hc.n2, hc.n3, Nat.le_trans hlw h02.size⟩ (fun k e => ?_) (fun t' ht' => ?_) (by rw [List.length_append]; exact hl)
  · exact (Below.heap_setCell _ ⟨s + 1 + 1, 0, none⟩ _ (s + 1) (by show s + 1 ≠ s + 1 + 1; omega)).trans (blk_put (cs := #[_]) ((h01.block (s + 1) (by omega) (fun e => by have := hge _ e; omega)).trans hc.cb) 0 _ rfl)
  · exact blk_put (cs := #[_]) ((Below.heap_setCell _ ⟨s + 1, 0, none⟩ _ (s + 1 + 1) (by show s + 1 + 1 ≠ s + 1; omega)).trans ((h01.block (s + 1 + 1) (by omega) (fun e => by have := hge _ e; omega)).trans hc.gb)) 0 _ rfl
  · exact (h02.block H (by omega) (fun e => by rcases e with e | e | e; omega; omega; have := hge _ e; omega)).trans hc.yb
  · rw [List.length_append, tksL_append]
    have e : tksL [t] = tkL t := by simp [tksL]
    rw [e]
    refine own_but ho hb2 (fun k e e2 => ?_)
    have := (ho.lt k e2).1
    omega
  · rcases hv with hv | hv
    · exact .inl (by rw [← hv, e])
    · refine .inr ?_
      rw [hv] at e
      have := hX.size
      cases e
      exact this
  · rcases List.mem_append.1 ht' with ht' | ht'
    · exact h.byt t' ht'
    · rw [List.mem_singleton.1 ht']; exact hby
theorem comma_calls {A : Option Addr} {cn cap base : Nat} (h : W.ownsRow base 53 6 (.slice A cn cap) cur.length (tksL cur)) (hb : ∀ t ∈ cur, Bytes t) (hl : cur.length ≤ 1000000) :
    Calls Tryz.prog 92 #[.slice A cn cap] W fun e w' => e = .returned (.bool (S.comma cur)) ∧ Drawn0 W w' := by
  obtain ⟨rfl, hc, hC⟩ := tks_C h
  have := scan_comma.calls A cap (cur.map toS) (S.comma cur) W hC (by rw [List.length_map]; exact hc) (comma_f cur hb hl)
  rwa [List.length_map] at this
theorem label_calls {A : Option Addr} {cn cap base : Nat} (h : W.ownsRow base 53 6 (.slice A cn cap) cur.length (tksL cur)) (hb : ∀ t ∈ cur, Bytes t) :
    Calls Tryz.prog 54 #[.slice A cn cap] W fun e w' => e = .returned (.bool (S.label cur)) ∧ Drawn0 W w' := by
  obtain ⟨rfl, hc, hC⟩ := tks_C h
  have := scan_label.calls A cap (cur.map toS) (S.label cur) W hC (by rw [List.length_map]; exact hc) (label_f cur hb)
  rwa [List.length_map] at this
theorem It.other (C : Client l n J) (h : It l H s fp FB src hd D J i line v cur gap pre F W) {A : Nat → Prop} (hb : But A W W') (hA : ∀ k, A k → s + 3 ≤ k ∧ ¬ F k ∧ v.ownBlock ≠ some k) : It l H s fp FB src hd D J i line v cur gap pre F W' := by
  have h1 := h.l1
  have h2 := h.l2
  have h3 := h.l3
  have hsm := h.sm
  have hblk : ∀ k, k < s + 3 → k < W.heap.size → W'.heap[k]? = W.heap[k]? := fun k hk hl => hb.block k hl (fun e => by have := (hA k e).1; omega)
  exact ⟨⟨(hblk s (by omega) hsm.sc.lt).trans hsm.sc, hsm.sg.blk (hblk _ (by omega) hsm.sg.map.lt) (fun c g hg => hblk g (by have := h.rows c g hg; omega) ((hsm.sg.row c).lt g hg).2), hsm.nm, hsm.nr⟩, h.cu.but hb (fun k e => by have := hA k e; exact ⟨by omega, by omega, by omega, this.2.2⟩), C.stable h.jj (hb.mono (fun k _ e hf => (hA k e).2.1 hf)), h.ff,
    (hblk fp (by omega) (Array.getElem?_eq_some_iff.1 h.hfp).1).trans h.hfp, (hblk FB (by omega) (Array.getElem?_eq_some_iff.1 h.hfb).1).trans h.hfb, h.byt, h.len, h1, h2, h3, h.rows⟩
theorem emit_len (pre : List (List S.Tk)) (cur : List S.Tk) (a b c : Nat) : (pre ++ S.emit cur a b c).flatten.length ≤ pre.flatten.length + 2 * cur.length := by
  unfold S.emit
  by_cases h : cur = []
  · rw [if_pos h]; simp
  · rw [if_neg h]
    have : 0 < cur.length := List.length_pos_iff.2 h
    simp only [List.flatten_append, List.flatten_cons, List.flatten_nil, List.append_nil, List.length_append, List.length_cons, List.length_nil]
    omega
theorem pre_pre (a b : List (List S.Tk)) (o : S.Out) : (S.Out.pre b o).pre a = o.pre (a ++ b) := by simp [S.Out.pre]
theorem It.endc (C : Client l n J) {cn cap : Nat} {A : Option Addr} (h : It l H s fp FB src hd D J i line (.slice A cn cap) cur gap pre F W) (hi : i ≤ 100000) (a b c : Nat) :
    CallsIn Fence.wide (n + 1) Tryz.prog 90 #[.int .i64 a, .int .i64 b, .int .i64 c, .pointer (some ⟨s + 1, 0, none⟩), .pointer (some ⟨s + 1 + 1, 0, none⟩), .pointer (some ⟨H, 0, none⟩)] W fun e W' =>
      e = .returned (.bool true) ∧ ∃ F', It l H s fp FB src hd D J i line (.slice none 0 0) [] false (pre ++ S.emit cur a b c) F' W' := by
  have h1 := h.l1
  refine (end_in (n + 1) (by omega) (C : Client l (n + 1 - 1) J) a b c W h.cu h.jj (fun k hk => ?_) (by have := h.len; omega)).mono ?_
  · obtain ⟨q1, q2, _⟩ := h.ff k hk
    exact ⟨by omega, by omega, by omega, q2⟩
  · rintro e W' ⟨rfl, F', hj, hc, hb, hf⟩
    exact ⟨rfl, F', h.ended C hj hc hb hf (by have := emit_len pre cur a b c; have := h.len; omega)⟩
theorem It.fail (C : Client l n J) (h : It l H s fp FB src hd D J i line v cur gap pre F W) (hb : But (· = s) W W') : Cur (s + 1) (s + 1 + 1) H l (s + 3) v cur gap W' ∧ J pre F W' ∧ (∀ k, F k → k ≠ s + 1 ∧ k ≠ s + 1 + 1 ∧ k ≠ H ∧ v.ownBlock ≠ some k) ∧ (∀ k, F k → k ≠ fp) ∧
    W'.heap[fp]? = some (.cells #[.int .i64 0, .int .i64 0] 76 (0, 0)) ∧ W'.heap[FB]? = some (.cells #[.pointer (some ⟨fp, 0, none⟩)] 88 (0, 0)) := by
  have h1 := h.l1
  have h2 := h.l2
  have h3 := h.l3
  refine ⟨h.cu.but hb (fun k e => ⟨by omega, by omega, by omega, fun e2 => by have := h.own_ge k e2; omega⟩), C.stable h.jj (hb.mono (fun k _ e hf => by have := (h.ff k hf).1; omega)), fun k hk => ?_, fun k hk => (h.ff k hk).2.2.1, (hb.block fp (Array.getElem?_eq_some_iff.1 h.hfp).1 (by show ¬ fp = s; omega)).trans h.hfp, (hb.block FB (Array.getElem?_eq_some_iff.1 h.hfb).1 (by show ¬ FB = s; omega)).trans h.hfb⟩
  obtain ⟨q1, q2, _⟩ := h.ff k hk
  exact ⟨by omega, by omega, by omega, q2⟩
end
end Go.Proofs.YtkkpjonfaflkmaaGreatDoor.T

namespace Go.Proofs.YtkkpjonfaflkmaaGreatDoor.T
set_option linter.unusedSimpArgs false
set_option linter.unusedVariables false
open Go.RowKit Go.Maps Go.Proofs.YtkkpjonfaflkmaaGreatDoorW.PrintWords Go.Proofs.YtkkpjonfaflkmaaGreatDoorW.PrintLast Go.Proofs.YtkkpjonfaflkmaaGreatDoorW.PrintMore
attribute [local go_sem] Oper.semAt_some
def errV : Option (Nat × Nat) → Array Value
  | none => #[.int .i64 0, .int .i64 0]
  | some (c, ln) => #[.int .i64 c, .int .i64 ln]
theorem end_enters : ∀ args w, (callFunc 90 args).run Tryz.prog w = .ok (.enter 90 args) w := enters_of Tryz.func90 (by kernel_rfl) rfl
set_option maxRecDepth 100000 in
set_option maxHeartbeats 4000000 in
theorem iter_in (m : Nat) {l B0 FB fp : Nat} {src : ByteArray} {J : List (List S.Tk) → (Nat → Prop) → World → Prop} (C : Client l m J) {F : Nat → Prop} (W : World) (hsz : src.size ≤ 100000) (hT : TabOK W)
    (hJ : J [] F W) (hF : ∀ k, F k → k ≠ fp ∧ k ≠ FB) (hB0 : W.heap[B0]? = some (.cells #[.string src] 9 (0, 0))) (hfb : W.heap[FB]? = some (.cells #[.pointer (some ⟨fp, 0, none⟩)] 88 (0, 0)))
    (hfp : W.heap[fp]? = some (.cells #[.int .i64 0, .int .i64 0] 76 (0, 0))) :
    CallsIn Fence.wide (m + 2) Tryz.prog 87 #[.func (.yield l) #[] #[], .pointer (some ⟨B0, 0, none⟩), .pointer (some ⟨FB, 0, none⟩)] W fun e W' =>
      (∃ v, e = .returned v) ∧ ∃ F', J (S.scan (bytesOf src)).cl F' W' ∧ W'.heap[fp]? = some (.cells (errV (S.scan (bytesOf src)).err) 76 (0, 0)) := by
  have hmf : ∀ (fn : Fn) (first cap : Array Value) (w : World), (Instr.makeFunc fn first cap).run Tryz.prog w = .ok (.func fn first cap) w := fun _ _ _ _ => rfl
  have hwf : ∀ f, Fence.wide.fn f := fun _ => trivial
  have HJ := Aside0.mk hJ
  have HF := Aside0.mk hF
  have HFB := Aside0.mk hfb
  have HFP := Aside0.mk hfp
  obtain ⟨H, hH⟩ : ∃ H, W.heap.size = H := ⟨_, rfl⟩
  have hlt : B0 < H ∧ FB < H ∧ fp < H := by
    rw [← hH]
    exact ⟨(Array.getElem?_eq_some_iff.1 hB0).1, (Array.getElem?_eq_some_iff.1 hfb).1, (Array.getElem?_eq_some_iff.1 hfp).1⟩
  obtain ⟨L, hL⟩ : ∃ L, bytesOf src = L := ⟨_, rfl⟩
  obtain ⟨N, hN⟩ : ∃ N, src.size = N := ⟨_, rfl⟩
  have HN : Aside0 (L.length = N) := ⟨by rw [← hL, bytesOf_length]; exact hN⟩
  have HL := Aside0.mk hL
  have HSZ : Aside0 (src.size = N) := ⟨hN⟩
  have hNb : N ≤ 100000 := by rw [← hN]; exact hsz
  rw [hL]
  obtain ⟨OUT, hO⟩ : ∃ OUT, S.scan L = OUT := ⟨_, rfl⟩
  rw [hO]
  have HO := Aside0.mk hO
  have hb1 : But (fun _ => False) W (W.alloc (.cells #[.func (.yield l) #[] #[]] 55)) := (But.refl _ W).alloc _
  have hy1 := heap_alloc_new W (.cells #[.func (.yield l) #[] #[]] 55)
  have hs1 := World.size_alloc W (.cells #[.func (.yield l) #[] #[]] 55)
  rw [hH] at hy1 hs1
  have c0 : (W.alloc (.cells #[.func (.yield l) #[] #[]] 55)).cell? ⟨B0, 0, none⟩ = some (.string src) := (blk_cell ((hb1.block B0 (by omega) (fun e => e)).trans hB0) 0).trans rfl
  have HB1 := Aside0.mk hb1
  have HY1 := Aside0.mk hy1
  have hT1 : TabOK (W.alloc (.cells #[.func (.yield l) #[] #[]] 55)) := hT.of_below hb1.below
  have HT1 := Aside0.mk hT1
  clear hJ hF hfb hfp hB0 hL hN hO hb1 hy1 hT hT1
  refine callsIn_of_wp_defers Tryz.func87 rfl trivial ?_ rfl
  simp only [Tryz.ntmps87, List.size_toArray, List.length_cons, List.length_nil, Nat.reduceAdd, Nat.reduceSub, Array.replicate_succ, Array.replicate_zero, List.push_toArray, List.append_toArray, List.nil_append, List.cons_append]
  gi_upto_region 1 with (fail)
  try rw [hH]
  generalize W.alloc (.cells #[.func (.yield l) #[] #[]] 55) = W1 at *
  gi_cut [4] from 11 (fun s4 wc => ∃ (s : Nat) (hd : Int → Value) (D : DataW Unit), s4 = .pointer (some ⟨s, 0, none⟩) ∧ Aside0 (wc.heap.size = s + 1 ∧ H + 2 < s + 1 ∧ But (fun _ => False) W1 wc ∧ ScM s src 0 1 (H + 1) (H + 1 + 2) hd D wc ∧ ∀ c g, (hd c).ownBlock = some g → H + 1 < g ∧ g < s))
  case first =>
    have hsg : Calls Tryz.prog 88 #[] W1.drew fun e w' => e = .returned (.map (some (H + 1))) ∧ Below (H + 1) W1.drew w' ∧ ∃ hd D, SgI w' (H + 1) (H + 1 + 2) sgPs hd D := by
      have := scan_signs.calls W1.drew ((HT1.out.of_below (below_alloc (below_drew (Below.refl _ _)) (.map #[] 0))).space)
      rw [show W1.drew.heap.size = H + 1 from hs1] at this
      exact this
    have HSG := Lib.hid hsg
    have HREL : Aside0 (∀ (w' : World) (hd : Int → Value) (D : DataW Unit), Below (H + 1) W1.drew w' → SgI w' (H + 1) (H + 1 + 2) sgPs hd D → ∃ (s : Nat) (hd : Int → Value) (D : DataW Unit), Value.pointer (some ⟨w'.heap.size, 0, none⟩) = .pointer (some ⟨s, 0, none⟩) ∧
        Aside0 ((w'.alloc (.cells #[.string src, .int .i64 0, .int .i64 1, .map (some (H + 1))] 93)).heap.size = s + 1 ∧ H + 2 < s + 1 ∧ But (fun _ => False) W1 (w'.alloc (.cells #[.string src, .int .i64 0, .int .i64 1, .map (some (H + 1))] 93)) ∧
          ScM s src 0 1 (H + 1) (H + 1 + 2) hd D (w'.alloc (.cells #[.string src, .int .i64 0, .int .i64 1, .map (some (H + 1))] 93)) ∧ ∀ c g, (hd c).ownBlock = some g → H + 1 < g ∧ g < s)) := ⟨fun w' hd D hb hsg => by
      have hal : But (fun _ => False) w' (w'.alloc (.cells #[.string src, .int .i64 0, .int .i64 1, .map (some (H + 1))] 93)) := (But.refl _ w').alloc _
      have hml : H + 1 < w'.heap.size := hsg.map.lt
      have hrl : ∀ c g, (hd c).ownBlock = some g → H + 1 + 2 ≤ g ∧ g < w'.heap.size := fun c g e => (hsg.row c).lt g e
      refine ⟨w'.heap.size, hd, D, rfl, ⟨World.size_alloc _ _, by omega, ?_, ⟨heap_alloc_new _ _, hsg.blk (hal.block _ hml (fun e => e)) (fun c g e => hal.block g (hrl c g e).2 (fun e => e)), by omega, fun c g e => by have := hrl c g e; omega⟩, fun c g e => by have := hrl c g e; omega⟩⟩
      have h0 : But (fun _ => False) W1 w' := ⟨hb.os, hb.tape, hb.output, hb.size, fun k hk _ => hb.block k (by have h9 : k < W1.heap.size := hk; omega)⟩
      exact h0.trans' hal⟩
    clear hsg
    refine wpIn_region_any (by kernel_rfl) ?_
    change wpAnyIn _ _ _ _ _ _ _ _ _ (World.drew W1)
    refine wpAnyIn_ready (rs := [0, 1]) (by kernel_rfl) (by simp) ?_
    refine AllReadyIn.cons rfl (fun K hK => ?_) (AllReadyIn.cons rfl (fun K hK => ?_) AllReadyIn.nil)
    · go_simp
      refine hK _ _ ?_
      clear hK K
      refine wpAnyIn_ready (rs := [1]) (by kernel_rfl) (by simp) ?_
      refine AllReadyIn.cons rfl (fun K hK => ?_) AllReadyIn.nil
      go_simp
      refine (callsIn_wide.2 HSG.out).mono ?_
      rintro e w' ⟨rfl, hb, hd, D, hsg⟩
      refine hK _ _ ?_
      clear hK K
      refine wpAnyIn_ready (rs := [2]) (by kernel_rfl) (by simp) ?_
      refine AllReadyIn.cons rfl (fun K hK => ?_) AllReadyIn.nil
      go_simp
      refine hK _ _ ?_
      clear hK K
      refine wpAnyIn_ready (rs := [3]) (by kernel_rfl) (by simp) ?_
      refine AllReadyIn.cons rfl (fun K hK => ?_) AllReadyIn.nil
      go_simp
      refine hK _ _ ?_
      clear hK K
      refine wpAnyIn_ready (rs := [4]) (by kernel_rfl) (by simp) ?_
      refine AllReadyIn.cons rfl (fun K hK => ?_) AllReadyIn.nil
      go_simp
      refine hK _ _ ?_
      clear hK K
      refine wpAnyIn_done (by kernel_rfl) ?_ _
      gi_wp2
      gi_meet
      case rel => exact HREL.out w' hd D hb hsg
    · go_simp
      refine (callsIn_wide.2 HSG.out).mono ?_
      rintro e w' ⟨rfl, hb, hd, D, hsg⟩
      refine hK _ _ ?_
      clear hK K
      have c0' : w'.cell? ⟨B0, 0, none⟩ = some (.string src) := (hb.cell (p := ⟨B0, 0, none⟩) (by show B0 < H + 1; omega)).trans c0
      refine wpAnyIn_ready (rs := [0]) (by kernel_rfl) (by simp) ?_
      refine AllReadyIn.cons rfl (fun K hK => ?_) AllReadyIn.nil
      go_simp
      refine hK _ _ ?_
      clear hK K
      refine wpAnyIn_ready (rs := [2]) (by kernel_rfl) (by simp) ?_
      refine AllReadyIn.cons rfl (fun K hK => ?_) AllReadyIn.nil
      go_simp
      refine hK _ _ ?_
      clear hK K
      refine wpAnyIn_ready (rs := [3]) (by kernel_rfl) (by simp) ?_
      refine AllReadyIn.cons rfl (fun K hK => ?_) AllReadyIn.nil
      go_simp
      refine hK _ _ ?_
      clear hK K
      refine wpAnyIn_ready (rs := [4]) (by kernel_rfl) (by simp) ?_
      refine AllReadyIn.cons rfl (fun K hK => ?_) AllReadyIn.nil
      go_simp
      refine hK _ _ ?_
      clear hK K
      refine wpAnyIn_done (by kernel_rfl) ?_ _
      gi_wp2
      gi_meet
      case rel => exact HREL.out w' hd D hb hsg
  case rest =>
    obtain ⟨s, hd, D, rfl, HX⟩ := hcut
    have hws := HX.out.1
    gi_upto_region 6 with (fail)
    obtain ⟨hws', hH2, hbX, hsmX, hrX⟩ := HX.out
    have ha1 : But (fun _ => False) wc (wc.alloc (.cells #[.slice none 0 0] 24)) := (But.refl _ wc).alloc _
    have ha2 : But (fun _ => False) (wc.alloc (.cells #[.slice none 0 0] 24)) ((wc.alloc (.cells #[.slice none 0 0] 24)).alloc (.cells #[.bool false] 4)) := (But.refl _ _).alloc _
    have hn1 := heap_alloc_new wc (.cells #[.slice none 0 0] 24)
    have hn2 := heap_alloc_new (wc.alloc (.cells #[.slice none 0 0] 24)) (.cells #[.bool false] 4)
    have hz1 := World.size_alloc wc (.cells #[.slice none 0 0] 24)
    have hz2 := World.size_alloc (wc.alloc (.cells #[.slice none 0 0] 24)) (.cells #[.bool false] 4)
    rw [hws] at hn1 hz1
    rw [hz1] at hn2 hz2
    have haX : But (fun _ => False) W1 ((wc.alloc (.cells #[.slice none 0 0] 24)).alloc (.cells #[.bool false] 4)) := (hbX.trans' ha1).trans' ha2
    have haW := HB1.out.trans' haX
    have ha12 := ha1.trans' ha2
    have hI0 : It l H s fp FB src hd D J 0 1 (.slice none 0 0) [] false [] F ((wc.alloc (.cells #[.slice none 0 0] 24)).alloc (.cells #[.bool false] 4)) := by
      refine ⟨⟨(ha12.block s (by omega) (fun e => e)).trans hsmX.sc, hsmX.sg.but hsmX.nm hsmX.nr (ha12.mono (fun _ _ e => e.elim)), hsmX.nm, hsmX.nr⟩, ⟨(ha2.block (s + 1) (by omega) (fun e => e)).trans hn1, hn2, (haX.block H (by omega) (fun e => e)).trans HY1.out, World.ownsRow_nil _ _ _ _, by omega, by omega, by omega, by omega, by omega, by omega, by omega⟩,
        C.stable HJ.out (haW.mono (fun _ _ e => e.elim)), fun k hk => ⟨.inl (by have := C.lt HJ.out k hk; omega), by simp [Value.ownBlock], HF.out k hk⟩, (haW.block fp (by omega) (fun e => e)).trans HFP.out, (haW.block FB (by omega) (fun e => e)).trans HFB.out, by simp, by simp, by omega, by omega, by omega, hrX⟩
    have HI0 := Aside0.mk hI0
    clear hI0 ha1 ha2 hn1 hn2 hz1 hz2 haX haW ha12 hws' hbX hsmX hrX hws c0 hH hs1
    generalize (wc.alloc (.cells #[.slice none 0 0] 24)).alloc (.cells #[.bool false] 4) = W3 at *
    gi_loopg [8] (N + 1) (fun gg s8 wr => ∃ (i line : Nat) (v : Value) (cur : List S.Tk) (gap : Bool) (pre : List (List S.Tk)) (F' : Nat → Prop) (f : Nat), i ≤ N ∧ N + 1 - i ≤ gg ∧ N + 1 - i ≤ f ∧ 0 < line ∧ line ≤ i + 1 ∧ Aside0 (It l H s fp FB src hd D J i line v cur gap pre F' wr) ∧ Aside0 ((S.go f (L.drop i) i line cur gap).pre pre = OUT))
    case atStart =>
      refine ⟨0, 1, _, [], false, [], F, N + 1, Nat.zero_le _, by omega, by omega, by omega, by omega, HI0, ⟨?_⟩⟩
      rw [← HO.out]
      unfold S.scan
      rw [HN.out]
      simp [S.Out.pre]
    case round =>
      obtain ⟨i, line, v, cur, gap, pre, F', f, hi, hg, hf, hl0, hl1, HI, HA⟩ := hrel
      obtain ⟨A, cn, cap, rfl, hcn⟩ : ∃ A cn cap, v = .slice A cn cap ∧ cur.length = cn := by
        rcases HI.out.cu.own.2 with ⟨rfl, e2⟩ | ⟨g, cap, cs, rfl, _⟩
        · exact ⟨_, _, _, rfl, e2⟩
        · exact ⟨_, _, _, rfl, rfl⟩
      have HCN := Aside0.mk hcn
      clear hcn
      obtain ⟨f0, rfl⟩ : ∃ f0, f = f0 + 1 := ⟨f - 1, by omega⟩
      have hst := scan_step.calls s src i line (H + 1) (H + 1 + 2) hd D wr hsz (by have := HSZ.out; omega) hl0 (by have := HSZ.out; omega) HI.out.sm
      rw [HL.out] at hst
      have hA := HA.out
      simp only [S.go] at hA
      clear HA
      have hdr : ∀ k, (L.drop i).drop k = L.drop (i + k) := fun k => by rw [List.drop_drop]
      have heg := end_enters
      cases hS : S.step (L.drop i) with
      | fin =>
        rw [hS] at hst hA
        simp only [StepPost, rTk, zTk] at hst
        have HST := Lib.hid hst
        have HA := Aside0.mk hA
        clear hst hA hS
        gi_upto_region 7 with (gi_at_call 91; refine (callsIn_wide.2 HST.out).mono ?_; rintro e w3 ⟨hb3, rfl, hs3⟩)
        have HI3 := Aside0.mk (HI.out.step C hb3 hs3 (by omega))
        have hlen0 := HI.out.len
        obtain ⟨T, hT⟩ : ∃ T, w3.heap.size = T := ⟨_, rfl⟩
        have hb4 : But (fun _ => False) w3 (w3.alloc (.cells #[.int .i64 0, .string ⟨#[]⟩, .bool false, .int .i64 0, .int .i64 0, .int .i64 0] 53)) := (But.refl _ w3).alloc _
        have hn4 := heap_alloc_new w3 (.cells #[.int .i64 0, .string ⟨#[]⟩, .bool false, .int .i64 0, .int .i64 0, .int .i64 0] 53)
        have HI4 := Aside0.mk (HI3.out.new C hb4)
        have hz4 := World.size_alloc w3 (.cells #[.int .i64 0, .string ⟨#[]⟩, .bool false, .int .i64 0, .int .i64 0, .int .i64 0] 53)
        rw [hT] at hn4 hz4
        have hTs : s + 3 ≤ T := by have := HI3.out.cu.lw; omega
        have HTF : Aside0 (¬ F' T ∧ (Value.slice A cn cap).ownBlock ≠ some T) := ⟨fun hf => by have := C.lt HI3.out.jj T hf; omega, fun e => by have := (HI3.out.cu.own.lt T e).2; omega⟩
        try rw [hT]
        clear hb3 hs3 hb4 HI HI3 hT HST
        generalize w3.alloc (.cells #[.int .i64 0, .string ⟨#[]⟩, .bool false, .int .i64 0, .int .i64 0, .int .i64 0] 53) = W4 at *
        have c0 := HI4.out.sm.sc.c1
        have c00 := HI4.out.sm.sc.c2
        have c1 : W4.cell? ⟨s + 1, 0, none⟩ = some (.slice A cn cap) := (blk_cell HI4.out.cu.cb 0).trans rfl
        have c2 : W4.cell? ⟨s + 1 + 1, 0, none⟩ = some (.bool gap) := (blk_cell HI4.out.cu.gb 0).trans rfl
        have f1 := blk_frozen HI4.out.cu.cb 0
        have f2 := blk_frozen HI4.out.cu.gb 0
        have k0 := (blk_cell hn4 0)
        have k1 := (blk_cell hn4 1)
        have k3 := (blk_cell hn4 3)
        have k4 := (blk_cell hn4 4)
        have k5 := (blk_cell hn4 5)
        have hcmc := comma_calls HI4.out.cu.own HI4.out.byt (by have := HI4.out.len; omega)
        cases hcm : S.comma cur with
        | true =>
          have hA := HA.out
          have hct : S.cut cur = cur.dropLast := by unfold S.cut; rw [if_pos hcm]
          rw [hct] at hA
          rw [hcm] at hcmc
          have HCM := Lib.hid hcmc
          have hne : cur ≠ [] := by rintro rfl; cases hcm
          obtain ⟨cq, rfl⟩ : ∃ cq, cn = cq + 1 := ⟨cn - 1, by have := HCN.out; have := List.length_pos_iff.2 hne; omega⟩
          obtain ⟨g, rfl⟩ : ∃ g, A = some ⟨g, 0, none⟩ := by
            rcases HI4.out.cu.own.2 with ⟨e, e2⟩ | ⟨g, cap', cs, e, _⟩
            · exact absurd (List.length_eq_zero_iff.1 e2) hne
            · simp only [Value.slice.injEq] at e; exact ⟨g, e.1⟩
          have hcq := (tks_C HI4.out.cu.own).2.1
          have hcb : cq ≤ 1000000 := by have := HCN.out; have := HI4.out.len; omega
          have hw1 : IntKind.i64.wrap (((cq + 1 : Nat) : Int) - 1) = (cq : Int) := (w64 _ (by omega) (by omega)).trans (by omega)
          have hw2 : ((cq + 1 : Nat) : Int) - 1 = (cq : Int) := by omega
          have hw3 : IntKind.i64.wrap ((cq : Int) + 1 - 1) = (cq : Int) := (w64 _ (by omega) (by omega)).trans (by omega)
          have hw4 : (cq : Int) + 1 - 1 = (cq : Int) := by omega
          have HA := Aside0.mk hA
          clear hA hct hcm hcmc
          gi_upto_region 12 with (gi_at_call 92; refine (callsIn_wide.2 HCM.out).mono ?_; rintro e w' ⟨rfl, ⟨⟨q, rfl⟩⟩⟩)
          have HI6 : Aside0 (It l H s fp FB src hd D J i line (.slice (some ⟨g, 0, none⟩) cq cap) cur.dropLast gap pre F' ((W4.drewN q).setCell ⟨s + 1, 0, none⟩ (.slice (some ⟨g, 0, none⟩) cq cap))) := ⟨(HI4.out.drewN C q).cutc C hne⟩
          clear c0 c00 c1 c2 f1 f2 k0 k1 k3 k4 k5 hn4 hz4
          generalize (W4.drewN q).setCell ⟨s + 1, 0, none⟩ (.slice (some ⟨g, 0, none⟩) cq cap) = W6 at *
          have c0 := HI6.out.sm.sc.c1
          have c00 := HI6.out.sm.sc.c2
          have hen : ∀ q, CallsIn Fence.wide (m + 1) Tryz.prog 90 #[.int .i64 i, .int .i64 ((i : Int)), .int .i64 line, .pointer (some ⟨s + 1, 0, none⟩), .pointer (some ⟨s + 1 + 1, 0, none⟩), .pointer (some ⟨H, 0, none⟩)] (W6.drewN q) fun e W' =>
              e = .returned (.bool true) ∧ ∃ F5, It l H s fp FB src hd D J i line (.slice none 0 0) [] false (pre ++ S.emit cur.dropLast i i line) F5 W' := fun q => (HI6.out.drewN C q).endc C (by omega) i i line
          have HEN := Lib.hid hen
          clear hen
          refine wide_region_still_tail 13 (by kernel_rfl) (by kernel_rfl) ?_
          simp only [List.take_succ_cons, List.take_zero, List.drop_succ_cons, List.drop_zero]
          still_step
          repeat still_step
          refine wpStill_nil ?_
          gi_wp2_with (gi_at_call 90; refine (HEN.out _).mono ?_; rintro e w5 ⟨rfl, F5, hi5⟩; have HI5 := Aside0.mk hi5; clear hi5)
          refine leavesIn_cons (f := 89) (args := #[.pointer (some ⟨FB, 0, none⟩), .pointer (some ⟨s + 1, 0, none⟩), .pointer (some ⟨H, 0, none⟩)]) (by simp) (fun e => by cases e) (by simp [go_sem]) (fun g _ => trivial) ?_
          refine (deferred_idle _ _ _ _ _).mono ?_
          rintro e u' w'' ⟨rfl, rfl, rfl⟩
          simp only [LeavesIn, settle]
          refine ⟨_, results_none rfl _ _ _, ⟨_, rfl⟩, F5, ?_, ?_⟩
          · rw [← HA.out]; exact HI5.out.jj
          · rw [← HA.out]; exact HI5.out.hfp
        | false =>
          have hA := HA.out
          have hct : S.cut cur = cur := by unfold S.cut; rw [hcm, if_neg Bool.false_ne_true]
          rw [hct] at hA
          rw [hcm] at hcmc
          have HCM := Lib.hid hcmc
          have HA := Aside0.mk hA
          clear hA hct hcm hcmc
          gi_upto_region 12 with (gi_at_call 92; refine (callsIn_wide.2 HCM.out).mono ?_; rintro e w' ⟨rfl, ⟨⟨q, rfl⟩⟩⟩)
          have hen : ∀ q, CallsIn Fence.wide (m + 1) Tryz.prog 90 #[.int .i64 i, .int .i64 ((i : Int)), .int .i64 line, .pointer (some ⟨s + 1, 0, none⟩), .pointer (some ⟨s + 1 + 1, 0, none⟩), .pointer (some ⟨H, 0, none⟩)] (W4.drewN q) fun e W' =>
              e = .returned (.bool true) ∧ ∃ F5, It l H s fp FB src hd D J i line (.slice none 0 0) [] false (pre ++ S.emit cur i i line) F5 W' := fun q => (HI4.out.drewN C q).endc C (by omega) i i line
          have HEN := Lib.hid hen
          clear hen
          refine wide_region_still_tail 13 (by kernel_rfl) (by kernel_rfl) ?_
          simp only [List.take_succ_cons, List.take_zero, List.drop_succ_cons, List.drop_zero]
          still_step
          repeat still_step
          refine wpStill_nil ?_
          gi_wp2_with (gi_at_call 90; refine (HEN.out _).mono ?_; rintro e w5 ⟨rfl, F5, hi5⟩; have HI5 := Aside0.mk hi5; clear hi5)
          refine leavesIn_cons (f := 89) (args := #[.pointer (some ⟨FB, 0, none⟩), .pointer (some ⟨s + 1, 0, none⟩), .pointer (some ⟨H, 0, none⟩)]) (by simp) (fun e => by cases e) (by simp [go_sem]) (fun g _ => trivial) ?_
          refine (deferred_idle _ _ _ _ _).mono ?_
          rintro e u' w'' ⟨rfl, rfl, rfl⟩
          simp only [LeavesIn, settle]
          refine ⟨_, results_none rfl _ _ _, ⟨_, rfl⟩, F5, ?_, ?_⟩
          · rw [← HA.out]; exact HI5.out.jj
          · rw [← HA.out]; exact HI5.out.hfp
      | line =>
        have hiN : i < N := by
          have := S.step_some (xs := L.drop i) (by rw [hS]; intro e; cases e)
          rw [List.length_drop, HN.out] at this
          omega
        rw [hS] at hst hA
        simp only [hdr] at hA
        simp only [StepPost, rTk] at hst
        have HST := Lib.hid hst
        have HA := Aside0.mk hA
        clear hst hA hS
        gi_upto_region 7 with (gi_at_call 91; refine (callsIn_wide.2 HST.out).mono ?_; rintro e w3 ⟨hb3, rfl, hs3⟩)
        have HI3 := Aside0.mk (HI.out.step C hb3 hs3 (by omega))
        have hlen0 := HI.out.len
        obtain ⟨T, hT⟩ : ∃ T, w3.heap.size = T := ⟨_, rfl⟩
        have hb4 : But (fun _ => False) w3 (w3.alloc (.cells #[.int .i64 0, .string ⟨#[]⟩, .bool false, .int .i64 line, .int .i64 i, .int .i64 0] 53)) := (But.refl _ w3).alloc _
        have hn4 := heap_alloc_new w3 (.cells #[.int .i64 0, .string ⟨#[]⟩, .bool false, .int .i64 line, .int .i64 i, .int .i64 0] 53)
        have HI4 := Aside0.mk (HI3.out.new C hb4)
        have hz4 := World.size_alloc w3 (.cells #[.int .i64 0, .string ⟨#[]⟩, .bool false, .int .i64 line, .int .i64 i, .int .i64 0] 53)
        rw [hT] at hn4 hz4
        have hTs : s + 3 ≤ T := by have := HI3.out.cu.lw; omega
        have HTF : Aside0 (¬ F' T ∧ (Value.slice A cn cap).ownBlock ≠ some T) := ⟨fun hf => by have := C.lt HI3.out.jj T hf; omega, fun e => by have := (HI3.out.cu.own.lt T e).2; omega⟩
        try rw [hT]
        clear hb3 hs3 hb4 HI HI3 hT HST
        generalize w3.alloc (.cells #[.int .i64 0, .string ⟨#[]⟩, .bool false, .int .i64 line, .int .i64 i, .int .i64 0] 53) = W4 at *
        have c0 := HI4.out.sm.sc.c1
        have c00 := HI4.out.sm.sc.c2
        have c1 : W4.cell? ⟨s + 1, 0, none⟩ = some (.slice A cn cap) := (blk_cell HI4.out.cu.cb 0).trans rfl
        have c2 : W4.cell? ⟨s + 1 + 1, 0, none⟩ = some (.bool gap) := (blk_cell HI4.out.cu.gb 0).trans rfl
        have f1 := blk_frozen HI4.out.cu.cb 0
        have f2 := blk_frozen HI4.out.cu.gb 0
        have k0 := (blk_cell hn4 0)
        have k1 := (blk_cell hn4 1)
        have k3 := (blk_cell hn4 3)
        have k4 := (blk_cell hn4 4)
        have k5 := (blk_cell hn4 5)
        have hcmc := comma_calls HI4.out.cu.own HI4.out.byt (by have := HI4.out.len; omega)
        cases hcm : S.comma cur with
        | true =>
          have hA := HA.out
          rw [hcm, if_pos rfl] at hA
          rw [hcm] at hcmc
          have HCM := Lib.hid hcmc
          have hne : cur ≠ [] := by rintro rfl; cases hcm
          obtain ⟨cq, rfl⟩ : ∃ cq, cn = cq + 1 := ⟨cn - 1, by have := HCN.out; have := List.length_pos_iff.2 hne; omega⟩
          obtain ⟨g, rfl⟩ : ∃ g, A = some ⟨g, 0, none⟩ := by
            rcases HI4.out.cu.own.2 with ⟨e, e2⟩ | ⟨g, cap', cs, e, _⟩
            · exact absurd (List.length_eq_zero_iff.1 e2) hne
            · simp only [Value.slice.injEq] at e; exact ⟨g, e.1⟩
          have hcq := (tks_C HI4.out.cu.own).2.1
          have hcb : cq ≤ 1000000 := by have := HCN.out; have := HI4.out.len; omega
          have hw1 : IntKind.i64.wrap (((cq + 1 : Nat) : Int) - 1) = (cq : Int) := (w64 _ (by omega) (by omega)).trans (by omega)
          have hw2 : ((cq + 1 : Nat) : Int) - 1 = (cq : Int) := by omega
          have hw3 : IntKind.i64.wrap ((cq : Int) + 1 - 1) = (cq : Int) := (w64 _ (by omega) (by omega)).trans (by omega)
          have hw4 : (cq : Int) + 1 - 1 = (cq : Int) := by omega
          have HA := Aside0.mk hA
          clear hA hcm hcmc
          gi_wp2_with (gi_at_call 92; refine (callsIn_wide.2 HCM.out).mono ?_; rintro e w' ⟨rfl, ⟨⟨q, rfl⟩⟩⟩)
          gi_roundg (N + 1 - (i + 1))
          case measure => omega
          case rel => exact ⟨(i + 1), (line + 1), .slice (some ⟨g, 0, none⟩) cq cap, cur.dropLast, true, pre, F', f0, by omega, by omega, by omega, by omega, by omega, ⟨((HI4.out.drewN C q).cutc C hne).setGap C true⟩, ⟨HA.out⟩⟩
        | false =>
          have hA := HA.out
          rw [hcm, if_neg Bool.false_ne_true] at hA
          rw [hcm] at hcmc
          have HCM := Lib.hid hcmc
          have HA := Aside0.mk hA
          clear hA hcm hcmc
          have hen : ∀ q, CallsIn Fence.wide (m + 1) Tryz.prog 90 #[.int .i64 i, .int .i64 ((i : Int) + 1), .int .i64 line, .pointer (some ⟨s + 1, 0, none⟩), .pointer (some ⟨s + 1 + 1, 0, none⟩), .pointer (some ⟨H, 0, none⟩)] (W4.drewN q) fun e W' =>
              e = .returned (.bool true) ∧ ∃ F5, It l H s fp FB src hd D J (i + 1) (line + 1) (.slice none 0 0) [] false (pre ++ S.emit cur i (i + 1) line) F5 W' := fun q => (HI4.out.drewN C q).endc C (by omega) i (i + 1) line
          have HEN := Lib.hid hen
          clear hen
          gi_wp2_with (first | (gi_at_call 92; refine (callsIn_wide.2 HCM.out).mono ?_; rintro e w' ⟨rfl, ⟨⟨q, rfl⟩⟩⟩) | (gi_at_call 90; refine (HEN.out _).mono ?_; rintro e w5 ⟨rfl, F5, hi5⟩; have HI5 := Aside0.mk hi5; clear hi5))
          gi_roundg (N + 1 - (i + 1))
          case measure => omega
          case rel => exact ⟨(i + 1), (line + 1), _, [], false, _, F5, f0, by omega, by omega, by omega, by omega, by omega, ⟨HI5.out⟩, ⟨by rw [← pre_pre]; exact HA.out⟩⟩
      | blank =>
        have hiN : i < N := by
          have := S.step_some (xs := L.drop i) (by rw [hS]; intro e; cases e)
          rw [List.length_drop, HN.out] at this
          omega
        rw [hS] at hst hA
        simp only [hdr] at hA
        simp only [StepPost, rTk] at hst
        have HST := Lib.hid hst
        have HA := Aside0.mk hA
        clear hst hA hS
        gi_upto_region 7 with (gi_at_call 91; refine (callsIn_wide.2 HST.out).mono ?_; rintro e w3 ⟨hb3, rfl, hs3⟩)
        have HI3 := Aside0.mk (HI.out.step C hb3 hs3 (by omega))
        have hlen0 := HI.out.len
        obtain ⟨T, hT⟩ : ∃ T, w3.heap.size = T := ⟨_, rfl⟩
        have hb4 : But (fun _ => False) w3 (w3.alloc (.cells #[.int .i64 0, .string ⟨#[]⟩, .bool false, .int .i64 line, .int .i64 i, .int .i64 0] 53)) := (But.refl _ w3).alloc _
        have hn4 := heap_alloc_new w3 (.cells #[.int .i64 0, .string ⟨#[]⟩, .bool false, .int .i64 line, .int .i64 i, .int .i64 0] 53)
        have HI4 := Aside0.mk (HI3.out.new C hb4)
        have hz4 := World.size_alloc w3 (.cells #[.int .i64 0, .string ⟨#[]⟩, .bool false, .int .i64 line, .int .i64 i, .int .i64 0] 53)
        rw [hT] at hn4 hz4
        have hTs : s + 3 ≤ T := by have := HI3.out.cu.lw; omega
        have HTF : Aside0 (¬ F' T ∧ (Value.slice A cn cap).ownBlock ≠ some T) := ⟨fun hf => by have := C.lt HI3.out.jj T hf; omega, fun e => by have := (HI3.out.cu.own.lt T e).2; omega⟩
        try rw [hT]
        clear hb3 hs3 hb4 HI HI3 hT HST
        generalize w3.alloc (.cells #[.int .i64 0, .string ⟨#[]⟩, .bool false, .int .i64 line, .int .i64 i, .int .i64 0] 53) = W4 at *
        have c0 := HI4.out.sm.sc.c1
        have c00 := HI4.out.sm.sc.c2
        have c1 : W4.cell? ⟨s + 1, 0, none⟩ = some (.slice A cn cap) := (blk_cell HI4.out.cu.cb 0).trans rfl
        have c2 : W4.cell? ⟨s + 1 + 1, 0, none⟩ = some (.bool gap) := (blk_cell HI4.out.cu.gb 0).trans rfl
        have f1 := blk_frozen HI4.out.cu.cb 0
        have f2 := blk_frozen HI4.out.cu.gb 0
        have k0 := (blk_cell hn4 0)
        have k1 := (blk_cell hn4 1)
        have k3 := (blk_cell hn4 3)
        have k4 := (blk_cell hn4 4)
        have k5 := (blk_cell hn4 5)
        gi_wp2
        gi_roundg (N + 1 - (i + 1))
        case measure => omega
        case rel => exact ⟨(i + 1), line, _, cur, true, pre, F', f0, by omega, by omega, by omega, by omega, by omega, ⟨HI4.out.setGap C true⟩, ⟨HA.out⟩⟩
      | cmt k dl =>
        have hk := S.step_cmt hS
        rw [List.length_drop, HN.out] at hk
        rw [hS] at hst hA
        simp only [hdr] at hA
        simp only [StepPost, rTk] at hst
        have HST := Lib.hid hst
        have HA := Aside0.mk hA
        clear hst hA hS
        gi_upto_region 7 with (gi_at_call 91; refine (callsIn_wide.2 HST.out).mono ?_; rintro e w3 ⟨hb3, rfl, hs3⟩)
        have HI3 := Aside0.mk (HI.out.step C hb3 hs3 (by omega))
        have hlen0 := HI.out.len
        obtain ⟨T, hT⟩ : ∃ T, w3.heap.size = T := ⟨_, rfl⟩
        have hb4 : But (fun _ => False) w3 (w3.alloc (.cells #[.int .i64 0, .string ⟨#[]⟩, .bool false, .int .i64 line, .int .i64 i, .int .i64 0] 53)) := (But.refl _ w3).alloc _
        have hn4 := heap_alloc_new w3 (.cells #[.int .i64 0, .string ⟨#[]⟩, .bool false, .int .i64 line, .int .i64 i, .int .i64 0] 53)
        have HI4 := Aside0.mk (HI3.out.new C hb4)
        have hz4 := World.size_alloc w3 (.cells #[.int .i64 0, .string ⟨#[]⟩, .bool false, .int .i64 line, .int .i64 i, .int .i64 0] 53)
        rw [hT] at hn4 hz4
        have hTs : s + 3 ≤ T := by have := HI3.out.cu.lw; omega
        have HTF : Aside0 (¬ F' T ∧ (Value.slice A cn cap).ownBlock ≠ some T) := ⟨fun hf => by have := C.lt HI3.out.jj T hf; omega, fun e => by have := (HI3.out.cu.own.lt T e).2; omega⟩
        try rw [hT]
        clear hb3 hs3 hb4 HI HI3 hT HST
        generalize w3.alloc (.cells #[.int .i64 0, .string ⟨#[]⟩, .bool false, .int .i64 line, .int .i64 i, .int .i64 0] 53) = W4 at *
        have c0 := HI4.out.sm.sc.c1
        have c00 := HI4.out.sm.sc.c2
        have c1 : W4.cell? ⟨s + 1, 0, none⟩ = some (.slice A cn cap) := (blk_cell HI4.out.cu.cb 0).trans rfl
        have c2 : W4.cell? ⟨s + 1 + 1, 0, none⟩ = some (.bool gap) := (blk_cell HI4.out.cu.gb 0).trans rfl
        have f1 := blk_frozen HI4.out.cu.cb 0
        have f2 := blk_frozen HI4.out.cu.gb 0
        have k0 := (blk_cell hn4 0)
        have k1 := (blk_cell hn4 1)
        have k3 := (blk_cell hn4 3)
        have k4 := (blk_cell hn4 4)
        have k5 := (blk_cell hn4 5)
        gi_wp2
        gi_roundg (N + 1 - (i + k))
        case measure => omega
        case rel => exact ⟨(i + k), (line + dl), _, cur, gap, pre, F', f0, by omega, by omega, by omega, by omega, by omega, ⟨HI4.out⟩, ⟨HA.out⟩⟩
      | tok k t k' =>
        obtain ⟨b1, b2, b3, b4, b5⟩ := S.step_tok (xs := L.drop i) (fun x hx => bo_range src x (by rw [HL.out]; exact List.mem_of_mem_drop hx)) hS
        rw [List.length_drop, HN.out] at b2
        obtain ⟨E, hE⟩ : ∃ E, i + k' = E := ⟨_, rfl⟩
        rw [hS] at hst hA
        simp only [hdr, hE] at hA
        simp only [StepPost, rTk, hE] at hst
        have HST := Lib.hid hst
        have HA := Aside0.mk hA
        clear hst hA hS
        gi_upto_region 7 with (gi_at_call 91; refine (callsIn_wide.2 HST.out).mono ?_; rintro e w3 ⟨hb3, rfl, hs3⟩)
        have HI3 := Aside0.mk (HI.out.step C hb3 hs3 (by omega))
        have hlen0 := HI.out.len
        obtain ⟨T, hT⟩ : ∃ T, w3.heap.size = T := ⟨_, rfl⟩
        have hb4 : But (fun _ => False) w3 (w3.alloc (.cells #[.int .i64 k, .string (strOfNums t), .bool false, .int .i64 line, .int .i64 i, .int .i64 E] 53)) := (But.refl _ w3).alloc _
        have hn4 := heap_alloc_new w3 (.cells #[.int .i64 k, .string (strOfNums t), .bool false, .int .i64 line, .int .i64 i, .int .i64 E] 53)
        have HI4 := Aside0.mk (HI3.out.new C hb4)
        have hz4 := World.size_alloc w3 (.cells #[.int .i64 k, .string (strOfNums t), .bool false, .int .i64 line, .int .i64 i, .int .i64 E] 53)
        rw [hT] at hn4 hz4
        have hTs : s + 3 ≤ T := by have := HI3.out.cu.lw; omega
        have HTF : Aside0 (¬ F' T ∧ (Value.slice A cn cap).ownBlock ≠ some T) := ⟨fun hf => by have := C.lt HI3.out.jj T hf; omega, fun e => by have := (HI3.out.cu.own.lt T e).2; omega⟩
        try rw [hT]
        clear hb3 hs3 hb4 HI HI3 hT HST
        generalize w3.alloc (.cells #[.int .i64 k, .string (strOfNums t), .bool false, .int .i64 line, .int .i64 i, .int .i64 E] 53) = W4 at *
        have c0 := HI4.out.sm.sc.c1
        have c00 := HI4.out.sm.sc.c2
        have c1 : W4.cell? ⟨s + 1, 0, none⟩ = some (.slice A cn cap) := (blk_cell HI4.out.cu.cb 0).trans rfl
        have c2 : W4.cell? ⟨s + 1 + 1, 0, none⟩ = some (.bool gap) := (blk_cell HI4.out.cu.gb 0).trans rfl
        have f1 := blk_frozen HI4.out.cu.cb 0
        have f2 := blk_frozen HI4.out.cu.gb 0
        have k0 := (blk_cell hn4 0)
        have k1 := (blk_cell hn4 1)
        have k3 := (blk_cell hn4 3)
        have k4 := (blk_cell hn4 4)
        have k5 := (blk_cell hn4 5)
        by_cases hsem : k = 3 ∧ t = [59]
        · obtain ⟨rfl, rfl⟩ := hsem
          have hA := HA.out
          rw [if_pos ⟨rfl, rfl⟩] at hA
          have HA := Aside0.mk hA
          have hts : ((strOfNums [59]).toList == ([59] : List UInt8)) = true := by rw [str_eq, bytesOf_str _ (by decide)]; rfl
          clear hA
          have hen : ∀ q, CallsIn Fence.wide (m + 1) Tryz.prog 90 #[.int .i64 i, .int .i64 ((E : Int)), .int .i64 line, .pointer (some ⟨s + 1, 0, none⟩), .pointer (some ⟨s + 1 + 1, 0, none⟩), .pointer (some ⟨H, 0, none⟩)] (W4.drewN q) fun e W' =>
              e = .returned (.bool true) ∧ ∃ F5, It l H s fp FB src hd D J E line (.slice none 0 0) [] false (pre ++ S.emit cur i E line) F5 W' := fun q => (HI4.out.drewN C q).endc C (by omega) i E line
          have HEN := Lib.hid hen
          clear hen
          have HEN0 := Lib.hid (HEN.out 0)
          gi_wp2_with (gi_at_call 90; refine (HEN0.out).mono ?_; rintro e w5 ⟨rfl, F5, hi5⟩; have HI5 := Aside0.mk hi5; clear hi5)
          gi_roundg (N + 1 - E)
          case measure => omega
          case rel => exact ⟨E, line, _, [], false, _, F5, f0, by omega, by omega, by omega, by omega, by omega, ⟨HI5.out⟩, ⟨by rw [← pre_pre]; exact HA.out⟩⟩
        · have hor : ((((k : Nat) : Int) == 3) = false) ∨ ((((k : Nat) : Int) == 3) = true ∧ ((strOfNums t).toList == ([59] : List UInt8)) = false) := by
            by_cases h3 : k = 3
            · refine .inr ⟨beq_iff_eq.2 (by omega), ?_⟩
              rw [str_eq, bytesOf_str _ b3]
              exact decide_eq_false (fun e => hsem ⟨h3, e⟩)
            · exact .inl (beq_eq_false_iff_ne.2 (by omega))
          obtain ⟨gv, hgv⟩ : ∃ gv, (gap && !decide (cur = [])) = gv := ⟨_, rfl⟩
          have hA := HA.out
          clear HA
          rw [if_neg hsem, hgv] at hA
          have hgvf : (gap = false ∧ gv = false) ∨ (gap = true ∧ decide ((0 : Int) < (cn : Int)) = gv ∧ decide (0 < cn) = gv) := by
            cases gap with
            | false => exact .inl ⟨rfl, by rw [← hgv]; rfl⟩
            | true =>
              refine .inr ⟨rfl, ?_, ?_⟩
              all_goals
                rw [← hgv]
                by_cases hz : cur = []
                · have hc0 : cn = 0 := by rw [← HCN.out, hz]; rfl
                  subst hc0
                  simp [hz]
                · have := List.length_pos_iff.2 hz
                  have hc0 : 0 < cn := by rw [← HCN.out]; exact this
                  have hc1 : (0 : Int) < (cn : Int) := by omega
                  simp [hz, hc0]
          obtain ⟨tk, htk⟩ : ∃ tk : S.Tk, tk = ⟨k, t, gv, line, i, E⟩ := ⟨_, rfl⟩
          rw [← htk] at hA
          have HA := Aside0.mk hA
          have HTK : Aside0 (tkL tk = [.int .i64 k, .string (strOfNums t), .bool gv, .int .i64 line, .int .i64 i, .int .i64 E] ∧ Bytes tk) := ⟨by rw [htk]; exact ⟨rfl, b3⟩⟩
          have HI5 := Aside0.mk (HI4.out.other C (A := fun k => k = T) ((But.refl (fun k => k = T) W4).set ⟨T, 2, none⟩ (.bool gv) rfl) (fun k e => ⟨by omega, by rw [e]; exact HTF.out.1, by rw [e]; exact HTF.out.2⟩))
          have hn5 : (W4.setCell ⟨T, 2, none⟩ (.bool gv)).heap[T]? = some (.cells #[.int .i64 k, .string (strOfNums t), .bool gv, .int .i64 line, .int .i64 i, .int .i64 E] 53 (0, 0)) := blk_put hn4 2 (.bool gv) rfl
          have HN5 := Aside0.mk hn5
          have k2 := blk_cell hn4 2
          have g2 := blk_frozen hn4 2
          have HOW : Aside0 (∀ X, But (fun _ => False) (W4.setCell ⟨T, 2, none⟩ (.bool gv)) X → X.ownsRow (s + 3) 53 6 (.slice A cn cap) cn (tksL cur)) := ⟨fun X hX => by
            have := own_but HI5.out.cu.own hX (fun k e => e.elim)
            rwa [HCN.out] at this⟩
          have hcnb : cn ≤ 1000000 := by have := HCN.out; have := HI4.out.len; omega
          have hlwb : s + 3 ≤ (W4.setCell ⟨T, 2, none⟩ (.bool gv)).heap.size := HI5.out.cu.lw
          obtain ⟨i0, hi0, hz0, hz1, hz2⟩ := info_parts (show (Tryz.prog.info? 53).map (fun i => (i.zero, i.size, i.bytes)) = some (some (.agg zTk), 6, 56) by kernel_rfl)
          clear hA hgv htk hsem hn5
          rcases hor with e3 | ⟨e3, ets⟩
          all_goals
            rcases hgvf with ⟨rfl, rfl⟩ | ⟨rfl, y1, y2⟩
            · gi_upto_region 23 with (fail)
              generalize W4.setCell ⟨T, 2, none⟩ (.bool false) = W5 at *
              clear c0 c00 c1 c2 f1 f2 k0 k1 k2 k3 k4 k5 g2 hn4 hz4
              have c1 : W5.cell? ⟨s + 1, 0, none⟩ = some (.slice A cn cap) := (blk_cell HI5.out.cu.cb 0).trans rfl
              have c2 := blk_cell HI5.out.cu.gb 0
              have k0 := blk_cell HN5.out 0
              have k1 := blk_cell HN5.out 1
              have k2 := blk_cell HN5.out 2
              have k3 := blk_cell HN5.out 3
              have k4 := blk_cell HN5.out 4
              have k5 := blk_cell HN5.out 5
              have hnX := heap_alloc_new W5 (.cells #[.int .i64 k, .string (strOfNums t), .bool false, .int .i64 line, .int .i64 i, .int .i64 E] 53)
              have hXb : But (fun _ => False) W5 (W5.alloc (.cells #[.int .i64 k, .string (strOfNums t), .bool false, .int .i64 line, .int .i64 i, .int .i64 E] 53)) := (But.refl _ W5).alloc _
              have HXO := Aside0.mk (HOW.out _ hXb)
              have HXB := Aside0.mk hXb
              have HXN := Aside0.mk hnX
              have HCB : Aside0 (∀ w1, (W5.alloc (.cells #[.int .i64 k, .string (strOfNums t), .bool false, .int .i64 line, .int .i64 i, .int .i64 E] 53)).grownBy w1 (Value.slice A cn cap).ownBlock → w1.heap[s + 1]? = some (.cells #[.slice A cn cap] 24 (0, 0)) ∧ w1.heap[s + 1 + 1]? = some (.cells #[.bool false] 4 (0, 0))) := ⟨fun w1 hg => by
                have hge := HI5.out.own_ge
                have hsz := HXB.out.size
                exact ⟨(hg.block (s + 1) (by omega) (fun e => by have := hge _ e.symm; omega)).trans ((HXB.out.block (s + 1) (by omega) (fun e => e)).trans HI5.out.cu.cb), (hg.block (s + 1 + 1) (by omega) (fun e => by have := hge _ e.symm; omega)).trans ((HXB.out.block (s + 1 + 1) (by omega) (fun e => e)).trans HI5.out.cu.gb)⟩⟩
              clear hXb hnX
              gi_upto_region 24 with (gi_at_builtin; refine wpListIn_append_own_at _ rfl (.tmp 91) (.tmp 93) 24 rfl (s + 3) 53 i0 (.agg zTk) 6 56 Tryz.underlying24 hi0 hz0 hz1 hz2 rfl (by decide) (.slice A cn cap) cn (tksL cur) rfl HXO.out ⟨W5.heap.size, 0, none⟩ 1 1 (tkL tk) rfl (by rw [HTK.out.1]; rfl) (fun j u hu => by rw [add_plain, blk_cell HXN.out j]; rw [HTK.out.1] at hu; simpa using hu) (tkL_one _) (by unfold maxLen; omega) (by omega) (by rw [World.size_alloc]; omega) ?_; intro v' w1 hown' hgrow _ hat; obtain ⟨g', cap', rfl⟩ := ownsRow_succ hown'; have HOW1 := Aside0.mk hown'; have HGR := Aside0.mk hgrow; have HAT := Aside0.mk hat; have e1 := blk_cell (HCB.out w1 hgrow).1 0; have e2 := blk_cell (HCB.out w1 hgrow).2 0; have q1 := blk_frozen (HCB.out w1 hgrow).1 0; have q2 := blk_frozen (HCB.out w1 hgrow).2 0; clear hown' hgrow hat)
              have HI6 := Aside0.mk (HI5.out.more C HXB.out (v' := .slice (some ⟨g', 0, none⟩) (cn + 1) cap') (t := tk) (by rw [HCN.out]; exact HOW1.out) HGR.out HAT.out HTK.out.2 (by omega))
              generalize (w1.setCell ⟨s + 1, 0, none⟩ (.slice (some ⟨g', 0, none⟩) (cn + 1) cap')).setCell ⟨s + 1 + 1, 0, none⟩ (.bool false) = W6 at *
              clear c1 c2 k0 k1 k2 k3 k4 k5 e1 e2 q1 q2
              have c0 := HI6.out.sm.sc.c1
              have c00 := HI6.out.sm.sc.c2
              have c1 : W6.cell? ⟨s + 1, 0, none⟩ = some (.slice (some ⟨g', 0, none⟩) (cn + 1) cap') := (blk_cell HI6.out.cu.cb 0).trans rfl
              have hlbc := label_calls HI6.out.cu.own HI6.out.byt
              have hA := HA.out
              cases hlb : S.label (cur ++ [tk]) with
              | true =>
                rw [hlb, if_pos rfl] at hA
                rw [hlb] at hlbc
                have HLB := Lib.hid hlbc
                have HA := Aside0.mk hA
                clear hA hlb hlbc
                have hen : ∀ q, CallsIn Fence.wide (m + 1) Tryz.prog 90 #[.int .i64 E, .int .i64 ((E : Int)), .int .i64 line, .pointer (some ⟨s + 1, 0, none⟩), .pointer (some ⟨s + 1 + 1, 0, none⟩), .pointer (some ⟨H, 0, none⟩)] (W6.drewN q) fun e W' =>
                    e = .returned (.bool true) ∧ ∃ F5, It l H s fp FB src hd D J E line (.slice none 0 0) [] false (pre ++ S.emit (cur ++ [tk]) E E line) F5 W' := fun q => (HI6.out.drewN C q).endc C (by omega) E E line
                have HEN := Lib.hid hen
                clear hen
                gi_upto_region 25 with (gi_at_call 54; refine (callsIn_wide.2 HLB.out).mono ?_; rintro e w' ⟨rfl, ⟨⟨q, rfl⟩⟩⟩)
                refine wide_region_still_tail 13 (by kernel_rfl) (by kernel_rfl) ?_
                simp only [List.take_succ_cons, List.take_zero, List.drop_succ_cons, List.drop_zero]
                still_step
                repeat still_step
                refine wpStill_nil ?_
                gi_wp2_with (gi_at_call 90; refine (HEN.out _).mono ?_; rintro e w5 ⟨rfl, F5, hi5⟩; have HI5 := Aside0.mk hi5; clear hi5)
                gi_roundg (N + 1 - E)
                case measure => omega
                case rel => exact ⟨E, line, _, [], false, _, F5, f0, by omega, by omega, by omega, by omega, by omega, ⟨HI5.out⟩, ⟨by rw [← pre_pre]; exact HA.out⟩⟩
              | false =>
                rw [hlb, if_neg Bool.false_ne_true] at hA
                rw [hlb] at hlbc
                have HLB := Lib.hid hlbc
                have HA := Aside0.mk hA
                clear hA hlb hlbc
                gi_wp2_with (gi_at_call 54; refine (callsIn_wide.2 HLB.out).mono ?_; rintro e w' ⟨rfl, ⟨⟨q, rfl⟩⟩⟩)
                gi_roundg (N + 1 - E)
                case measure => omega
                case rel => exact ⟨E, line, _, cur ++ [tk], false, pre, F', f0, by omega, by omega, by omega, by omega, by omega, ⟨HI6.out.drewN C _⟩, ⟨HA.out⟩⟩
            · gi_upto_region 23 with (fail)
              generalize W4.setCell ⟨T, 2, none⟩ (.bool gv) = W5 at *
              clear c0 c00 c1 c2 f1 f2 k0 k1 k2 k3 k4 k5 g2 hn4 hz4
              have c1 : W5.cell? ⟨s + 1, 0, none⟩ = some (.slice A cn cap) := (blk_cell HI5.out.cu.cb 0).trans rfl
              have c2 := blk_cell HI5.out.cu.gb 0
              have k0 := blk_cell HN5.out 0
              have k1 := blk_cell HN5.out 1
              have k2 := blk_cell HN5.out 2
              have k3 := blk_cell HN5.out 3
              have k4 := blk_cell HN5.out 4
              have k5 := blk_cell HN5.out 5
              have hnX := heap_alloc_new W5 (.cells #[.int .i64 k, .string (strOfNums t), .bool gv, .int .i64 line, .int .i64 i, .int .i64 E] 53)
              have hXb : But (fun _ => False) W5 (W5.alloc (.cells #[.int .i64 k, .string (strOfNums t), .bool gv, .int .i64 line, .int .i64 i, .int .i64 E] 53)) := (But.refl _ W5).alloc _
              have HXO := Aside0.mk (HOW.out _ hXb)
              have HXB := Aside0.mk hXb
              have HXN := Aside0.mk hnX
              have HCB : Aside0 (∀ w1, (W5.alloc (.cells #[.int .i64 k, .string (strOfNums t), .bool gv, .int .i64 line, .int .i64 i, .int .i64 E] 53)).grownBy w1 (Value.slice A cn cap).ownBlock → w1.heap[s + 1]? = some (.cells #[.slice A cn cap] 24 (0, 0)) ∧ w1.heap[s + 1 + 1]? = some (.cells #[.bool true] 4 (0, 0))) := ⟨fun w1 hg => by
                have hge := HI5.out.own_ge
                have hsz := HXB.out.size
                exact ⟨(hg.block (s + 1) (by omega) (fun e => by have := hge _ e.symm; omega)).trans ((HXB.out.block (s + 1) (by omega) (fun e => e)).trans HI5.out.cu.cb), (hg.block (s + 1 + 1) (by omega) (fun e => by have := hge _ e.symm; omega)).trans ((HXB.out.block (s + 1 + 1) (by omega) (fun e => e)).trans HI5.out.cu.gb)⟩⟩
              clear hXb hnX
              gi_upto_region 24 with (gi_at_builtin; refine wpListIn_append_own_at _ rfl (.tmp 91) (.tmp 93) 24 rfl (s + 3) 53 i0 (.agg zTk) 6 56 Tryz.underlying24 hi0 hz0 hz1 hz2 rfl (by decide) (.slice A cn cap) cn (tksL cur) rfl HXO.out ⟨W5.heap.size, 0, none⟩ 1 1 (tkL tk) rfl (by rw [HTK.out.1]; rfl) (fun j u hu => by rw [add_plain, blk_cell HXN.out j]; rw [HTK.out.1] at hu; simpa using hu) (tkL_one _) (by unfold maxLen; omega) (by omega) (by rw [World.size_alloc]; omega) ?_; intro v' w1 hown' hgrow _ hat; obtain ⟨g', cap', rfl⟩ := ownsRow_succ hown'; have HOW1 := Aside0.mk hown'; have HGR := Aside0.mk hgrow; have HAT := Aside0.mk hat; have e1 := blk_cell (HCB.out w1 hgrow).1 0; have e2 := blk_cell (HCB.out w1 hgrow).2 0; have q1 := blk_frozen (HCB.out w1 hgrow).1 0; have q2 := blk_frozen (HCB.out w1 hgrow).2 0; clear hown' hgrow hat)
              have HI6 := Aside0.mk (HI5.out.more C HXB.out (v' := .slice (some ⟨g', 0, none⟩) (cn + 1) cap') (t := tk) (by rw [HCN.out]; exact HOW1.out) HGR.out HAT.out HTK.out.2 (by omega))
              generalize (w1.setCell ⟨s + 1, 0, none⟩ (.slice (some ⟨g', 0, none⟩) (cn + 1) cap')).setCell ⟨s + 1 + 1, 0, none⟩ (.bool false) = W6 at *
              clear c1 c2 k0 k1 k2 k3 k4 k5 e1 e2 q1 q2
              have c0 := HI6.out.sm.sc.c1
              have c00 := HI6.out.sm.sc.c2
              have c1 : W6.cell? ⟨s + 1, 0, none⟩ = some (.slice (some ⟨g', 0, none⟩) (cn + 1) cap') := (blk_cell HI6.out.cu.cb 0).trans rfl
              have hlbc := label_calls HI6.out.cu.own HI6.out.byt
              have hA := HA.out
              cases hlb : S.label (cur ++ [tk]) with
              | true =>
                rw [hlb, if_pos rfl] at hA
                rw [hlb] at hlbc
                have HLB := Lib.hid hlbc
                have HA := Aside0.mk hA
                clear hA hlb hlbc
                have hen : ∀ q, CallsIn Fence.wide (m + 1) Tryz.prog 90 #[.int .i64 E, .int .i64 ((E : Int)), .int .i64 line, .pointer (some ⟨s + 1, 0, none⟩), .pointer (some ⟨s + 1 + 1, 0, none⟩), .pointer (some ⟨H, 0, none⟩)] (W6.drewN q) fun e W' =>
                    e = .returned (.bool true) ∧ ∃ F5, It l H s fp FB src hd D J E line (.slice none 0 0) [] false (pre ++ S.emit (cur ++ [tk]) E E line) F5 W' := fun q => (HI6.out.drewN C q).endc C (by omega) E E line
                have HEN := Lib.hid hen
                clear hen
                gi_upto_region 25 with (gi_at_call 54; refine (callsIn_wide.2 HLB.out).mono ?_; rintro e w' ⟨rfl, ⟨⟨q, rfl⟩⟩⟩)
                refine wide_region_still_tail 13 (by kernel_rfl) (by kernel_rfl) ?_
                simp only [List.take_succ_cons, List.take_zero, List.drop_succ_cons, List.drop_zero]
                still_step
                repeat still_step
                refine wpStill_nil ?_
                gi_wp2_with (gi_at_call 90; refine (HEN.out _).mono ?_; rintro e w5 ⟨rfl, F5, hi5⟩; have HI5 := Aside0.mk hi5; clear hi5)
                gi_roundg (N + 1 - E)
                case measure => omega
                case rel => exact ⟨E, line, _, [], false, _, F5, f0, by omega, by omega, by omega, by omega, by omega, ⟨HI5.out⟩, ⟨by rw [← pre_pre]; exact HA.out⟩⟩
              | false =>
                rw [hlb, if_neg Bool.false_ne_true] at hA
                rw [hlb] at hlbc
                have HLB := Lib.hid hlbc
                have HA := Aside0.mk hA
                clear hA hlb hlbc
                gi_wp2_with (gi_at_call 54; refine (callsIn_wide.2 HLB.out).mono ?_; rintro e w' ⟨rfl, ⟨⟨q, rfl⟩⟩⟩)
                gi_roundg (N + 1 - E)
                case measure => omega
                case rel => exact ⟨E, line, _, cur ++ [tk], false, pre, F', f0, by omega, by omega, by omega, by omega, by omega, ⟨HI6.out.drewN C _⟩, ⟨HA.out⟩⟩
      | err c dl =>
        rw [hS] at hst hA
        simp only [StepPost] at hst
        have HST := Lib.hid hst
        have HA := Aside0.mk hA
        clear hst hA hS
        gi_wp2_with (gi_at_call 91; refine (callsIn_wide.2 HST.out).mono ?_; rintro e w3 ⟨hb3, rfl, i', l', hs3⟩; unfold Fails)
        have HFL := Aside0.mk (HI.out.fail C hb3)
        obtain ⟨z1, z2, z3, z4, z5, z6⟩ := HFL.out
        refine leavesIn_cons (f := 89) (args := #[.pointer (some ⟨FB, 0, none⟩), .pointer (some ⟨s + 1, 0, none⟩), .pointer (some ⟨H, 0, none⟩)]) (by simp) (fun e => by cases e) (by simp [go_sem]) (fun g _ => trivial) ?_
        refine (deferred_panic (m + 1) (by omega) (C : Client l (m + 1 - 1) J) c ((line + dl : Nat) : Int) 0 0 w3 z1 z2 z3 z4 z5 z6 ⟨by have := HI.out.l1; have := HI.out.l2; omega, by have := HI.out.l2; omega, by have := HI.out.l1; have := HI.out.l2; omega⟩ (by have := HI.out.l1; have := HI.out.l2; omega) (by have := HI.out.len; omega)).mono ?_
        rintro e u' w'' ⟨rfl, rfl, ⟨F5, hj5⟩, hfp5⟩
        simp only [LeavesIn, settle, List.dropWhile_nil]
        refine ⟨_, results_none rfl _ _ _, ⟨_, rfl⟩, F5, ?_, ?_⟩
        · rw [← HA.out]; exact hj5
        · rw [← HA.out]; exact hfp5
end Go.Proofs.YtkkpjonfaflkmaaGreatDoor.T
