/- Part 13 of the proof of ScanLocal: the functions that it calls return what their plain descriptions say. -/
import Derived.Test.YtkkpjonfaflkmaaGreatDoorCScanLocal12
import Derived.Test.YtkkpjonfaflkmaaGreatDoorCScanLocal4
import Derived.Test.YtkkpjonfaflkmaaGreatDoorCScanLocal8

namespace Go.Proofs.YtkkpjonfaflkmaaGreatDoor.T
set_option linter.unusedSimpArgs false
set_option linter.unusedVariables false
open Go.RowKit Go.Maps Go.Proofs.YtkkpjonfaflkmaaGreatDoorW.PrintWords Go.Proofs.YtkkpjonfaflkmaaGreatDoorW.PrintLast Go.Proofs.YtkkpjonfaflkmaaGreatDoorW.PrintMore
attribute [local go_sem] Oper.semAt_some
theorem clauses.calls (src : ByteArray) (p : Addr) (w : World) :
    Calls Tryz.prog 53 #[.string src, .pointer (some p)] w fun e w' => e = .returned (.func (.func 87) #[] #[.pointer (some ⟨w.heap.size, 0, none⟩), .pointer (some ⟨w.heap.size + 1, 0, none⟩)]) ∧
      w' = (w.alloc (.cells #[.string src] 9)).alloc (.cells #[.pointer (some p)] 88) := by
  have hmf : ∀ (fn : Fn) (first cap : Array Value) (w : World), (Instr.makeFunc fn first cap).run Tryz.prog w = .ok (.func fn first cap) w := fun _ _ _ _ => rfl
  go_enter Tryz.func53, Tryz.ntmps53
  go_wp2
  go_ret
  exact ⟨rfl, rfl⟩
theorem iter_enters : ∀ args w, (callFunc 87 args).run Tryz.prog w = .ok (.enter 87 args) w := enters_of Tryz.func87 (by kernel_rfl) rfl
theorem But.putObj {A : Nat → Prop} {w w' : World} (h : But A w w') (b : Nat) (o : Obj) (hb : A b) : But A w (w'.putObj b o) := by
  have hg := grownBy_putObj' w' b o
  exact ⟨hg.os.trans h.os, hg.tape.trans h.tape, hg.output.trans h.output, Nat.le_trans h.size hg.size, fun k hk hn => (hg.block k (Nat.lt_of_lt_of_le hk h.size) (fun e => hn (by cases e; exact hb))).trans (h.block k hk hn)⟩
theorem But.grown {A : Nat → Prop} {w w' w'' : World} {v : Option Nat} (h : But A w w') (hg : w'.grownBy w'' v) (hA : ∀ k, v = some k → A k) : But A w w'' :=
  ⟨hg.os.trans h.os, hg.tape.trans h.tape, hg.output.trans h.output, Nat.le_trans h.size hg.size, fun k hk hn => (hg.block k (Nat.lt_of_lt_of_le hk h.size) (fun e => hn (hA k e.symm))).trans (h.block k hk hn)⟩
structure TkI (w0 : World) (H : Nat) (rd : Loop) (v : Value) (pre : List (List S.Tk)) (W : World) : Prop where
  res : W.heap[H]? = some (.cells #[.int .i64 0, .int .i64 0] 76 (0, 0))
  out : W.heap[H + 1]? = some (.cells #[v] 24 (0, 0))
  dfr : W.heap[H + 5]? = some (.deferred (some []))
  lop : W.heap[H + 6]? = some (.loop rd)
  own : W.ownsRow (H + 7) 53 6 v pre.flatten.length (tksL pre.flatten)
  below : Below H w0 W
def TkF (H : Nat) (v : Value) (k : Nat) : Prop := k < H ∨ k = H ∨ k = H + 1 ∨ k = H + 5 ∨ k = H + 6 ∨ v.ownBlock = some k
def TkJ (w0 : World) (H : Nat) (rd : Loop) (pre : List (List S.Tk)) (F : Nat → Prop) (W : World) : Prop := ∃ v, F = TkF H v ∧ TkI w0 H rd v pre W
theorem TkI.lw {w0 : World} {H : Nat} {rd : Loop} {v : Value} {pre : List (List S.Tk)} {W : World} (h : TkI w0 H rd v pre W) : H + 6 < W.heap.size := (Array.getElem?_eq_some_iff.1 h.lop).1
theorem TkI.keep {w0 : World} {H : Nat} {rd : Loop} {v : Value} {pre : List (List S.Tk)} {W W' : World} (h : TkI w0 H rd v pre W) (hb : But (fun k => ¬ TkF H v k) W W') : TkI w0 H rd v pre W' := by
  have hlw := h.lw
  have hk : ∀ k, TkF H v k → k < W.heap.size → W'.heap[k]? = W.heap[k]? := fun k hf hl => hb.block k hl (fun e => e hf)
  refine ⟨(hk H (.inr (.inl rfl)) (by omega)).trans h.res, (hk _ (.inr (.inr (.inl rfl))) (by omega)).trans h.out, (hk _ (.inr (.inr (.inr (.inl rfl)))) (by omega)).trans h.dfr, (hk _ (.inr (.inr (.inr (.inr (.inl rfl))))) (by omega)).trans h.lop,
    own_but h.own hb (fun k e e2 => e (.inr (.inr (.inr (.inr (.inr e2)))))), h.below.trans (hb.belowB (by omega) (fun k hk e => e (.inl hk)))⟩
theorem TkI.cb {WB w1 : World} {OB : Nat} {vo u : Value} (hg : WB.grownBy w1 vo.ownBlock) (h : WB.heap[OB]? = some (.cells #[u] 24 (0, 0))) (hne : ∀ k, vo.ownBlock = some k → k ≠ OB) : w1.heap[OB]? = some (.cells #[u] 24 (0, 0)) :=
  (hg.block OB (Array.getElem?_eq_some_iff.1 h).1 (fun e => hne OB e.symm rfl)).trans h
theorem tksL_one : ∀ (l : List S.Tk), ∀ u ∈ tksL l, u.oneCell' = true
  | [], u, h => by simp [tksL] at h
  | t :: l, u, h => by
    simp only [tksL, List.map_cons, List.flatten_cons, List.mem_append] at h
    rcases h with h | h
    · exact tkL_one t u h
    · exact tksL_one l u h
theorem TkI.next {w0 : World} {H : Nat} {rd rb : Loop} {v v' : Value} {pre : List (List S.Tk)} {cl : List S.Tk} {W w1 : World} (h : TkI w0 H rd v pre W) (ho : w1.ownsRow (H + 7) 53 6 v' (pre.flatten.length + cl.length) (tksL pre.flatten ++ tksL cl)) (hg : (W.putObj (H + 6) (.loop rb)).grownBy w1 v.ownBlock)
    (hv : v'.ownBlock = v.ownBlock ∨ v'.ownBlock = some (W.putObj (H + 6) (.loop rb)).heap.size) :
    (w1.setCell ⟨H + 1, 0, none⟩ v').heap[H + 6]? = some (.loop rb) ∧ (TkJ w0 H rd (pre ++ [cl]) (TkF H v') ((w1.setCell ⟨H + 1, 0, none⟩ v').putObj (H + 6) (.loop rd)) ∧ But (TkF H v) W ((w1.setCell ⟨H + 1, 0, none⟩ v').putObj (H + 6) (.loop rd)) ∧ ∀ k, TkF H v' k → TkF H v k ∨ W.heap.size ≤ k) := by
  have hlw := h.lw
  have hge : ∀ k, v.ownBlock = some k → H + 7 ≤ k := fun k e => (h.own.lt k e).1
  have hge' : ∀ k, v'.ownBlock = some k → H + 7 ≤ k := fun k e => (ho.lt k e).1
  have hpl : (W.putObj (H + 6) (.loop rb)).heap.size = W.heap.size := World.putObj_size
  have b1 : But (fun k => k = H + 6 ∨ k = H + 1 ∨ v.ownBlock = some k) W (W.putObj (H + 6) (.loop rb)) := (But.refl (fun k => k = H + 6 ∨ k = H + 1 ∨ v.ownBlock = some k) W).putObj _ _ (.inl rfl)
  have b2 := b1.grown hg (fun k e => .inr (.inr e))
  have b3 := b2.set ⟨H + 1, 0, none⟩ v' (.inr (.inl rfl))
  have b4 := b3.putObj (H + 6) (.loop rd) (.inl rfl)
  have hs1 : W.heap.size ≤ w1.heap.size := b2.size
  have hl1 : w1.heap[H + 6]? = some (.loop rb) := (hg.block (H + 6) (by rw [hpl]; omega) (fun e => by have := hge _ e.symm; omega)).trans (World.putObj_heap_same (by omega))
  have hl2 : (w1.setCell ⟨H + 1, 0, none⟩ v').heap[H + 6]? = some (.loop rb) := (Below.heap_setCell _ ⟨H + 1, 0, none⟩ _ (H + 6) (by show H + 6 ≠ H + 1; omega)).trans hl1
  have hne : ∀ k, k < H + 6 → k ≠ H + 1 → k < W.heap.size → ((w1.setCell ⟨H + 1, 0, none⟩ v').putObj (H + 6) (.loop rd)).heap[k]? = W.heap[k]? := fun k hk hk2 hl => b4.block k hl (fun e => by
    rcases e with e | e | e
    · omega
    · omega
    · have := hge k e; omega)
  refine ⟨hl2, ⟨v', rfl, (hne H (by omega) (by omega) (by omega)).trans h.res, ?_, (hne (H + 5) (by omega) (by omega) (by omega)).trans h.dfr, World.putObj_heap_same (Array.getElem?_eq_some_iff.1 hl2).1, ?_, h.below.trans (b4.belowB (by omega) (fun k hk e => by rcases e with e | e | e; omega; omega; have := hge k e; omega))⟩, b4.mono (fun k _ e => ?_), fun k hk => ?_⟩
  · refine (World.putObj_heap_other (by omega)).trans ?_
    exact blk_put (cs := #[v]) ((hg.block (H + 1) (by rw [hpl]; omega) (fun e => by have := hge _ e.symm; omega)).trans ((World.putObj_heap_other (by omega)).trans h.out)) 0 _ rfl
  · have e1 : (pre ++ [cl]).flatten = pre.flatten ++ cl := by simp
    rw [e1, List.length_append, tksL_append]
    refine own_but ho (((But.refl (fun k => k = H + 1 ∨ k = H + 6) w1).set ⟨H + 1, 0, none⟩ v' (.inl rfl)).putObj (H + 6) (.loop rd) (.inr rfl)) (fun k e e2 => ?_)
    have := hge' k e2
    omega
  · rcases e with e | e | e
    · exact .inr (.inr (.inr (.inr (.inl e))))
    · exact .inr (.inr (.inl e))
    · exact .inr (.inr (.inr (.inr (.inr e))))
  · rcases hk with e | e | e | e | e | e
    · exact .inl (.inl e)
    · exact .inl (.inr (.inl e))
    · exact .inl (.inr (.inr (.inl e)))
    · exact .inl (.inr (.inr (.inr (.inl e))))
    · exact .inl (.inr (.inr (.inr (.inr (.inl e)))))
    · rcases hv with hv | hv
      · exact .inl (.inr (.inr (.inr (.inr (.inr (by rw [← hv, e]))))))
      · rw [hv] at e
        cases e
        exact .inr (by rw [hpl]; exact Nat.le_refl _)
theorem own_lower {W : World} {base base' n : Nat} {v : Value} {xs : List Value} (h : W.ownsRow base 53 6 v n xs) (hb : base' ≤ base) : W.ownsRow base' 53 6 v n xs := by
  refine ⟨h.1, h.2.imp id ?_⟩
  rintro ⟨g, cap, cur, hv, hg, rest⟩
  exact ⟨g, cap, cur, hv, by omega, rest⟩
set_option maxRecDepth 100000 in
set_option maxHeartbeats 4000000 in
theorem scan_tokens_m.calls (src : ByteArray) (w : World) (hsz : src.size ≤ 100000) (hT : TabOK w) :
    Calls Tryz.prog 51 #[.string src] w fun e w' => ∃ v, e = .returned (.tuple #[v, .agg (errV (S.scan (bytesOf src)).err)]) ∧ w'.ownsRow w.heap.size 53 6 v (S.tokens (bytesOf src)).length (tksL (S.tokens (bytesOf src))) ∧ Below w.heap.size w w' := by
  have hwf : ∀ f, Fence.wide.fn f := fun _ => trivial
  have HT := Aside0.mk hT
  clear hT
  obtain ⟨H, hH⟩ : ∃ H, w.heap.size = H := ⟨_, rfl⟩
  have HH := Aside0.mk hH
  have HCL := Lib.hid (fun W => clauses.calls src ⟨H + 1 + 1, 0, none⟩ W)
  refine (callsIn_wide (n := 8)).1 ?_
  refine callsIn_of_wp_marks Tryz.func51 rfl trivial ?_ rfl
  simp only [Tryz.ntmps51, List.size_toArray, List.length_cons, List.length_nil, Nat.reduceAdd, Nat.reduceSub, Array.replicate_succ, Array.replicate_zero, List.push_toArray, List.append_toArray, List.nil_append, List.cons_append]
  gi_wp2_with (gi_at_call 53; refine (callsIn_wide.2 (HCL.out _)).mono ?_; rintro e w' ⟨rfl, rfl⟩)
  generalize hU : ((((w.alloc _).alloc _).alloc _).alloc _).alloc _ = U
  have hUs : U.heap.size = H + 5 := by rw [← hU, ← hH]; simp
  have hUb : Below H w U := by rw [← hU, ← hH]; exact below_alloc (below_alloc (below_alloc (below_alloc (below_alloc (Below.refl _ _) _) _) _) _) _
  have u0 : U.heap[H]? = some (.cells #[.int .i64 0, .int .i64 0] 76 (0, 0)) := by
    rw [← hU, ← hH]; exact (Below.heap_alloc _ _ _ (by simp <;> omega)).trans ((Below.heap_alloc _ _ _ (by simp <;> omega)).trans ((Below.heap_alloc _ _ _ (by simp <;> omega)).trans ((Below.heap_alloc _ _ _ (by simp)).trans (heap_alloc_new w _))))
  have u1 : U.heap[H + 1]? = some (.cells #[.slice none 0 0] 24 (0, 0)) := by
    rw [← hU, ← hH]; refine (Below.heap_alloc _ _ _ (by simp <;> omega)).trans ((Below.heap_alloc _ _ _ (by simp <;> omega)).trans ((Below.heap_alloc _ _ _ (by simp)).trans ?_))
    have := heap_alloc_new (w.alloc (.cells #[.int .i64 0, .int .i64 0] 76)) (.cells #[.slice none 0 0] 24)
    rwa [World.size_alloc] at this
  have u2 : U.heap[H + 2]? = some (.cells #[.int .i64 0, .int .i64 0] 76 (0, 0)) := by
    rw [← hU, ← hH]; refine (Below.heap_alloc _ _ _ (by simp <;> omega)).trans ((Below.heap_alloc _ _ _ (by simp)).trans ?_)
    have := heap_alloc_new ((w.alloc (.cells #[.int .i64 0, .int .i64 0] 76)).alloc (.cells #[.slice none 0 0] 24)) (.cells #[.int .i64 0, .int .i64 0] 76)
    rwa [World.size_alloc, World.size_alloc] at this
  have u3 : U.heap[H + 3]? = some (.cells #[.string src] 9 (0, 0)) := by
    rw [← hU, ← hH]; refine (Below.heap_alloc _ _ _ (by simp)).trans ?_
    have := heap_alloc_new (((w.alloc (.cells #[.int .i64 0, .int .i64 0] 76)).alloc (.cells #[.slice none 0 0] 24)).alloc (.cells #[.int .i64 0, .int .i64 0] 76)) (.cells #[.string src] 9)
    rwa [World.size_alloc, World.size_alloc, World.size_alloc] at this
  have u4 : U.heap[H + 4]? = some (.cells #[.pointer (some ⟨H + 1 + 1, 0, none⟩)] 88 (0, 0)) := by
    have := heap_alloc_new ((((w.alloc (.cells #[.int .i64 0, .int .i64 0] 76)).alloc (.cells #[.slice none 0 0] 24)).alloc (.cells #[.int .i64 0, .int .i64 0] 76)).alloc (.cells #[.string src] 9)) (.cells #[.pointer (some ⟨H + 1 + 1, 0, none⟩)] 88)
    rw [World.size_alloc, World.size_alloc, World.size_alloc, World.size_alloc, hH] at this
    rw [← hU]; exact this
  have hTU : TabOK U := HT.out.of_below (hUb.mono (by omega))
  clear hU
  refine rf_enter (F := Fence.wide) (n := 8) (gf := 87) rfl (by omega) rfl trivial iter_enters
    (fun Z => ∃ v, Z.heap[H]? = some (.cells #[.int .i64 0, .int .i64 0] 76 (0, 0)) ∧ Z.heap[H + 1]? = some (.cells #[v] 24 (0, 0)) ∧ Z.heap[H + 5]? = some (.deferred (some [])) ∧ Z.ownsRow (H + 7) 53 6 v (S.tokens (bytesOf src)).length (tksL (S.tokens (bytesOf src))) ∧ Below H w Z ∧ Z.heap[H + 2]? = some (.cells (errV (S.scan (bytesOf src)).err) 76 (0, 0)))
    (fun _ => False) ?hcall ?hready ?hdone
  case hdone => rintro Z r _ h; exact h.elim
  case hcall =>
    intro fn rd X hfn hrd hXs hXB x7 x8
    rw [hUs] at hXs hXB x7 x8 ⊢
    have hkx : ∀ k, k < H + 5 → X.heap[k]? = U.heap[k]? := fun k hk => hXB.block k (by omega)
    have hJ0 : TkJ w H rd [] (TkF H (.slice none 0 0)) X := ⟨_, rfl, (hkx _ (by omega)).trans u0, (hkx _ (by omega)).trans u1, x7, x8, World.ownsRow_nil _ _ _ _, hUb.trans (hXB.mono (by omega))⟩
    have C : Client (H + 6) 5 (TkJ w H rd) := by
      refine ⟨?_, ?_, ?_⟩
      · rintro pre F W W' ⟨v, rfl, hI⟩ hb
        exact ⟨v, rfl, hI.keep hb⟩
      · rintro pre F W ⟨v, rfl, hI⟩ k hk
        have hlw := hI.lw
        rcases hk with e | e | e | e | e | e
        · omega
        · omega
        · omega
        · omega
        · omega
        · exact (hI.own.lt k e).2
      · rintro pre F W base v cl ⟨vo, rfl, hI⟩ hown hne hdis hlen
        obtain ⟨g2, c2, rfl⟩ : ∃ g2 c2, v = .slice (some ⟨g2, 0, none⟩) cl.length c2 := by
          rcases hown.2 with ⟨_, e2⟩ | ⟨g, cap, cs, e, _⟩
          · exact absurd (List.length_eq_zero_iff.1 e2) hne
          · exact ⟨_, _, e⟩
        refine rf_round (l := H + 6) hrd trivial hI.lop rfl ?_
        have HRD := Aside0.mk hrd
        clear hrd
        gi_wp2
        refine ⟨hI.lop, ?_⟩
        have HRF : Aside0 (∀ r2 : Loop, r2 = { rd with state := LoopState.busy } → ({ r2 with state := .ready, pending := none } : Loop) = rd) := ⟨fun r2 e => by rw [e, HRD.out]; rfl⟩
        generalize hrb : ({ rd with state := LoopState.busy } : Loop) = rb
        have HRB := Aside0.mk (HRF.out rb hrb.symm)
        have HI := Aside0.mk hI
        have hgr := grownBy_putObj' W (H + 6) (.loop rb)
        have hbB : But (fun k => k = H + 6) W (W.putObj (H + 6) (.loop rb)) := (But.refl (fun k => k = H + 6) W).putObj _ _ rfl
        have hge : ∀ k, vo.ownBlock = some k → H + 7 ≤ k := fun k e => (hI.own.lt k e).1
        have hoB := own_but hI.own hbB (fun k e e2 => by have := hge k e2; omega)
        have hclB := own_but hown hbB (fun k e e2 => hdis (H + 6) (.inr (.inr (.inr (.inr (.inl rfl))))) (by rw [← e]; exact e2))
        have hoc : (W.putObj (H + 6) (.loop rb)).heap[H + 1]? = some (.cells #[vo] 24 (0, 0)) := (hbB.block (H + 1) (by have := hI.lw; omega) (by omega)).trans hI.out
        have hps : (W.putObj (H + 6) (.loop rb)).heap.size = W.heap.size := World.putObj_size
        obtain ⟨PN, hPN⟩ : ∃ PN, pre.flatten.length = PN := ⟨_, rfl⟩
        have hnx := fun (w1 : World) (v' : Value) => hI.next (rb := rb) (w1 := w1) (v' := v') (cl := cl)
        rw [hPN] at hnx hoB hlen
        have HNX := Aside0.mk hnx
        clear hnx hPN
        have hlw := hI.lw
        have HOB := Aside0.mk hoB
        have HCB := Aside0.mk hclB
        have HOC := Aside0.mk hoc
        clear hrb hI HRF HRD hgr hbB hoB hclB hoc
        generalize W.putObj (H + 6) (.loop rb) = WB at *
        obtain ⟨i0, hi0, hz0, hz1, hz2⟩ := info_parts (show (Tryz.prog.info? 53).map (fun i => (i.zero, i.size, i.bytes)) = some (some (.agg zTk), 6, 56) by kernel_rfl)
        have hcl0 : 0 < cl.length := List.length_pos_iff.2 hne
        have c0 : WB.cell? ⟨H + 1, 0, none⟩ = some vo := (blk_cell HOC.out 0).trans rfl
        gi_wp2_with (gi_at_builtin; refine wpListIn_append_own_at _ rfl (.tmp 10) (.tmp 11) 24 rfl (H + 7) 53 i0 (.agg zTk) 6 56 Tryz.underlying24 hi0 hz0 hz1 hz2 rfl (by decide) vo PN (tksL pre.flatten) rfl HOB.out ⟨g2, 0, none⟩ cl.length c2 (tksL cl) rfl (tksL_length _) (fun j u hu => HCB.out.cells rfl j u hu) (fun u hu => tksL_one cl u hu) (by unfold maxLen; omega) (by omega) (by omega) ?_; intro v' w1 hown' hgrow _ hat; obtain ⟨g', cap', rfl, _, _⟩ := hown'.form (by omega); have e1 := blk_cell (TkI.cb hgrow HOC.out (fun k e => by have := hge k e; omega)) 0; have q1 := blk_frozen (TkI.cb hgrow HOC.out (fun k e => by have := hge k e; omega)) 0; have HOW := Aside0.mk hown'; have HGR := Aside0.mk hgrow; have HAT := Aside0.mk hat; clear hown' hgrow hat)
        obtain ⟨n1, n2, n3, n4⟩ := HNX.out w1 (.slice (some ⟨g', 0, none⟩) (PN + cl.length) cap') HOW.out HGR.out HAT.out
        refine ⟨rb, n1, rfl, TkF H (.slice (some ⟨g', 0, none⟩) (PN + cl.length) cap'), ?_, ?_, fun k hk => ?_⟩
        · rw [HRB.out]; exact n2
        · rw [HRB.out]; exact n3
        · rcases n4 k hk with e | e
          · exact .inl e
          · exact .inr (.inl e)
    have hit := iter_in 5 (l := H + 6) (B0 := H + 3) (FB := H + 4) (fp := H + 2) (src := src) C X hsz (hTU.of_below (hXB.mono (by omega))) hJ0 (fun k hk => by
      rcases hk with e | e | e | e | e | e
      · omega
      · omega
      · omega
      · omega
      · omega
      · simp [Value.ownBlock] at e) ((hkx _ (by omega)).trans u3) ((hkx _ (by omega)).trans u4) ((hkx _ (by omega)).trans u2)
    refine hit.mono ?_
    rintro e Z ⟨hv, F', ⟨v, rfl, hI⟩, hp⟩
    exact ⟨hv, .inl ⟨hI.lop, v, hI.res, hI.out, hI.dfr, hI.own, hI.below, hp⟩⟩
  case hready =>
    rintro Z r hlt ⟨v, z0, z1, z5, zo, zb, z2⟩
    rw [hUs] at hlt ⊢
    have hb := grownBy_putObj' Z (H + 5 + 1) (.loop r)
    have hk : ∀ k, k < H + 6 → (Z.putObj (H + 5 + 1) (.loop r)).heap[k]? = Z.heap[k]? := fun k hk => World.putObj_heap_other (by omega)
    obtain ⟨ea, eb, he⟩ : ∃ ea eb, errV (S.scan (bytesOf src)).err = #[.int .i64 ea, .int .i64 eb] := by
      cases (S.scan (bytesOf src)).err with
      | none => exact ⟨_, _, rfl⟩
      | some p => exact ⟨_, _, rfl⟩
    rw [he] at z2
    have y0 := (hk H (by omega)).trans z0
    have y1 := (hk (H + 1) (by omega)).trans z1
    have y2 := (hk (H + 2) (by omega)).trans z2
    have y5 := (hk (H + 5) (by omega)).trans z5
    have yo := own_but zo ((But.refl (fun k => k = H + 5 + 1) Z).putObj (H + 5 + 1) (.loop r) rfl) (fun k e e2 => by have := (zo.lt k e2).1; omega)
    have yb : Below H w (Z.putObj (H + 5 + 1) (.loop r)) := zb.grown hb (by omega) (fun k e => by cases e; omega)
    clear hb hk z0 z1 z2 z5 zo zb u0 u1 u2 u3 u4 hUb hTU
    generalize Z.putObj (H + 5 + 1) (.loop r) = Y at *
    have Y0 := Aside0.mk y0
    have Y1 := Aside0.mk y1
    have Y5 := Aside0.mk y5
    have YO := Aside0.mk yo
    have YB := Aside0.mk yb
    have HE := Aside0.mk he
    have c1 : Y.cell? ⟨H + 1, 0, none⟩ = some v := (blk_cell y1 0).trans rfl
    have d0 : Y.cell? ⟨H + 1 + 1, 0, none⟩ = some (.int .i64 ea) := (blk_cell y2 0).trans rfl
    have d1 : Y.cell? ⟨H + 1 + 1, 1, none⟩ = some (.int .i64 eb) := (blk_cell y2 1).trans rfl
    have r0 : Y.cell? ⟨H, 0, none⟩ = some (.int .i64 0) := (blk_cell y0 0).trans rfl
    have r1 : Y.cell? ⟨H, 1, none⟩ = some (.int .i64 0) := (blk_cell y0 1).trans rfl
    have q0 := blk_frozen y0 0
    have q1 := blk_frozen y0 1
    have hu76 := Tryz.underlying76
    clear y0 y1 y2 y5 yo yb he hlt
    gi_upto_region 6 with (fail)
    refine wide_region_still_tail 3 (by kernel_rfl) (by kernel_rfl) ?_
    simp only [List.take_succ_cons, List.take_zero, List.drop_succ_cons, List.drop_zero]
    still_step
    repeat still_step
    refine wpStill_nil ?_
    gi_wp2
    have hb2 : But (fun k => k = H) Y ((Y.setCell ⟨H, 0, none⟩ (.int .i64 ea)).setCell ⟨H, 1, none⟩ (.int .i64 eb)).drew := (((But.refl (fun k => k = H) Y).set ⟨H, 0, none⟩ _ rfl).set ⟨H, 1, none⟩ _ rfl).drew
    have g0 : ((Y.setCell ⟨H, 0, none⟩ (.int .i64 ea)).setCell ⟨H, 1, none⟩ (.int .i64 eb)).drew.heap[H]? = some (.cells #[.int .i64 ea, .int .i64 eb] 76 (0, 0)) := blk_put (blk_put Y0.out 0 _ rfl) 1 _ rfl
    have hl5 : H + 5 < Y.heap.size := (Array.getElem?_eq_some_iff.1 Y5.out).1
    generalize ((Y.setCell ⟨H, 0, none⟩ (.int .i64 ea)).setCell ⟨H, 1, none⟩ (.int .i64 eb)).drew = Y2 at *
    have g5 : Y2.heap[H + 5]? = some (.deferred (some [])) := (hb2.block (H + 5) hl5 (by omega)).trans Y5.out
    have go := own_but YO.out hb2 (fun k e e2 => by have := (YO.out.lt k e2).1; omega)
    have gb : Below H w Y2 := YB.out.trans (hb2.belowB (by omega) (fun k hk => by omega))
    refine ⟨by simp, .inl ⟨_, _, rfl, run_takeDeferred g5, ?_⟩⟩
    have hp5 : But (fun k => k = H + 5) Y2 (Y2.putObj (H + 5) (.deferred none)) := (But.refl (fun k => k = H + 5) Y2).putObj _ _ rfl
    refine ⟨_, results_tc (fn := Tryz.f51) rfl _ _ H 76 #[.int .i64 ea, .int .i64 eb] (0, 0) _ v rfl rfl ((World.putObj_heap_other (by omega)).trans g0) Tryz.underlying76 rfl (by kernel_rfl), v, ?_, ?_, ?_⟩
    · rw [HE.out]
    · rw [hH]
      have := own_but go hp5 (fun k e e2 => by have := (go.lt k e2).1; omega)
      exact own_lower this (by omega)
    · rw [hH]
      exact gb.trans (hp5.belowB (by have := gb.size; have := hb2.size; omega) (fun k hk => by omega))
end Go.Proofs.YtkkpjonfaflkmaaGreatDoor.T

namespace Go.Proofs.YtkkpjonfaflkmaaGreatDoor.T
set_option linter.unusedSimpArgs false
open Go.RowKit Go.Proofs.YtkkpjonfaflkmaaGreatDoorW.PrintWords Go.Proofs.YtkkpjonfaflkmaaGreatDoorW.PrintLast Go.Proofs.YtkkpjonfaflkmaaGreatDoorW.PrintMore
attribute [local go_sem] max2_int min2_int max_two min_two max_three min_three max_four min_four   -- for this text's walks alone
set_option linter.unusedVariables false
set_option linter.unusedSimpArgs false
def scan_limited.f (a0 : ByteArray) : Option (Int) := if (a0.size : Int) > 20000 then (some 3) else (some 0)
set_option maxHeartbeats 8000000 in
set_option maxRecDepth 100000 in
theorem scan_limited.calls (a0 : ByteArray) (r : Int) (w : World) (h : scan_limited.f a0 = some r) :
    Calls Tryz.prog 50 #[.string a0] w fun e w' => e = .returned (.int .i64 r) ∧ Drawn0 w w' := by
  have H : (if (a0.size : Int) > 20000 then (some 3) else (some 0)) = some r := h
  clear h
  by_cases c2 : (a0.size : Int) > 20000
  · rw [if_pos c2] at H
    have c2b0 : decide (20000 < (a0.size : Int)) = true := decide_eq_true c2
    have c2b1 : decide (20000 < a0.size) = true := decide_eq_true (by omega)
    clear c2
    obtain rfl := Option.some.inj H
    go_enter Tryz.func50, Tryz.ntmps50
    go_wp2
    go_ret
    exact ⟨by first | rfl | (simp; done) | (simp [*]; done), by repeat (first | exact Drawn0.refl _ | apply Drawn0.step)⟩
  · rw [if_neg c2] at H
    have c2b0 : decide (20000 < (a0.size : Int)) = false := decide_eq_false c2
    have c2b1 : decide (20000 < a0.size) = false := decide_eq_false (by omega)
    clear c2
    obtain rfl := Option.some.inj H
    go_enter Tryz.func50, Tryz.ntmps50
    go_wp2
    go_ret
    exact ⟨by first | rfl | (simp; done) | (simp [*]; done), by repeat (first | exact Drawn0.refl _ | apply Drawn0.step)⟩
end Go.Proofs.YtkkpjonfaflkmaaGreatDoor.T

namespace Go.Proofs.YtkkpjonfaflkmaaGreatDoor.T
set_option linter.unusedSimpArgs false
set_option linter.unusedVariables false
open Go.RowKit Go.Maps Go.Proofs.YtkkpjonfaflkmaaGreatDoorW.PrintWords Go.Proofs.YtkkpjonfaflkmaaGreatDoorW.PrintLast Go.Proofs.YtkkpjonfaflkmaaGreatDoorW.PrintMore
def errC (o : Option (Nat × Nat)) : Int := match o with | none => 0 | some p => p.1
def errL (o : Option (Nat × Nat)) : Int := match o with | none => 0 | some p => p.2
theorem errV_eq (o : Option (Nat × Nat)) : errV o = #[.int .i64 (errC o), .int .i64 (errL o)] := by
  cases o with
  | none => rfl
  | some p => rfl
theorem results_tmp4 {fn : Func} {t u v x : Tmp} (h : fn.results = #[.tmp t, .tmp u, .tmp v, .tmp x]) (tmps : Array Value) (P : Program) (w : World) :
    (results fn tmps).run P w = .ok (.tuple #[tmps.getD t undef, tmps.getD u undef, tmps.getD v undef, tmps.getD x undef]) w := by
  simp [results, h, Sem.run_bind, Sem.run_pure, Result.andThen]
def scan_Tokens.f (a0 : ByteArray) : Option (List S53 × Int × Int × Int) :=
  if a0.size ≤ 20000 then
    (if errC (S.scan (bytesOf a0)).err = 0 then some ((S.tokens (bytesOf a0)).map toS, 0, 0, 0) else some ((S.tokens (bytesOf a0)).map toS, errC (S.scan (bytesOf a0)).err, errL (S.scan (bytesOf a0)).err, 7))
  else some ([], 0, 0, 3)
set_option maxRecDepth 100000 in
set_option maxHeartbeats 4000000 in
theorem scan_Tokens.calls (a0 : ByteArray) (r1 : List S53) (r2 r3 r4 : Int) (w : World) (hT : TabOK w) (h : scan_Tokens.f a0 = some (r1, r2, r3, r4)) :
    Calls Tryz.prog 17 #[.string a0] w fun e w' => ∃ v0 : Value, e = .returned (.tuple #[v0, .int .i64 r2, .int .i64 r3, .int .i64 r4]) ∧ Kd.R k53 53 w' w.heap.size (fun _ => True) v0 r1 ∧ Below w.heap.size w w' := by
  have HT := Aside0.mk hT
  clear hT
  by_cases hs : a0.size ≤ 20000
  · have hlim := scan_limited.calls a0 0 w (by unfold scan_limited.f; rw [if_neg (by omega)])
    have HLM := Lib.hid hlim
    have htk := fun q => scan_tokens_m.calls a0 (w.drewN q) (by omega) (HT.out.of_below (pw_below_drewN (Below.refl _ _) q))
    unfold scan_Tokens.f at h
    rw [if_pos hs] at h
    obtain ⟨c, hc⟩ : ∃ c, errC (S.scan (bytesOf a0)).err = c := ⟨_, rfl⟩
    obtain ⟨ln, hln⟩ : ∃ ln, errL (S.scan (bytesOf a0)).err = ln := ⟨_, rfl⟩
    obtain ⟨ts, hts⟩ : ∃ ts, S.tokens (bytesOf a0) = ts := ⟨_, rfl⟩
    simp only [errV_eq, hc, hln, hts] at htk h
    have HTK := Lib.hid htk
    clear hlim htk hc hln hts
    have hu76 := Tryz.underlying76
    go_enter Tryz.func17, Tryz.ntmps17
    go_upto_region 5 with (first | (go_at_call 50; refine HLM.out.mono ?_; rintro e w' ⟨rfl, ⟨⟨q, rfl⟩⟩⟩) | (go_at_call 51; refine (HTK.out _).mono ?_; rintro e w3 ⟨v, rfl, hown, hb⟩))
    have ha : Below w3.heap.size w3 (w3.alloc (.cells #[.int .i64 c, .int .i64 ln] 76)) := below_alloc (Below.refl _ _) _
    have hn := heap_alloc_new w3 (.cells #[.int .i64 c, .int .i64 ln] 76)
    have hR : Kd.R k53 53 (w3.alloc (.cells #[.int .i64 c, .int .i64 ln] 76)) w.heap.size (fun _ => True) v (ts.map toS) := tks_R (own_but hown ((But.refl (fun _ => False) w3).alloc _) (fun _ e => e.elim))
    have hB : Below w.heap.size w (w3.alloc (.cells #[.int .i64 c, .int .i64 ln] 76)) := (Below.trans (pw_below_drewN (Below.refl _ _) q) hb).trans (ha.mono (by have := hb.size; exact this))
    obtain ⟨T, hTz⟩ : ∃ T, w3.heap.size = T := ⟨_, rfl⟩
    rw [hTz] at hn
    try rw [hTz]
    have HR := Aside0.mk hR
    have HB := Aside0.mk hB
    clear ha hR hB hown hb hTz
    generalize w3.alloc (.cells #[.int .i64 c, .int .i64 ln] 76) = W at *
    have c0 : W.cell? ⟨T, 0, none⟩ = some (.int .i64 c) := (blk_cell hn 0).trans rfl
    have c1 : W.cell? ⟨T, 1, none⟩ = some (.int .i64 ln) := (blk_cell hn 1).trans rfl
    by_cases hc0 : c = 0
    · subst hc0
      rw [if_pos rfl] at h
      simp only [Option.some.injEq, Prod.mk.injEq] at h
      obtain ⟨rfl, rfl, rfl, rfl⟩ := h
      go_wp2
      refine bodyPost_ret (results_tmp4 rfl _ _ _) rfl ?_
      exact ⟨_, rfl, HR.out, HB.out⟩
    · have g0 : (c != 0) = true := bne_iff_ne.2 hc0
      rw [if_neg hc0] at h
      simp only [Option.some.injEq, Prod.mk.injEq] at h
      obtain ⟨rfl, rfl, rfl, rfl⟩ := h
      go_upto_region 6 with (fail)
      go_quiet (fail)
      go_wp2
      refine bodyPost_ret (results_tmp4 rfl _ _ _) rfl ?_
      exact ⟨_, rfl, Kd.R_drewN HR.out _, HB.out.trans (pw_below_drewN (Below.refl _ _) _)⟩
  · have hlim := scan_limited.calls a0 3 w (by unfold scan_limited.f; rw [if_pos (by omega)])
    have HLM := Lib.hid hlim
    unfold scan_Tokens.f at h
    rw [if_neg hs] at h
    simp only [Option.some.injEq, Prod.mk.injEq] at h
    obtain ⟨rfl, rfl, rfl, rfl⟩ := h
    clear hlim
    go_enter Tryz.func17, Tryz.ntmps17
    go_wp2_with (go_at_call 50; refine HLM.out.mono ?_; rintro e w' ⟨rfl, ⟨⟨q, rfl⟩⟩⟩)
    refine bodyPost_ret (results_tmp4 rfl _ _ _) rfl ?_
    exact ⟨_, rfl, Kd.R_nil _ _ _ _ _, pw_below_drewN (Below.refl _ _) _⟩
end Go.Proofs.YtkkpjonfaflkmaaGreatDoor.T

namespace Go.Proofs.YtkkpjonfaflkmaaGreatDoor.S
set_option linter.unusedSimpArgs false
set_option linter.unusedVariables false
theorem tokStep_err {k c dl : Nat} {r : TR} (h : tokStep k r = .err c dl) : r = .err c := by
  cases r with
  | err c' => cases h; rfl
  | ok t n => cases h
theorem litEnd_err {v : List Int} {n c : Nat} (h : litEnd v n = .err c) : c = 30 := by
  unfold litEnd at h
  by_cases hv : 1000 < v.length
  · rw [if_pos hv] at h; cases h; rfl
  · rw [if_neg hv] at h; cases h
theorem litTok_err {xs : List Int} {c : Nat} (h : litTok xs = .err c) : c ≠ 0 := by
  rcases xs with _ | ⟨q, r⟩
  · cases h; decide
  simp only [litTok] at h
  cases hl : lit q r 1 [] with
  | none => rw [hl] at h; cases h; decide
  | some p =>
    obtain ⟨v, i⟩ := p
    rw [hl] at h
    simp only at h
    by_cases hp : v.all prn = true
    · rw [if_pos hp] at h
      by_cases hs : sfx ((q :: r).drop (i + 1)) = 0
      · rw [if_pos hs] at h
        rw [litEnd_err h]; decide
      · rw [if_neg hs] at h
        cases hd : litDec v (sfx ((q :: r).drop (i + 1))) with
        | none => rw [hd] at h; cases h; decide
        | some u => rw [hd] at h; rw [litEnd_err h]; decide
    · rw [if_neg hp] at h; cases h; decide
theorem symTok_err {xs : List Int} {c : Nat} (h : symTok xs = .err c) : c ≠ 0 := by
  unfold symTok at h
  by_cases h4 : 40 < symLen xs
  · rw [if_pos h4] at h; cases h; decide
  · rw [if_neg h4] at h; cases h
theorem signTok_err {xs : List Int} {c : Nat} (h : signTok xs = .err c) : c ≠ 0 := by
  unfold signTok at h
  cases hf : signs.find? (fun x => x.isPrefixOf xs) with
  | none => rw [hf] at h; cases h; decide
  | some l => rw [hf] at h; cases h
theorem step_err {xs : List Int} {c dl : Nat} (h : step xs = .err c dl) : c ≠ 0 := by
  rcases xs with _ | ⟨x, r⟩
  · cases h
  simp only [step] at h
  by_cases h1 : x = 10
  · rw [if_pos h1] at h; cases h
  rw [if_neg h1] at h
  by_cases h2 : x = 32
  · rw [if_pos h2] at h; cases h
  rw [if_neg h2] at h
  by_cases h3 : starts2 (x :: r) = true
  · rw [if_pos h3] at h
    cases hR : cmt (x :: r) 0 0 1 0 with
    | eof => rw [hR] at h; cases h; decide
    | done i l b =>
      rw [hR] at h
      simp only [cmtStep] at h
      by_cases hb : b = 0
      · rw [if_pos hb] at h; cases h
      · rw [if_neg hb] at h; cases h; decide
  rw [if_neg h3] at h
  by_cases h4 : x = 39 ∨ x = 34
  · rw [if_pos h4] at h; exact litTok_err (tokStep_err h)
  rw [if_neg h4] at h
  by_cases h5 : sym x = true
  · rw [if_pos h5] at h; exact symTok_err (tokStep_err h)
  rw [if_neg h5] at h; exact signTok_err (tokStep_err h)
theorem go_err : ∀ (f : Nat) (xs : List Int) (i line : Nat) (cur : List Tk) (gap : Bool) (c ln : Nat), (go f xs i line cur gap).err = some (c, ln) → c ≠ 0
  | 0, _, _, _, _, _, _, _, h => by cases h
  | f + 1, xs, i, line, cur, gap, c, ln, h => by
    simp only [go] at h
    cases hS : step xs with
    | fin => rw [hS] at h; cases h
    | line =>
      rw [hS] at h
      simp only at h
      by_cases hc : comma cur = true
      · rw [if_pos hc] at h; exact go_err f _ _ _ _ _ c ln h
      · rw [if_neg hc] at h; exact go_err f _ _ _ _ _ c ln h
    | blank => rw [hS] at h; exact go_err f _ _ _ _ _ c ln h
    | cmt n dl => rw [hS] at h; exact go_err f _ _ _ _ _ c ln h
    | tok k t n =>
      rw [hS] at h
      simp only at h
      by_cases h1 : k = 3 ∧ t = [59]
      · rw [if_pos h1] at h; exact go_err f _ _ _ _ _ c ln h
      · rw [if_neg h1] at h
        split at h
        · exact go_err f _ _ _ _ _ c ln h
        · exact go_err f _ _ _ _ _ c ln h
    | err c' dl =>
      rw [hS] at h
      simp only [Option.some.injEq, Prod.mk.injEq] at h
      rw [← h.1]
      exact step_err hS
theorem scan_err {xs : List Int} {c ln : Nat} (h : (scan xs).err = some (c, ln)) : c ≠ 0 := go_err _ _ _ _ _ _ c ln h
end Go.Proofs.YtkkpjonfaflkmaaGreatDoor.S

namespace Go.Proofs.YtkkpjonfaflkmaaGreatDoor.S
set_option linter.unusedSimpArgs false
set_option linter.unusedVariables false
theorem emit_length (cur : List Tk) (a b c : Nat) : (emit cur a b c).flatten.length ≤ cur.length + 1 := by
  unfold emit
  split
  · simp
  · simp
theorem cut_length (cur : List Tk) : (cut cur).length ≤ cur.length := by
  unfold cut
  split
  · simp
  · exact Nat.le_refl _
theorem pre_length (l : List (List Tk)) (o : Out) : (o.pre l).cl.flatten.length = l.flatten.length + o.cl.flatten.length := by
  unfold Out.pre
  simp only [List.flatten_append, List.length_append]
theorem go_length : ∀ (f : Nat) (xs : List Int) (i line : Nat) (cur : List Tk) (gap : Bool), (∀ x ∈ xs, 0 ≤ x ∧ x < 256) → (go f xs i line cur gap).cl.flatten.length ≤ cur.length + 2 * xs.length + 1
  | 0, xs, i, line, cur, gap, _ => by simp [go]
  | f + 1, xs, i, line, cur, gap, hb => by
    have hd : ∀ n, ∀ x ∈ xs.drop n, 0 ≤ x ∧ x < 256 := fun n x hx => hb x (List.mem_of_mem_drop hx)
    rw [go]
    cases hs : step xs with
    | fin =>
      have h1 := emit_length (cut cur) i i line
      have h2 := cut_length cur
      simp only; omega
    | line =>
      have hx : 1 ≤ xs.length := step_some (by rw [hs]; intro e; cases e)
      simp only
      split
      · have := go_length f (xs.drop 1) (i + 1) (line + 1) cur.dropLast true (hd 1)
        rw [List.length_drop, List.length_dropLast] at this
        omega
      · have := go_length f (xs.drop 1) (i + 1) (line + 1) [] false (hd 1)
        have h1 := emit_length cur i (i + 1) line
        rw [List.length_drop, List.length_nil] at this
        rw [pre_length]; omega
    | blank =>
      have := go_length f (xs.drop 1) (i + 1) line cur true (hd 1)
      rw [List.length_drop] at this
      simp only; omega
    | cmt n dl =>
      have := go_length f (xs.drop n) (i + n) (line + dl) cur gap (hd n)
      rw [List.length_drop] at this
      simp only; omega
    | tok k t n =>
      obtain ⟨h1, h2, -⟩ := step_tok hb hs
      simp only
      split
      · have := go_length f (xs.drop n) (i + n) line [] false (hd n)
        have h3 := emit_length cur i (i + n) line
        rw [List.length_drop, List.length_nil] at this
        rw [pre_length]; omega
      · split
        · have := go_length f (xs.drop n) (i + n) line [] false (hd n)
          have h3 := emit_length (cur ++ [⟨k, t, gap && !decide (cur = []), line, i, i + n⟩]) (i + n) (i + n) line
          rw [List.length_append, List.length_singleton] at h3
          rw [List.length_drop, List.length_nil] at this
          rw [pre_length]; omega
        · have := go_length f (xs.drop n) (i + n) line (cur ++ [⟨k, t, gap && !decide (cur = []), line, i, i + n⟩]) false (hd n)
          rw [List.length_drop, List.length_append, List.length_singleton] at this
          omega
    | err c dl =>
      simp only
      split
      · simp
      · simp only [List.flatten_cons, List.flatten_nil, List.append_nil]; omega
theorem tokens_length {xs : List Int} (hb : ∀ x ∈ xs, 0 ≤ x ∧ x < 256) : (tokens xs).length ≤ 2 * xs.length + 1 := by
  have := go_length (xs.length + 1) xs 0 1 [] false hb
  unfold tokens scan
  simpa using this
end Go.Proofs.YtkkpjonfaflkmaaGreatDoor.S

namespace Go.Proofs.YtkkpjonfaflkmaaGreatDoor.T
set_option linter.unusedSimpArgs false
open Go.RowKit Go.Proofs.YtkkpjonfaflkmaaGreatDoorW.PrintWords Go.Proofs.YtkkpjonfaflkmaaGreatDoorW.PrintLast Go.Proofs.YtkkpjonfaflkmaaGreatDoorW.PrintMore
attribute [local go_sem] max2_int min2_int max_two min_two max_three min_three max_four min_four   -- for this text's walks alone
set_option linter.unusedVariables false
set_option linter.unusedSimpArgs false
def scan_spelled.f (a0_0 : Int) (a0_1 : ByteArray) (a0_2 : Bool) (a0_3 : Int) (a0_4 : Int) (a0_5 : Int) : Option (ByteArray) := if a0_0 = 2 then ((scan_literal.f a0_1).bind fun t151 => (some t151)) else (some a0_1)
set_option maxHeartbeats 8000000 in
set_option maxRecDepth 100000 in
theorem scan_spelled.calls (a0_0 : Int) (a0_1 : ByteArray) (a0_2 : Bool) (a0_3 : Int) (a0_4 : Int) (a0_5 : Int) (r : ByteArray) (w : World) (hT : TabOK w) (h : scan_spelled.f a0_0 a0_1 a0_2 a0_3 a0_4 a0_5 = some r) :
    Calls Tryz.prog 113 #[.agg #[.int .i64 a0_0, .string a0_1, .bool a0_2, .int .i64 a0_3, .int .i64 a0_4, .int .i64 a0_5]] w fun e w' => e = .returned (.string r) ∧ Below w.heap.size w w' := by
  have hu53 := Tryz.underlying53
  have HB := Aside0.mk (Below.refl w.heap.size w)
  have H : (if a0_0 = 2 then ((scan_literal.f a0_1).bind fun t151 => (some t151)) else (some a0_1)) = some r := h
  clear h
  by_cases c2 : a0_0 = 2
  · rw [if_pos c2] at H
    have c2b0 : (a0_0 == 2) = true := beq_iff_eq.mpr c2
    have c2b1 : (a0_0 != 2) = false := bne_eq_false_iff_eq.mpr c2
    clear c2
    replace H := Option.bind_eq_some_iff.mp H
    obtain ⟨t151, A30, H⟩ := H
    replace H : (some t151) = some r := H
    have A3 := Aside0.mk A30
    clear A30
    obtain rfl := Option.some.inj H
    go_enter Tryz.func113, Tryz.ntmps113
    go_wp2_with (first | ((with_reducible refine gate_dst (N := 1) rfl ?_); refine box_event ?hg (N := 1) ?hd (cs := #[.int .i64 a0_0, .string a0_1, .bool a0_2, .int .i64 a0_3, .int .i64 a0_4, .int .i64 a0_5]) (t := 53) ?hr ?_; (case hd => rfl); (case hg => rfl); (case hr => first | (go_simp; done) | (go_simp; rfl)); intro gb150 hg w4 hbox hb; have n0_ := Aside0.mk (below_step (by repeat (first | (with_reducible first | exact HB.out | apply below_alloc | apply pw_below_drewN | apply below_drew1) | exact HB.out)) hb); have n1_ := Aside0.mk (hbox); have n2_ := Aside0.mk ((by rw [hg]; exact (below_size (by repeat (first | (with_reducible first | exact HB.out | apply below_alloc | apply pw_below_drewN | apply below_drew1) | exact HB.out))) : w.heap.size ≤ gb150)); have n3_ := Aside0.mk ((by rw [hg]; exact (below_size (by repeat (first | (with_reducible first | exact HB.out | apply below_alloc | apply pw_below_drewN | apply below_drew1) | exact HB.out))) : w.heap.size ≤ gb150)); clear HB; have HB := n0_; have BK150 := n1_; have GW150 := n2_; have GE150 := n3_; clear n0_ n1_ n2_ n3_; clear hb hbox hg; have hcz5_0 : w4.cell? ⟨gb150, 0, none⟩ = some (.int .i64 a0_0) := (blk_cell BK150.out 0).trans rfl; have hcz5_1 : w4.cell? ⟨gb150, 1, none⟩ = some (.string a0_1) := (blk_cell BK150.out 1).trans rfl; have hcz5_2 : w4.cell? ⟨gb150, 2, none⟩ = some (.bool a0_2) := (blk_cell BK150.out 2).trans rfl; have hcz5_3 : w4.cell? ⟨gb150, 3, none⟩ = some (.int .i64 a0_3) := (blk_cell BK150.out 3).trans rfl; have hcz5_4 : w4.cell? ⟨gb150, 4, none⟩ = some (.int .i64 a0_4) := (blk_cell BK150.out 4).trans rfl; have hcz5_5 : w4.cell? ⟨gb150, 5, none⟩ = some (.int .i64 a0_5) := (blk_cell BK150.out 5).trans rfl; have hfz5_0 := blk_frozen BK150.out 0; have hfz5_1 := blk_frozen BK150.out 1; have hfz5_2 := blk_frozen BK150.out 2; have hfz5_3 := blk_frozen BK150.out 3; have hfz5_4 := blk_frozen BK150.out 4; have hfz5_5 := blk_frozen BK150.out 5) | ((with_reducible refine gate_callee (f := 66) rfl ?_); refine goesL_ (some 8) rfl rfl Tryz.func66 (by kernel_rfl) rfl #[.string a0_1] rfl (by (try simp only [List.map_toArray, List.map_cons, List.map_nil]); first | done | rfl | (simp only [List.length_drop, List.length_take]; rfl)) ?_; (with_reducible refine (scan_literal.calls a0_1 t151 _ (TabOK.of_below hT (by repeat (first | (with_reducible first | exact HB.out | apply below_alloc | apply pw_below_drewN | apply below_drew1 | refine below_set ?_ GE150.out) | exact HB.out))) A3.out).mono ?_); rintro e w6 ⟨rfl, hb⟩; refine ⟨_, rfl, ?_⟩; have n0_ := Aside0.mk (blk_below (g := gb150) (o := .cells #[.int .i64 a0_0, .string a0_1, .bool a0_2, .int .i64 a0_3, .int .i64 a0_4, .int .i64 a0_5] 53 (0, 0)) (by (with_reducible repeat (first | refine blk_drewN ?_ _ | refine blk_drew ?_ | refine blk_alloc ?_ _)); exact BK150.out) hb); have n1_ := Aside0.mk (below_step (by repeat (first | (with_reducible first | exact HB.out | apply below_alloc | apply pw_below_drewN | apply below_drew1 | refine below_set ?_ GE150.out) | exact HB.out)) hb); clear BK150; clear HB; have BK150 := n0_; have HB := n1_; clear n0_ n1_; (try clear hb); (try clear hb2); (try clear hk); (try clear hi)))
    go_ret
    exact ⟨by first | rfl | (simp [errW_none, errW_some] <;> rfl) | (simp [*, errW_none, errW_some] <;> rfl), by repeat (first | (with_reducible first | exact HB.out | apply below_alloc | apply pw_below_drewN | apply below_drew1 | refine below_set ?_ GE150.out) | exact HB.out)⟩
  · rw [if_neg c2] at H
    have c2b0 : (a0_0 == 2) = false := beq_eq_false_iff_ne.mpr c2
    have c2b1 : (a0_0 != 2) = true := bne_iff_ne.mpr c2
    obtain rfl := Option.some.inj H
    go_enter Tryz.func113, Tryz.ntmps113
    go_wp2_with (first | ((with_reducible refine gate_dst (N := 1) rfl ?_); refine box_event ?hg (N := 1) ?hd (cs := #[.int .i64 a0_0, .string a0_1, .bool a0_2, .int .i64 a0_3, .int .i64 a0_4, .int .i64 a0_5]) (t := 53) ?hr ?_; (case hd => rfl); (case hg => rfl); (case hr => first | (go_simp; done) | (go_simp; rfl)); intro gb150 hg w7 hbox hb; have n0_ := Aside0.mk (below_step (by repeat (first | (with_reducible first | exact HB.out | apply below_alloc | apply pw_below_drewN | apply below_drew1) | exact HB.out)) hb); have n1_ := Aside0.mk (hbox); have n2_ := Aside0.mk ((by rw [hg]; exact (below_size (by repeat (first | (with_reducible first | exact HB.out | apply below_alloc | apply pw_below_drewN | apply below_drew1) | exact HB.out))) : w.heap.size ≤ gb150)); have n3_ := Aside0.mk ((by rw [hg]; exact (below_size (by repeat (first | (with_reducible first | exact HB.out | apply below_alloc | apply pw_below_drewN | apply below_drew1) | exact HB.out))) : w.heap.size ≤ gb150)); clear HB; have HB := n0_; have BK150 := n1_; have GW150 := n2_; have GE150 := n3_; clear n0_ n1_ n2_ n3_; clear hb hbox hg; have hcz8_0 : w7.cell? ⟨gb150, 0, none⟩ = some (.int .i64 a0_0) := (blk_cell BK150.out 0).trans rfl; have hcz8_1 : w7.cell? ⟨gb150, 1, none⟩ = some (.string a0_1) := (blk_cell BK150.out 1).trans rfl; have hcz8_2 : w7.cell? ⟨gb150, 2, none⟩ = some (.bool a0_2) := (blk_cell BK150.out 2).trans rfl; have hcz8_3 : w7.cell? ⟨gb150, 3, none⟩ = some (.int .i64 a0_3) := (blk_cell BK150.out 3).trans rfl; have hcz8_4 : w7.cell? ⟨gb150, 4, none⟩ = some (.int .i64 a0_4) := (blk_cell BK150.out 4).trans rfl; have hcz8_5 : w7.cell? ⟨gb150, 5, none⟩ = some (.int .i64 a0_5) := (blk_cell BK150.out 5).trans rfl; have hfz8_0 := blk_frozen BK150.out 0; have hfz8_1 := blk_frozen BK150.out 1; have hfz8_2 := blk_frozen BK150.out 2; have hfz8_3 := blk_frozen BK150.out 3; have hfz8_4 := blk_frozen BK150.out 4; have hfz8_5 := blk_frozen BK150.out 5))
    go_ret
    exact ⟨by first | rfl | (simp [errW_none, errW_some] <;> rfl) | (simp [*, errW_none, errW_some] <;> rfl), by repeat (first | (with_reducible first | exact HB.out | apply below_alloc | apply pw_below_drewN | apply below_drew1 | refine below_set ?_ GE150.out) | exact HB.out)⟩
end Go.Proofs.YtkkpjonfaflkmaaGreatDoor.T
