/- Part 12 of the proof of ScanCase: the functions that it calls return what their plain descriptions say. -/
import Derived.Test.YtkkpjonfaflkmaaGreatDoorCScanCase11
import Derived.Test.YtkkpjonfaflkmaaGreatDoorCScanCase3
import Derived.Test.YtkkpjonfaflkmaaGreatDoorCScanCase4
import Derived.Test.YtkkpjonfaflkmaaGreatDoorCScanCase5
import Derived.Test.YtkkpjonfaflkmaaGreatDoorCScanCase8

namespace Go.Proofs.YtkkpjonfaflkmaaGreatDoor.T
set_option linter.unusedSimpArgs false
set_option linter.unusedVariables false
open Go.RowKit Go.Maps Go.Proofs.YtkkpjonfaflkmaaGreatDoorW.PrintWords Go.Proofs.YtkkpjonfaflkmaaGreatDoorW.PrintLast Go.Proofs.YtkkpjonfaflkmaaGreatDoorW.PrintMore
attribute [local go_sem] Oper.semAt_some
theorem clauses.calls (src : ByteArray) (p : Addr) (w : World) :
    Calls Tryz.prog 53 #[.string src, .pointer (some p)] w fun e w' => e = .returned (.func (.func 87) #[] #[.pointer (some ⟨w.heap.size, 0, none⟩), .pointer (some ⟨w.heap.size + 1, 0, none⟩)]) ∧
      w' = (w.alloc (.cells #[.string src] 9)).alloc (.cells #[.pointer (some p)] 88) := by
  have hmf : ∀ (fn : Fn) (first cap : Array Value) (w : World), (Instr.makeFunc fn first cap).run Tryz.prog w = .ok (.func fn first cap) w := fun _ _ _ _ => rfl
  go_enter Tryz.func53, Tryz.ntmps53
  go_wp2
  go_ret
  exact ⟨rfl, rfl⟩
theorem iter_enters : ∀ args w, (callFunc 87 args).run Tryz.prog w = .ok (.enter 87 args) w := enters_of Tryz.func87 (by kernel_rfl) rfl
theorem But.putObj {A : Nat → Prop} {w w' : World} (h : But A w w') (b : Nat) (o : Obj) (hb : A b) : But A w (w'.putObj b o) := by
  have hg := grownBy_putObj' w' b o
  exact ⟨hg.os.trans h.os, hg.tape.trans h.tape, hg.output.trans h.output, Nat.le_trans h.size hg.size, fun k hk hn => (hg.block k (Nat.lt_of_lt_of_le hk h.size) (fun e => hn (by cases e; exact hb))).trans (h.block k hk hn)⟩
theorem But.grown {A : Nat → Prop} {w w' w'' : World} {v : Option Nat} (h : But A w w') (hg : w'.grownBy w'' v) (hA : ∀ k, v = some k → A k) : But A w w'' :=
  ⟨hg.os.trans h.os, hg.tape.trans h.tape, hg.output.trans h.output, Nat.le_trans h.size hg.size, fun k hk hn => (hg.block k (Nat.lt_of_lt_of_le hk h.size) (fun e => hn (hA k e.symm))).trans (h.block k hk hn)⟩
structure TkI (w0 : World) (H : Nat) (rd : Loop) (v : Value) (pre : List (List S.Tk)) (W : World) : Prop where
  res : W.heap[H]? = some (.cells #[.int .i64 0, .int .i64 0] 76 (0, 0))
  out : W.heap[H + 1]? = some (.cells #[v] 24 (0, 0))
  dfr : W.heap[H + 5]? = some (.deferred (some []))
  lop : W.heap[H + 6]? = some (.loop rd)
  own : W.ownsRow (H + 7) 53 6 v pre.flatten.length (tksL pre.flatten)
  below : Below H w0 W
def TkF (H : Nat) (v : Value) (k : Nat) : Prop := k < H ∨ k = H ∨ k = H + 1 ∨ k = H + 5 ∨ k = H + 6 ∨ v.ownBlock = some k
def TkJ (w0 : World) (H : Nat) (rd : Loop) (pre : List (List S.Tk)) (F : Nat → Prop) (W : World) : Prop := ∃ v, F = TkF H v ∧ TkI w0 H rd v pre W
theorem TkI.lw {w0 : World} {H : Nat} {rd : Loop} {v : Value} {pre : List (List S.Tk)} {W : World} (h : TkI w0 H rd v pre W) : H + 6 < W.heap.size := (Array.getElem?_eq_some_iff.1 h.lop).1
theorem TkI.keep {w0 : World} {H : Nat} {rd : Loop} {v : Value} {pre : List (List S.Tk)} {W W' : World} (h : TkI w0 H rd v pre W) (hb : But (fun k => ¬ TkF H v k) W W') : TkI w0 H rd v pre W' := by
  have hlw := h.lw
  have hk : ∀ k, TkF H v k → k < W.heap.size → W'.heap[k]? = W.heap[k]? := fun k hf hl => hb.block k hl (fun e => e hf)
  refine ⟨(hk H (.inr (.inl rfl)) (by omega)).trans h.res, (hk _ (.inr (.inr (.inl rfl))) (by omega)).trans h.out, (hk _ (.inr (.inr (.inr (.inl rfl)))) (by omega)).trans h.dfr, (hk _ (.inr (.inr (.inr (.inr (.inl rfl))))) (by omega)).trans h.lop,
    own_but h.own hb (fun k e e2 => e (.inr (.inr (.inr (.inr (.inr e2)))))), h.below.trans (hb.belowB (by omega) (fun k hk e => e (.inl hk)))⟩
theorem TkI.cb {WB w1 : World} {OB : Nat} {vo u : Value} (hg : WB.grownBy w1 vo.ownBlock) (h : WB.heap[OB]? = some (.cells #[u] 24 (0, 0))) (hne : ∀ k, vo.ownBlock = some k → k ≠ OB) : w1.heap[OB]? = some (.cells #[u] 24 (0, 0)) :=
  (hg.block OB (Array.getElem?_eq_some_iff.1 h).1 (fun e => hne OB e.symm rfl)).trans h
theorem tksL_one : ∀ (l : List S.Tk), ∀ u ∈ tksL l, u.oneCell' = true
  | [], u, h => by simp [tksL] at h
  | t :: l, u, h => by
    simp only [tksL, List.map_cons, List.flatten_cons, List.mem_append] at h
    rcases h with h | h
    · exact tkL_one t u h
    · exact tksL_one l u h
theorem TkI.next {w0 : World} {H : Nat} {rd rb : Loop} {v v' : Value} {pre : List (List S.Tk)} {cl : List S.Tk} {W w1 : World} (h : TkI w0 H rd v pre W) (ho : w1.ownsRow (H + 7) 53 6 v' (pre.flatten.length + cl.length) (tksL pre.flatten ++ tksL cl)) (hg : (W.putObj (H + 6) (.loop rb)).grownBy w1 v.ownBlock)
    (hv : v'.ownBlock = v.ownBlock ∨ v'.ownBlock = some (W.putObj (H + 6) (.loop rb)).heap.size) :
    (w1.setCell ⟨H + 1, 0, none⟩ v').heap[H + 6]? = some (.loop rb) ∧ (TkJ w0 H rd (pre ++ [cl]) (TkF H v') ((w1.setCell ⟨H + 1, 0, none⟩ v').putObj (H + 6) (.loop rd)) ∧ But (TkF H v) W ((w1.setCell ⟨H + 1, 0, none⟩ v').putObj (H + 6) (.loop rd)) ∧ ∀ k, TkF H v' k → TkF H v k ∨ W.heap.size ≤ k) := by
  have hlw := h.lw
  have hge : ∀ k, v.ownBlock = some k → H + 7 ≤ k := fun k e => (h.own.lt k e).1
  have hge' : ∀ k, v'.ownBlock = some k → H + 7 ≤ k := fun k e => (ho.lt k e).1
  have hpl : (W.putObj (H + 6) (.loop rb)).heap.size = W.heap.size := World.putObj_size
  have b1 : But (fun k => k = H + 6 ∨ k = H + 1 ∨ v.ownBlock = some k) W (W.putObj (H + 6) (.loop rb)) := (But.refl (fun k => k = H + 6 ∨ k = H + 1 ∨ v.ownBlock = some k) W).putObj _ _ (.inl rfl)
  have b2 := b1.grown hg (fun k e => .inr (.inr e))
  have b3 := b2.set ⟨H + 1, 0, none⟩ v' (.inr (.inl rfl))
  have b4 := b3.putObj (H + 6) (.loop rd) (.inl rfl)
  have hs1 : W.heap.size ≤ w1.heap.size := b2.size
  have hl1 : w1.heap[H + 6]? = some (.loop rb) := (hg.block (H + 6) (by rw [hpl]; omega) (fun e => by have := hge _ e.symm; omega)).trans (World.putObj_heap_same (by omega))
  have hl2 : (w1.setCell ⟨H + 1, 0, none⟩ v').heap[H + 6]? = some (.loop rb) := (Below.heap_setCell _ ⟨H + 1, 0, none⟩ _ (H + 6) (by show H + 6 ≠ H + 1; omega)).trans hl1
  have hne : ∀ k, k < H + 6 → k ≠ H + 1 → k < W.heap.size → ((w1.setCell ⟨H + 1, 0, none⟩ v').putObj (H + 6) (.loop rd)).heap[k]? = W.heap[k]? := fun k hk hk2 hl => b4.block k hl (fun e => by
    rcases e with e | e | e
    · omega
    · omega
    · have := hge k e; omega)
  refine ⟨hl2, ⟨v', rfl, (hne H (by omega) (by omega) (by omega)).trans h.res, ?_, (hne (H + 5) (by omega) (by omega) (by omega)).trans h.dfr, World.putObj_heap_same (Array.getElem?_eq_some_iff.1 hl2).1, ?_, h.below.trans (b4.belowB (by omega) (fun k hk e => by rcases e with e | e | e; omega; omega; have := hge k e; omega))⟩, b4.mono (fun k _ e => ?_), fun k hk => ?_⟩
  · refine (World.putObj_heap_other (by omega)).trans ?_
    exact blk_put (cs := #[v]) ((hg.block (H + 1) (by rw [hpl]; omega) (fun e => by have := hge _ e.symm; omega)).trans ((World.putObj_heap_other (by omega)).trans h.out)) 0 _ rfl
  · have e1 : (pre ++ [cl]).flatten = pre.flatten ++ cl := by simp
    rw [e1, List.length_append, tksL_append]
    refine own_but ho (((But.refl (fun k => k = H + 1 ∨ k = H + 6) w1).set ⟨H + 1, 0, none⟩ v' (.inl rfl)).putObj (H + 6) (.loop rd) (.inr rfl)) (fun k e e2 => ?_)
    have := hge' k e2
    omega
  · rcases e with e | e | e
    · exact .inr (.inr (.inr (.inr (.inl e))))
    · exact .inr (.inr (.inl e))
    · exact .inr (.inr (.inr (.inr (.inr e))))
  · rcases hk with e | e | e | e | e | e
    · exact .inl (.inl e)
    · exact .inl (.inr (.inl e))
    · exact .inl (.inr (.inr (.inl e)))
    · exact .inl (.inr (.inr (.inr (.inl e))))
    · exact .inl (.inr (.inr (.inr (.inr (.inl e)))))
    · rcases hv with hv | hv
      · exact .inl (.inr (.inr (.inr (.inr (.inr (by rw [← hv, e]))))))
      · rw [hv] at e
        cases e
        exact .inr (by rw [hpl]; exact Nat.le_refl _)
theorem own_lower {W : World} {base base' n : Nat} {v : Value} {xs : List Value} (h : W.ownsRow base 53 6 v n xs) (hb : base' ≤ base) : W.ownsRow base' 53 6 v n xs := by
  refine ⟨h.1, h.2.imp id ?_⟩
  rintro ⟨g, cap, cur, hv, hg, rest⟩
  exact ⟨g, cap, cur, hv, by omega, rest⟩
set_option maxRecDepth 100000 in
set_option maxHeartbeats 4000000 in
theorem scan_tokens_m.calls (src : ByteArray) (w : World) (hsz : src.size ≤ 100000) (hT : TabOK w) :
    Calls Tryz.prog 51 #[.string src] w fun e w' => ∃ v, e = .returned (.tuple #[v, .agg (errV (S.scan (bytesOf src)).err)]) ∧ w'.ownsRow w.heap.size 53 6 v (S.tokens (bytesOf src)).length (tksL (S.tokens (bytesOf src))) ∧ Below w.heap.size w w' := by
  have hwf : ∀ f, Fence.wide.fn f := fun _ => trivial
  have HT := Aside0.mk hT
  clear hT
  obtain ⟨H, hH⟩ : ∃ H, w.heap.size = H := ⟨_, rfl⟩
  have HH := Aside0.mk hH
  have HCL := Lib.hid (fun W => clauses.calls src ⟨H + 1 + 1, 0, none⟩ W)
  refine (callsIn_wide (n := 8)).1 ?_
  refine callsIn_of_wp_marks Tryz.func51 rfl trivial ?_ rfl
  simp only [Tryz.ntmps51, List.size_toArray, List.length_cons, List.length_nil, Nat.reduceAdd, Nat.reduceSub, Array.replicate_succ, Array.replicate_zero, List.push_toArray, List.append_toArray, List.nil_append, List.cons_append]
  gi_wp2_with (gi_at_call 53; refine (callsIn_wide.2 (HCL.out _)).mono ?_; rintro e w' ⟨rfl, rfl⟩)
  generalize hU : ((((w.alloc _).alloc _).alloc _).alloc _).alloc _ = U
  have hUs : U.heap.size = H + 5 := by rw [← hU, ← hH]; simp
  have hUb : Below H w U := by rw [← hU, ← hH]; exact below_alloc (below_alloc (below_alloc (below_alloc (below_alloc (Below.refl _ _) _) _) _) _) _
  have u0 : U.heap[H]? = some (.cells #[.int .i64 0, .int .i64 0] 76 (0, 0)) := by
    rw [← hU, ← hH]; exact (Below.heap_alloc _ _ _ (by simp <;> omega)).trans ((Below.heap_alloc _ _ _ (by simp <;> omega)).trans ((Below.heap_alloc _ _ _ (by simp <;> omega)).trans ((Below.heap_alloc _ _ _ (by simp)).trans (heap_alloc_new w _))))
  have u1 : U.heap[H + 1]? = some (.cells #[.slice none 0 0] 24 (0, 0)) := by
    rw [← hU, ← hH]; refine (Below.heap_alloc _ _ _ (by simp <;> omega)).trans ((Below.heap_alloc _ _ _ (by simp <;> omega)).trans ((Below.heap_alloc _ _ _ (by simp)).trans ?_))
    have := heap_alloc_new (w.alloc (.cells #[.int .i64 0, .int .i64 0] 76)) (.cells #[.slice none 0 0] 24)
    rwa [World.size_alloc] at this
  have u2 : U.heap[H + 2]? = some (.cells #[.int .i64 0, .int .i64 0] 76 (0, 0)) := by
    rw [← hU, ← hH]; refine (Below.heap_alloc _ _ _ (by simp <;> omega)).trans ((Below.heap_alloc _ _ _ (by simp)).trans ?_)
    have := heap_alloc_new ((w.alloc (.cells #[.int .i64 0, .int .i64 0] 76)).alloc (.cells #[.slice none 0 0] 24)) (.cells #[.int .i64 0, .int .i64 0] 76)
    rwa [World.size_alloc, World.size_alloc] at this
  have u3 : U.heap[H + 3]? = some (.cells #[.string src] 9 (0, 0)) := by
    rw [← hU, ← hH]; refine (Below.heap_alloc _ _ _ (by simp)).trans ?_
    have := heap_alloc_new (((w.alloc (.cells #[.int .i64 0, .int .i64 0] 76)).alloc (.cells #[.slice none 0 0] 24)).alloc (.cells #[.int .i64 0, .int .i64 0] 76)) (.cells #[.string src] 9)
    rwa [World.size_alloc, World.size_alloc, World.size_alloc] at this
  have u4 : U.heap[H + 4]? = some (.cells #[.pointer (some ⟨H + 1 + 1, 0, none⟩)] 88 (0, 0)) := by
    have := heap_alloc_new ((((w.alloc (.cells #[.int .i64 0, .int .i64 0] 76)).alloc (.cells #[.slice none 0 0] 24)).alloc (.cells #[.int .i64 0, .int .i64 0] 76)).alloc (.cells #[.string src] 9)) (.cells #[.pointer (some ⟨H + 1 + 1, 0, none⟩)] 88)
    rw [World.size_alloc, World.size_alloc, World.size_alloc, World.size_alloc, hH] at this
    rw [← hU]; exact this
  have hTU : TabOK U := HT.out.of_below (hUb.mono (by omega))
  clear hU
  refine rf_enter (F := Fence.wide) (n := 8) (gf := 87) rfl (by omega) rfl trivial iter_enters
    (fun Z => ∃ v, Z.heap[H]? = some (.cells #[.int .i64 0, .int .i64 0] 76 (0, 0)) ∧ Z.heap[H + 1]? = some (.cells #[v] 24 (0, 0)) ∧ Z.heap[H + 5]? = some (.deferred (some [])) ∧ Z.ownsRow (H + 7) 53 6 v (S.tokens (bytesOf src)).length (tksL (S.tokens (bytesOf src))) ∧ Below H w Z ∧ Z.heap[H + 2]? = some (.cells (errV (S.scan (bytesOf src)).err) 76 (0, 0)))
    (fun _ => False) ?hcall ?hready ?hdone
  case hdone => rintro Z r _ h; exact h.elim
  case hcall =>
    intro fn rd X hfn hrd hXs hXB x7 x8
    rw [hUs] at hXs hXB x7 x8 ⊢
    have hkx : ∀ k, k < H + 5 → X.heap[k]? = U.heap[k]? := fun k hk => hXB.block k (by omega)
    have hJ0 : TkJ w H rd [] (TkF H (.slice none 0 0)) X := ⟨_, rfl, (hkx _ (by omega)).trans u0, (hkx _ (by omega)).trans u1, x7, x8, World.ownsRow_nil _ _ _ _, hUb.trans (hXB.mono (by omega))⟩
    have C : Client (H + 6) 5 (TkJ w H rd) := by
      refine ⟨?_, ?_, ?_⟩
      · rintro pre F W W' ⟨v, rfl, hI⟩ hb
        exact ⟨v, rfl, hI.keep hb⟩
      · rintro pre F W ⟨v, rfl, hI⟩ k hk
        have hlw := hI.lw
        rcases hk with e | e | e | e | e | e
        · omega
        · omega
        · omega
        · omega
        · omega
        · exact (hI.own.lt k e).2
      · rintro pre F W base v cl ⟨vo, rfl, hI⟩ hown hne hdis hlen
        obtain ⟨g2, c2, rfl⟩ : ∃ g2 c2, v = .slice (some ⟨g2, 0, none⟩) cl.length c2 := by
          rcases hown.2 with ⟨_, e2⟩ | ⟨g, cap, cs, e, _⟩
          · exact absurd (List.length_eq_zero_iff.1 e2) hne
          · exact ⟨_, _, e⟩
        refine rf_round (l := H + 6) hrd trivial hI.lop rfl ?_
        have HRD := Aside0.mk hrd
        clear hrd
        gi_wp2
        refine ⟨hI.lop, ?_⟩
        have HRF : Aside0 (∀ r2 : Loop, r2 = { rd with state := LoopState.busy } → ({ r2 with state := .ready, pending := none } : Loop) = rd) := ⟨fun r2 e => by rw [e, HRD.out]; rfl⟩
        generalize hrb : ({ rd with state := LoopState.busy } : Loop) = rb
        have HRB := Aside0.mk (HRF.out rb hrb.symm)
        have HI := Aside0.mk hI
        have hgr := grownBy_putObj' W (H + 6) (.loop rb)
        have hbB : But (fun k => k = H + 6) W (W.putObj (H + 6) (.loop rb)) := (But.refl (fun k => k = H + 6) W).putObj _ _ rfl
        have hge : ∀ k, vo.ownBlock = some k → H + 7 ≤ k := fun k e => (hI.own.lt k e).1
        have hoB := own_but hI.own hbB (fun k e e2 => by have := hge k e2; omega)
        have hclB := own_but hown hbB (fun k e e2 => hdis (H + 6) (.inr (.inr (.inr (.inr (.inl rfl))))) (by rw [← e]; exact e2))
        have hoc : (W.putObj (H + 6) (.loop rb)).heap[H + 1]? = some (.cells #[vo] 24 (0, 0)) := (hbB.block (H + 1) (by have := hI.lw; omega) (by omega)).trans hI.out
        have hps : (W.putObj (H + 6) (.loop rb)).heap.size = W.heap.size := World.putObj_size
        obtain ⟨PN, hPN⟩ : ∃ PN, pre.flatten.length = PN := ⟨_, rfl⟩
        have hnx := fun (w1 : World) (v' : Value) => hI.next (rb := rb) (w1 := w1) (v' := v') (cl := cl)
        rw [hPN] at hnx hoB hlen
        have HNX := Aside0.mk hnx
        clear hnx hPN
        have hlw := hI.lw
        have HOB := Aside0.mk hoB
        have HCB := Aside0.mk hclB
        have HOC := Aside0.mk hoc
        clear hrb hI HRF HRD hgr hbB hoB hclB hoc
        generalize W.putObj (H + 6) (.loop rb) = WB at *
        obtain ⟨i0, hi0, hz0, hz1, hz2⟩ := info_parts (show (Tryz.prog.info? 53).map (fun i => (i.zero, i.size, i.bytes)) = some (some (.agg zTk), 6, 56) by kernel_rfl)
        have hcl0 : 0 < cl.length := List.length_pos_iff.2 hne
        have c0 : WB.cell? ⟨H + 1, 0, none⟩ = some vo := (blk_cell HOC.out 0).trans rfl
        gi_wp2_with (gi_at_builtin; refine wpListIn_append_own_at _ rfl (.tmp 10) (.tmp 11) 24 rfl (H + 7) 53 i0 (.agg zTk) 6 56 Tryz.underlying24 hi0 hz0 hz1 hz2 rfl (by decide) vo PN (tksL pre.flatten) rfl HOB.out ⟨g2, 0, none⟩ cl.length c2 (tksL cl) rfl (tksL_length _) (fun j u hu => HCB.out.cells rfl j u hu) (fun u hu => tksL_one cl u hu) (by unfold maxLen; omega) (by omega) (by omega) ?_; intro v' w1 hown' hgrow _ hat; obtain ⟨g', cap', rfl, _, _⟩ := hown'.form (by omega); have e1 := blk_cell (TkI.cb hgrow HOC.out (fun k e => by have := hge k e; omega)) 0; have q1 := blk_frozen (TkI.cb hgrow HOC.out (fun k e => by have := hge k e; omega)) 0; have HOW := Aside0.mk hown'; have HGR := Aside0.mk hgrow; have HAT := Aside0.mk hat; clear hown' hgrow hat)
        obtain ⟨n1, n2, n3, n4⟩ := HNX.out w1 (.slice (some ⟨g', 0, none⟩) (PN + cl.length) cap') HOW.out HGR.out HAT.out
        refine ⟨rb, n1, rfl, TkF H (.slice (some ⟨g', 0, none⟩) (PN + cl.length) cap'), ?_, ?_, fun k hk => ?_⟩
        · rw [HRB.out]; exact n2
        · rw [HRB.out]; exact n3
        · rcases n4 k hk with e | e
          · exact .inl e
          · exact .inr (.inl e)
    have hit := iter_in 5 (l := H + 6) (B0 := H + 3) (FB := H + 4) (fp := H + 2) (src := src) C X hsz (hTU.of_below (hXB.mono (by omega))) hJ0 (fun k hk => by
      rcases hk with e | e | e | e | e | e
      · omega
      · omega
      · omega
      · omega
      · omega
      · simp [Value.ownBlock] at e) ((hkx _ (by omega)).trans u3) ((hkx _ (by omega)).trans u4) ((hkx _ (by omega)).trans u2)
    refine hit.mono ?_
    rintro e Z ⟨hv, F', ⟨v, rfl, hI⟩, hp⟩
    exact ⟨hv, .inl ⟨hI.lop, v, hI.res, hI.out, hI.dfr, hI.own, hI.below, hp⟩⟩
  case hready =>
    rintro Z r hlt ⟨v, z0, z1, z5, zo, zb, z2⟩
    rw [hUs] at hlt ⊢
    have hb := grownBy_putObj' Z (H + 5 + 1) (.loop r)
    have hk : ∀ k, k < H + 6 → (Z.putObj (H + 5 + 1) (.loop r)).heap[k]? = Z.heap[k]? := fun k hk => World.putObj_heap_other (by omega)
    obtain ⟨ea, eb, he⟩ : ∃ ea eb, errV (S.scan (bytesOf src)).err = #[.int .i64 ea, .int .i64 eb] := by
      cases (S.scan (bytesOf src)).err with
      | none => exact ⟨_, _, rfl⟩
      | some p => exact ⟨_, _, rfl⟩
    rw [he] at z2
    have y0 := (hk H (by omega)).trans z0
    have y1 := (hk (H + 1) (by omega)).trans z1
    have y2 := (hk (H + 2) (by omega)).trans z2
    have y5 := (hk (H + 5) (by omega)).trans z5
    have yo := own_but zo ((But.refl (fun k => k = H + 5 + 1) Z).putObj (H + 5 + 1) (.loop r) rfl) (fun k e e2 => by have := (zo.lt k e2).1; omega)
    have yb : Below H w (Z.putObj (H + 5 + 1) (.loop r)) := zb.grown hb (by omega) (fun k e => by cases e; omega)
    clear hb hk z0 z1 z2 z5 zo zb u0 u1 u2 u3 u4 hUb hTU
    generalize Z.putObj (H + 5 + 1) (.loop r) = Y at *
    have Y0 := Aside0.mk y0
    have Y1 := Aside0.mk y1
    have Y5 := Aside0.mk y5
    have YO := Aside0.mk yo
    have YB := Aside0.mk yb
    have HE := Aside0.mk he
    have c1 : Y.cell? ⟨H + 1, 0, none⟩ = some v := (blk_cell y1 0).trans rfl
    have d0 : Y.cell? ⟨H + 1 + 1, 0, none⟩ = some (.int .i64 ea) := (blk_cell y2 0).trans rfl
    have d1 : Y.cell? ⟨H + 1 + 1, 1, none⟩ = some (.int .i64 eb) := (blk_cell y2 1).trans rfl
    have r0 : Y.cell? ⟨H, 0, none⟩ = some (.int .i64 0) := (blk_cell y0 0).trans rfl
    have r1 : Y.cell? ⟨H, 1, none⟩ = some (.int .i64 0) := (blk_cell y0 1).trans rfl
    have q0 := blk_frozen y0 0
    have q1 := blk_frozen y0 1
    have hu76 := Tryz.underlying76
    clear y0 y1 y2 y5 yo yb he hlt
    gi_upto_region 6 with (fail)
    refine wide_region_still_tail 3 (by kernel_rfl) (by kernel_rfl) ?_
    simp only [List.take_succ_cons, List.take_zero, List.drop_succ_cons, List.drop_zero]
    still_step
    repeat still_step
    refine wpStill_nil ?_
    gi_wp2
    have hb2 : But (fun k => k = H) Y ((Y.setCell ⟨H, 0, none⟩ (.int .i64 ea)).setCell ⟨H, 1, none⟩ (.int .i64 eb)).drew := (((But.refl (fun k => k = H) Y).set ⟨H, 0, none⟩ _ rfl).set ⟨H, 1, none⟩ _ rfl).drew
    have g0 : ((Y.setCell ⟨H, 0, none⟩ (.int .i64 ea)).setCell ⟨H, 1, none⟩ (.int .i64 eb)).drew.heap[H]? = some (.cells #[.int .i64 ea, .int .i64 eb] 76 (0, 0)) := blk_put (blk_put Y0.out 0 _ rfl) 1 _ rfl
    have hl5 : H + 5 < Y.heap.size := (Array.getElem?_eq_some_iff.1 Y5.out).1
    generalize ((Y.setCell ⟨H, 0, none⟩ (.int .i64 ea)).setCell ⟨H, 1, none⟩ (.int .i64 eb)).drew = Y2 at *
    have g5 : Y2.heap[H + 5]? = some (.deferred (some [])) := (hb2.block (H + 5) hl5 (by omega)).trans Y5.out
    have go := own_but YO.out hb2 (fun k e e2 => by have := (YO.out.lt k e2).1; omega)
    have gb : Below H w Y2 := YB.out.trans (hb2.belowB (by omega) (fun k hk => by omega))
    refine ⟨by simp, .inl ⟨_, _, rfl, run_takeDeferred g5, ?_⟩⟩
    have hp5 : But (fun k => k = H + 5) Y2 (Y2.putObj (H + 5) (.deferred none)) := (But.refl (fun k => k = H + 5) Y2).putObj _ _ rfl
    refine ⟨_, results_tc (fn := Tryz.f51) rfl _ _ H 76 #[.int .i64 ea, .int .i64 eb] (0, 0) _ v rfl rfl ((World.putObj_heap_other (by omega)).trans g0) Tryz.underlying76 rfl (by kernel_rfl), v, ?_, ?_, ?_⟩
    · rw [HE.out]
    · rw [hH]
      have := own_but go hp5 (fun k e e2 => by have := (go.lt k e2).1; omega)
      exact own_lower this (by omega)
    · rw [hH]
      exact gb.trans (hp5.belowB (by have := gb.size; have := hb2.size; omega) (fun k hk => by omega))
end Go.Proofs.YtkkpjonfaflkmaaGreatDoor.T

namespace Go.Proofs.YtkkpjonfaflkmaaGreatDoor.T
set_option linter.unusedSimpArgs false
open Go.RowKit Go.Proofs.YtkkpjonfaflkmaaGreatDoorW.PrintWords Go.Proofs.YtkkpjonfaflkmaaGreatDoorW.PrintLast Go.Proofs.YtkkpjonfaflkmaaGreatDoorW.PrintMore
attribute [local go_sem] max2_int min2_int max_two min_two max_three min_three max_four min_four   -- for this text's walks alone
set_option linter.unusedVariables false
set_option linter.unusedSimpArgs false
def scan_limited.f (a0 : ByteArray) : Option (Int) := if (a0.size : Int) > 20000 then (some 3) else (some 0)
set_option maxHeartbeats 8000000 in
set_option maxRecDepth 100000 in
theorem scan_limited.calls (a0 : ByteArray) (r : Int) (w : World) (h : scan_limited.f a0 = some r) :
    Calls Tryz.prog 50 #[.string a0] w fun e w' => e = .returned (.int .i64 r) ∧ Drawn0 w w' := by
  have H : (if (a0.size : Int) > 20000 then (some 3) else (some 0)) = some r := h
  clear h
  by_cases c2 : (a0.size : Int) > 20000
  · rw [if_pos c2] at H
    have c2b0 : decide (20000 < (a0.size : Int)) = true := decide_eq_true c2
    have c2b1 : decide (20000 < a0.size) = true := decide_eq_true (by omega)
    clear c2
    obtain rfl := Option.some.inj H
    go_enter Tryz.func50, Tryz.ntmps50
    go_wp2
    go_ret
    exact ⟨by first | rfl | (simp; done) | (simp [*]; done), by repeat (first | exact Drawn0.refl _ | apply Drawn0.step)⟩
  · rw [if_neg c2] at H
    have c2b0 : decide (20000 < (a0.size : Int)) = false := decide_eq_false c2
    have c2b1 : decide (20000 < a0.size) = false := decide_eq_false (by omega)
    clear c2
    obtain rfl := Option.some.inj H
    go_enter Tryz.func50, Tryz.ntmps50
    go_wp2
    go_ret
    exact ⟨by first | rfl | (simp; done) | (simp [*]; done), by repeat (first | exact Drawn0.refl _ | apply Drawn0.step)⟩
end Go.Proofs.YtkkpjonfaflkmaaGreatDoor.T

namespace Go.Proofs.YtkkpjonfaflkmaaGreatDoor.T
set_option linter.unusedSimpArgs false
set_option linter.unusedVariables false
open Go.RowKit Go.Maps Go.Proofs.YtkkpjonfaflkmaaGreatDoorW.PrintWords Go.Proofs.YtkkpjonfaflkmaaGreatDoorW.PrintLast Go.Proofs.YtkkpjonfaflkmaaGreatDoorW.PrintMore
def errC (o : Option (Nat × Nat)) : Int := match o with | none => 0 | some p => p.1
def errL (o : Option (Nat × Nat)) : Int := match o with | none => 0 | some p => p.2
theorem errV_eq (o : Option (Nat × Nat)) : errV o = #[.int .i64 (errC o), .int .i64 (errL o)] := by
  cases o with
  | none => rfl
  | some p => rfl
theorem results_tmp4 {fn : Func} {t u v x : Tmp} (h : fn.results = #[.tmp t, .tmp u, .tmp v, .tmp x]) (tmps : Array Value) (P : Program) (w : World) :
    (results fn tmps).run P w = .ok (.tuple #[tmps.getD t undef, tmps.getD u undef, tmps.getD v undef, tmps.getD x undef]) w := by
  simp [results, h, Sem.run_bind, Sem.run_pure, Result.andThen]
def scan_Tokens.f (a0 : ByteArray) : Option (List S53 × Int × Int × Int) :=
  if a0.size ≤ 20000 then
    (if errC (S.scan (bytesOf a0)).err = 0 then some ((S.tokens (bytesOf a0)).map toS, 0, 0, 0) else some ((S.tokens (bytesOf a0)).map toS, errC (S.scan (bytesOf a0)).err, errL (S.scan (bytesOf a0)).err, 7))
  else some ([], 0, 0, 3)
set_option maxRecDepth 100000 in
set_option maxHeartbeats 4000000 in
theorem scan_Tokens.calls (a0 : ByteArray) (r1 : List S53) (r2 r3 r4 : Int) (w : World) (hT : TabOK w) (h : scan_Tokens.f a0 = some (r1, r2, r3, r4)) :
    Calls Tryz.prog 17 #[.string a0] w fun e w' => ∃ v0 : Value, e = .returned (.tuple #[v0, .int .i64 r2, .int .i64 r3, .int .i64 r4]) ∧ Kd.R k53 53 w' w.heap.size (fun _ => True) v0 r1 ∧ Below w.heap.size w w' := by
  have HT := Aside0.mk hT
  clear hT
  by_cases hs : a0.size ≤ 20000
  · have hlim := scan_limited.calls a0 0 w (by unfold scan_limited.f; rw [if_neg (by omega)])
    have HLM := Lib.hid hlim
    have htk := fun q => scan_tokens_m.calls a0 (w.drewN q) (by omega) (HT.out.of_below (pw_below_drewN (Below.refl _ _) q))
    unfold scan_Tokens.f at h
    rw [if_pos hs] at h
    obtain ⟨c, hc⟩ : ∃ c, errC (S.scan (bytesOf a0)).err = c := ⟨_, rfl⟩
    obtain ⟨ln, hln⟩ : ∃ ln, errL (S.scan (bytesOf a0)).err = ln := ⟨_, rfl⟩
    obtain ⟨ts, hts⟩ : ∃ ts, S.tokens (bytesOf a0) = ts := ⟨_, rfl⟩
    simp only [errV_eq, hc, hln, hts] at htk h
    have HTK := Lib.hid htk
    clear hlim htk hc hln hts
    have hu76 := Tryz.underlying76
    go_enter Tryz.func17, Tryz.ntmps17
    go_upto_region 5 with (first | (go_at_call 50; refine HLM.out.mono ?_; rintro e w' ⟨rfl, ⟨⟨q, rfl⟩⟩⟩) | (go_at_call 51; refine (HTK.out _).mono ?_; rintro e w3 ⟨v, rfl, hown, hb⟩))
    have ha : Below w3.heap.size w3 (w3.alloc (.cells #[.int .i64 c, .int .i64 ln] 76)) := below_alloc (Below.refl _ _) _
    have hn := heap_alloc_new w3 (.cells #[.int .i64 c, .int .i64 ln] 76)
    have hR : Kd.R k53 53 (w3.alloc (.cells #[.int .i64 c, .int .i64 ln] 76)) w.heap.size (fun _ => True) v (ts.map toS) := tks_R (own_but hown ((But.refl (fun _ => False) w3).alloc _) (fun _ e => e.elim))
    have hB : Below w.heap.size w (w3.alloc (.cells #[.int .i64 c, .int .i64 ln] 76)) := (Below.trans (pw_below_drewN (Below.refl _ _) q) hb).trans (ha.mono (by have := hb.size; exact this))
    obtain ⟨T, hTz⟩ : ∃ T, w3.heap.size = T := ⟨_, rfl⟩
    rw [hTz] at hn
    try rw [hTz]
    have HR := Aside0.mk hR
    have HB := Aside0.mk hB
    clear ha hR hB hown hb hTz
    generalize w3.alloc (.cells #[.int .i64 c, .int .i64 ln] 76) = W at *
    have c0 : W.cell? ⟨T, 0, none⟩ = some (.int .i64 c) := (blk_cell hn 0).trans rfl
    have c1 : W.cell? ⟨T, 1, none⟩ = some (.int .i64 ln) := (blk_cell hn 1).trans rfl
    by_cases hc0 : c = 0
    · subst hc0
      rw [if_pos rfl] at h
      simp only [Option.some.injEq, Prod.mk.injEq] at h
      obtain ⟨rfl, rfl, rfl, rfl⟩ := h
      go_wp2
      refine bodyPost_ret (results_tmp4 rfl _ _ _) rfl ?_
      exact ⟨_, rfl, HR.out, HB.out⟩
    · have g0 : (c != 0) = true := bne_iff_ne.2 hc0
      rw [if_neg hc0] at h
      simp only [Option.some.injEq, Prod.mk.injEq] at h
      obtain ⟨rfl, rfl, rfl, rfl⟩ := h
      go_upto_region 6 with (fail)
      go_quiet (fail)
      go_wp2
      refine bodyPost_ret (results_tmp4 rfl _ _ _) rfl ?_
      exact ⟨_, rfl, Kd.R_drewN HR.out _, HB.out.trans (pw_below_drewN (Below.refl _ _) _)⟩
  · have hlim := scan_limited.calls a0 3 w (by unfold scan_limited.f; rw [if_pos (by omega)])
    have HLM := Lib.hid hlim
    unfold scan_Tokens.f at h
    rw [if_neg hs] at h
    simp only [Option.some.injEq, Prod.mk.injEq] at h
    obtain ⟨rfl, rfl, rfl, rfl⟩ := h
    clear hlim
    go_enter Tryz.func17, Tryz.ntmps17
    go_wp2_with (go_at_call 50; refine HLM.out.mono ?_; rintro e w' ⟨rfl, ⟨⟨q, rfl⟩⟩⟩)
    refine bodyPost_ret (results_tmp4 rfl _ _ _) rfl ?_
    exact ⟨_, rfl, Kd.R_nil _ _ _ _ _, pw_below_drewN (Below.refl _ _) _⟩
end Go.Proofs.YtkkpjonfaflkmaaGreatDoor.T

namespace Go.Proofs.YtkkpjonfaflkmaaGreatDoor.S
set_option linter.unusedSimpArgs false
set_option linter.unusedVariables false
def dbl (q : Int) (l : List Int) : List Int := l.flatMap fun c => if c = q then [q, q] else [c]
def qOf (l : List Int) : Int := if l.count 34 < l.count 39 then 34 else 39
def quote (l : List Int) : List Int := qOf l :: (dbl (qOf l) l ++ [qOf l])
theorem qOf_or (l : List Int) : qOf l = 34 ∨ qOf l = 39 := by unfold qOf; split; exact .inl rfl; exact .inr rfl
theorem dbl_cons (q c : Int) (l : List Int) : dbl q (c :: l) = (if c = q then [q, q] else [c]) ++ dbl q l := rfl
theorem dbl_mem {q : Int} {P : Int → Prop} (hq : P q) {l : List Int} (h : ∀ x ∈ l, P x) : ∀ x ∈ dbl q l, P x := by
  intro x hx
  obtain ⟨c, hc, hx⟩ := List.mem_flatMap.1 hx
  by_cases e : c = q
  · rw [if_pos e] at hx
    simp only [List.mem_cons, List.not_mem_nil, or_false, or_self] at hx
    rw [hx]; exact hq
  · rw [if_neg e] at hx
    rw [List.mem_singleton.1 hx]; exact h c hc
theorem dbl_length (q : Int) : ∀ l : List Int, (dbl q l).length = l.length + l.count q
  | [] => rfl
  | c :: l => by
    rw [dbl_cons, List.length_append, dbl_length q l, List.length_cons, List.count_cons]
    by_cases e : c = q
    · rw [if_pos e, if_pos (by simpa using e)]; simp; omega
    · rw [if_neg e, if_neg (by simpa using e)]; simp; omega
theorem quote_length (l : List Int) : (quote l).length = l.length + l.count (qOf l) + 2 := by
  unfold quote
  rw [List.length_cons, List.length_append, dbl_length]; simp
theorem quote_bytes {l : List Int} (h : ∀ x ∈ l, 0 ≤ x ∧ x < 256) : ∀ x ∈ quote l, 0 ≤ x ∧ x < 256 := by
  have hq : 0 ≤ qOf l ∧ qOf l < 256 := by rcases qOf_or l with e | e <;> rw [e] <;> omega
  intro x hx
  unfold quote at hx
  rcases List.mem_cons.1 hx with e | e
  · rw [e]; exact hq
  · rcases List.mem_append.1 e with e | e
    · exact dbl_mem hq h x e
    · rw [List.mem_singleton.1 e]; exact hq
end Go.Proofs.YtkkpjonfaflkmaaGreatDoor.S

namespace Go.Proofs.YtkkpjonfaflkmaaGreatDoor.T
set_option linter.unusedSimpArgs false
set_option linter.unusedVariables false
open Go.RowKit Go.Proofs.YtkkpjonfaflkmaaGreatDoorW.PrintWords Go.Proofs.YtkkpjonfaflkmaaGreatDoorW.PrintLast Go.Proofs.YtkkpjonfaflkmaaGreatDoorW.PrintMore
theorem ixq_self (q : UInt8) (t : List UInt8) : Lib.index (q :: t) [q] = 0 := by simp [Lib.index]
theorem ixq_other (q b : UInt8) (t : List UInt8) (h : b ≠ q) : Lib.index (b :: t) [q] = if Lib.index t [q] == -1 then -1 else Lib.index t [q] + 1 := by
  rw [Lib.index, if_neg]
  simp
  exact fun e => h e.symm
theorem rkq_other (q : UInt8) (v : List UInt8) (b : UInt8) (t : List UInt8) (h : b ≠ q) : ∀ k, Lib.replaceK [q] v k (b :: t) = b :: Lib.replaceK [q] v k t
  | 0 => rfl
  | k + 1 => by
    have hg := Lib.index_ge t [q]
    rw [Lib.replaceK, Lib.replaceK, ixq_other q b t h]
    by_cases e : Lib.index t [q] = -1
    · rw [e]; rfl
    · obtain ⟨i, hi⟩ : ∃ i : Nat, Lib.index t [q] = i := ⟨(Lib.index t [q]).toNat, by omega⟩
      have c1 : ((i : Int) == -1) = false := beq_eq_false_iff_ne.mpr (by omega)
      have c2 : ((i : Int) + 1 == -1) = false := beq_eq_false_iff_ne.mpr (by omega)
      rw [hi]
      simp only [c1, Bool.false_eq_true, if_false, c2]
      rw [show ((i : Int) + 1).toNat = i + 1 by omega, Int.toNat_natCast, show i + 1 + [q].length = (i + [q].length) + 1 by simp]
      rfl
theorem rkq_all (q : UInt8) : ∀ l : List UInt8, Lib.replaceK [q] [q, q] (l.count q) l = l.flatMap fun c => if c = q then [q, q] else [c]
  | [] => rfl
  | b :: t => by
    by_cases h : b = q
    · subst h
      rw [List.count_cons_self, Lib.replaceK_hit [b] [b, b] (t.count b) (b :: t) 0 (ixq_self b t)]
      simp only [List.take_zero, List.nil_append, List.length_cons, List.length_nil, List.drop_succ_cons, List.drop_zero, List.flatMap_cons, if_true]
      rw [rkq_all b t]
    · rw [List.count_cons_of_ne (fun e => h e), rkq_other q _ b t h, rkq_all q t, List.flatMap_cons, if_neg h]; rfl
theorem replaceAll_q (q : UInt8) (l : List UInt8) : Lib.replaceAll l [q] [q, q] = l.flatMap fun c => if c = q then [q, q] else [c] := by
  rw [Lib.replaceAll, Lib.replace, if_neg (by simp), Lib.replaceNum, if_pos (.inl (by decide)), Lib.count_one]
  exact rkq_all q l
theorem nums_dbl (q : UInt8) (l : List UInt8) : nums (l.flatMap fun c => if c = q then [q, q] else [c]) = S.dbl (q.toNat : Int) (nums l) := by
  induction l with
  | nil => rfl
  | cons b t ih =>
    rw [List.flatMap_cons]
    have : nums (b :: t) = (b.toNat : Int) :: nums t := rfl
    rw [this, S.dbl_cons, ← ih]
    by_cases h : b = q
    · subst h; rw [if_pos rfl, if_pos rfl]; rfl
    · rw [if_neg h, if_neg (fun e => h (u8_inj e))]; rfl
def scan_literal.f (a0 : ByteArray) : Option ByteArray := if a0.size ≤ 20000 then some (strOfNums (S.quote (bytesOf a0))) else none
theorem countB_one (a0 : ByteArray) (c : UInt8) : Lib.countB a0 ⟨#[c]⟩ = a0.data.toList.count c := by
  unfold Lib.countB
  exact Lib.count_one c _
theorem quote_q {a0 : ByteArray} {q : UInt8} (hq : (q.toNat : Int) = S.qOf (bytesOf a0)) :
    ((⟨#[q]⟩ : ByteArray) ++ (⟨(Lib.replaceAll a0.data.toList [q] [q, q]).toArray⟩ : ByteArray)) ++ (⟨#[q]⟩ : ByteArray) = strOfNums (S.quote (bytesOf a0)) := by
  apply bytesOf_inj
  rw [bytesOf_str _ (S.quote_bytes (bo_range a0)), bytesOf_append, bytesOf_append, replaceAll_q]
  unfold S.quote
  rw [← hq]
  have e1 : bytesOf (⟨#[q]⟩ : ByteArray) = [(q.toNat : Int)] := rfl
  have e2 : bytesOf (⟨(a0.data.toList.flatMap fun c => if c = q then [q, q] else [c]).toArray⟩ : ByteArray) = S.dbl (q.toNat : Int) (bytesOf a0) := by
    rw [bytesOf_nums, bytesOf_nums, ← nums_dbl]
  rw [e1, e2]
  rfl
set_option maxRecDepth 100000 in
set_option maxHeartbeats 4000000 in
theorem scan_literal.calls (a0 : ByteArray) (r : ByteArray) (w : World) (hT : TabOK w) (h : scan_literal.f a0 = some r) :
    Calls Tryz.prog 66 #[.string a0] w fun e w' => e = .returned (.string r) ∧ Below w.heap.size w w' := by
  unfold scan_literal.f at h
  by_cases hs : a0.size ≤ 20000
  · rw [if_pos hs] at h
    obtain rfl := Option.some.inj h
    have hcl : ∀ c : UInt8, a0.data.toList.count c ≤ a0.size := fun c => by rw [← data_length]; exact List.count_le_length
    have HC1 := strings_Count.calls a0 ⟨#[34]⟩ _ w rfl
    have HC2 := fun q => strings_Count.calls a0 ⟨#[39]⟩ _ (World.drewN w q) rfl
    have hq1 : (bytesOf a0).count 34 = a0.data.toList.count 34 := by rw [bytesOf_nums]; exact nums_count _ 34
    have hq2 : (bytesOf a0).count 39 = a0.data.toList.count 39 := by rw [bytesOf_nums]; exact nums_count _ 39
    have cb1 : Lib.countByte a0.data.toList 34 = ((bytesOf a0).count 34 : Int) := by rw [hq1]; rfl
    have cb2 : Lib.countByte a0.data.toList 39 = ((bytesOf a0).count 39 : Int) := by rw [hq2]; rfl
    rw [cb1] at HC1
    rw [cb2] at HC2
    obtain ⟨x, hx⟩ : ∃ x, (bytesOf a0).count 34 = x := ⟨_, rfl⟩
    obtain ⟨y, hy⟩ : ∃ y, (bytesOf a0).count 39 = y := ⟨_, rfl⟩
    rw [hx] at HC1
    rw [hy] at HC2
    have HD1 := Lib.hid HC1
    have HD2 := Lib.hid HC2
    have HT := Aside0.mk hT
    have hcb : ∀ c : UInt8, Lib.countB a0 ⟨#[c]⟩ ≤ 20000 := fun c => by rw [countB_one]; have := hcl c; omega
    have key : ∀ q : UInt8, (q.toNat : Int) = S.qOf (bytesOf a0) → ∃ R : ByteArray, R.size ≤ 100000 ∧ ((⟨#[q]⟩ : ByteArray) ++ R) ++ (⟨#[q]⟩ : ByteArray) = strOfNums (S.quote (bytesOf a0)) ∧ ∀ W, TabOK W → Calls Tryz.prog 105 #[.string a0, .string ⟨#[q]⟩, .string ((⟨#[q]⟩ : ByteArray) ++ (⟨#[q]⟩ : ByteArray))] W fun e w' => e = .returned (.string R) ∧ Below W.heap.size W w' := fun q hq => by
      refine ⟨⟨(Lib.replaceAll a0.data.toList [q] [q, q]).toArray⟩, ?_, quote_q hq, fun W hW => strings_ReplaceAll.calls _ _ _ _ W hW ?_⟩
      · rw [replaceAll_q]
        have e : (a0.data.toList.flatMap fun c => if c = q then [q, q] else [c]).length = (nums (a0.data.toList.flatMap fun c => if c = q then [q, q] else [c])).length := by simp [nums]
        show (List.toArray _).size ≤ _
        rw [List.size_toArray, e, nums_dbl, S.dbl_length]
        have h1 : (nums a0.data.toList).count (q.toNat : Int) ≤ (nums a0.data.toList).length := List.count_le_length
        have h2 : (nums a0.data.toList).length = a0.size := by simp only [nums, List.length_map]; exact data_length a0
        omega
      · have e : ((⟨#[q]⟩ : ByteArray) ++ (⟨#[q]⟩ : ByteArray)) = ⟨#[q, q]⟩ := by apply bytesOf_inj; rw [bytesOf_append]; rfl
        rw [e]
        unfold strings_ReplaceAll.f
        have h1 : (⟨#[q, q]⟩ : ByteArray).size = 2 := rfl
        have h2 : (⟨#[q]⟩ : ByteArray).size = 1 := rfl
        have := hcb q
        rw [if_pos ⟨by omega, by rw [h2]; exact Nat.le_refl _, by rw [h1]; omega⟩]
    clear hT HC1 HC2 hcl hq1 hq2 cb1 cb2 hcb hs
    have HX : Aside0 (S.qOf (bytesOf a0) = if x < y then 34 else 39) := ⟨by unfold S.qOf; rw [hx, hy]⟩
    clear hx hy
    generalize strOfNums (S.quote (bytesOf a0)) = res at *
    by_cases hlt : x < y
    · have g1 : decide ((x : Int) < (y : Int)) = true := decide_eq_true (by omega)
      have g2 : decide (x < y) = true := decide_eq_true hlt
      obtain ⟨R, hR, hRe, hRc⟩ := key 34 (by rw [HX.out, if_pos hlt]; rfl)
      have HR := Lib.hid hRc
      have HRE := Aside0.mk hRe
      clear key hRc hRe hlt HX
      have z1 : (9223372036854775807 < 1 + R.size) = False := eq_false (by omega)
      have z2 : (1 + R.size ≤ 9223372036854775807) = True := eq_true (by omega)
      have hsz : ((⟨#[34]⟩ : ByteArray) ++ R).size = 1 + R.size := by rw [ByteArray.size_append]; rfl
      have z3 : (9223372036854775807 < ((⟨#[34]⟩ : ByteArray) ++ R).size + 1) = False := eq_false (by omega)
      have z4 : (((⟨#[34]⟩ : ByteArray) ++ R).size + 1 ≤ 9223372036854775807) = True := eq_true (by omega)
      clear hsz
      go_enter Tryz.func66, Tryz.ntmps66
      go_wp2_with (first | (go_at_call 77; with_reducible refine HD1.out.mono ?_; rintro e w' ⟨rfl, ⟨⟨q, rfl⟩⟩⟩) | (go_at_call 77; with_reducible refine (HD2.out _).mono ?_; rintro e w' ⟨rfl, ⟨⟨q2, rfl⟩⟩⟩) | (go_at_call 105; refine (HR.out _ (HT.out.of_below (pw_below_drewN (Below.refl _ _) _))).mono ?_; rintro e w3 ⟨rfl, hb3⟩))
      rw [HRE.out]
      go_ret
      have hb4 : Below w.heap.size w (w.drewN (q + q2)) := pw_below_drewN (Below.refl _ _) _
      exact ⟨rfl, hb4.trans hb3⟩
    · have g1 : decide ((x : Int) < (y : Int)) = false := decide_eq_false (by omega)
      have g2 : decide (x < y) = false := decide_eq_false hlt
      obtain ⟨R, hR, hRe, hRc⟩ := key 39 (by rw [HX.out, if_neg hlt]; rfl)
      have HR := Lib.hid hRc
      have HRE := Aside0.mk hRe
      clear key hRc hRe hlt HX
      have z1 : (9223372036854775807 < 1 + R.size) = False := eq_false (by omega)
      have z2 : (1 + R.size ≤ 9223372036854775807) = True := eq_true (by omega)
      have hsz : ((⟨#[39]⟩ : ByteArray) ++ R).size = 1 + R.size := by rw [ByteArray.size_append]; rfl
      have z3 : (9223372036854775807 < ((⟨#[39]⟩ : ByteArray) ++ R).size + 1) = False := eq_false (by omega)
      have z4 : (((⟨#[39]⟩ : ByteArray) ++ R).size + 1 ≤ 9223372036854775807) = True := eq_true (by omega)
      clear hsz
      go_enter Tryz.func66, Tryz.ntmps66
      go_wp2_with (first | (go_at_call 77; with_reducible refine HD1.out.mono ?_; rintro e w' ⟨rfl, ⟨⟨q, rfl⟩⟩⟩) | (go_at_call 77; with_reducible refine (HD2.out _).mono ?_; rintro e w' ⟨rfl, ⟨⟨q2, rfl⟩⟩⟩) | (go_at_call 105; refine (HR.out _ (HT.out.of_below (pw_below_drewN (Below.refl _ _) _))).mono ?_; rintro e w3 ⟨rfl, hb3⟩))
      rw [HRE.out]
      go_ret
      have hb4 : Below w.heap.size w (w.drewN (q + q2)) := pw_below_drewN (Below.refl _ _) _
      exact ⟨rfl, hb4.trans hb3⟩
  · rw [if_neg hs] at h; cases h
end Go.Proofs.YtkkpjonfaflkmaaGreatDoor.T

namespace Go.Proofs.YtkkpjonfaflkmaaGreatDoor.T
set_option linter.unusedSimpArgs false
open Go.RowKit Go.Proofs.YtkkpjonfaflkmaaGreatDoorW.PrintWords Go.Proofs.YtkkpjonfaflkmaaGreatDoorW.PrintLast Go.Proofs.YtkkpjonfaflkmaaGreatDoorW.PrintMore
attribute [local go_sem] max2_int min2_int max_two min_two max_three min_three max_four min_four   -- for this text's walks alone
set_option linter.unusedVariables false
set_option linter.unusedSimpArgs false
def scan_kind.j0 : Nat → ByteArray → Int → Bool → Option (Int)
  | 0, _, _, _ => none
  | k + 1, x0, x3, x6 => if x6 = true then (some 1) else (if x3 = 0 then (some 2) else (if x3 = 1 then (if 0 ≤ (wrap64 ((x0.size : Int) - 1)) then (if (wrap64 ((x0.size : Int) - 1)) < (x0.size : Int) then (if (bt x0 (wrap64 ((x0.size : Int) - 1))) = 46 then (some 3) else (some 4)) else (none)) else (none)) else (some 4)))
def scan_kind.f (k : Nat) (a0 : ByteArray) : Option (Int) := (strings_Count.f a0 (⟨#[46]⟩ : ByteArray)).bind fun t134 => (if 0 < (a0.size : Int) then ((scan_digit.f (bt a0 0)).bind fun t135 => (if t135 = true then (scan_kind.j0 k a0 t134 true) else (scan_kind.j0 k a0 t134 ((bt a0 0) == 46)))) else (none))
theorem scan_kind.mono_l : ∀ k, (∀ y0 y1 y2, LeO (scan_kind.j0 k y0 y1 y2) (scan_kind.j0 (k + 1) y0 y1 y2))
  | 0 => fun _ _ _ r h => by simp [scan_kind.j0] at h
  | k + 1 => by
    have ih0 := scan_kind.mono_l k
    · intro y0 y1 y2
      unfold scan_kind.j0
      repeat' first
      | (with_reducible exact ih0 _ _ _)
      | (with_reducible exact LeO.refl _)
      | (with_reducible exact LeO.none _)
      | (with_reducible refine LeO.ite ?_ ?_)
      | (with_reducible refine LeO.bind ?_ (fun _ => ?_))
      | exact ih0 _ _ _
      | exact LeO.none _
      | refine LeO.ite ?_ ?_
      | refine LeO.bind ?_ (fun _ => ?_)
theorem scan_kind.mono : ∀ a0 k, LeO (scan_kind.f k a0) (scan_kind.f (k + 1) a0) := by
  intro a0 k
  have ih0 := scan_kind.mono_l k
  unfold scan_kind.f
  repeat' first
      | (with_reducible exact ih0 _ _ _)
      | (with_reducible exact LeO.refl _)
      | (with_reducible exact LeO.none _)
      | (with_reducible refine LeO.ite ?_ ?_)
      | (with_reducible refine LeO.bind ?_ (fun _ => ?_))
      | exact ih0 _ _ _
      | exact LeO.none _
      | refine LeO.ite ?_ ?_
      | refine LeO.bind ?_ (fun _ => ?_)
set_option maxHeartbeats 8000000 in
set_option maxRecDepth 100000 in
theorem scan_kind.calls (k : Nat) (a0 : ByteArray) (r : Int) (w : World) (h : scan_kind.f k a0 = some r) :
    Calls Tryz.prog 57 #[.string a0] w fun e w' => e = .returned (.int .i64 r) ∧ Drawn0 w w' := by
  have H : ((strings_Count.f a0 (⟨#[46]⟩ : ByteArray)).bind fun t134 => (if 0 < (a0.size : Int) then ((scan_digit.f (bt a0 0)).bind fun t135 => (if t135 = true then (scan_kind.j0 k a0 t134 true) else (scan_kind.j0 k a0 t134 ((bt a0 0) == 46)))) else (none))) = some r := h
  clear h
  replace H := Option.bind_eq_some_iff.mp H
  obtain ⟨t134, A20, H⟩ := H
  replace H : (if 0 < (a0.size : Int) then ((scan_digit.f (bt a0 0)).bind fun t135 => (if t135 = true then (scan_kind.j0 k a0 t134 true) else (scan_kind.j0 k a0 t134 ((bt a0 0) == 46)))) else (none)) = some r := H
  have A2 := Aside0.mk A20
  clear A20
  have HC3 := Aside0.mk H
  clear H
  go_enter Tryz.func57, Tryz.ntmps57
  go_upto_region 2 with (first | ((with_reducible refine gate_callee (f := 77) rfl ?_); refine goesL_ (some 5) rfl rfl Tryz.func77 (by kernel_rfl) rfl #[.string a0, .string (⟨#[46]⟩ : ByteArray)] rfl (by (try simp only [List.map_toArray, List.map_cons, List.map_nil]); first | done | rfl | (simp only [List.length_drop, List.length_take]; rfl)) ?_; (with_reducible refine (strings_Count.calls a0 (⟨#[46]⟩ : ByteArray) t134 _ A2.out).mono ?_); rintro e w' ⟨rfl, ⟨nd, rfl⟩⟩; refine ⟨_, rfl, ?_⟩))
  (try simp only [Act.put, List.setIfInBounds_toArray, List.set_cons_zero, List.set_cons_succ])
  go_cut [6] (fun v6 wc => ∃ (kq : Nat) (x6_2 : Bool), v6 = .bool x6_2 ∧ Aside0 (scan_kind.j0 kq a0 t134 x6_2 = some r) ∧ Aside0 (kq ≤ k) ∧ Drawn0 w wc)
  case first =>
    have H := HC3.out
    clear HC3
    by_cases c4 : 0 < (a0.size : Int)
    · rw [if_pos c4] at H
      have c4b0 : decide (0 < (a0.size : Int)) = true := decide_eq_true c4
      have c4b1 : decide (0 < a0.size) = true := decide_eq_true (by omega)
      clear c4
      (first | rw [c4b0] | (simp only [i64_w, i32_w]; rw [c4b0]) | skip)
      replace H := Option.bind_eq_some_iff.mp H
      obtain ⟨t135, A60, H⟩ := H
      replace H : (if t135 = true then (scan_kind.j0 k a0 t134 true) else (scan_kind.j0 k a0 t134 ((bt a0 0) == 46))) = some r := H
      have A6 := Aside0.mk A60
      clear A60
      by_cases c7 : t135 = true
      · subst c7
        have H1 : (scan_kind.j0 k a0 t134 true) = some r := by rw [if_pos rfl] at H; exact H
        clear H
        have H := H1
        clear H1
        have H' := Aside0.mk H
        clear H
        have p5 : 0 ≤ (0 : Int) := (by omega)
        have q5 : 0 < a0.size := (by have : (0 : Int) < (a0.size : Int) := of_decide_eq_true (by first | (with_reducible assumption) | assumption); omega)
        have hx5 : ∀ h : 0 < a0.size, ((a0[0]'h).toNat : Int) = bt a0 0 := bt_at a0 0
        clear p5
        have qi5 : (0 < (a0.size : Int)) = True := eq_true (of_decide_eq_true (by first | (with_reducible assumption) | assumption))
        replace q5 := eq_true q5
        go_wp2_with (first | ((with_reducible refine gate_callee (f := 96) rfl ?_); refine goesL_ (some 9) rfl rfl Tryz.func96 (by kernel_rfl) rfl #[.int .u8 (bt a0 0)] rfl (by (try simp only [List.map_toArray, List.map_cons, List.map_nil]); first | done | rfl | (simp only [List.length_drop, List.length_take]; rfl)) ?_; (with_reducible refine (scan_digit.calls (bt a0 0) true _ A6.out).mono ?_); rintro e w' ⟨rfl, ⟨nd, rfl⟩⟩; refine ⟨_, rfl, ?_⟩))
        go_meet
        case rel => exact ⟨_, (true), (by first | rfl | (simp; done) | (simp [*]; done)), H', ⟨by first | omega | exact Nat.le_refl _⟩, by repeat (first | exact Drawn0.refl _ | apply Drawn0.step)⟩
      · replace c7 := Bool.eq_false_iff.mpr c7
        subst c7
        have H1 : (scan_kind.j0 k a0 t134 ((bt a0 0) == 46)) = some r := by rw [if_neg (show ¬ (false = true) by decide)] at H; exact H
        clear H
        have H := H1
        clear H1
        have H' := Aside0.mk H
        clear H
        have p5 : 0 ≤ (0 : Int) := (by omega)
        have q5 : 0 < a0.size := (by have : (0 : Int) < (a0.size : Int) := of_decide_eq_true (by first | (with_reducible assumption) | assumption); omega)
        have hx5 : ∀ h : 0 < a0.size, ((a0[0]'h).toNat : Int) = bt a0 0 := bt_at a0 0
        clear p5
        have qi5 : (0 < (a0.size : Int)) = True := eq_true (of_decide_eq_true (by first | (with_reducible assumption) | assumption))
        replace q5 := eq_true q5
        go_wp2_with (first | ((with_reducible refine gate_callee (f := 96) rfl ?_); refine goesL_ (some 9) rfl rfl Tryz.func96 (by kernel_rfl) rfl #[.int .u8 (bt a0 0)] rfl (by (try simp only [List.map_toArray, List.map_cons, List.map_nil]); first | done | rfl | (simp only [List.length_drop, List.length_take]; rfl)) ?_; (with_reducible refine (scan_digit.calls (bt a0 0) false _ A6.out).mono ?_); rintro e w' ⟨rfl, ⟨nd, rfl⟩⟩; refine ⟨_, rfl, ?_⟩; have p8 : 0 ≤ (0 : Int) := (by omega); have q8 : 0 < a0.size := (by have : (0 : Int) < (a0.size : Int) := of_decide_eq_true (by first | (with_reducible assumption) | assumption); omega); have hx8 : ∀ h : 0 < a0.size, ((a0[0]'h).toNat : Int) = bt a0 0 := bt_at a0 0; clear p8; have qi8 : (0 < (a0.size : Int)) = True := eq_true (of_decide_eq_true (by first | (with_reducible assumption) | assumption)); replace q8 := eq_true q8))
        go_meet
        case rel => exact ⟨_, (((bt a0 0) == 46)), (by first | rfl | (simp; done) | (simp [*]; done)), H', ⟨by first | omega | exact Nat.le_refl _⟩, by repeat (first | exact Drawn0.refl _ | apply Drawn0.step)⟩
    · rw [if_neg c4] at H
      exact absurd H (by simp)
  case rest =>
    clear HC3
    try clear p2
    try clear c4
    try clear c4b0
    try clear c4b1
    try clear c5
    try clear p5
    try clear q5
    try clear hx5
    try clear qi5
    try clear c7
    try clear p8
    try clear q8
    try clear hx8
    try clear qi8
    try clear p5
    try clear p8
    try clear q5
    try clear q8
    obtain ⟨kq, x6_2, rfl, HA, HJ2, ⟨mc2, rfl⟩⟩ := hcut
    cases kq with
    | zero => exact absurd HA.out (by simp [scan_kind.j0])
    | succ kj2 =>
      have H := HA.out
      clear HA
      simp only [scan_kind.j0] at H
      by_cases c9 : x6_2 = true
      · subst c9
        have H1 : (some 1) = some r := by rw [if_pos rfl] at H; exact H
        clear H
        have H := H1
        clear H1
        obtain rfl := Option.some.inj H
        go_wp2
        go_ret
        exact ⟨by first | rfl | (simp; done) | (simp [*]; done), by repeat (first | exact Drawn0.refl _ | apply Drawn0.step)⟩
      · replace c9 := Bool.eq_false_iff.mpr c9
        subst c9
        have H1 : (if t134 = 0 then (some 2) else (if t134 = 1 then (if 0 ≤ (wrap64 ((a0.size : Int) - 1)) then (if (wrap64 ((a0.size : Int) - 1)) < (a0.size : Int) then (if (bt a0 (wrap64 ((a0.size : Int) - 1))) = 46 then (some 3) else (some 4)) else (none)) else (none)) else (some 4))) = some r := by rw [if_neg (show ¬ (false = true) by decide)] at H; exact H
        clear H
        have H := H1
        clear H1
        by_cases c10 : t134 = 0
        · rw [if_pos c10] at H
          have c10b0 : (t134 == 0) = true := beq_iff_eq.mpr c10
          have c10b1 : (t134 != 0) = false := bne_eq_false_iff_eq.mpr c10
          clear c10
          obtain rfl := Option.some.inj H
          go_wp2
          go_ret
          exact ⟨by first | rfl | (simp; done) | (simp [*]; done), by repeat (first | exact Drawn0.refl _ | apply Drawn0.step)⟩
        · rw [if_neg c10] at H
          have c10b0 : (t134 == 0) = false := beq_eq_false_iff_ne.mpr c10
          have c10b1 : (t134 != 0) = true := bne_iff_ne.mpr c10
          by_cases c11 : t134 = 1
          · rw [if_pos c11] at H
            have c11b0 : (t134 == 1) = true := beq_iff_eq.mpr c11
            have c11b1 : (t134 != 1) = false := bne_eq_false_iff_eq.mpr c11
            clear c11
            obtain ⟨ji12, hji12⟩ : ∃ j_ : Int, (wrap64 ((a0.size : Int) - 1)) = j_ := ⟨_, rfl⟩
            replace H : (if 0 ≤ (ji12) then (if (ji12) < (a0.size : Int) then (if (bt a0 (ji12)) = 46 then (some 3) else (some 4)) else (none)) else (none)) = some r := by first | (rw [hji12] at H; exact H) | (simp only [hji12] at H ⊢; exact H)
            have hji12w : (IntKind.i64.wrap ((a0.size : Int) - 1)) = ji12 := (i64_w _).trans hji12
            by_cases c13 : 0 ≤ (ji12)
            · rw [if_pos c13] at H
              have c13b0 : decide (0 ≤ (ji12)) = true := decide_eq_true c13
              clear c13
              by_cases c14 : (ji12) < (a0.size : Int)
              · rw [if_pos c14] at H
                have c14b0 : decide ((ji12) < (a0.size : Int)) = true := decide_eq_true c14
                clear c14
                by_cases c16 : (bt a0 (ji12)) = 46
                · rw [if_pos c16] at H
                  have c16b0 : ((bt a0 (ji12)) == 46) = true := beq_iff_eq.mpr c16
                  have c16b1 : ((bt a0 (ji12)) != 46) = false := bne_eq_false_iff_eq.mpr c16
                  clear c16
                  obtain rfl := Option.some.inj H
                  have p15 : 0 ≤ ((ji12) : Int) := of_decide_eq_true (by first | (with_reducible assumption) | assumption)
                  have q15 : (ji12) < (a0.size : Int) := of_decide_eq_true (by first | (with_reducible assumption) | assumption)
                  have hx15 := bt_at a0 (ji12)
                  replace p15 := eq_true p15
                  replace q15 := eq_true q15
                  go_wp2
                  go_ret
                  exact ⟨by first | rfl | (simp; done) | (simp only [← hji12] <;> (first | rfl | simp)) | (simp [*]; done), by repeat (first | exact Drawn0.refl _ | apply Drawn0.step)⟩
                · rw [if_neg c16] at H
                  have c16b0 : ((bt a0 (ji12)) == 46) = false := beq_eq_false_iff_ne.mpr c16
                  have c16b1 : ((bt a0 (ji12)) != 46) = true := bne_iff_ne.mpr c16
                  obtain rfl := Option.some.inj H
                  have p15 : 0 ≤ ((ji12) : Int) := of_decide_eq_true (by first | (with_reducible assumption) | assumption)
                  have q15 : (ji12) < (a0.size : Int) := of_decide_eq_true (by first | (with_reducible assumption) | assumption)
                  have hx15 := bt_at a0 (ji12)
                  replace p15 := eq_true p15
                  replace q15 := eq_true q15
                  go_wp2
                  go_ret
                  exact ⟨by first | rfl | (simp; done) | (simp only [← hji12] <;> (first | rfl | simp)) | (simp [*]; done), by repeat (first | exact Drawn0.refl _ | apply Drawn0.step)⟩
              · rw [if_neg c14] at H
                exact absurd H (by simp)
            · rw [if_neg c13] at H
              exact absurd H (by simp)
          · rw [if_neg c11] at H
            have c11b0 : (t134 == 1) = false := beq_eq_false_iff_ne.mpr c11
            have c11b1 : (t134 != 1) = true := bne_iff_ne.mpr c11
            obtain rfl := Option.some.inj H
            go_wp2
            go_ret
            exact ⟨by first | rfl | (simp; done) | (simp [*]; done), by repeat (first | exact Drawn0.refl _ | apply Drawn0.step)⟩
end Go.Proofs.YtkkpjonfaflkmaaGreatDoor.T

namespace Go.Proofs.YtkkpjonfaflkmaaGreatDoor.T
set_option linter.unusedSimpArgs false
set_option linter.unusedVariables false
open Go.RowKit Go.Proofs.YtkkpjonfaflkmaaGreatDoorW.PrintWords Go.Proofs.YtkkpjonfaflkmaaGreatDoorW.PrintLast Go.Proofs.YtkkpjonfaflkmaaGreatDoorW.PrintMore
def symRes (a0 : ByteArray) : S.TR → Option (ByteArray × Int × Int)
  | .err _ => none
  | .ok t n => if n < a0.size then some (⟨#[]⟩, 0, 4) else (scan_kind.f 2 (strOfNums t)).map fun k => (strOfNums t, k, 0)
def scan_Symbol.f (a0 : ByteArray) : Option (ByteArray × Int × Int) :=
  if a0.size = 0 ∨ 40 < a0.size ∨ S.sym (bt a0 0) = false then some (⟨#[]⟩, 0, 4) else symRes a0 (S.symTok (bytesOf a0))
set_option maxRecDepth 100000 in
set_option maxHeartbeats 4000000 in
theorem scan_Symbol.calls (a0 : ByteArray) (r1 : ByteArray) (r2 r3 : Int) (w : World) (h : scan_Symbol.f a0 = some (r1, r2, r3)) :
    Calls Tryz.prog 25 #[.string a0] w fun e w' => e = .returned (.tuple #[.string r1, .int .i64 r2, .int .i64 r3]) ∧ Below w.heap.size w w' := by
  unfold scan_Symbol.f at h
  have HSE := Aside0.mk (str_empty a0)
  obtain ⟨n, hn⟩ : ∃ n, a0.size = n := ⟨_, rfl⟩
  have hlb : (bytesOf a0).length = n := by rw [bytesOf_length]; exact hn
  by_cases h0 : n = 0
  · rw [if_pos (.inl (hn.trans h0))] at h
    simp only [Option.some.injEq, Prod.mk.injEq] at h
    obtain ⟨rfl, rfl, rfl⟩ := h
    have he : (a0.toList == ([] : List UInt8)) = true := by rw [HSE.out]; exact decide_eq_true (List.length_eq_zero_iff.1 (hlb.trans h0))
    clear HSE hlb hn
    go_enter Tryz.func25, Tryz.ntmps25
    go_wp2_with fail
    refine bodyPost_ret (results_tmp3 rfl _ _ _) rfl ?_
    exact ⟨rfl, Below.refl _ _⟩
  · have he : (a0.toList == ([] : List UInt8)) = false := by rw [HSE.out]; exact decide_eq_false (fun e => h0 (by rw [← hlb, e]; rfl))
    by_cases h1 : 40 < n
    · rw [if_pos (.inr (.inl (by omega)))] at h
      simp only [Option.some.injEq, Prod.mk.injEq] at h
      obtain ⟨rfl, rfl, rfl⟩ := h
      have g1 : decide ((40 : Int) < (n : Int)) = true := decide_eq_true (by omega)
      have g2 : decide (40 < n) = true := decide_eq_true h1
      clear HSE hlb h0 h1
      go_enter Tryz.func25, Tryz.ntmps25
      go_wp2_with fail
      refine bodyPost_ret (results_tmp3 rfl _ _ _) rfl ?_
      exact ⟨rfl, Below.refl _ _⟩
    · have g1 : decide ((40 : Int) < (n : Int)) = false := decide_eq_false (by omega)
      have g2 : decide (40 < n) = false := decide_eq_false h1
      have hl : 0 < a0.size := by omega
      have hx : ((a0[0]'hl).toNat : Int) = bt a0 0 := by simp [bt, hl]
      have hr := bt_range a0 0
      have HSY := Lib.hid (fun W => scan_symbolic.calls (bt a0 0) (S.sym (bt a0 0)) W (sym_f _ hr.1 (by omega)))
      cases hs : S.sym (bt a0 0) with
      | false =>
        rw [if_pos (.inr (.inr hs))] at h
        rw [hs] at HSY
        simp only [Option.some.injEq, Prod.mk.injEq] at h
        obtain ⟨rfl, rfl, rfl⟩ := h
        generalize bt a0 0 = y at hx HSY
        clear HSE hlb h1 hs hr
        go_enter Tryz.func25, Tryz.ntmps25
        go_wp2_with (go_at_call 55; refine (HSY.out _).mono ?_; rintro e w' ⟨rfl, ⟨⟨q, rfl⟩⟩⟩)
        refine bodyPost_ret (results_tmp3 rfl _ _ _) rfl ?_
        exact ⟨rfl, pw_below_drewN (Below.refl _ _) _⟩
      | true =>
        rw [if_neg (by rw [hs]; rintro (e | e | e); omega; omega; cases e)] at h
        rw [hs] at HSY
        have HSM := Lib.hid (fun W m hW => scan_symbol.calls w.heap.size a0 m 0 1 W (by omega) (by omega) (by omega) hW)
        rw [List.drop_zero] at HSM
        generalize bt a0 0 = y at hx HSY
        cases hst : S.symTok (bytesOf a0) with
        | err c => rw [hst] at h; cases h
        | ok t m =>
          rw [hst] at h HSM
          have H := Aside0.mk h
          clear HSE hlb h1 hs hr hst h
          go_enter Tryz.func25, Tryz.ntmps25
          have HSY2 : Aside0 (∀ q, Sc w.heap.size a0 ((0 : Nat) : Int) ((1 : Nat) : Int) (.map none) ((w.drewN q).alloc (.cells #[.string a0, .int .i64 0, .int .i64 1, .map none] 93))) := ⟨fun q => heap_alloc_new (w.drewN q) _⟩
          have HBB : Aside0 (∀ q, Below w.heap.size w ((w.drewN q).alloc (.cells #[.string a0, .int .i64 0, .int .i64 1, .map none] 93))) := ⟨fun q => below_alloc (pw_below_drewN (Below.refl _ _) q) _⟩
          by_cases hm : m < n
          · have g3 : decide ((m : Int) < (n : Int)) = true := decide_eq_true (by omega)
            have g4 : decide (m < n) = true := decide_eq_true hm
            have H := H.out
            simp only [symRes] at H
            rw [if_pos (by omega)] at H
            simp only [Option.some.injEq, Prod.mk.injEq] at H
            obtain ⟨rfl, rfl, rfl⟩ := H
            go_upto_region 5 with (first | (go_at_call 55; refine (HSY.out _).mono ?_; rintro e w' ⟨rfl, ⟨⟨q, rfl⟩⟩⟩) | (go_at_call 56; refine (HSM.out _ _ (HSY2.out q)).mono ?_; rintro e w3 ⟨hb3, hp3⟩; obtain ⟨rfl, hs3⟩ := (show _ ∧ _ from hp3)))
            rw [Nat.zero_add] at hs3
            have hs1 := hs3.c1
            clear hp3
            have HBC : Below w.heap.size w w3 := (HBB.out q).trans (hb3.belowB (by have := (HBB.out q).size; exact this) (fun k hk e => by have := show k = w.heap.size from e; omega))
            replace HBC := Aside0.mk HBC
            clear hb3 HSY2 HBB hs3 HSM HSY h0 he g1 g2 hl hx
            go_wp2
            refine bodyPost_ret (results_tmp3 rfl _ _ _) rfl ?_
            exact ⟨rfl, HBC.out⟩
          · have g3 : decide ((m : Int) < (n : Int)) = false := decide_eq_false (by omega)
            have g4 : decide (m < n) = false := decide_eq_false hm
            have H := H.out
            simp only [symRes] at H
            rw [if_neg (by omega)] at H
            obtain ⟨kd, hk, H⟩ := Option.map_eq_some_iff.1 H
            simp only [Prod.mk.injEq] at H
            obtain ⟨rfl, rfl, rfl⟩ := H
            have HK := Lib.hid (fun W => scan_kind.calls 2 (strOfNums t) kd W hk)
            clear hk
            go_upto_region 5 with (first | (go_at_call 55; refine (HSY.out _).mono ?_; rintro e w' ⟨rfl, ⟨⟨q, rfl⟩⟩⟩) | (go_at_call 56; refine (HSM.out _ _ (HSY2.out q)).mono ?_; rintro e w3 ⟨hb3, hp3⟩; obtain ⟨rfl, hs3⟩ := (show _ ∧ _ from hp3)))
            rw [Nat.zero_add] at hs3
            have hs1 := hs3.c1
            clear hp3
            have HBC : Below w.heap.size w w3 := (HBB.out q).trans (hb3.belowB (by have := (HBB.out q).size; exact this) (fun k hk e => by have := show k = w.heap.size from e; omega))
            replace HBC := Aside0.mk HBC
            clear hb3 HSY2 HBB hs3 HSM HSY h0 he g1 g2 hl hx
            generalize hst2 : strOfNums t = st at *
            have HST2 := Aside0.mk hst2
            clear hst2
            go_wp2_with (go_at_call 57; refine (HK.out _).mono ?_; rintro e w' ⟨rfl, ⟨⟨q2, rfl⟩⟩⟩)
            refine bodyPost_ret (results_tmp3 rfl _ _ _) rfl ?_
            rw [HST2.out]
            exact ⟨rfl, HBC.out.trans (pw_below_drewN (Below.refl _ _) _)⟩
def scan_Literal.f (a0 : ByteArray) : Option (ByteArray × Int) :=
  if 1000 < a0.size ∨ (bytesOf a0).all S.prn = false then some (⟨#[]⟩, 1) else some (strOfNums (S.quote (bytesOf a0)), 0)
set_option maxRecDepth 100000 in
set_option maxHeartbeats 4000000 in
theorem scan_Literal.calls (a0 : ByteArray) (r1 : ByteArray) (r2 : Int) (w : World) (hT : TabOK w) (h : scan_Literal.f a0 = some (r1, r2)) :
    Calls Tryz.prog 30 #[.string a0] w fun e w' => e = .returned (.tuple #[.string r1, .int .i64 r2]) ∧ Below w.heap.size w w' := by
  unfold scan_Literal.f at h
  obtain ⟨n, hn⟩ : ∃ n, a0.size = n := ⟨_, rfl⟩
  by_cases h1 : 1000 < n
  · rw [if_pos (.inl (by omega))] at h
    simp only [Option.some.injEq, Prod.mk.injEq] at h
    obtain ⟨rfl, rfl⟩ := h
    have g1 : decide ((1000 : Int) < (n : Int)) = true := decide_eq_true (by omega)
    have g2 : decide (1000 < n) = true := decide_eq_true h1
    clear hT
    go_enter Tryz.func30, Tryz.ntmps30
    go_wp2_with fail
    refine bodyPost_ret (results_tmp2 rfl _ _ _) rfl ?_
    exact ⟨rfl, Below.refl _ _⟩
  · have g1 : decide ((1000 : Int) < (n : Int)) = false := decide_eq_false (by omega)
    have g2 : decide (1000 < n) = false := decide_eq_false h1
    have HNP := fun W => np_calls a0 W (by omega) 64 LitNP_enters LitNP.pays
    have kb := fun W => print_bytes (P := Tryz.prog) 9 100 5 Tryz.underlying9 Tryz.underlying100 Tryz.underlying5 a0 W
    rw [hn] at HNP kb
    cases hp : (bytesOf a0).all S.prn with
    | false =>
      rw [if_pos (.inr hp)] at h
      simp only [Option.some.injEq, Prod.mk.injEq] at h
      obtain ⟨rfl, rfl⟩ := h
      rw [hp] at HNP
      have HC := Lib.hid HNP
      clear HNP hp hT
      go_enter Tryz.func30, Tryz.ntmps30
      go_wp2_with (go_at_call 63; refine (HC.out _).mono ?_; rintro e w' ⟨rfl, hb⟩)
      refine bodyPost_ret (results_tmp2 rfl _ _ _) rfl ?_
      exact ⟨rfl, hb⟩
    | true =>
      rw [if_neg (by rw [hp]; rintro (e | e); omega; cases e)] at h
      simp only [Option.some.injEq, Prod.mk.injEq] at h
      obtain ⟨rfl, rfl⟩ := h
      rw [hp] at HNP
      have HC := Lib.hid HNP
      have HLT := Lib.hid (fun W hW => scan_literal.calls a0 (strOfNums (S.quote (bytesOf a0))) W hW (by unfold scan_literal.f; rw [if_pos (by omega)]))
      have HT := Aside0.mk hT
      clear HNP hp hT
      generalize strOfNums (S.quote (bytesOf a0)) = res at *
      go_enter Tryz.func30, Tryz.ntmps30
      go_wp2_with (first | (go_at_call 63; refine (HC.out _).mono ?_; rintro e w3 ⟨rfl, hb3⟩) | (go_at_call 66; refine (HLT.out _ (HT.out.of_below hb3)).mono ?_; rintro e w4 ⟨rfl, hb4⟩))
      refine bodyPost_ret (results_tmp2 rfl _ _ _) rfl ?_
      exact ⟨rfl, hb3.trans (hb4.mono hb3.size)⟩
end Go.Proofs.YtkkpjonfaflkmaaGreatDoor.T
