/- Part 5 of the proof of ScanComments: the functions that it calls return what their plain descriptions say. -/
import Derived.Test.YtkkpjonfaflkmaaGreatDoorCScanComments3
import Derived.Test.YtkkpjonfaflkmaaGreatDoorCScanComments2
import Derived.Recover
import Derived.Defers
import Derived.Lib.SplitLaws
import Derived.Test.YtkkpjonfaflkmaaGreatDoorCScanComments4

/- scan.Value: its deferred closure, and itself. -/
namespace Go.Proofs.YtkkpjonfaflkmaaGreatDoor.T
set_option linter.unusedSimpArgs false
set_option linter.unusedVariables false
open Go.RowKit Go.Proofs.YtkkpjonfaflkmaaGreatDoorW.PrintWords Go.Proofs.YtkkpjonfaflkmaaGreatDoorW.PrintLast Go.Proofs.YtkkpjonfaflkmaaGreatDoorW.PrintMore
attribute [local go_sem] Oper.semAt_some

theorem results_cells3 {P : Program} {fn : Func} {p q r : Tmp} {tp tq tr : TypeId} (h : fn.results = #[.cell p tp, .cell q tq, .cell r tr]) (tmps : Array Value) (w : World) (a b c : Addr) (u v x : Value)
    (hp : tmps.getD p undef = .pointer (some a)) (hq : tmps.getD q undef = .pointer (some b)) (hr : tmps.getD r undef = .pointer (some c)) (hu : (loadVar tp a).run P w = .ok u w) (hv : (loadVar tq b).run P w = .ok v w) (hx : (loadVar tr c).run P w = .ok x w) :
    (results fn tmps).run P w = .ok (.tuple #[u, v, x]) w := by
  have hp' : tmps[p]?.getD undef = .pointer (some a) := by simpa using hp
  have hq' : tmps[q]?.getD undef = .pointer (some b) := by simpa using hq
  have hr' : tmps[r]?.getD undef = .pointer (some c) := by simpa using hr
  simp [results, h, hp', hq', hr', asAddr, Sem.run_bind, hu, hv, hx, Result.andThen]

set_option maxRecDepth 100000 in
set_option maxHeartbeats 400000 in
theorem value_idle (p q r : Value) (W : World) :
    CallsD Tryz.prog 69 #[p, q, r] .returning W fun e u' W' => e = .returned (.tuple #[]) ∧ u' = .returning ∧ W' = W := by
  refine callsD_of_wpS Tryz.func69 rfl fun c₀ cs hu => ?_
  simp only [Tryz.ntmps69, List.size_toArray, List.length_cons, List.length_nil, Nat.reduceAdd, Nat.reduceSub, Array.replicate_succ, Array.replicate_zero, List.push_toArray, List.append_toArray, List.nil_append, List.cons_append]
  apply wpS_seq
  apply wpS_region
  simp [wpOpsS, go_sem, recoverD, hu, Tryz.ntmps69, Exit.thenS]
  refine wpS_of_wp ?_
  generalize hQ : (fun (e : Exit) (a' : Act) (w' : World) => _) = Q
  go_wp2
  rw [← hQ]
  refine ⟨rfl, .returning, ?_, _, results_none rfl _ _ _, rfl, rfl, rfl⟩
  rw [← hu]
set_option maxRecDepth 100000 in
set_option maxHeartbeats 4000000 in
theorem value_panic (c ln : Int) {A B C : Nat} {s0 : ByteArray} {x0 y0 : Int} (W : World) (hA : W.heap[A]? = some (.cells #[.string s0] 9 (0, 0))) (hB : W.heap[B]? = some (.cells #[.int .i64 x0] 3 (0, 0))) (hC : W.heap[C]? = some (.cells #[.int .i64 y0] 25 (0, 0))) (hne : A ≠ B ∧ A ≠ C ∧ B ≠ C) :
    CallsD Tryz.prog 69 #[.pointer (some ⟨A, 0, none⟩), .pointer (some ⟨B, 0, none⟩), .pointer (some ⟨C, 0, none⟩)] (.panicking [{ v := fl c ln, recovered := false }]) W fun e u' W' =>
      e = .returned (.tuple #[]) ∧ u' = .panicking [{ v := fl c ln, recovered := true }] ∧ W'.heap[A]? = some (.cells #[.string ⟨#[]⟩] 9 (0, 0)) ∧ W'.heap[B]? = some (.cells #[.int .i64 c] 3 (0, 0)) ∧ W'.heap[C]? = some (.cells #[.int .i64 7] 25 (0, 0)) ∧ But (fun k => k = A ∨ k = B ∨ k = C) W W' := by
  have HA := Aside0.mk hA
  have HB := Aside0.mk hB
  have HC := Aside0.mk hC
  have hta : ∀ X : World, (Instr.typeAssert (.iface 76 (.agg #[.int .i64 c, .int .i64 ln])) 20 76 true).run Tryz.prog X = .ok (.tuple #[.agg #[.int .i64 c, .int .i64 ln], .bool true]) X := fun X => by kernel_rfl
  have hu76 := Tryz.underlying76
  clear hA hB hC
  refine callsD_of_wpS Tryz.func69 rfl fun c₀ cs hu => ?_
  simp only [Tryz.ntmps69, List.size_toArray, List.length_cons, List.length_nil, Nat.reduceAdd, Nat.reduceSub, Array.replicate_succ, Array.replicate_zero, List.push_toArray, List.append_toArray, List.nil_append, List.cons_append]
  apply wpS_seq
  apply wpS_region
  simp [wpOpsS, go_sem, recoverD, hu, Tryz.ntmps69, Exit.thenS, fl]
  refine wpS_of_wp ?_
  generalize hQ : (fun (e : Exit) (a' : Act) (w' : World) => _) = Q
  go_upto_region 5 with (fail)
  have hb1 : But (fun _ => False) W (W.alloc (.cells #[.int .i64 c, .int .i64 ln] 76)) := (But.refl _ W).alloc _
  have hn1 := heap_alloc_new W (.cells #[.int .i64 c, .int .i64 ln] 76)
  have hf1 : ∀ (k : Nat) (o : Obj), W.heap[k]? = some o → (W.alloc (.cells #[.int .i64 c, .int .i64 ln] 76)).heap[k]? = some o := fun k o h => (hb1.block k (Array.getElem?_eq_some_iff.1 h).1 (fun e => e)).trans h
  have hA1 := hf1 _ _ HA.out
  have hB1 := hf1 _ _ HB.out
  have hC1 := hf1 _ _ HC.out
  have hlt : A < W.heap.size ∧ B < W.heap.size ∧ C < W.heap.size := ⟨(Array.getElem?_eq_some_iff.1 HA.out).1, (Array.getElem?_eq_some_iff.1 HB.out).1, (Array.getElem?_eq_some_iff.1 HC.out).1⟩
  obtain ⟨H, hH⟩ : ∃ H, W.heap.size = H := ⟨_, rfl⟩
  rw [hH] at hn1 hlt ⊢
  have HB1 := Aside0.mk hb1
  clear hf1 hta hH HA HB HC hb1
  generalize W.alloc (.cells #[.int .i64 c, .int .i64 ln] 76) = W1 at *
  have e0 : W1.cell? ⟨H, 0, none⟩ = some (.int .i64 c) := (blk_cell hn1 0).trans rfl
  have a0 : W1.cell? ⟨A, 0, none⟩ = some (.string s0) := (blk_cell hA1 0).trans rfl
  have b0 : W1.cell? ⟨B, 0, none⟩ = some (.int .i64 x0) := (blk_cell hB1 0).trans rfl
  have c0 : W1.cell? ⟨C, 0, none⟩ = some (.int .i64 y0) := (blk_cell hC1 0).trans rfl
  have fa := blk_frozen hA1 0
  have fb := blk_frozen hB1 0
  have fc := blk_frozen hC1 0
  obtain ⟨n1, n2, n3⟩ := hne
  obtain ⟨l1, l2, l3⟩ := hlt
  have hfin : Aside0 ((((W1.setCell ⟨A, 0, none⟩ (.string ⟨#[]⟩)).setCell ⟨B, 0, none⟩ (.int .i64 c)).setCell ⟨C, 0, none⟩ (.int .i64 7)).heap[A]? = some (.cells #[.string ⟨#[]⟩] 9 (0, 0)) ∧ (((W1.setCell ⟨A, 0, none⟩ (.string ⟨#[]⟩)).setCell ⟨B, 0, none⟩ (.int .i64 c)).setCell ⟨C, 0, none⟩ (.int .i64 7)).heap[B]? = some (.cells #[.int .i64 c] 3 (0, 0)) ∧
      (((W1.setCell ⟨A, 0, none⟩ (.string ⟨#[]⟩)).setCell ⟨B, 0, none⟩ (.int .i64 c)).setCell ⟨C, 0, none⟩ (.int .i64 7)).heap[C]? = some (.cells #[.int .i64 7] 25 (0, 0)) ∧ But (fun k => k = A ∨ k = B ∨ k = C) W (((W1.setCell ⟨A, 0, none⟩ (.string ⟨#[]⟩)).setCell ⟨B, 0, none⟩ (.int .i64 c)).setCell ⟨C, 0, none⟩ (.int .i64 7))) := ⟨by
    have k1 : (W1.setCell ⟨A, 0, none⟩ (.string ⟨#[]⟩)).heap[A]? = some (.cells #[.string ⟨#[]⟩] 9 (0, 0)) := blk_put hA1 0 _ rfl
    have k2 : (W1.setCell ⟨A, 0, none⟩ (.string ⟨#[]⟩)).heap[B]? = some (.cells #[.int .i64 x0] 3 (0, 0)) := (Below.heap_setCell _ ⟨A, 0, none⟩ _ B (by show B ≠ A; omega)).trans hB1
    have k3 : (W1.setCell ⟨A, 0, none⟩ (.string ⟨#[]⟩)).heap[C]? = some (.cells #[.int .i64 y0] 25 (0, 0)) := (Below.heap_setCell _ ⟨A, 0, none⟩ _ C (by show C ≠ A; omega)).trans hC1
    have k4 := blk_put k2 0 (.int .i64 c) rfl
    have k5 := (Below.heap_setCell (W1.setCell ⟨A, 0, none⟩ (.string ⟨#[]⟩)) ⟨B, 0, none⟩ (.int .i64 c) A (by show A ≠ B; omega)).trans k1
    have k6 := (Below.heap_setCell (W1.setCell ⟨A, 0, none⟩ (.string ⟨#[]⟩)) ⟨B, 0, none⟩ (.int .i64 c) C (by show C ≠ B; omega)).trans k3
    refine ⟨(Below.heap_setCell _ ⟨C, 0, none⟩ _ A (by show A ≠ C; omega)).trans k5, (Below.heap_setCell _ ⟨C, 0, none⟩ _ B (by show B ≠ C; omega)).trans k4, blk_put k6 0 _ rfl, ?_⟩
    exact ((((HB1.out.mono (fun _ _ e => e.elim)).set _ _ (.inl rfl)).set _ _ (.inr (.inl rfl))).set _ _ (.inr (.inr rfl)))⟩
  clear hA1 hB1 hC1 hn1
  go_region
  all_goals go_wp2
  all_goals rw [← hQ]
  all_goals obtain ⟨f1, f2, f3, f4⟩ := hfin.out
  all_goals first
    | exact ⟨rfl, _, rfl, _, results_none rfl _ _ _, rfl, rfl, f1, f2, f3, f4⟩
    | exact ⟨rfl, _, rfl, _, results_none rfl _ _ _, rfl, rfl, f1, f2, f3, f4.drew⟩
/-- What Value returns. -/
def valRes (a0 : ByteArray) : S.TR → ByteArray × Int × Int
  | .err c => (⟨#[]⟩, c, 7)
  | .ok t n => if n < a0.size then (⟨#[]⟩, 0, 2) else (strOfNums t, 0, 0)
def scan_Value.f (a0 : ByteArray) : Option (ByteArray × Int × Int) :=
  if 100000 < a0.size then none
  else if a0.size = 0 ∨ (bt a0 0 ≠ 39 ∧ bt a0 0 ≠ 34) then some (⟨#[]⟩, 0, 2) else some (valRes a0 (S.litTok (bytesOf a0)))
theorem val_ret {W : World} {H : Nat} {s : ByteArray} {x y : Int} (tmps : Array Value) (h0 : W.heap[H]? = some (.cells #[.string s] 9 (0, 0))) (h1 : W.heap[H + 1]? = some (.cells #[.int .i64 x] 3 (0, 0))) (h2 : W.heap[H + 1 + 1]? = some (.cells #[.int .i64 y] 25 (0, 0)))
    (t2 : tmps.getD 2 undef = .pointer (some ⟨H, 0, none⟩)) (t3 : tmps.getD 3 undef = .pointer (some ⟨H + 1, 0, none⟩)) (t4 : tmps.getD 4 undef = .pointer (some ⟨H + 1 + 1, 0, none⟩)) :
    (results Tryz.f32 tmps).run Tryz.prog W = .ok (.tuple #[.string s, .int .i64 x, .int .i64 y]) W := by
  have e0 : W.cell? ⟨H, 0, none⟩ = some (.string s) := (blk_cell h0 0).trans rfl
  have e1 : W.cell? ⟨H + 1, 0, none⟩ = some (.int .i64 x) := (blk_cell h1 0).trans rfl
  have e2 : W.cell? ⟨H + 1 + 1, 0, none⟩ = some (.int .i64 y) := (blk_cell h2 0).trans rfl
  exact results_cells3 rfl _ _ _ _ _ _ _ _ t2 t3 t4 (by simp [go_sem, loadVar, e0]) (by simp [go_sem, loadVar, e1]) (by simp [go_sem, loadVar, e2])
/-- The three results' boxes. -/
structure Vb (w : World) (H : Nat) (s : ByteArray) (x y : Int) (W : World) : Prop where
  b0 : W.heap[H]? = some (.cells #[.string s] 9 (0, 0))
  b1 : W.heap[H + 1]? = some (.cells #[.int .i64 x] 3 (0, 0))
  b2 : W.heap[H + 1 + 1]? = some (.cells #[.int .i64 y] 25 (0, 0))
  bl : Below H w W
theorem Vb.put {w : World} {H : Nat} {s s' : ByteArray} {x y x' y' : Int} {W : World} (h : Vb w H s x y W) (hw : H ≤ w.heap.size) : Vb w H s' x' y' (((W.setCell ⟨H, 0, none⟩ (.string s')).setCell ⟨H + 1, 0, none⟩ (.int .i64 x')).setCell ⟨H + 1 + 1, 0, none⟩ (.int .i64 y')) := by
  have k1 : (W.setCell ⟨H, 0, none⟩ (.string s')).heap[H]? = some (.cells #[.string s'] 9 (0, 0)) := blk_put h.b0 0 _ rfl
  have k2 : (W.setCell ⟨H, 0, none⟩ (.string s')).heap[H + 1]? = some (.cells #[.int .i64 x] 3 (0, 0)) := (Below.heap_setCell _ ⟨H, 0, none⟩ _ (H + 1) (by show H + 1 ≠ H; omega)).trans h.b1
  have k3 : (W.setCell ⟨H, 0, none⟩ (.string s')).heap[H + 1 + 1]? = some (.cells #[.int .i64 y] 25 (0, 0)) := (Below.heap_setCell _ ⟨H, 0, none⟩ _ (H + 1 + 1) (by show H + 1 + 1 ≠ H; omega)).trans h.b2
  have k4 := blk_put k2 0 (.int .i64 x') rfl
  have k5 := (Below.heap_setCell (W.setCell ⟨H, 0, none⟩ (.string s')) ⟨H + 1, 0, none⟩ (.int .i64 x') H (by show H ≠ H + 1; omega)).trans k1
  have k6 := (Below.heap_setCell (W.setCell ⟨H, 0, none⟩ (.string s')) ⟨H + 1, 0, none⟩ (.int .i64 x') (H + 1 + 1) (by show H + 1 + 1 ≠ H + 1; omega)).trans k3
  refine ⟨(Below.heap_setCell _ ⟨H + 1 + 1, 0, none⟩ _ H (by show H ≠ H + 1 + 1; omega)).trans k5, (Below.heap_setCell _ ⟨H + 1 + 1, 0, none⟩ _ (H + 1) (by show H + 1 ≠ H + 1 + 1; omega)).trans k4, blk_put k6 0 _ rfl, ?_⟩
  have : But (fun k => H ≤ k) W (((W.setCell ⟨H, 0, none⟩ (.string s')).setCell ⟨H + 1, 0, none⟩ (.int .i64 x')).setCell ⟨H + 1 + 1, 0, none⟩ (.int .i64 y')) := (((But.refl _ W).set _ _ (Nat.le_refl H)).set _ _ (by show H ≤ H + 1; omega)).set _ _ (by show H ≤ H + 1 + 1; omega)
  exact h.bl.trans (this.belowB (Nat.le_trans hw h.bl.size) (fun k hk e => by omega))
theorem Vb.but {w : World} {H : Nat} {s : ByteArray} {x y : Int} {W W' : World} {A : Nat → Prop} (h : Vb w H s x y W) (hb : But A W W') (hw : H ≤ w.heap.size) (hA : ∀ k, A k → H + 3 ≤ k) : Vb w H s x y W' := by
  have hk : ∀ k (o : Obj), k < H + 3 → W.heap[k]? = some o → W'.heap[k]? = some o := fun k o hk h => (hb.block k (Array.getElem?_eq_some_iff.1 h).1 (fun e => by have := hA k e; omega)).trans h
  exact ⟨hk _ _ (by omega) h.b0, hk _ _ (by omega) h.b1, hk _ _ (by omega) h.b2, h.bl.trans (hb.belowB (Nat.le_trans hw h.bl.size) (fun k hk e => by have := hA k e; omega))⟩
theorem Vb.put1 {w : World} {H : Nat} {s s' : ByteArray} {x y : Int} {W : World} (h : Vb w H s x y W) (hw : H ≤ w.heap.size) : Vb w H s' x y (W.setCell ⟨H, 0, none⟩ (.string s')) := by
  have : But (fun k => H ≤ k) W (W.setCell ⟨H, 0, none⟩ (.string s')) := (But.refl _ W).set _ _ (Nat.le_refl H)
  exact ⟨blk_put h.b0 0 _ rfl, (Below.heap_setCell _ ⟨H, 0, none⟩ _ (H + 1) (by show H + 1 ≠ H; omega)).trans h.b1, (Below.heap_setCell _ ⟨H, 0, none⟩ _ (H + 1 + 1) (by show H + 1 + 1 ≠ H; omega)).trans h.b2, h.bl.trans (this.belowB (Nat.le_trans hw h.bl.size) (fun k hk e => by omega))⟩
theorem vb_new (w : World) : Vb w w.heap.size ⟨#[]⟩ 0 0 (((w.alloc (.cells #[.string ⟨#[]⟩] 9)).alloc (.cells #[.int .i64 0] 3)).alloc (.cells #[.int .i64 0] 25)) ∧ (((w.alloc (.cells #[.string ⟨#[]⟩] 9)).alloc (.cells #[.int .i64 0] 3)).alloc (.cells #[.int .i64 0] 25)).heap.size = w.heap.size + 1 + 1 + 1 := by
  have s1 := World.size_alloc w (.cells #[.string ⟨#[]⟩] 9)
  have s2 := World.size_alloc (w.alloc (.cells #[.string ⟨#[]⟩] 9)) (.cells #[.int .i64 0] 3)
  have s3 := World.size_alloc ((w.alloc (.cells #[.string ⟨#[]⟩] 9)).alloc (.cells #[.int .i64 0] 3)) (.cells #[.int .i64 0] 25)
  have n1 := heap_alloc_new w (.cells #[.string ⟨#[]⟩] 9)
  have n2 := heap_alloc_new (w.alloc (.cells #[.string ⟨#[]⟩] 9)) (.cells #[.int .i64 0] 3)
  have n3 := heap_alloc_new ((w.alloc (.cells #[.string ⟨#[]⟩] 9)).alloc (.cells #[.int .i64 0] 3)) (.cells #[.int .i64 0] 25)
  have o1 := ((But.refl (fun _ => False) (w.alloc (.cells #[.string ⟨#[]⟩] 9))).alloc (.cells #[.int .i64 0] 3)).block w.heap.size (by omega) (fun e => e)
  have o2 := ((But.refl (fun _ => False) ((w.alloc (.cells #[.string ⟨#[]⟩] 9)).alloc (.cells #[.int .i64 0] 3))).alloc (.cells #[.int .i64 0] 25)).block w.heap.size (by omega) (fun e => e)
  have o3 := ((But.refl (fun _ => False) ((w.alloc (.cells #[.string ⟨#[]⟩] 9)).alloc (.cells #[.int .i64 0] 3))).alloc (.cells #[.int .i64 0] 25)).block (w.heap.size + 1) (by omega) (fun e => e)
  rw [s1] at n2
  rw [s2, s1] at n3
  exact ⟨⟨o2.trans (o1.trans n1), o3.trans n2, n3, below_alloc (below_alloc (below_alloc (Below.refl _ _) _) _) _⟩, by omega⟩
set_option maxRecDepth 100000 in
set_option maxHeartbeats 4000000 in
theorem scan_Value.calls (a0 : ByteArray) (r1 : ByteArray) (r2 r3 : Int) (w : World) (h : scan_Value.f a0 = some (r1, r2, r3)) :
    Calls Tryz.prog 32 #[.string a0] w fun e w' => e = .returned (.tuple #[.string r1, .int .i64 r2, .int .i64 r3]) ∧ Below w.heap.size w w' := by
  unfold scan_Value.f at h
  have hmf : ∀ (fn : Fn) (first cap : Array Value) (w : World), (Instr.makeFunc fn first cap).run Tryz.prog w = .ok (.func fn first cap) w := fun _ _ _ _ => rfl
  by_cases hbig : 100000 < a0.size
  · rw [if_pos hbig] at h; cases h
  rw [if_neg hbig] at h
  obtain ⟨v0, vs⟩ := vb_new w
  have HV0 := Aside0.mk v0
  have HSE := Aside0.mk (str_empty a0)
  obtain ⟨n, hn⟩ : ∃ n, a0.size = n := ⟨_, rfl⟩
  have hlb : (bytesOf a0).length = n := by rw [bytesOf_length]; exact hn
  by_cases h0 : n = 0
  · rw [if_pos (.inl (hn.trans h0))] at h
    simp only [Option.some.injEq, Prod.mk.injEq] at h
    obtain ⟨rfl, rfl, rfl⟩ := h
    have he : (a0.toList == ([] : List UInt8)) = true := by rw [HSE.out]; exact decide_eq_true (List.length_eq_zero_iff.1 (hlb.trans h0))
    clear HSE hlb hn h0 hbig v0
    go_enter_defers Tryz.func32, Tryz.ntmps32
    go_upto_region 1 with (fail)
    obtain ⟨H, hH⟩ : ∃ H, w.heap.size = H := ⟨_, rfl⟩
    rw [hH] at HV0 vs ⊢
    generalize ((w.alloc (.cells #[.string ⟨#[]⟩] 9)).alloc (.cells #[.int .i64 0] 3)).alloc (.cells #[.int .i64 0] 25) = W0 at *
    have a0c : W0.cell? ⟨H, 0, none⟩ = some (.string ⟨#[]⟩) := (blk_cell HV0.out.b0 0).trans rfl
    have b0c : W0.cell? ⟨H + 1, 0, none⟩ = some (.int .i64 0) := (blk_cell HV0.out.b1 0).trans rfl
    have c0c : W0.cell? ⟨H + 1 + 1, 0, none⟩ = some (.int .i64 0) := (blk_cell HV0.out.b2 0).trans rfl
    have fa := blk_frozen HV0.out.b0 0
    have fb := blk_frozen HV0.out.b1 0
    have fc := blk_frozen HV0.out.b2 0
    have HF := Aside0.mk (HV0.out.put (s' := ⟨#[]⟩) (x' := 0) (y' := 2) (Nat.le_of_eq hH.symm))
    go_wp2_with fail
    exact ⟨_, val_ret _ HF.out.b0 HF.out.b1 HF.out.b2 rfl rfl rfl, rfl, by rw [hH]; exact HF.out.bl⟩
  · have he : (a0.toList == ([] : List UInt8)) = false := by rw [HSE.out]; exact decide_eq_false (fun e => h0 (by rw [← hlb, e]; rfl))
    have hl : 0 < a0.size := by omega
    have hx : ((a0[0]'hl).toNat : Int) = bt a0 0 := by simp [bt, hl]
    by_cases hq : bt a0 0 ≠ 39 ∧ bt a0 0 ≠ 34
    · rw [if_pos (.inr hq)] at h
      simp only [Option.some.injEq, Prod.mk.injEq] at h
      obtain ⟨rfl, rfl, rfl⟩ := h
      generalize bt a0 0 = y at hx hq
      have g1 : (y != 39) = true := bne_iff_ne.2 hq.1
      have g2 : (y != 34) = true := bne_iff_ne.2 hq.2
      clear HSE hlb h0 hbig v0 hq
      go_enter_defers Tryz.func32, Tryz.ntmps32
      go_upto_region 1 with (fail)
      obtain ⟨H, hH⟩ : ∃ H, w.heap.size = H := ⟨_, rfl⟩
      rw [hH] at HV0 vs ⊢
      generalize ((w.alloc (.cells #[.string ⟨#[]⟩] 9)).alloc (.cells #[.int .i64 0] 3)).alloc (.cells #[.int .i64 0] 25) = W0 at *
      have a0c : W0.cell? ⟨H, 0, none⟩ = some (.string ⟨#[]⟩) := (blk_cell HV0.out.b0 0).trans rfl
      have b0c : W0.cell? ⟨H + 1, 0, none⟩ = some (.int .i64 0) := (blk_cell HV0.out.b1 0).trans rfl
      have c0c : W0.cell? ⟨H + 1 + 1, 0, none⟩ = some (.int .i64 0) := (blk_cell HV0.out.b2 0).trans rfl
      have fa := blk_frozen HV0.out.b0 0
      have fb := blk_frozen HV0.out.b1 0
      have fc := blk_frozen HV0.out.b2 0
      have HF := Aside0.mk (HV0.out.put (s' := ⟨#[]⟩) (x' := 0) (y' := 2) (Nat.le_of_eq hH.symm))
      go_wp2_with fail
      exact ⟨_, val_ret _ HF.out.b0 HF.out.b1 HF.out.b2 rfl rfl rfl, rfl, by rw [hH]; exact HF.out.bl⟩
    · rw [if_neg (by rintro (e | e); omega; exact hq e)] at h
      have h := Option.some.inj h
      generalize hy : bt a0 0 = y at hx hq
      have hor : y = 39 ∨ y = 34 := by omega
      have HLT := Lib.hid (fun W m hW => scan_literal_m.calls (w.heap.size + 1 + 1 + 1) a0 m 0 1 W (by omega) (by omega) (by omega) hW)
      rw [List.drop_zero] at HLT
      clear HSE hlb h0 hbig v0 hq hy
      cases hst : S.litTok (bytesOf a0) with
      | err c =>
        rw [hst] at h HLT
        simp only [valRes, Prod.mk.injEq] at h
        obtain ⟨rfl, rfl, rfl⟩ := h
        clear hst
        rcases hor with rfl | rfl
        all_goals
          go_enter_defers Tryz.func32, Tryz.ntmps32
          go_upto_region 1 with (fail)
          obtain ⟨H, hH⟩ : ∃ H, w.heap.size = H := ⟨_, rfl⟩
          rw [hH] at HV0 vs HLT ⊢
          generalize ((w.alloc (.cells #[.string ⟨#[]⟩] 9)).alloc (.cells #[.int .i64 0] 3)).alloc (.cells #[.int .i64 0] 25) = W0 at *
          have a0c : W0.cell? ⟨H, 0, none⟩ = some (.string ⟨#[]⟩) := (blk_cell HV0.out.b0 0).trans rfl
          have b0c : W0.cell? ⟨H + 1, 0, none⟩ = some (.int .i64 0) := (blk_cell HV0.out.b1 0).trans rfl
          have c0c : W0.cell? ⟨H + 1 + 1, 0, none⟩ = some (.int .i64 0) := (blk_cell HV0.out.b2 0).trans rfl
          have fa := blk_frozen HV0.out.b0 0
          have fb := blk_frozen HV0.out.b1 0
          have fc := blk_frozen HV0.out.b2 0
          have hsc : Sc (H + 1 + 1 + 1) a0 ((0 : Nat) : Int) ((1 : Nat) : Int) (.map none) (W0.alloc (.cells #[.string a0, .int .i64 0, .int .i64 1, .map none] 93)) := by
            have := heap_alloc_new W0 (.cells #[.string a0, .int .i64 0, .int .i64 1, .map none] 93)
            rw [vs] at this
            exact this
          have HSC := Aside0.mk hsc
          have HVA := Aside0.mk (HV0.out.but (A := fun k => H + 3 ≤ k) ((But.refl _ W0).alloc (.cells #[.string a0, .int .i64 0, .int .i64 1, .map none] 93)) (Nat.le_of_eq hH.symm) (fun k e => e))
          clear hsc a0c b0c c0c fa fb fc
          go_wp2_with (go_at_call 70; refine (HLT.out _ _ HSC.out).mono ?_; rintro e w3 ⟨hb3, hp3⟩; obtain ⟨rfl, _⟩ := (show _ ∧ _ from hp3); unfold Fails)
          have HV3 := HVA.out.but hb3 (Nat.le_of_eq hH.symm) (fun k e => by have := show k = H + 1 + 1 + 1 from e; omega)
          refine leaves_cons (f := 69) (args := #[.pointer (some ⟨H, 0, none⟩), .pointer (some ⟨H + 1, 0, none⟩), .pointer (some ⟨H + 1 + 1, 0, none⟩)]) (by simp) (by simp [go_sem]) ?_
          refine (value_panic c 1 w3 HV3.b0 HV3.b1 HV3.b2 ⟨by omega, by omega, by omega⟩).mono ?_
          rintro e u' w'' ⟨rfl, rfl, k0, k1, k2, hb4⟩
          simp only [Leaves, settle, List.dropWhile_nil]
          have hbl := HV3.bl.trans (hb4.belowB (B := H) (by have := HV3.bl.size; omega) (fun k hk e => by rcases e with e | e | e <;> omega))
          exact ⟨_, val_ret _ k0 k1 k2 rfl rfl rfl, rfl, by rw [hH]; exact hbl⟩
      | ok t m =>
        rw [hst] at h HLT
        clear hst
        rcases hor with rfl | rfl
        all_goals
          go_enter_defers Tryz.func32, Tryz.ntmps32
          go_upto_region 1 with (fail)
          obtain ⟨H, hH⟩ : ∃ H, w.heap.size = H := ⟨_, rfl⟩
          rw [hH] at HV0 vs HLT ⊢
          generalize ((w.alloc (.cells #[.string ⟨#[]⟩] 9)).alloc (.cells #[.int .i64 0] 3)).alloc (.cells #[.int .i64 0] 25) = W0 at *
          have hsc : Sc (H + 1 + 1 + 1) a0 ((0 : Nat) : Int) ((1 : Nat) : Int) (.map none) (W0.alloc (.cells #[.string a0, .int .i64 0, .int .i64 1, .map none] 93)) := by
            have := heap_alloc_new W0 (.cells #[.string a0, .int .i64 0, .int .i64 1, .map none] 93)
            rw [vs] at this
            exact this
          have HSC := Aside0.mk hsc
          have HVA := Aside0.mk (HV0.out.but (A := fun k => H + 3 ≤ k) ((But.refl _ W0).alloc (.cells #[.string a0, .int .i64 0, .int .i64 1, .map none] 93)) (Nat.le_of_eq hH.symm) (fun k e => e))
          clear hsc
          have HHH := Aside0.mk hH
          have HPP : Aside0 (∀ w3 : World, But (· = H + 1 + 1 + 1) (W0.alloc (.cells #[.string a0, .int .i64 0, .int .i64 1, .map none] 93)) w3 → Vb w H ⟨#[]⟩ 0 0 w3) := ⟨fun w3 hb3 => HVA.out.but hb3 (Nat.le_of_eq hH.symm) (fun k e => by have := show k = H + 1 + 1 + 1 from e; omega)⟩
          have hxa : Aside0 (((a0[0]'hl).toNat : Int) = _) := ⟨hx⟩
          go_upto_region 6 with (go_at_call 70; refine (HLT.out _ _ HSC.out).mono ?_; rintro e w3 ⟨hb3, hp3⟩; obtain ⟨rfl, hs3⟩ := (show _ ∧ _ from hp3); have HV3 := HPP.out _ hb3; have a0c : w3.cell? ⟨H, 0, none⟩ = some (.string ⟨#[]⟩) := (blk_cell HV3.b0 0).trans rfl; have fa := blk_frozen HV3.b0 0)
          rw [Nat.zero_add] at hs3
          have HV4 := Aside0.mk (HV3.put1 (s' := strOfNums t) (Nat.le_of_eq HHH.out.symm))
          have hs4 : Sc (H + 1 + 1 + 1) a0 m ((1 : Nat) : Int) (.map none) (w3.setCell ⟨H, 0, none⟩ (.string (strOfNums t))) := (Below.heap_setCell w3 ⟨H, 0, none⟩ (.string (strOfNums t)) (H + 1 + 1 + 1) (by show H + 1 + 1 + 1 ≠ H; omega)).trans hs3
          clear hp3 hb3 hs3 HV3 a0c fa HPP HSC HVA HLT hxa hx hl HV0 vs he
          obtain ⟨st, hst⟩ : ∃ st, strOfNums t = st := ⟨_, rfl⟩
          simp only [hst] at HV4 hs4 h ⊢
          generalize w3.setCell ⟨H, 0, none⟩ (.string st) = w4 at *
          have a0c : w4.cell? ⟨H, 0, none⟩ = some (.string st) := (blk_cell HV4.out.b0 0).trans rfl
          have b0c : w4.cell? ⟨H + 1, 0, none⟩ = some (.int .i64 0) := (blk_cell HV4.out.b1 0).trans rfl
          have c0c : w4.cell? ⟨H + 1 + 1, 0, none⟩ = some (.int .i64 0) := (blk_cell HV4.out.b2 0).trans rfl
          have fa := blk_frozen HV4.out.b0 0
          have fb := blk_frozen HV4.out.b1 0
          have fc := blk_frozen HV4.out.b2 0
          have d1 := hs4.c1
          clear hs4
          by_cases hm : m < n
          · have g3 : decide ((m : Int) < (n : Int)) = true := decide_eq_true (by omega)
            have g4 : decide (m < n) = true := decide_eq_true hm
            simp only [valRes] at h
            rw [if_pos (by omega)] at h
            simp only [Prod.mk.injEq] at h
            obtain ⟨rfl, rfl, rfl⟩ := h
            have HF := Aside0.mk (HV4.out.put (s' := ⟨#[]⟩) (x' := 0) (y' := 2) (Nat.le_of_eq HHH.out.symm))
            clear hH
            go_wp2_with fail
            refine leaves_cons (f := 69) (args := #[.pointer (some ⟨H, 0, none⟩), .pointer (some ⟨H + 1, 0, none⟩), .pointer (some ⟨H + 1 + 1, 0, none⟩)]) (by simp) (by simp [go_sem]) ?_
            refine (value_idle _ _ _ _).mono ?_
            rintro e u' w'' ⟨rfl, rfl, rfl⟩
            simp only [Leaves, settle]
            exact ⟨_, val_ret _ HF.out.b0 HF.out.b1 HF.out.b2 rfl rfl rfl, rfl, by rw [HHH.out]; exact HF.out.bl⟩
          · have g3 : decide ((m : Int) < (n : Int)) = false := decide_eq_false (by omega)
            have g4 : decide (m < n) = false := decide_eq_false hm
            simp only [valRes] at h
            rw [if_neg (by omega)] at h
            simp only [Prod.mk.injEq, hst] at h
            obtain ⟨rfl, rfl, rfl⟩ := h
            have HF := Aside0.mk (HV4.out.put (s' := st) (x' := 0) (y' := 0) (Nat.le_of_eq HHH.out.symm))
            clear hH
            go_wp2_with fail
            refine leaves_cons (f := 69) (args := #[.pointer (some ⟨H, 0, none⟩), .pointer (some ⟨H + 1, 0, none⟩), .pointer (some ⟨H + 1 + 1, 0, none⟩)]) (by simp) (by simp [go_sem]) ?_
            refine (value_idle _ _ _ _).mono ?_
            rintro e u' w'' ⟨rfl, rfl, rfl⟩
            simp only [Leaves, settle]
            exact ⟨_, val_ret _ HF.out.b0 HF.out.b1 HF.out.b2 rfl rfl rfl, rfl, by rw [HHH.out]; exact HF.out.bl⟩
end Go.Proofs.YtkkpjonfaflkmaaGreatDoor.T

/- strings.Split in the printer's form. -/
namespace Go.Proofs.YtkkpjonfaflkmaaGreatDoor.T
set_option linter.unusedSimpArgs false
set_option linter.unusedVariables false
open Go.RowKit Go.Proofs.YtkkpjonfaflkmaaGreatDoorW.PrintWords Go.Proofs.YtkkpjonfaflkmaaGreatDoorW.PrintLast Go.Proofs.YtkkpjonfaflkmaaGreatDoorW.PrintMore

theorem str_reps {W : World} {base : Nat} {ok : Nat → Prop} (xs : List ByteArray) : Reps (Kd.string.M W base ok) 1 xs (xs.map Value.string) := by
  refine ⟨by rw [List.length_map, Nat.mul_one], fun j p hj => ?_⟩
  have hjl : j < (xs.map Value.string).length := by rw [List.length_map]; exact (List.getElem?_eq_some_iff.1 hj).1
  have e : ((xs.map Value.string).drop (j * 1)).take 1 = [.string p] := by
    rw [Nat.mul_one, List.drop_eq_getElem_cons hjl]
    have : (xs.map Value.string)[j] = .string p := by
      have h1 : (xs.map Value.string)[j]? = some (.string p) := by rw [List.getElem?_map, hj]; rfl
      rw [List.getElem?_eq_getElem hjl] at h1
      exact Option.some.inj h1
    simp [this]
  rw [e]
  exact rfl
def strings_Split.f (a0 a1 : ByteArray) : Option (List ByteArray) := if a0.size ≤ 100000 ∧ 1 ≤ a1.size then some (Lib.splitB a1 0 (Lib.countB a0 a1) a0) else none
theorem strings_Split.calls (a0 a1 : ByteArray) (r : List ByteArray) (w : World) (hT : TabOK w) (h : strings_Split.f a0 a1 = some r) :
    Calls Tryz.prog 62 #[.string a0, .string a1] w fun e w' => ∃ v0 : Value, e = .returned v0 ∧ Kd.R Kd.string 9 w' w.heap.size (fun _ => True) v0 r ∧ Below w.heap.size w w' := by
  unfold strings_Split.f at h
  split at h
  · next hc =>
    have h := Option.some.inj h
    subst h
    obtain ⟨m, hm⟩ := hT.most
    refine (Tryz.strings_Split a0 a1 m w (by omega) hm hc.2).mono ?_
    rintro e w' ⟨rfl, rfl⟩
    have hl := Lib.splitB_all a1 hc.2 0 (Lib.countB a0 a1) a0 rfl
    have hn := heap_alloc_new w (.cells ((Lib.splitB a1 0 (Lib.countB a0 a1) a0).map Value.string).toArray 9)
    have hcb : Lib.countB a0 a1 + 1 ≤ maxLen := by
      have := Lib.countB_le a1 hc.2 a0.size a0 (Nat.le_refl _)
      unfold maxLen
      omega
    generalize Lib.splitB a1 0 (Lib.countB a0 a1) a0 = xs at *
    have ho : (w.alloc (.cells (xs.map Value.string).toArray 9)).ownsRow w.heap.size 9 1 (.slice (some ⟨w.heap.size, 0, none⟩) (Lib.countB a0 a1 + 1) (Lib.countB a0 a1 + 1)) xs.length (xs.map Value.string) := by
      refine ⟨by rw [List.length_map, Nat.mul_one], .inr ⟨w.heap.size, Lib.countB a0 a1 + 1, _, by rw [hl], Nat.le_refl _, hn, by rw [hl]; exact Nat.le_refl _, hcb, by simp [hl], ?_⟩⟩
      rw [Nat.mul_one, List.take_of_length_le (by simp)]
    exact ⟨_, rfl, ⟨fun _ _ => trivial, xs.map Value.string, ho, str_reps _⟩, below_alloc (Below.refl _ _) _⟩
  · cases h
end Go.Proofs.YtkkpjonfaflkmaaGreatDoor.T

-- Written by a program of this session (mp.py over the kit's print.py), out of the translation.
namespace Go.Proofs.YtkkpjonfaflkmaaGreatDoor.T
set_option linter.unusedSimpArgs false
open Go.RowKit Go.Proofs.YtkkpjonfaflkmaaGreatDoorW.PrintWords Go.Proofs.YtkkpjonfaflkmaaGreatDoorW.PrintLast Go.Proofs.YtkkpjonfaflkmaaGreatDoorW.PrintMore
attribute [local go_sem] max2_int min2_int max_two min_two max_three min_three max_four min_four   -- for this text's walks alone
set_option linter.unusedVariables false
set_option linter.unusedSimpArgs false

/-! ### scan_Split: function 27 -/
def scan_Split.f (a0 : ByteArray) : Option (ByteArray × List ByteArray × Int) := (scan_Symbol.f a0).bind fun bt136 => (if bt136.2.2 = 0 then (if bt136.2.1 = 3 then (some (bt136.1, ([] : List ByteArray), 0)) else (if bt136.2.1 = 4 then ((strings_Cut.f bt136.1 (⟨#[46]⟩ : ByteArray)).bind fun bt139 => (if bt139.1.size + 1 ≤ 9223372036854775807 then ((strings_Split.f bt139.2.1 (⟨#[46]⟩ : ByteArray)).bind fun t142 => (some (bt139.1 ++ (⟨#[46]⟩ : ByteArray), t142, 0))) else (none))) else (some ((⟨#[]⟩ : ByteArray), ([] : List ByteArray), 2)))) else (some ((⟨#[]⟩ : ByteArray), ([] : List ByteArray), bt136.2.2)))
set_option maxHeartbeats 8000000 in
set_option maxRecDepth 100000 in
theorem scan_Split.calls (a0 : ByteArray) (r1 : ByteArray) (r2 : List ByteArray) (r3 : Int) (w : World) (hT : TabOK w) (h : scan_Split.f a0 = some (r1, r2, r3)) :
    Calls Tryz.prog 27 #[.string a0] w fun e w' => ∃ v1_ : Value, e = .returned (.tuple #[.string r1, v1_, .int .i64 r3]) ∧ Kd.R Kd.string 9 w' w.heap.size (fun _ => True) v1_ r2 ∧ Below w.heap.size w w' := by
  have HB := Aside0.mk (Below.refl w.heap.size w)
  have H : ((scan_Symbol.f a0).bind fun bt136 => (if bt136.2.2 = 0 then (if bt136.2.1 = 3 then (some (bt136.1, ([] : List ByteArray), 0)) else (if bt136.2.1 = 4 then ((strings_Cut.f bt136.1 (⟨#[46]⟩ : ByteArray)).bind fun bt139 => (if bt139.1.size + 1 ≤ 9223372036854775807 then ((strings_Split.f bt139.2.1 (⟨#[46]⟩ : ByteArray)).bind fun t142 => (some (bt139.1 ++ (⟨#[46]⟩ : ByteArray), t142, 0))) else (none))) else (some ((⟨#[]⟩ : ByteArray), ([] : List ByteArray), 2)))) else (some ((⟨#[]⟩ : ByteArray), ([] : List ByteArray), bt136.2.2)))) = some (r1, r2, r3) := h
  clear h
  replace H := Option.bind_eq_some_iff.mp H
  obtain ⟨⟨t136, t137, t138⟩, A20, H⟩ := H
  replace H : (if t138 = 0 then (if t137 = 3 then (some (t136, ([] : List ByteArray), 0)) else (if t137 = 4 then ((strings_Cut.f t136 (⟨#[46]⟩ : ByteArray)).bind fun bt139 => (if bt139.1.size + 1 ≤ 9223372036854775807 then ((strings_Split.f bt139.2.1 (⟨#[46]⟩ : ByteArray)).bind fun t142 => (some (bt139.1 ++ (⟨#[46]⟩ : ByteArray), t142, 0))) else (none))) else (some ((⟨#[]⟩ : ByteArray), ([] : List ByteArray), 2)))) else (some ((⟨#[]⟩ : ByteArray), ([] : List ByteArray), t138))) = some (r1, r2, r3) := H
  have A2 := Aside0.mk A20
  clear A20
  by_cases c3 : t138 = 0
  · rw [if_pos c3] at H
    have c3b0 : (t138 == 0) = true := beq_iff_eq.mpr c3
    have c3b1 : (t138 != 0) = false := bne_eq_false_iff_eq.mpr c3
    clear c3
    by_cases c4 : t137 = 3
    · rw [if_pos c4] at H
      have c4b0 : (t137 == 3) = true := beq_iff_eq.mpr c4
      have c4b1 : (t137 != 3) = false := bne_eq_false_iff_eq.mpr c4
      clear c4
      simp only [Option.some.injEq, Prod.mk.injEq] at H
      obtain ⟨rfl, rfl, rfl⟩ := H
      go_enter Tryz.func27, Tryz.ntmps27
      go_wp2_with (first | ((with_reducible refine gate_callee (f := 25) rfl ?_); refine goesL_ (some 13) rfl rfl Tryz.func25 (by kernel_rfl) rfl #[.string a0] rfl (by (try simp only [List.map_toArray, List.map_cons, List.map_nil]); first | done | rfl | (simp only [List.length_drop, List.length_take]; rfl)) ?_; (with_reducible refine (scan_Symbol.calls a0 t136 t137 t138 _ A2.out).mono ?_); rintro e w5 ⟨rfl, hb⟩; refine ⟨_, rfl, ?_⟩; have n0_ := Aside0.mk (below_step (by repeat (first | (with_reducible first | exact HB.out | apply below_alloc | apply pw_below_drewN | apply below_drew1) | exact HB.out)) hb); clear HB; have HB := n0_; clear n0_; (try clear hb); (try clear hb2); (try clear hk); (try clear hi)))
      go_ret3
      exact ⟨_, by first | rfl | (simp [errW_none, errW_some] <;> rfl) | (simp [*, errW_none, errW_some] <;> rfl), by first | exact Kd.R_nil _ _ _ _ _ | exact Kd.N_nil _ _ _ _ _ | exact Kd.V_nil _ _ _ _ _ | exact Kd.Q_nil _ _ _ _ _ | exact Kd.S_nil _ _ _ _ _, by repeat (first | (with_reducible first | exact HB.out | apply below_alloc | apply pw_below_drewN | apply below_drew1) | exact HB.out)⟩
    · rw [if_neg c4] at H
      have c4b0 : (t137 == 3) = false := beq_eq_false_iff_ne.mpr c4
      have c4b1 : (t137 != 3) = true := bne_iff_ne.mpr c4
      by_cases c6 : t137 = 4
      · rw [if_pos c6] at H
        have c6b0 : (t137 == 4) = true := beq_iff_eq.mpr c6
        have c6b1 : (t137 != 4) = false := bne_eq_false_iff_eq.mpr c6
        clear c6
        replace H := Option.bind_eq_some_iff.mp H
        obtain ⟨⟨t139, t140, t141⟩, A70, H⟩ := H
        replace H : (if t139.size + 1 ≤ 9223372036854775807 then ((strings_Split.f t140 (⟨#[46]⟩ : ByteArray)).bind fun t142 => (some (t139 ++ (⟨#[46]⟩ : ByteArray), t142, 0))) else (none)) = some (r1, r2, r3) := H
        have A7 := Aside0.mk A70
        clear A70
        by_cases c8 : t139.size + 1 ≤ 9223372036854775807
        · rw [if_pos c8] at H
          have c8b0 := eq_true c8
          have c8b1 : decide (t139.size + 1 ≤ 9223372036854775807) = true := decide_eq_true c8
          try have c8b2 : (9223372036854775807 < t139.size + 1) = False := eq_false (Nat.not_lt.2 c8)
          replace H := Option.bind_eq_some_iff.mp H
          obtain ⟨t142, A90, H⟩ := H
          replace H : (some (t139 ++ (⟨#[46]⟩ : ByteArray), t142, 0)) = some (r1, r2, r3) := H
          have A9 := Aside0.mk A90
          clear A90
          simp only [Option.some.injEq, Prod.mk.injEq] at H
          obtain ⟨rfl, rfl, rfl⟩ := H
          go_enter Tryz.func27, Tryz.ntmps27
          go_wp2_with (first | ((with_reducible refine gate_callee (f := 25) rfl ?_); refine goesL_ (some 13) rfl rfl Tryz.func25 (by kernel_rfl) rfl #[.string a0] rfl (by (try simp only [List.map_toArray, List.map_cons, List.map_nil]); first | done | rfl | (simp only [List.length_drop, List.length_take]; rfl)) ?_; (with_reducible refine (scan_Symbol.calls a0 t136 t137 t138 _ A2.out).mono ?_); rintro e w10 ⟨rfl, hb⟩; refine ⟨_, rfl, ?_⟩; have n0_ := Aside0.mk (below_step (by repeat (first | (with_reducible first | exact HB.out | apply below_alloc | apply pw_below_drewN | apply below_drew1) | exact HB.out)) hb); clear HB; have HB := n0_; clear n0_; (try clear hb); (try clear hb2); (try clear hk); (try clear hi)) | ((with_reducible refine gate_callee (f := 61) rfl ?_); refine goesL_ (some 30) rfl rfl Tryz.func61 (by kernel_rfl) rfl #[.string t136, .string (⟨#[46]⟩ : ByteArray)] rfl (by (try simp only [List.map_toArray, List.map_cons, List.map_nil]); first | done | rfl | (simp only [List.length_drop, List.length_take]; rfl)) ?_; (with_reducible refine (strings_Cut.calls t136 (⟨#[46]⟩ : ByteArray) t139 t140 t141 _ (TabOK.of_below hT (by repeat (first | (with_reducible first | exact HB.out | apply below_alloc | apply pw_below_drewN | apply below_drew1) | exact HB.out))) A7.out).mono ?_); rintro e w' ⟨rfl, ⟨nd, rfl⟩⟩; refine ⟨_, rfl, ?_⟩) | ((with_reducible refine gate_callee (f := 62) rfl ?_); refine goesL_ (some 37) rfl rfl Tryz.func62 (by kernel_rfl) rfl #[.string t140, .string (⟨#[46]⟩ : ByteArray)] rfl (by (try simp only [List.map_toArray, List.map_cons, List.map_nil]); first | done | rfl | (simp only [List.length_drop, List.length_take]; rfl)) ?_; (with_reducible refine (strings_Split.calls t140 (⟨#[46]⟩ : ByteArray) t142 _ (TabOK.of_below hT (by repeat (first | (with_reducible first | exact HB.out | apply below_alloc | apply pw_below_drewN | apply below_drew1) | exact HB.out))) A9.out).mono ?_); rintro e w11 ⟨v143, rfl, ho0, hb⟩; refine ⟨_, rfl, ?_⟩; have n0_ := Aside0.mk (Kd.R_lower ho0 (below_size (by repeat (first | (with_reducible first | exact HB.out | apply below_alloc | apply pw_below_drewN | apply below_drew1) | exact HB.out)))); have n1_ := Aside0.mk (below_step (by repeat (first | (with_reducible first | exact HB.out | apply below_alloc | apply pw_below_drewN | apply below_drew1) | exact HB.out)) hb); clear HB; have HO144 := n0_; have HB := n1_; clear n0_ n1_; (try clear hb); (try clear hb2); (try clear hk); (try clear hi); (try clear ho0)))
          go_ret3
          exact ⟨_, by first | rfl | (simp [errW_none, errW_some] <;> rfl) | (simp [*, errW_none, errW_some] <;> rfl), by (with_reducible repeat (first | apply Kd.R_alloc | apply Kd.R_drewN | apply Kd.R_drew)); exact HO144.out, by repeat (first | (with_reducible first | exact HB.out | apply below_alloc | apply pw_below_drewN | apply below_drew1) | exact HB.out)⟩
        · rw [if_neg c8] at H
          exact absurd H (by simp)
      · rw [if_neg c6] at H
        have c6b0 : (t137 == 4) = false := beq_eq_false_iff_ne.mpr c6
        have c6b1 : (t137 != 4) = true := bne_iff_ne.mpr c6
        simp only [Option.some.injEq, Prod.mk.injEq] at H
        obtain ⟨rfl, rfl, rfl⟩ := H
        go_enter Tryz.func27, Tryz.ntmps27
        go_wp2_with (first | ((with_reducible refine gate_callee (f := 25) rfl ?_); refine goesL_ (some 13) rfl rfl Tryz.func25 (by kernel_rfl) rfl #[.string a0] rfl (by (try simp only [List.map_toArray, List.map_cons, List.map_nil]); first | done | rfl | (simp only [List.length_drop, List.length_take]; rfl)) ?_; (with_reducible refine (scan_Symbol.calls a0 t136 t137 t138 _ A2.out).mono ?_); rintro e w12 ⟨rfl, hb⟩; refine ⟨_, rfl, ?_⟩; have n0_ := Aside0.mk (below_step (by repeat (first | (with_reducible first | exact HB.out | apply below_alloc | apply pw_below_drewN | apply below_drew1) | exact HB.out)) hb); clear HB; have HB := n0_; clear n0_; (try clear hb); (try clear hb2); (try clear hk); (try clear hi)))
        go_ret3
        exact ⟨_, by first | rfl | (simp [errW_none, errW_some] <;> rfl) | (simp [*, errW_none, errW_some] <;> rfl), by first | exact Kd.R_nil _ _ _ _ _ | exact Kd.N_nil _ _ _ _ _ | exact Kd.V_nil _ _ _ _ _ | exact Kd.Q_nil _ _ _ _ _ | exact Kd.S_nil _ _ _ _ _, by repeat (first | (with_reducible first | exact HB.out | apply below_alloc | apply pw_below_drewN | apply below_drew1) | exact HB.out)⟩
  · rw [if_neg c3] at H
    have c3b0 : (t138 == 0) = false := beq_eq_false_iff_ne.mpr c3
    have c3b1 : (t138 != 0) = true := bne_iff_ne.mpr c3
    simp only [Option.some.injEq, Prod.mk.injEq] at H
    obtain ⟨rfl, rfl, rfl⟩ := H
    go_enter Tryz.func27, Tryz.ntmps27
    go_wp2_with (first | ((with_reducible refine gate_callee (f := 25) rfl ?_); refine goesL_ (some 13) rfl rfl Tryz.func25 (by kernel_rfl) rfl #[.string a0] rfl (by (try simp only [List.map_toArray, List.map_cons, List.map_nil]); first | done | rfl | (simp only [List.length_drop, List.length_take]; rfl)) ?_; (with_reducible refine (scan_Symbol.calls a0 t136 t137 t138 _ A2.out).mono ?_); rintro e w13 ⟨rfl, hb⟩; refine ⟨_, rfl, ?_⟩; have n0_ := Aside0.mk (below_step (by repeat (first | (with_reducible first | exact HB.out | apply below_alloc | apply pw_below_drewN | apply below_drew1) | exact HB.out)) hb); clear HB; have HB := n0_; clear n0_; (try clear hb); (try clear hb2); (try clear hk); (try clear hi)))
    go_ret3
    exact ⟨_, by first | rfl | (simp [errW_none, errW_some] <;> rfl) | (simp [*, errW_none, errW_some] <;> rfl), by first | exact Kd.R_nil _ _ _ _ _ | exact Kd.N_nil _ _ _ _ _ | exact Kd.V_nil _ _ _ _ _ | exact Kd.Q_nil _ _ _ _ _ | exact Kd.S_nil _ _ _ _ _, by repeat (first | (with_reducible first | exact HB.out | apply below_alloc | apply pw_below_drewN | apply below_drew1) | exact HB.out)⟩

end Go.Proofs.YtkkpjonfaflkmaaGreatDoor.T

/- scan.Clauses: the range over the clauses. -/
namespace Go.Proofs.YtkkpjonfaflkmaaGreatDoor.T
set_option linter.unusedSimpArgs false
set_option linter.unusedVariables false
open Go.RowKit Go.Maps Go.Proofs.YtkkpjonfaflkmaaGreatDoorW.PrintWords Go.Proofs.YtkkpjonfaflkmaaGreatDoorW.PrintLast Go.Proofs.YtkkpjonfaflkmaaGreatDoorW.PrintMore
attribute [local go_sem] Oper.semAt_some

/-- The headers hs are the lists cls, their rows lie in blocks of G. -/
def Hdrs (G : Nat → Prop) (W : World) (hs : List Value) (cls : List (List S.Tk)) : Prop :=
  hs.length = cls.length ∧ ∀ (j : Nat) (h : Value) (c : List S.Tk), hs[j]? = some h → cls[j]? = some c → ∃ g cs, h = .slice (some ⟨g, 0, none⟩) c.length c.length ∧ G g ∧ W.heap[g]? = some (.cells cs 53 (0, 0)) ∧ cs.toList.take (c.length * 6) = tksL c ∧ c.length ≤ 300000
structure ClI (w0 : World) (H : Nat) (rd : Loop) (v : Value) (hs : List Value) (G : Nat → Prop) (pre : List (List S.Tk)) (W : World) : Prop where
  out : W.heap[H]? = some (.cells #[v] 31 (0, 0))
  dfr : W.heap[H + 4]? = some (.deferred (some []))
  lop : W.heap[H + 5]? = some (.loop rd)
  own : W.ownsRow (H + 6) 24 1 v hs.length hs
  els : Hdrs G W hs (pre.map List.dropLast)
  one : ∀ u ∈ hs, u.oneCell' = true
  pne : pre.length ≤ pre.flatten.length
  gs : ∀ g, G g → H ≤ g ∧ g < W.heap.size ∧ v.ownBlock ≠ some g ∧ g ≠ H ∧ g ≠ H + 4 ∧ g ≠ H + 5
  below : Below H w0 W
def ClF (H : Nat) (v : Value) (G : Nat → Prop) (k : Nat) : Prop := k < H ∨ k = H ∨ k = H + 4 ∨ k = H + 5 ∨ v.ownBlock = some k ∨ G k
def ClJ (w0 : World) (H : Nat) (rd : Loop) (pre : List (List S.Tk)) (F : Nat → Prop) (W : World) : Prop := ∃ v hs G, F = ClF H v G ∧ ClI w0 H rd v hs G pre W
theorem Hdrs.keep {G : Nat → Prop} {W W' : World} {hs : List Value} {cls : List (List S.Tk)} (h : Hdrs G W hs cls) (hk : ∀ g, G g → g < W.heap.size → W'.heap[g]? = W.heap[g]?) : Hdrs G W' hs cls :=
  ⟨h.1, fun j u c hu hc => by
    obtain ⟨g, cs, e1, e2, e3, e4⟩ := h.2 j u c hu hc
    exact ⟨g, cs, e1, e2, (hk g e2 (Array.getElem?_eq_some_iff.1 e3).1).trans e3, e4⟩⟩
theorem ClI.lw {w0 : World} {H : Nat} {rd : Loop} {v : Value} {hs : List Value} {G : Nat → Prop} {pre : List (List S.Tk)} {W : World} (h : ClI w0 H rd v hs G pre W) : H + 5 < W.heap.size := (Array.getElem?_eq_some_iff.1 h.lop).1
theorem own_butE {W W' : World} {e base n size : Nat} {v : Value} {xs : List Value} {A : Nat → Prop} (h : W.ownsRow base e size v n xs) (hb : But A W W') (hA : ∀ k, A k → v.ownBlock ≠ some k) : W'.ownsRow base e size v n xs := by
  obtain ⟨h1, h2⟩ := h
  refine ⟨h1, h2.imp id ?_⟩
  rintro ⟨g, cap, cur, hv, hbg, hg, rest⟩
  have hlt : g < W.heap.size := (Array.getElem?_eq_some_iff.1 hg).1
  exact ⟨g, cap, cur, hv, hbg, (hb.block g hlt (fun e => hA g e (by rw [hv]; rfl))).trans hg, rest⟩
theorem ClI.keep {w0 : World} {H : Nat} {rd : Loop} {v : Value} {hs : List Value} {G : Nat → Prop} {pre : List (List S.Tk)} {W W' : World} (h : ClI w0 H rd v hs G pre W) (hb : But (fun k => ¬ ClF H v G k) W W') : ClI w0 H rd v hs G pre W' := by
  have hlw := h.lw
  have hk : ∀ k, ClF H v G k → k < W.heap.size → W'.heap[k]? = W.heap[k]? := fun k hf hl => hb.block k hl (fun e => e hf)
  exact ⟨(hk H (.inr (.inl rfl)) (by omega)).trans h.out, (hk _ (.inr (.inr (.inl rfl))) (by omega)).trans h.dfr, (hk _ (.inr (.inr (.inr (.inl rfl)))) (by omega)).trans h.lop, own_butE h.own hb (fun k e e2 => e (.inr (.inr (.inr (.inr (.inl e2)))))),
    h.els.keep (fun g hg hl => hk g (.inr (.inr (.inr (.inr (.inr hg))))) hl), h.one, h.pne, fun g hg => by obtain ⟨a, b, c⟩ := h.gs g hg; exact ⟨a, Nat.lt_of_lt_of_le b hb.size, c⟩, h.below.trans (hb.belowB (by omega) (fun k hk e => e (.inl hk)))⟩
theorem TkI_cbE {WB w1 : World} {OB t : Nat} {cs : Array Value} {vo : Value} (hg : WB.grownBy w1 vo.ownBlock) (h : WB.heap[OB]? = some (.cells cs t (0, 0))) (hne : ∀ k, vo.ownBlock = some k → k ≠ OB) : w1.heap[OB]? = some (.cells cs t (0, 0)) :=
  (hg.block OB (Array.getElem?_eq_some_iff.1 h).1 (fun e => hne OB e.symm rfl)).trans h
/-- One clause more: its row lies in g2. -/
theorem ClI.next {w0 : World} {H g2 c2 : Nat} {rd rb : Loop} {v v' : Value} {hs : List Value} {G : Nat → Prop} {pre : List (List S.Tk)} {cl : List S.Tk} {base : Nat} {W X w1 : World} (h : ClI w0 H rd v hs G pre W) (hne : cl ≠ []) (hrow : W.ownsRow base 53 6 (.slice (some ⟨g2, 0, none⟩) cl.length c2) cl.length (tksL cl))
    (hdis : ∀ k, ClF H v G k → k ≠ g2) (hcl : cl.length ≤ 300000) (hX : But (fun _ => False) (W.putObj (H + 5) (.loop rb)) X)
    (ho : w1.ownsRow (H + 6) 24 1 v' (hs.length + 1) (hs ++ [.slice (some ⟨g2, 0, none⟩) (cl.length - 1) (cl.length - 1)])) (hg : X.grownBy w1 v.ownBlock) (hv : v'.ownBlock = v.ownBlock ∨ v'.ownBlock = some X.heap.size) :
    (w1.setCell ⟨H, 0, none⟩ v').heap[H + 5]? = some (.loop rb) ∧ (ClJ w0 H rd (pre ++ [cl]) (ClF H v' (fun k => G k ∨ k = g2)) ((w1.setCell ⟨H, 0, none⟩ v').putObj (H + 5) (.loop rd)) ∧ But (ClF H v G) W ((w1.setCell ⟨H, 0, none⟩ v').putObj (H + 5) (.loop rd)) ∧ ∀ k, ClF H v' (fun k => G k ∨ k = g2) k → ClF H v G k ∨ W.heap.size ≤ k ∨ k = g2) := by
  have hlw := h.lw
  have hge : ∀ k, v.ownBlock = some k → H + 6 ≤ k := fun k e => (h.own.lt k e).1
  have hge' : ∀ k, v'.ownBlock = some k → H + 6 ≤ k := fun k e => (ho.lt k e).1
  have hpl : (W.putObj (H + 5) (.loop rb)).heap.size = W.heap.size := World.putObj_size
  have b1 : But (fun k => k = H + 5 ∨ k = H ∨ v.ownBlock = some k) W (W.putObj (H + 5) (.loop rb)) := (But.refl (fun k => k = H + 5 ∨ k = H ∨ v.ownBlock = some k) W).putObj _ _ (.inl rfl)
  have b1x := b1.trans hX (C := fun k => k = H + 5 ∨ k = H ∨ v.ownBlock = some k) (fun _ _ e => e) (fun _ _ e => e.elim)
  have b2 := b1x.grown hg (fun k e => .inr (.inr e))
  have b3 := b2.set ⟨H, 0, none⟩ v' (.inr (.inl rfl))
  have b4 := b3.putObj (H + 5) (.loop rd) (.inl rfl)
  have hsX : W.heap.size ≤ X.heap.size := b1x.size
  have hs1 : W.heap.size ≤ w1.heap.size := b2.size
  have hl1 : w1.heap[H + 5]? = some (.loop rb) := (hg.block (H + 5) (by omega) (fun e => by have := hge _ e.symm; omega)).trans ((hX.block (H + 5) (by rw [hpl]; omega) (fun e => e)).trans (World.putObj_heap_same (by omega)))
  have hl2 : (w1.setCell ⟨H, 0, none⟩ v').heap[H + 5]? = some (.loop rb) := (Below.heap_setCell _ ⟨H, 0, none⟩ _ (H + 5) (by show H + 5 ≠ H; omega)).trans hl1
  have hg2l : g2 < W.heap.size := (hrow.lt g2 rfl).2
  have hnx : ∀ k, k ≠ H + 5 → k ≠ H → v.ownBlock ≠ some k → k < W.heap.size → ((w1.setCell ⟨H, 0, none⟩ v').putObj (H + 5) (.loop rd)).heap[k]? = W.heap[k]? := fun k a b c hl => b4.block k hl (fun e => by
    rcases e with e | e | e
    · exact a e
    · exact b e
    · exact c e)
  have hv5 : v.ownBlock ≠ some (H + 4) := fun e => by have := hge _ e; omega
  have hvg2 : v.ownBlock ≠ some g2 := fun e => hdis g2 (.inr (.inr (.inr (.inr (.inl e))))) rfl
  have hd1 := fun e : g2 = H => hdis g2 (.inr (.inl e)) rfl
  have hd2 := fun e : g2 = H + 4 => hdis g2 (.inr (.inr (.inl e))) rfl
  have hd3 := fun e : g2 = H + 5 => hdis g2 (.inr (.inr (.inr (.inl e)))) rfl
  have hd4 : H ≤ g2 := by
    rcases Nat.lt_or_ge g2 H with e | e
    · exact absurd rfl (hdis g2 (.inl e))
    · exact e
  refine ⟨hl2, ⟨v', hs ++ [.slice (some ⟨g2, 0, none⟩) (cl.length - 1) (cl.length - 1)], _, rfl, ?_, (hnx (H + 4) (by omega) (by omega) hv5 (by omega)).trans h.dfr, World.putObj_heap_same (Array.getElem?_eq_some_iff.1 hl2).1, ?_, ?_, ?_, ?_, ?_, h.below.trans (b4.belowB (by omega) (fun k hk e => by rcases e with e | e | e; omega; omega; have := hge k e; omega))⟩, b4.mono (fun k _ e => ?_), fun k hk => ?_⟩
  · refine (World.putObj_heap_other (by omega)).trans ?_
    exact blk_put (cs := #[v]) ((hg.block H (by omega) (fun e => by have := hge _ e.symm; omega)).trans ((hX.block H (by rw [hpl]; omega) (fun e => e)).trans ((World.putObj_heap_other (by omega)).trans h.out))) 0 _ rfl
  · rw [List.length_append]
    refine own_butE ho (((But.refl (fun k => k = H ∨ k = H + 5) w1).set ⟨H, 0, none⟩ v' (.inl rfl)).putObj (H + 5) (.loop rd) (.inr rfl)) (fun k e e2 => ?_)
    have := hge' k e2
    omega
  · refine ⟨by rw [List.length_append, List.map_append, List.length_append, h.els.1]; rfl, fun j u c hu hc => ?_⟩
    rw [List.map_append] at hc
    rcases Nat.lt_or_ge j hs.length with hj | hj
    · rw [List.getElem?_append_left hj] at hu
      rw [List.getElem?_append_left (by rw [← h.els.1]; exact hj)] at hc
      obtain ⟨g, cs, e1, e2, e3, e4⟩ := h.els.2 j u c hu hc
      obtain ⟨q1, q2, q3, q4, q5, q6⟩ := h.gs g e2
      exact ⟨g, cs, e1, .inl e2, (hnx g q6 q4 q3 q2).trans e3, e4⟩
    · rw [List.getElem?_append_right hj] at hu
      rw [List.getElem?_append_right (by rw [← h.els.1]; exact hj), ← h.els.1] at hc
      have hj0 : j - hs.length = 0 := by
        rcases Nat.lt_or_ge 0 (j - hs.length) with e | e
        · rw [List.getElem?_eq_none (by simp only [List.length_cons, List.length_nil]; omega)] at hu; cases hu
        · omega
      rw [hj0] at hu hc
      simp only [List.getElem?_cons_zero, Option.some.injEq, List.map_cons, List.map_nil] at hu hc
      subst hu hc
      rcases hrow.2 with ⟨e, _⟩ | ⟨g, cap, cs, e, _, hgg, _, _, _, htk⟩
      · cases e
      · simp only [Value.slice.injEq, Option.some.injEq, Addr.mk.injEq, and_true, true_and] at e
        obtain ⟨rfl, rfl⟩ := e
        refine ⟨g2, cs, by rw [List.length_dropLast], .inr rfl, (hnx g2 hd3 hd1 hvg2 hg2l).trans hgg, ?_, by rw [List.length_dropLast]; omega⟩
        have e1 : cl.dropLast = cl.take (cl.length - 1) := List.dropLast_eq_take
        rw [List.length_dropLast, e1, ← tksL_take, ← htk, List.take_take]
        congr 1
        have := List.length_pos_iff.2 hne
        omega
  · intro u hu
    rcases List.mem_append.1 hu with e | e
    · exact h.one u e
    · rw [List.mem_singleton.1 e]; rfl
  · have := h.pne
    have := List.length_pos_iff.2 hne
    simp only [List.flatten_append, List.flatten_cons, List.flatten_nil, List.append_nil, List.length_append, List.length_cons, List.length_nil]
    omega
  · intro g hgg
    have hsz4 : W.heap.size ≤ ((w1.setCell ⟨H, 0, none⟩ v').putObj (H + 5) (.loop rd)).heap.size := b4.size
    have hnv : ∀ k, k < W.heap.size → v.ownBlock ≠ some k → v'.ownBlock ≠ some k := fun k hk hn e => by
      rcases hv with hv | hv
      · exact hn (by rw [← hv, e])
      · rw [hv] at e; cases e; omega
    rcases hgg with e | rfl
    · obtain ⟨q1, q2, q3, q4, q5, q6⟩ := h.gs g e
      exact ⟨q1, by omega, hnv g q2 q3, q4, q5, q6⟩
    · exact ⟨hd4, by omega, hnv _ hg2l hvg2, hd1, hd2, hd3⟩
  · rcases e with e | e | e
    · exact .inr (.inr (.inr (.inl e)))
    · exact .inr (.inl e)
    · exact .inr (.inr (.inr (.inr (.inl e))))
  · rcases hk with e | e | e | e | e | e
    · exact .inl (.inl e)
    · exact .inl (.inr (.inl e))
    · exact .inl (.inr (.inr (.inl e)))
    · exact .inl (.inr (.inr (.inr (.inl e))))
    · rcases hv with hv | hv
      · exact .inl (.inr (.inr (.inr (.inr (.inl (by rw [← hv, e]))))))
      · rw [hv] at e; cases e; exact .inr (.inl (by omega))
    · rcases e with e | e
      · exact .inl (.inr (.inr (.inr (.inr (.inr e)))))
      · exact .inr (.inr e)
end Go.Proofs.YtkkpjonfaflkmaaGreatDoor.T

/- scan.Clauses: the walk. -/
namespace Go.Proofs.YtkkpjonfaflkmaaGreatDoor.T
set_option linter.unusedSimpArgs false
set_option linter.unusedVariables false
open Go.RowKit Go.Maps Go.Proofs.YtkkpjonfaflkmaaGreatDoorW.PrintWords Go.Proofs.YtkkpjonfaflkmaaGreatDoorW.PrintLast Go.Proofs.YtkkpjonfaflkmaaGreatDoorW.PrintMore
attribute [local go_sem] Oper.semAt_some

theorem stepIn_appendF {F : Fence} {n : Nat} {P : Program} {ops : Array Oper} {o : Oper} {a : Act} {w w' : World} {K : Act → World → Prop} {Q : Exit → Act → World → Prop} {E : Prop} (hgd : o.guard = none) (s x : Operand) (t : TypeId)
    (ho : o.op = .call { callee := .builtin .append, args := #[s, x], argTypes := #[t, t] }) (v u v' : Value) (hs : a.eval s = v) (hx : a.eval x = u)
    (hr : (Builtin.append_ #[t, t] o.type #[v, u]).run P w = .ok v' w') (hK : K (a.put o.dst v') w') : if Region.wanted o (yielded ops a.tmps) = true then Oper.wpIn F n P o a w K Q else E := by
  have hw : Region.wanted o (yielded ops a.tmps) = true := by simp [Region.wanted, hgd]
  rw [if_pos hw]
  unfold Oper.wpIn
  refine ⟨by simp [Oper.about, ho, resolve, Target.leads, Sem.run_pure], ?_⟩
  rw [Oper.semAt_plain F _ _ (by rw [ho]; intro c hc'; cases hc')]
  unfold execOp
  simp only [ho, resolve, invoke, builtin, Sem.run_bind, Sem.run_pure, Result.andThen_ok, List.map_toArray, List.map_cons, List.map_nil, hs, hx, hr]
  exact hK

/-- What Clauses returns. -/
def ClPost (H : Nat) (o : S.Out) (e : Ending) (w' : World) : Prop := match o.err with
  | some p => e = .returned (.tuple #[.slice none 0 0, .int .i64 p.1, .int .i64 p.2, .int .i64 7])
  | none => ∃ v hs G, e = .returned (.tuple #[v, .int .i64 0, .int .i64 0, .int .i64 0]) ∧ w'.ownsRow H 24 1 v hs.length hs ∧ Hdrs G w' hs (o.cl.map List.dropLast) ∧ ∀ g, G g → H ≤ g ∧ v.ownBlock ≠ some g
set_option maxRecDepth 100000 in
set_option maxHeartbeats 8000000 in
theorem scan_Clauses_m.calls (src : ByteArray) (w : World) (hsz : src.size ≤ 20000) (hT : TabOK w) (hne : ∀ c ln, (S.scan (bytesOf src)).err = some (c, ln) → c ≠ 0) :
    Calls Tryz.prog 19 #[.string src] w fun e w' => Below w.heap.size w w' ∧ ClPost w.heap.size (S.scan (bytesOf src)) e w' := by
  have hwf : ∀ f, Fence.wide.fn f := fun _ => trivial
  have HT := Aside0.mk hT
  have HNE := Aside0.mk hne
  clear hT hne
  obtain ⟨H, hH⟩ : ∃ H, w.heap.size = H := ⟨_, rfl⟩
  have HH := Aside0.mk hH
  have HCL := Lib.hid (fun W => clauses.calls src ⟨H + 1, 0, none⟩ W)
  have HLM := Lib.hid (scan_limited.calls src 0 w (by unfold scan_limited.f; rw [if_neg (by omega)]))
  refine (callsIn_wide (n := 8)).1 ?_
  refine callsIn_of_wp_marks Tryz.func19 rfl trivial ?_ rfl
  simp only [Tryz.ntmps19, List.size_toArray, List.length_cons, List.length_nil, Nat.reduceAdd, Nat.reduceSub, Array.replicate_succ, Array.replicate_zero, List.push_toArray, List.append_toArray, List.nil_append, List.cons_append]
  gi_wp2_with (first | (gi_at_call 50; refine (callsIn_wide.2 HLM.out).mono ?_; rintro e w' ⟨rfl, ⟨⟨q, rfl⟩⟩⟩) | (gi_at_call 53; refine (callsIn_wide.2 (HCL.out _)).mono ?_; rintro e w' ⟨rfl, rfl⟩))
  generalize hU : ((((w.drewN q).alloc _).alloc _).alloc _).alloc _ = U
  have hq : (w.drewN q).heap.size = H := hH
  have hUs : U.heap.size = H + 4 := by rw [← hU, ← hH]; simp
  have hUb : Below H w U := by rw [← hU, ← hH]; exact below_alloc (below_alloc (below_alloc (below_alloc (pw_below_drewN (Below.refl _ _) q) _) _) _) _
  have u0 : U.heap[H]? = some (.cells #[.slice none 0 0] 31 (0, 0)) := by
    rw [← hU, ← hH]; exact (Below.heap_alloc _ _ _ (by simp <;> omega)).trans ((Below.heap_alloc _ _ _ (by simp <;> omega)).trans ((Below.heap_alloc _ _ _ (by simp)).trans (heap_alloc_new (w.drewN q) _)))
  have u1 : U.heap[H + 1]? = some (.cells #[.int .i64 0, .int .i64 0] 76 (0, 0)) := by
    rw [← hU, ← hH]; refine (Below.heap_alloc _ _ _ (by simp <;> omega)).trans ((Below.heap_alloc _ _ _ (by simp)).trans ?_)
    have := heap_alloc_new ((w.drewN q).alloc (.cells #[.slice none 0 0] 31)) (.cells #[.int .i64 0, .int .i64 0] 76)
    rw [World.size_alloc] at this; exact this
  have u2 : U.heap[H + 2]? = some (.cells #[.string src] 9 (0, 0)) := by
    rw [← hU, ← hH]; refine (Below.heap_alloc _ _ _ (by simp)).trans ?_
    have := heap_alloc_new (((w.drewN q).alloc (.cells #[.slice none 0 0] 31)).alloc (.cells #[.int .i64 0, .int .i64 0] 76)) (.cells #[.string src] 9)
    rw [World.size_alloc, World.size_alloc] at this; exact this
  have u3 : U.heap[H + 3]? = some (.cells #[.pointer (some ⟨H + 1, 0, none⟩)] 88 (0, 0)) := by
    have := heap_alloc_new ((((w.drewN q).alloc (.cells #[.slice none 0 0] 31)).alloc (.cells #[.int .i64 0, .int .i64 0] 76)).alloc (.cells #[.string src] 9)) (.cells #[.pointer (some ⟨H + 1, 0, none⟩)] 88)
    rw [World.size_alloc, World.size_alloc, World.size_alloc, hq] at this
    rw [← hU]; exact this
  have hTU : TabOK U := HT.out.of_below (hUb.mono (by omega))
  clear hU
  refine rf_enter (F := Fence.wide) (n := 8) (gf := 87) rfl (by omega) rfl trivial iter_enters
    (fun Z => ∃ v hs G, Z.heap[H]? = some (.cells #[v] 31 (0, 0)) ∧ Z.heap[H + 4]? = some (.deferred (some [])) ∧ Z.ownsRow (H + 6) 24 1 v hs.length hs ∧ Hdrs G Z hs ((S.scan (bytesOf src)).cl.map List.dropLast) ∧ (∀ g, G g → H ≤ g ∧ v.ownBlock ≠ some g ∧ g ≠ H + 4 ∧ g ≠ H + 5) ∧ Below H w Z ∧ Z.heap[H + 1]? = some (.cells (errV (S.scan (bytesOf src)).err) 76 (0, 0)))
    (fun _ => False) ?hcall ?hready ?hdone
  case hdone => rintro Z r _ h; exact h.elim
  case hcall =>
    intro fn rd X hfn hrd hXs hXB x7 x8
    rw [hUs] at hXs hXB x7 x8 ⊢
    have hkx : ∀ k, k < H + 4 → X.heap[k]? = U.heap[k]? := fun k hk => hXB.block k (by omega)
    have hJ0 : ClJ w H rd [] (ClF H (.slice none 0 0) (fun _ => False)) X := ⟨_, [], _, rfl, (hkx _ (by omega)).trans u0, x7, x8, World.ownsRow_nil _ _ _ _, ⟨rfl, fun j u c hu _ => by simp at hu⟩, by simp, Nat.le_refl _, fun g e => e.elim, hUb.trans (hXB.mono (by omega))⟩
    have C : Client (H + 5) 5 (ClJ w H rd) := by
      refine ⟨?_, ?_, ?_⟩
      · rintro pre F W W' ⟨v, hs, G, rfl, hI⟩ hb
        exact ⟨v, hs, G, rfl, hI.keep hb⟩
      · rintro pre F W ⟨v, hs, G, rfl, hI⟩ k hk
        have hlw := hI.lw
        rcases hk with e | e | e | e | e | e
        · omega
        · omega
        · omega
        · omega
        · exact (hI.own.lt k e).2
        · exact (hI.gs k e).2.1
      · rintro pre F W base v cl ⟨vo, hs, G, rfl, hI⟩ hown hne hdis hlen
        obtain ⟨g2, c2, rfl⟩ : ∃ g2 c2, v = .slice (some ⟨g2, 0, none⟩) cl.length c2 := by
          rcases hown.2 with ⟨_, e2⟩ | ⟨g, cap, cs, e, _⟩
          · exact absurd (List.length_eq_zero_iff.1 e2) hne
          · exact ⟨_, _, e⟩
        have hd2 : ∀ k, ClF H vo G k → k ≠ g2 := fun k hk e => hdis k hk (by rw [e]; rfl)
        have hcap := (tks_C hown).2.1
        obtain ⟨cn, hcn⟩ : ∃ cn, cl.length = cn + 1 := ⟨cl.length - 1, by have := List.length_pos_iff.2 hne; omega⟩
        have hnx := fun (Y w1 : World) (v' : Value) (rb : Loop) => hI.next (rb := rb) (X := Y) (w1 := w1) (v' := v') hne hown hd2 (by omega)
        rw [hcn] at hcap hlen
        simp only [hcn, Nat.add_sub_cancel] at hnx
        have hhl : hs.length ≤ 300000 := by
          have h1 := hI.els.1
          rw [List.length_map] at h1
          have := hI.pne
          omega
        rw [hcn]
        refine rf_round (l := H + 5) hrd trivial hI.lop rfl ?_
        have HRD := Aside0.mk hrd
        clear hrd
        gi_wp2
        refine ⟨hI.lop, ?_⟩
        have HRF : Aside0 (∀ r2 : Loop, r2 = { rd with state := LoopState.busy } → ({ r2 with state := .ready, pending := none } : Loop) = rd) := ⟨fun r2 e => by rw [e, HRD.out]; rfl⟩
        generalize hrb : ({ rd with state := LoopState.busy } : Loop) = rb
        have HRB := Aside0.mk (HRF.out rb hrb.symm)
        have hbB : But (fun k => k = H + 5) W (W.putObj (H + 5) (.loop rb)) := (But.refl (fun k => k = H + 5) W).putObj _ _ rfl
        have hge : ∀ k, vo.ownBlock = some k → H + 6 ≤ k := fun k e => (hI.own.lt k e).1
        have hoB := own_butE hI.own hbB (fun k e e2 => by have := hge k e2; omega)
        have hoc : (W.putObj (H + 5) (.loop rb)).heap[H]? = some (.cells #[vo] 31 (0, 0)) := (hbB.block H (by have := hI.lw; omega) (by omega)).trans hI.out
        have hps : (W.putObj (H + 5) (.loop rb)).heap.size = W.heap.size := World.putObj_size
        have hlw := hI.lw
        have HNX := Aside0.mk (fun (Y w1 : World) (v' : Value) => hnx Y w1 v' rb)
        have HONE := Aside0.mk hI.one
        generalize W.putObj (H + 5) (.loop rb) = WB at *
        obtain ⟨hl, hhl2⟩ : ∃ hl, hs.length = hl := ⟨_, rfl⟩
        rw [hhl2] at hoB hhl
        obtain ⟨i1, hi0, hz0, hz1, hz2⟩ := info_parts (show (Tryz.prog.info? 24).map (fun i => (i.zero, i.size, i.bytes)) = some (some (.slice none 0 0), 1, 24) by kernel_rfl)
        obtain ⟨Xh, hXh⟩ : ∃ Xh, WB.heap.size = Xh := ⟨_, rfl⟩
        obtain ⟨Y, hY⟩ : ∃ Y, WB.drew.alloc (.cells #[.slice (some ⟨g2, 0, none⟩) cn cn] 24) = Y := ⟨_, rfl⟩
        have hYb : But (fun _ => False) WB Y := by rw [← hY]; exact ((But.refl _ WB).drew).alloc _
        have hYs : Y.heap.size = Xh + 1 := by rw [← hY, ← hXh]; exact World.size_alloc _ _
        have hYn : Y.heap[Xh]? = some (.cells #[.slice (some ⟨g2, 0, none⟩) cn cn] 24 (0, 0)) := by rw [← hY, ← hXh]; exact heap_alloc_new WB.drew _
        have hYo := own_butE hoB hYb (fun k e => e.elim)
        obtain ⟨g', cap', w1, hrun, hown1, hgrow, hat, hlt⟩ := run_append_lies (P := Tryz.prog) Y 31 31 (H + 6) 24 i1 (.slice none 0 0) 1 24 Tryz.underlying31 hi0 hz0 hz1 hz2 rfl (by decide) vo hl hs hYo
          ⟨Xh, 0, none⟩ 1 1 [.slice (some ⟨g2, 0, none⟩) cn cn] rfl (fun j u hu => by
            rw [add_plain, blk_cell hYn j]
            simpa using hu) (by simp [Value.oneCell']) (by decide) (by unfold maxLen; omega) (by omega) (by omega) (Xh + 1) hYs
        have c0 : WB.cell? ⟨H, 0, none⟩ = some vo := (blk_cell hoc 0).trans rfl
        have hYc := (hYb.block H (by omega) (fun e => e)).trans hoc
        have cY : Y.cell? ⟨H, 0, none⟩ = some vo := (blk_cell hYc 0).trans rfl
        have hwc := TkI_cbE hgrow hYc (fun k e => by have := hge k e; omega)
        have e1 := blk_cell hwc 0
        have q1 := blk_frozen hwc 0
        have HFIN := Aside0.mk (HNX.out Y w1 (.slice (some ⟨g', 0, none⟩) (hl + 1) cap') hYb (by rw [hhl2]; exact hown1) hgrow (by
          rcases hat with e | e
          · exact .inl e.symm
          · exact .inr (by rw [e, hYs]; rfl)))
        have hw1 : IntKind.i64.wrap (((cn + 1 : Nat) : Int) - 1) = (cn : Int) := (w64 _ (by omega) (by omega)).trans (by omega)
        have hw3 : IntKind.i64.wrap ((cn : Int) + 1 - 1) = (cn : Int) := (w64 _ (by omega) (by omega)).trans (by omega)
        have hw4 : (cn : Int) + 1 - 1 = (cn : Int) := by omega
        have hle : cn ≤ c2 := by omega
        clear hrb hI HRF HRD hbB hoB hoc hnx hown hd2 HNX hYo hYn hown1 hgrow hat hwc hYc hlt hYb hps
        gi_upto_region 9 with (fail)
        refine wpIn_region_any (by kernel_rfl) ?_
        change wpAnyIn _ _ _ _ _ _ _ _ _ (World.drew WB)
        refine wpAnyIn_ready (rs := [0, 1, 2, 3]) (by kernel_rfl) (by simp) ?_
        refine AllReadyIn.cons rfl (fun K hK => ?_) (AllReadyIn.cons rfl (fun K hK => ?_) (AllReadyIn.cons rfl (fun K hK => ?_) (AllReadyIn.cons rfl (fun K hK => ?_) AllReadyIn.nil)))
        · go_simp; refine hK _ _ ?_; clear hK K
          refine wpAnyIn_ready (rs := [1, 2, 3]) (by kernel_rfl) (by simp) ?_
          refine AllReadyIn.cons rfl (fun K hK => ?_) (AllReadyIn.cons rfl (fun K hK => ?_) (AllReadyIn.cons rfl (fun K hK => ?_) AllReadyIn.nil))
          · go_simp; refine hK _ _ ?_; clear hK K
            refine wpAnyIn_ready (rs := [2, 3]) (by kernel_rfl) (by simp) ?_
            refine AllReadyIn.cons rfl (fun K hK => ?_) (AllReadyIn.cons rfl (fun K hK => ?_) AllReadyIn.nil)
            · go_simp; refine hK _ _ ?_; clear hK K
              refine wpAnyIn_ready (rs := [3]) (by kernel_rfl) (by simp) ?_
              refine AllReadyIn.cons rfl (fun K hK => ?_) AllReadyIn.nil
              go_simp; refine hK _ _ ?_; clear hK K
              refine wpAnyIn_ready (rs := [4]) (by kernel_rfl) (by simp) ?_
              refine AllReadyIn.cons rfl (fun K hK => ?_) AllReadyIn.nil
              go_simp; refine hK _ _ ?_; clear hK K
              refine wpAnyIn_ready (rs := [5]) (by kernel_rfl) (by simp) ?_
              refine AllReadyIn.cons rfl (fun K hK => ?_) AllReadyIn.nil
              go_simp; refine hK _ _ ?_; clear hK K
              refine wpAnyIn_ready (rs := [6]) (by kernel_rfl) (by simp) ?_
              refine AllReadyIn.cons rfl (fun K hK => ?_) AllReadyIn.nil
              refine stepIn_appendF rfl (.tmp 22) (.tmp 27) _ rfl _ _ _ rfl rfl hrun ?_; (try go_simp); refine hK _ _ ?_; clear hK K
              refine wpAnyIn_ready (rs := [7]) (by kernel_rfl) (by simp) ?_
              refine AllReadyIn.cons rfl (fun K hK => ?_) AllReadyIn.nil
              go_simp; refine hK _ _ ?_; clear hK K
              refine wpAnyIn_done (by kernel_rfl) ?_ _
              (try gi_wp2)
              refine ⟨rb, HFIN.out.1, rfl, ClF H (.slice (some ⟨g', 0, none⟩) (hl + 1) cap') (fun k => G k ∨ k = g2), ?_, ?_, fun k hk => ?_⟩
              · rw [HRB.out]; exact HFIN.out.2.1
              · rw [HRB.out]; exact HFIN.out.2.2.1
              · rcases HFIN.out.2.2.2 k hk with e | e | e
                · exact .inl e
                · exact .inr (.inl e)
                · exact .inr (.inr (by rw [e]; rfl))
            · go_simp; refine hK _ _ ?_; clear hK K
              refine wpAnyIn_ready (rs := [2]) (by kernel_rfl) (by simp) ?_
              refine AllReadyIn.cons rfl (fun K hK => ?_) AllReadyIn.nil
              go_simp; refine hK _ _ ?_; clear hK K
              refine wpAnyIn_ready (rs := [4]) (by kernel_rfl) (by simp) ?_
              refine AllReadyIn.cons rfl (fun K hK => ?_) AllReadyIn.nil
              go_simp; refine hK _ _ ?_; clear hK K
              refine wpAnyIn_ready (rs := [5]) (by kernel_rfl) (by simp) ?_
              refine AllReadyIn.cons rfl (fun K hK => ?_) AllReadyIn.nil
              go_simp; refine hK _ _ ?_; clear hK K
              refine wpAnyIn_ready (rs := [6]) (by kernel_rfl) (by simp) ?_
              refine AllReadyIn.cons rfl (fun K hK => ?_) AllReadyIn.nil
              refine stepIn_appendF rfl (.tmp 22) (.tmp 27) _ rfl _ _ _ rfl rfl hrun ?_; (try go_simp); refine hK _ _ ?_; clear hK K
              refine wpAnyIn_ready (rs := [7]) (by kernel_rfl) (by simp) ?_
              refine AllReadyIn.cons rfl (fun K hK => ?_) AllReadyIn.nil
              go_simp; refine hK _ _ ?_; clear hK K
              refine wpAnyIn_done (by kernel_rfl) ?_ _
              (try gi_wp2)
              refine ⟨rb, HFIN.out.1, rfl, ClF H (.slice (some ⟨g', 0, none⟩) (hl + 1) cap') (fun k => G k ∨ k = g2), ?_, ?_, fun k hk => ?_⟩
              · rw [HRB.out]; exact HFIN.out.2.1
              · rw [HRB.out]; exact HFIN.out.2.2.1
              · rcases HFIN.out.2.2.2 k hk with e | e | e
                · exact .inl e
                · exact .inr (.inl e)
                · exact .inr (.inr (by rw [e]; rfl))
          · go_simp; refine hK _ _ ?_; clear hK K
            refine wpAnyIn_ready (rs := [1, 3]) (by kernel_rfl) (by simp) ?_
            refine AllReadyIn.cons rfl (fun K hK => ?_) (AllReadyIn.cons rfl (fun K hK => ?_) AllReadyIn.nil)
            · go_simp; refine hK _ _ ?_; clear hK K
              refine wpAnyIn_ready (rs := [3]) (by kernel_rfl) (by simp) ?_
              refine AllReadyIn.cons rfl (fun K hK => ?_) AllReadyIn.nil
              go_simp; refine hK _ _ ?_; clear hK K
              refine wpAnyIn_ready (rs := [4]) (by kernel_rfl) (by simp) ?_
              refine AllReadyIn.cons rfl (fun K hK => ?_) AllReadyIn.nil
              go_simp; refine hK _ _ ?_; clear hK K
              refine wpAnyIn_ready (rs := [5]) (by kernel_rfl) (by simp) ?_
              refine AllReadyIn.cons rfl (fun K hK => ?_) AllReadyIn.nil
              go_simp; refine hK _ _ ?_; clear hK K
              refine wpAnyIn_ready (rs := [6]) (by kernel_rfl) (by simp) ?_
              refine AllReadyIn.cons rfl (fun K hK => ?_) AllReadyIn.nil
              refine stepIn_appendF rfl (.tmp 22) (.tmp 27) _ rfl _ _ _ rfl rfl hrun ?_; (try go_simp); refine hK _ _ ?_; clear hK K
              refine wpAnyIn_ready (rs := [7]) (by kernel_rfl) (by simp) ?_
              refine AllReadyIn.cons rfl (fun K hK => ?_) AllReadyIn.nil
              go_simp; refine hK _ _ ?_; clear hK K
              refine wpAnyIn_done (by kernel_rfl) ?_ _
              (try gi_wp2)
              refine ⟨rb, HFIN.out.1, rfl, ClF H (.slice (some ⟨g', 0, none⟩) (hl + 1) cap') (fun k => G k ∨ k = g2), ?_, ?_, fun k hk => ?_⟩
              · rw [HRB.out]; exact HFIN.out.2.1
              · rw [HRB.out]; exact HFIN.out.2.2.1
              · rcases HFIN.out.2.2.2 k hk with e | e | e
                · exact .inl e
                · exact .inr (.inl e)
                · exact .inr (.inr (by rw [e]; rfl))
            · go_simp; refine hK _ _ ?_; clear hK K
              refine wpAnyIn_ready (rs := [1]) (by kernel_rfl) (by simp) ?_
              refine AllReadyIn.cons rfl (fun K hK => ?_) AllReadyIn.nil
              go_simp; refine hK _ _ ?_; clear hK K
              refine wpAnyIn_ready (rs := [4]) (by kernel_rfl) (by simp) ?_
              refine AllReadyIn.cons rfl (fun K hK => ?_) AllReadyIn.nil
              go_simp; refine hK _ _ ?_; clear hK K
              refine wpAnyIn_ready (rs := [5]) (by kernel_rfl) (by simp) ?_
              refine AllReadyIn.cons rfl (fun K hK => ?_) AllReadyIn.nil
              go_simp; refine hK _ _ ?_; clear hK K
              refine wpAnyIn_ready (rs := [6]) (by kernel_rfl) (by simp) ?_
              refine AllReadyIn.cons rfl (fun K hK => ?_) AllReadyIn.nil
              refine stepIn_appendF rfl (.tmp 22) (.tmp 27) _ rfl _ _ _ rfl rfl hrun ?_; (try go_simp); refine hK _ _ ?_; clear hK K
              refine wpAnyIn_ready (rs := [7]) (by kernel_rfl) (by simp) ?_
              refine AllReadyIn.cons rfl (fun K hK => ?_) AllReadyIn.nil
              go_simp; refine hK _ _ ?_; clear hK K
              refine wpAnyIn_done (by kernel_rfl) ?_ _
              (try gi_wp2)
              refine ⟨rb, HFIN.out.1, rfl, ClF H (.slice (some ⟨g', 0, none⟩) (hl + 1) cap') (fun k => G k ∨ k = g2), ?_, ?_, fun k hk => ?_⟩
              · rw [HRB.out]; exact HFIN.out.2.1
              · rw [HRB.out]; exact HFIN.out.2.2.1
              · rcases HFIN.out.2.2.2 k hk with e | e | e
                · exact .inl e
                · exact .inr (.inl e)
                · exact .inr (.inr (by rw [e]; rfl))
          · go_simp; refine hK _ _ ?_; clear hK K
            refine wpAnyIn_ready (rs := [1, 2]) (by kernel_rfl) (by simp) ?_
            refine AllReadyIn.cons rfl (fun K hK => ?_) (AllReadyIn.cons rfl (fun K hK => ?_) AllReadyIn.nil)
            · go_simp; refine hK _ _ ?_; clear hK K
              refine wpAnyIn_ready (rs := [2]) (by kernel_rfl) (by simp) ?_
              refine AllReadyIn.cons rfl (fun K hK => ?_) AllReadyIn.nil
              go_simp; refine hK _ _ ?_; clear hK K
              refine wpAnyIn_ready (rs := [4]) (by kernel_rfl) (by simp) ?_
              refine AllReadyIn.cons rfl (fun K hK => ?_) AllReadyIn.nil
              go_simp; refine hK _ _ ?_; clear hK K
              refine wpAnyIn_ready (rs := [5]) (by kernel_rfl) (by simp) ?_
              refine AllReadyIn.cons rfl (fun K hK => ?_) AllReadyIn.nil
              go_simp; refine hK _ _ ?_; clear hK K
              refine wpAnyIn_ready (rs := [6]) (by kernel_rfl) (by simp) ?_
              refine AllReadyIn.cons rfl (fun K hK => ?_) AllReadyIn.nil
              refine stepIn_appendF rfl (.tmp 22) (.tmp 27) _ rfl _ _ _ rfl rfl hrun ?_; (try go_simp); refine hK _ _ ?_; clear hK K
              refine wpAnyIn_ready (rs := [7]) (by kernel_rfl) (by simp) ?_
              refine AllReadyIn.cons rfl (fun K hK => ?_) AllReadyIn.nil
              go_simp; refine hK _ _ ?_; clear hK K
              refine wpAnyIn_done (by kernel_rfl) ?_ _
              (try gi_wp2)
              refine ⟨rb, HFIN.out.1, rfl, ClF H (.slice (some ⟨g', 0, none⟩) (hl + 1) cap') (fun k => G k ∨ k = g2), ?_, ?_, fun k hk => ?_⟩
              · rw [HRB.out]; exact HFIN.out.2.1
              · rw [HRB.out]; exact HFIN.out.2.2.1
              · rcases HFIN.out.2.2.2 k hk with e | e | e
                · exact .inl e
                · exact .inr (.inl e)
                · exact .inr (.inr (by rw [e]; rfl))
            · go_simp; refine hK _ _ ?_; clear hK K
              refine wpAnyIn_ready (rs := [1]) (by kernel_rfl) (by simp) ?_
              refine AllReadyIn.cons rfl (fun K hK => ?_) AllReadyIn.nil
              go_simp; refine hK _ _ ?_; clear hK K
              refine wpAnyIn_ready (rs := [4]) (by kernel_rfl) (by simp) ?_
              refine AllReadyIn.cons rfl (fun K hK => ?_) AllReadyIn.nil
              go_simp; refine hK _ _ ?_; clear hK K
              refine wpAnyIn_ready (rs := [5]) (by kernel_rfl) (by simp) ?_
              refine AllReadyIn.cons rfl (fun K hK => ?_) AllReadyIn.nil
              go_simp; refine hK _ _ ?_; clear hK K
              refine wpAnyIn_ready (rs := [6]) (by kernel_rfl) (by simp) ?_
              refine AllReadyIn.cons rfl (fun K hK => ?_) AllReadyIn.nil
              refine stepIn_appendF rfl (.tmp 22) (.tmp 27) _ rfl _ _ _ rfl rfl hrun ?_; (try go_simp); refine hK _ _ ?_; clear hK K
              refine wpAnyIn_ready (rs := [7]) (by kernel_rfl) (by simp) ?_
              refine AllReadyIn.cons rfl (fun K hK => ?_) AllReadyIn.nil
              go_simp; refine hK _ _ ?_; clear hK K
              refine wpAnyIn_done (by kernel_rfl) ?_ _
              (try gi_wp2)
              refine ⟨rb, HFIN.out.1, rfl, ClF H (.slice (some ⟨g', 0, none⟩) (hl + 1) cap') (fun k => G k ∨ k = g2), ?_, ?_, fun k hk => ?_⟩
              · rw [HRB.out]; exact HFIN.out.2.1
              · rw [HRB.out]; exact HFIN.out.2.2.1
              · rcases HFIN.out.2.2.2 k hk with e | e | e
                · exact .inl e
                · exact .inr (.inl e)
                · exact .inr (.inr (by rw [e]; rfl))
        · go_simp; refine hK _ _ ?_; clear hK K
          refine wpAnyIn_ready (rs := [0, 2, 3]) (by kernel_rfl) (by simp) ?_
          refine AllReadyIn.cons rfl (fun K hK => ?_) (AllReadyIn.cons rfl (fun K hK => ?_) (AllReadyIn.cons rfl (fun K hK => ?_) AllReadyIn.nil))
          · go_simp; refine hK _ _ ?_; clear hK K
            refine wpAnyIn_ready (rs := [2, 3]) (by kernel_rfl) (by simp) ?_
            refine AllReadyIn.cons rfl (fun K hK => ?_) (AllReadyIn.cons rfl (fun K hK => ?_) AllReadyIn.nil)
            · go_simp; refine hK _ _ ?_; clear hK K
              refine wpAnyIn_ready (rs := [3]) (by kernel_rfl) (by simp) ?_
              refine AllReadyIn.cons rfl (fun K hK => ?_) AllReadyIn.nil
              go_simp; refine hK _ _ ?_; clear hK K
              refine wpAnyIn_ready (rs := [4]) (by kernel_rfl) (by simp) ?_
              refine AllReadyIn.cons rfl (fun K hK => ?_) AllReadyIn.nil
              go_simp; refine hK _ _ ?_; clear hK K
              refine wpAnyIn_ready (rs := [5]) (by kernel_rfl) (by simp) ?_
              refine AllReadyIn.cons rfl (fun K hK => ?_) AllReadyIn.nil
              go_simp; refine hK _ _ ?_; clear hK K
              refine wpAnyIn_ready (rs := [6]) (by kernel_rfl) (by simp) ?_
              refine AllReadyIn.cons rfl (fun K hK => ?_) AllReadyIn.nil
              refine stepIn_appendF rfl (.tmp 22) (.tmp 27) _ rfl _ _ _ rfl rfl hrun ?_; (try go_simp); refine hK _ _ ?_; clear hK K
              refine wpAnyIn_ready (rs := [7]) (by kernel_rfl) (by simp) ?_
              refine AllReadyIn.cons rfl (fun K hK => ?_) AllReadyIn.nil
              go_simp; refine hK _ _ ?_; clear hK K
              refine wpAnyIn_done (by kernel_rfl) ?_ _
              (try gi_wp2)
              refine ⟨rb, HFIN.out.1, rfl, ClF H (.slice (some ⟨g', 0, none⟩) (hl + 1) cap') (fun k => G k ∨ k = g2), ?_, ?_, fun k hk => ?_⟩
              · rw [HRB.out]; exact HFIN.out.2.1
              · rw [HRB.out]; exact HFIN.out.2.2.1
              · rcases HFIN.out.2.2.2 k hk with e | e | e
                · exact .inl e
                · exact .inr (.inl e)
                · exact .inr (.inr (by rw [e]; rfl))
            · go_simp; refine hK _ _ ?_; clear hK K
              refine wpAnyIn_ready (rs := [2]) (by kernel_rfl) (by simp) ?_
              refine AllReadyIn.cons rfl (fun K hK => ?_) AllReadyIn.nil
              go_simp; refine hK _ _ ?_; clear hK K
              refine wpAnyIn_ready (rs := [4]) (by kernel_rfl) (by simp) ?_
              refine AllReadyIn.cons rfl (fun K hK => ?_) AllReadyIn.nil
              go_simp; refine hK _ _ ?_; clear hK K
              refine wpAnyIn_ready (rs := [5]) (by kernel_rfl) (by simp) ?_
              refine AllReadyIn.cons rfl (fun K hK => ?_) AllReadyIn.nil
              go_simp; refine hK _ _ ?_; clear hK K
              refine wpAnyIn_ready (rs := [6]) (by kernel_rfl) (by simp) ?_
              refine AllReadyIn.cons rfl (fun K hK => ?_) AllReadyIn.nil
              refine stepIn_appendF rfl (.tmp 22) (.tmp 27) _ rfl _ _ _ rfl rfl hrun ?_; (try go_simp); refine hK _ _ ?_; clear hK K
              refine wpAnyIn_ready (rs := [7]) (by kernel_rfl) (by simp) ?_
              refine AllReadyIn.cons rfl (fun K hK => ?_) AllReadyIn.nil
              go_simp; refine hK _ _ ?_; clear hK K
              refine wpAnyIn_done (by kernel_rfl) ?_ _
              (try gi_wp2)
              refine ⟨rb, HFIN.out.1, rfl, ClF H (.slice (some ⟨g', 0, none⟩) (hl + 1) cap') (fun k => G k ∨ k = g2), ?_, ?_, fun k hk => ?_⟩
              · rw [HRB.out]; exact HFIN.out.2.1
              · rw [HRB.out]; exact HFIN.out.2.2.1
              · rcases HFIN.out.2.2.2 k hk with e | e | e
                · exact .inl e
                · exact .inr (.inl e)
                · exact .inr (.inr (by rw [e]; rfl))
          · go_simp; refine hK _ _ ?_; clear hK K
            refine wpAnyIn_ready (rs := [0, 3]) (by kernel_rfl) (by simp) ?_
            refine AllReadyIn.cons rfl (fun K hK => ?_) (AllReadyIn.cons rfl (fun K hK => ?_) AllReadyIn.nil)
            · go_simp; refine hK _ _ ?_; clear hK K
              refine wpAnyIn_ready (rs := [3]) (by kernel_rfl) (by simp) ?_
              refine AllReadyIn.cons rfl (fun K hK => ?_) AllReadyIn.nil
              go_simp; refine hK _ _ ?_; clear hK K
              refine wpAnyIn_ready (rs := [4]) (by kernel_rfl) (by simp) ?_
              refine AllReadyIn.cons rfl (fun K hK => ?_) AllReadyIn.nil
              go_simp; refine hK _ _ ?_; clear hK K
              refine wpAnyIn_ready (rs := [5]) (by kernel_rfl) (by simp) ?_
              refine AllReadyIn.cons rfl (fun K hK => ?_) AllReadyIn.nil
              go_simp; refine hK _ _ ?_; clear hK K
              refine wpAnyIn_ready (rs := [6]) (by kernel_rfl) (by simp) ?_
              refine AllReadyIn.cons rfl (fun K hK => ?_) AllReadyIn.nil
              refine stepIn_appendF rfl (.tmp 22) (.tmp 27) _ rfl _ _ _ rfl rfl hrun ?_; (try go_simp); refine hK _ _ ?_; clear hK K
              refine wpAnyIn_ready (rs := [7]) (by kernel_rfl) (by simp) ?_
              refine AllReadyIn.cons rfl (fun K hK => ?_) AllReadyIn.nil
              go_simp; refine hK _ _ ?_; clear hK K
              refine wpAnyIn_done (by kernel_rfl) ?_ _
              (try gi_wp2)
              refine ⟨rb, HFIN.out.1, rfl, ClF H (.slice (some ⟨g', 0, none⟩) (hl + 1) cap') (fun k => G k ∨ k = g2), ?_, ?_, fun k hk => ?_⟩
              · rw [HRB.out]; exact HFIN.out.2.1
              · rw [HRB.out]; exact HFIN.out.2.2.1
              · rcases HFIN.out.2.2.2 k hk with e | e | e
                · exact .inl e
                · exact .inr (.inl e)
                · exact .inr (.inr (by rw [e]; rfl))
            · go_simp; refine hK _ _ ?_; clear hK K
              refine wpAnyIn_ready (rs := [0, 4]) (by kernel_rfl) (by simp) ?_
              refine AllReadyIn.cons rfl (fun K hK => ?_) (AllReadyIn.cons rfl (fun K hK => ?_) AllReadyIn.nil)
              · go_simp; refine hK _ _ ?_; clear hK K
                refine wpAnyIn_ready (rs := [4]) (by kernel_rfl) (by simp) ?_
                refine AllReadyIn.cons rfl (fun K hK => ?_) AllReadyIn.nil
                go_simp; refine hK _ _ ?_; clear hK K
                refine wpAnyIn_ready (rs := [5]) (by kernel_rfl) (by simp) ?_
                refine AllReadyIn.cons rfl (fun K hK => ?_) AllReadyIn.nil
                go_simp; refine hK _ _ ?_; clear hK K
                refine wpAnyIn_ready (rs := [6]) (by kernel_rfl) (by simp) ?_
                refine AllReadyIn.cons rfl (fun K hK => ?_) AllReadyIn.nil
                refine stepIn_appendF rfl (.tmp 22) (.tmp 27) _ rfl _ _ _ rfl rfl hrun ?_; (try go_simp); refine hK _ _ ?_; clear hK K
                refine wpAnyIn_ready (rs := [7]) (by kernel_rfl) (by simp) ?_
                refine AllReadyIn.cons rfl (fun K hK => ?_) AllReadyIn.nil
                go_simp; refine hK _ _ ?_; clear hK K
                refine wpAnyIn_done (by kernel_rfl) ?_ _
                (try gi_wp2)
                refine ⟨rb, HFIN.out.1, rfl, ClF H (.slice (some ⟨g', 0, none⟩) (hl + 1) cap') (fun k => G k ∨ k = g2), ?_, ?_, fun k hk => ?_⟩
                · rw [HRB.out]; exact HFIN.out.2.1
                · rw [HRB.out]; exact HFIN.out.2.2.1
                · rcases HFIN.out.2.2.2 k hk with e | e | e
                  · exact .inl e
                  · exact .inr (.inl e)
                  · exact .inr (.inr (by rw [e]; rfl))
              · go_simp; refine hK _ _ ?_; clear hK K
                refine wpAnyIn_ready (rs := [0, 5]) (by kernel_rfl) (by simp) ?_
                refine AllReadyIn.cons rfl (fun K hK => ?_) (AllReadyIn.cons rfl (fun K hK => ?_) AllReadyIn.nil)
                · go_simp; refine hK _ _ ?_; clear hK K
                  refine wpAnyIn_ready (rs := [5]) (by kernel_rfl) (by simp) ?_
                  refine AllReadyIn.cons rfl (fun K hK => ?_) AllReadyIn.nil
                  go_simp; refine hK _ _ ?_; clear hK K
                  refine wpAnyIn_ready (rs := [6]) (by kernel_rfl) (by simp) ?_
                  refine AllReadyIn.cons rfl (fun K hK => ?_) AllReadyIn.nil
                  refine stepIn_appendF rfl (.tmp 22) (.tmp 27) _ rfl _ _ _ rfl rfl hrun ?_; (try go_simp); refine hK _ _ ?_; clear hK K
                  refine wpAnyIn_ready (rs := [7]) (by kernel_rfl) (by simp) ?_
                  refine AllReadyIn.cons rfl (fun K hK => ?_) AllReadyIn.nil
                  go_simp; refine hK _ _ ?_; clear hK K
                  refine wpAnyIn_done (by kernel_rfl) ?_ _
                  (try gi_wp2)
                  refine ⟨rb, HFIN.out.1, rfl, ClF H (.slice (some ⟨g', 0, none⟩) (hl + 1) cap') (fun k => G k ∨ k = g2), ?_, ?_, fun k hk => ?_⟩
                  · rw [HRB.out]; exact HFIN.out.2.1
                  · rw [HRB.out]; exact HFIN.out.2.2.1
                  · rcases HFIN.out.2.2.2 k hk with e | e | e
                    · exact .inl e
                    · exact .inr (.inl e)
                    · exact .inr (.inr (by rw [e]; rfl))
                · go_simp; refine hK _ _ ?_; clear hK K
                  refine wpAnyIn_ready (rs := [0]) (by kernel_rfl) (by simp) ?_
                  refine AllReadyIn.cons rfl (fun K hK => ?_) AllReadyIn.nil
                  go_simp; refine hK _ _ ?_; clear hK K
                  refine wpAnyIn_ready (rs := [6]) (by kernel_rfl) (by simp) ?_
                  refine AllReadyIn.cons rfl (fun K hK => ?_) AllReadyIn.nil
                  refine stepIn_appendF rfl (.tmp 22) (.tmp 27) _ rfl _ _ _ rfl rfl hrun ?_; (try go_simp); refine hK _ _ ?_; clear hK K
                  refine wpAnyIn_ready (rs := [7]) (by kernel_rfl) (by simp) ?_
                  refine AllReadyIn.cons rfl (fun K hK => ?_) AllReadyIn.nil
                  go_simp; refine hK _ _ ?_; clear hK K
                  refine wpAnyIn_done (by kernel_rfl) ?_ _
                  (try gi_wp2)
                  refine ⟨rb, HFIN.out.1, rfl, ClF H (.slice (some ⟨g', 0, none⟩) (hl + 1) cap') (fun k => G k ∨ k = g2), ?_, ?_, fun k hk => ?_⟩
                  · rw [HRB.out]; exact HFIN.out.2.1
                  · rw [HRB.out]; exact HFIN.out.2.2.1
                  · rcases HFIN.out.2.2.2 k hk with e | e | e
                    · exact .inl e
                    · exact .inr (.inl e)
                    · exact .inr (.inr (by rw [e]; rfl))
          · go_simp; refine hK _ _ ?_; clear hK K
            refine wpAnyIn_ready (rs := [0, 2]) (by kernel_rfl) (by simp) ?_
            refine AllReadyIn.cons rfl (fun K hK => ?_) (AllReadyIn.cons rfl (fun K hK => ?_) AllReadyIn.nil)
            · go_simp; refine hK _ _ ?_; clear hK K
              refine wpAnyIn_ready (rs := [2]) (by kernel_rfl) (by simp) ?_
              refine AllReadyIn.cons rfl (fun K hK => ?_) AllReadyIn.nil
              go_simp; refine hK _ _ ?_; clear hK K
              refine wpAnyIn_ready (rs := [4]) (by kernel_rfl) (by simp) ?_
              refine AllReadyIn.cons rfl (fun K hK => ?_) AllReadyIn.nil
              go_simp; refine hK _ _ ?_; clear hK K
              refine wpAnyIn_ready (rs := [5]) (by kernel_rfl) (by simp) ?_
              refine AllReadyIn.cons rfl (fun K hK => ?_) AllReadyIn.nil
              go_simp; refine hK _ _ ?_; clear hK K
              refine wpAnyIn_ready (rs := [6]) (by kernel_rfl) (by simp) ?_
              refine AllReadyIn.cons rfl (fun K hK => ?_) AllReadyIn.nil
              refine stepIn_appendF rfl (.tmp 22) (.tmp 27) _ rfl _ _ _ rfl rfl hrun ?_; (try go_simp); refine hK _ _ ?_; clear hK K
              refine wpAnyIn_ready (rs := [7]) (by kernel_rfl) (by simp) ?_
              refine AllReadyIn.cons rfl (fun K hK => ?_) AllReadyIn.nil
              go_simp; refine hK _ _ ?_; clear hK K
              refine wpAnyIn_done (by kernel_rfl) ?_ _
              (try gi_wp2)
              refine ⟨rb, HFIN.out.1, rfl, ClF H (.slice (some ⟨g', 0, none⟩) (hl + 1) cap') (fun k => G k ∨ k = g2), ?_, ?_, fun k hk => ?_⟩
              · rw [HRB.out]; exact HFIN.out.2.1
              · rw [HRB.out]; exact HFIN.out.2.2.1
              · rcases HFIN.out.2.2.2 k hk with e | e | e
                · exact .inl e
                · exact .inr (.inl e)
                · exact .inr (.inr (by rw [e]; rfl))
            · go_simp; refine hK _ _ ?_; clear hK K
              refine wpAnyIn_ready (rs := [0, 4]) (by kernel_rfl) (by simp) ?_
              refine AllReadyIn.cons rfl (fun K hK => ?_) (AllReadyIn.cons rfl (fun K hK => ?_) AllReadyIn.nil)
              · go_simp; refine hK _ _ ?_; clear hK K
                refine wpAnyIn_ready (rs := [4]) (by kernel_rfl) (by simp) ?_
                refine AllReadyIn.cons rfl (fun K hK => ?_) AllReadyIn.nil
                go_simp; refine hK _ _ ?_; clear hK K
                refine wpAnyIn_ready (rs := [5]) (by kernel_rfl) (by simp) ?_
                refine AllReadyIn.cons rfl (fun K hK => ?_) AllReadyIn.nil
                go_simp; refine hK _ _ ?_; clear hK K
                refine wpAnyIn_ready (rs := [6]) (by kernel_rfl) (by simp) ?_
                refine AllReadyIn.cons rfl (fun K hK => ?_) AllReadyIn.nil
                refine stepIn_appendF rfl (.tmp 22) (.tmp 27) _ rfl _ _ _ rfl rfl hrun ?_; (try go_simp); refine hK _ _ ?_; clear hK K
                refine wpAnyIn_ready (rs := [7]) (by kernel_rfl) (by simp) ?_
                refine AllReadyIn.cons rfl (fun K hK => ?_) AllReadyIn.nil
                go_simp; refine hK _ _ ?_; clear hK K
                refine wpAnyIn_done (by kernel_rfl) ?_ _
                (try gi_wp2)
                refine ⟨rb, HFIN.out.1, rfl, ClF H (.slice (some ⟨g', 0, none⟩) (hl + 1) cap') (fun k => G k ∨ k = g2), ?_, ?_, fun k hk => ?_⟩
                · rw [HRB.out]; exact HFIN.out.2.1
                · rw [HRB.out]; exact HFIN.out.2.2.1
                · rcases HFIN.out.2.2.2 k hk with e | e | e
                  · exact .inl e
                  · exact .inr (.inl e)
                  · exact .inr (.inr (by rw [e]; rfl))
              · go_simp; refine hK _ _ ?_; clear hK K
                refine wpAnyIn_ready (rs := [0, 5]) (by kernel_rfl) (by simp) ?_
                refine AllReadyIn.cons rfl (fun K hK => ?_) (AllReadyIn.cons rfl (fun K hK => ?_) AllReadyIn.nil)
                · go_simp; refine hK _ _ ?_; clear hK K
                  refine wpAnyIn_ready (rs := [5]) (by kernel_rfl) (by simp) ?_
                  refine AllReadyIn.cons rfl (fun K hK => ?_) AllReadyIn.nil
                  go_simp; refine hK _ _ ?_; clear hK K
                  refine wpAnyIn_ready (rs := [6]) (by kernel_rfl) (by simp) ?_
                  refine AllReadyIn.cons rfl (fun K hK => ?_) AllReadyIn.nil
                  refine stepIn_appendF rfl (.tmp 22) (.tmp 27) _ rfl _ _ _ rfl rfl hrun ?_; (try go_simp); refine hK _ _ ?_; clear hK K
                  refine wpAnyIn_ready (rs := [7]) (by kernel_rfl) (by simp) ?_
                  refine AllReadyIn.cons rfl (fun K hK => ?_) AllReadyIn.nil
                  go_simp; refine hK _ _ ?_; clear hK K
                  refine wpAnyIn_done (by kernel_rfl) ?_ _
                  (try gi_wp2)
                  refine ⟨rb, HFIN.out.1, rfl, ClF H (.slice (some ⟨g', 0, none⟩) (hl + 1) cap') (fun k => G k ∨ k = g2), ?_, ?_, fun k hk => ?_⟩
                  · rw [HRB.out]; exact HFIN.out.2.1
                  · rw [HRB.out]; exact HFIN.out.2.2.1
                  · rcases HFIN.out.2.2.2 k hk with e | e | e
                    · exact .inl e
                    · exact .inr (.inl e)
                    · exact .inr (.inr (by rw [e]; rfl))
                · go_simp; refine hK _ _ ?_; clear hK K
                  refine wpAnyIn_ready (rs := [0]) (by kernel_rfl) (by simp) ?_
                  refine AllReadyIn.cons rfl (fun K hK => ?_) AllReadyIn.nil
                  go_simp; refine hK _ _ ?_; clear hK K
                  refine wpAnyIn_ready (rs := [6]) (by kernel_rfl) (by simp) ?_
                  refine AllReadyIn.cons rfl (fun K hK => ?_) AllReadyIn.nil
                  refine stepIn_appendF rfl (.tmp 22) (.tmp 27) _ rfl _ _ _ rfl rfl hrun ?_; (try go_simp); refine hK _ _ ?_; clear hK K
                  refine wpAnyIn_ready (rs := [7]) (by kernel_rfl) (by simp) ?_
                  refine AllReadyIn.cons rfl (fun K hK => ?_) AllReadyIn.nil
                  go_simp; refine hK _ _ ?_; clear hK K
                  refine wpAnyIn_done (by kernel_rfl) ?_ _
                  (try gi_wp2)
                  refine ⟨rb, HFIN.out.1, rfl, ClF H (.slice (some ⟨g', 0, none⟩) (hl + 1) cap') (fun k => G k ∨ k = g2), ?_, ?_, fun k hk => ?_⟩
                  · rw [HRB.out]; exact HFIN.out.2.1
                  · rw [HRB.out]; exact HFIN.out.2.2.1
                  · rcases HFIN.out.2.2.2 k hk with e | e | e
                    · exact .inl e
                    · exact .inr (.inl e)
                    · exact .inr (.inr (by rw [e]; rfl))
        · go_simp; refine hK _ _ ?_; clear hK K
          refine wpAnyIn_ready (rs := [0, 1, 3]) (by kernel_rfl) (by simp) ?_
          refine AllReadyIn.cons rfl (fun K hK => ?_) (AllReadyIn.cons rfl (fun K hK => ?_) (AllReadyIn.cons rfl (fun K hK => ?_) AllReadyIn.nil))
          · go_simp; refine hK _ _ ?_; clear hK K
            refine wpAnyIn_ready (rs := [1, 3]) (by kernel_rfl) (by simp) ?_
            refine AllReadyIn.cons rfl (fun K hK => ?_) (AllReadyIn.cons rfl (fun K hK => ?_) AllReadyIn.nil)
            · go_simp; refine hK _ _ ?_; clear hK K
              refine wpAnyIn_ready (rs := [3]) (by kernel_rfl) (by simp) ?_
              refine AllReadyIn.cons rfl (fun K hK => ?_) AllReadyIn.nil
              go_simp; refine hK _ _ ?_; clear hK K
              refine wpAnyIn_ready (rs := [4]) (by kernel_rfl) (by simp) ?_
              refine AllReadyIn.cons rfl (fun K hK => ?_) AllReadyIn.nil
              go_simp; refine hK _ _ ?_; clear hK K
              refine wpAnyIn_ready (rs := [5]) (by kernel_rfl) (by simp) ?_
              refine AllReadyIn.cons rfl (fun K hK => ?_) AllReadyIn.nil
              go_simp; refine hK _ _ ?_; clear hK K
              refine wpAnyIn_ready (rs := [6]) (by kernel_rfl) (by simp) ?_
              refine AllReadyIn.cons rfl (fun K hK => ?_) AllReadyIn.nil
              refine stepIn_appendF rfl (.tmp 22) (.tmp 27) _ rfl _ _ _ rfl rfl hrun ?_; (try go_simp); refine hK _ _ ?_; clear hK K
              refine wpAnyIn_ready (rs := [7]) (by kernel_rfl) (by simp) ?_
              refine AllReadyIn.cons rfl (fun K hK => ?_) AllReadyIn.nil
              go_simp; refine hK _ _ ?_; clear hK K
              refine wpAnyIn_done (by kernel_rfl) ?_ _
              (try gi_wp2)
              refine ⟨rb, HFIN.out.1, rfl, ClF H (.slice (some ⟨g', 0, none⟩) (hl + 1) cap') (fun k => G k ∨ k = g2), ?_, ?_, fun k hk => ?_⟩
              · rw [HRB.out]; exact HFIN.out.2.1
              · rw [HRB.out]; exact HFIN.out.2.2.1
              · rcases HFIN.out.2.2.2 k hk with e | e | e
                · exact .inl e
                · exact .inr (.inl e)
                · exact .inr (.inr (by rw [e]; rfl))
            · go_simp; refine hK _ _ ?_; clear hK K
              refine wpAnyIn_ready (rs := [1]) (by kernel_rfl) (by simp) ?_
              refine AllReadyIn.cons rfl (fun K hK => ?_) AllReadyIn.nil
              go_simp; refine hK _ _ ?_; clear hK K
              refine wpAnyIn_ready (rs := [4]) (by kernel_rfl) (by simp) ?_
              refine AllReadyIn.cons rfl (fun K hK => ?_) AllReadyIn.nil
              go_simp; refine hK _ _ ?_; clear hK K
              refine wpAnyIn_ready (rs := [5]) (by kernel_rfl) (by simp) ?_
              refine AllReadyIn.cons rfl (fun K hK => ?_) AllReadyIn.nil
              go_simp; refine hK _ _ ?_; clear hK K
              refine wpAnyIn_ready (rs := [6]) (by kernel_rfl) (by simp) ?_
              refine AllReadyIn.cons rfl (fun K hK => ?_) AllReadyIn.nil
              refine stepIn_appendF rfl (.tmp 22) (.tmp 27) _ rfl _ _ _ rfl rfl hrun ?_; (try go_simp); refine hK _ _ ?_; clear hK K
              refine wpAnyIn_ready (rs := [7]) (by kernel_rfl) (by simp) ?_
              refine AllReadyIn.cons rfl (fun K hK => ?_) AllReadyIn.nil
              go_simp; refine hK _ _ ?_; clear hK K
              refine wpAnyIn_done (by kernel_rfl) ?_ _
              (try gi_wp2)
              refine ⟨rb, HFIN.out.1, rfl, ClF H (.slice (some ⟨g', 0, none⟩) (hl + 1) cap') (fun k => G k ∨ k = g2), ?_, ?_, fun k hk => ?_⟩
              · rw [HRB.out]; exact HFIN.out.2.1
              · rw [HRB.out]; exact HFIN.out.2.2.1
              · rcases HFIN.out.2.2.2 k hk with e | e | e
                · exact .inl e
                · exact .inr (.inl e)
                · exact .inr (.inr (by rw [e]; rfl))
          · go_simp; refine hK _ _ ?_; clear hK K
            refine wpAnyIn_ready (rs := [0, 3]) (by kernel_rfl) (by simp) ?_
            refine AllReadyIn.cons rfl (fun K hK => ?_) (AllReadyIn.cons rfl (fun K hK => ?_) AllReadyIn.nil)
            · go_simp; refine hK _ _ ?_; clear hK K
              refine wpAnyIn_ready (rs := [3]) (by kernel_rfl) (by simp) ?_
              refine AllReadyIn.cons rfl (fun K hK => ?_) AllReadyIn.nil
              go_simp; refine hK _ _ ?_; clear hK K
              refine wpAnyIn_ready (rs := [4]) (by kernel_rfl) (by simp) ?_
              refine AllReadyIn.cons rfl (fun K hK => ?_) AllReadyIn.nil
              go_simp; refine hK _ _ ?_; clear hK K
              refine wpAnyIn_ready (rs := [5]) (by kernel_rfl) (by simp) ?_
              refine AllReadyIn.cons rfl (fun K hK => ?_) AllReadyIn.nil
              go_simp; refine hK _ _ ?_; clear hK K
              refine wpAnyIn_ready (rs := [6]) (by kernel_rfl) (by simp) ?_
              refine AllReadyIn.cons rfl (fun K hK => ?_) AllReadyIn.nil
              refine stepIn_appendF rfl (.tmp 22) (.tmp 27) _ rfl _ _ _ rfl rfl hrun ?_; (try go_simp); refine hK _ _ ?_; clear hK K
              refine wpAnyIn_ready (rs := [7]) (by kernel_rfl) (by simp) ?_
              refine AllReadyIn.cons rfl (fun K hK => ?_) AllReadyIn.nil
              go_simp; refine hK _ _ ?_; clear hK K
              refine wpAnyIn_done (by kernel_rfl) ?_ _
              (try gi_wp2)
              refine ⟨rb, HFIN.out.1, rfl, ClF H (.slice (some ⟨g', 0, none⟩) (hl + 1) cap') (fun k => G k ∨ k = g2), ?_, ?_, fun k hk => ?_⟩
              · rw [HRB.out]; exact HFIN.out.2.1
              · rw [HRB.out]; exact HFIN.out.2.2.1
              · rcases HFIN.out.2.2.2 k hk with e | e | e
                · exact .inl e
                · exact .inr (.inl e)
                · exact .inr (.inr (by rw [e]; rfl))
            · go_simp; refine hK _ _ ?_; clear hK K
              refine wpAnyIn_ready (rs := [0, 4]) (by kernel_rfl) (by simp) ?_
              refine AllReadyIn.cons rfl (fun K hK => ?_) (AllReadyIn.cons rfl (fun K hK => ?_) AllReadyIn.nil)
              · go_simp; refine hK _ _ ?_; clear hK K
                refine wpAnyIn_ready (rs := [4]) (by kernel_rfl) (by simp) ?_
                refine AllReadyIn.cons rfl (fun K hK => ?_) AllReadyIn.nil
                go_simp; refine hK _ _ ?_; clear hK K
                refine wpAnyIn_ready (rs := [5]) (by kernel_rfl) (by simp) ?_
                refine AllReadyIn.cons rfl (fun K hK => ?_) AllReadyIn.nil
                go_simp; refine hK _ _ ?_; clear hK K
                refine wpAnyIn_ready (rs := [6]) (by kernel_rfl) (by simp) ?_
                refine AllReadyIn.cons rfl (fun K hK => ?_) AllReadyIn.nil
                refine stepIn_appendF rfl (.tmp 22) (.tmp 27) _ rfl _ _ _ rfl rfl hrun ?_; (try go_simp); refine hK _ _ ?_; clear hK K
                refine wpAnyIn_ready (rs := [7]) (by kernel_rfl) (by simp) ?_
                refine AllReadyIn.cons rfl (fun K hK => ?_) AllReadyIn.nil
                go_simp; refine hK _ _ ?_; clear hK K
                refine wpAnyIn_done (by kernel_rfl) ?_ _
                (try gi_wp2)
                refine ⟨rb, HFIN.out.1, rfl, ClF H (.slice (some ⟨g', 0, none⟩) (hl + 1) cap') (fun k => G k ∨ k = g2), ?_, ?_, fun k hk => ?_⟩
                · rw [HRB.out]; exact HFIN.out.2.1
                · rw [HRB.out]; exact HFIN.out.2.2.1
                · rcases HFIN.out.2.2.2 k hk with e | e | e
                  · exact .inl e
                  · exact .inr (.inl e)
                  · exact .inr (.inr (by rw [e]; rfl))
              · go_simp; refine hK _ _ ?_; clear hK K
                refine wpAnyIn_ready (rs := [0, 5]) (by kernel_rfl) (by simp) ?_
                refine AllReadyIn.cons rfl (fun K hK => ?_) (AllReadyIn.cons rfl (fun K hK => ?_) AllReadyIn.nil)
                · go_simp; refine hK _ _ ?_; clear hK K
                  refine wpAnyIn_ready (rs := [5]) (by kernel_rfl) (by simp) ?_
                  refine AllReadyIn.cons rfl (fun K hK => ?_) AllReadyIn.nil
                  go_simp; refine hK _ _ ?_; clear hK K
                  refine wpAnyIn_ready (rs := [6]) (by kernel_rfl) (by simp) ?_
                  refine AllReadyIn.cons rfl (fun K hK => ?_) AllReadyIn.nil
                  refine stepIn_appendF rfl (.tmp 22) (.tmp 27) _ rfl _ _ _ rfl rfl hrun ?_; (try go_simp); refine hK _ _ ?_; clear hK K
                  refine wpAnyIn_ready (rs := [7]) (by kernel_rfl) (by simp) ?_
                  refine AllReadyIn.cons rfl (fun K hK => ?_) AllReadyIn.nil
                  go_simp; refine hK _ _ ?_; clear hK K
                  refine wpAnyIn_done (by kernel_rfl) ?_ _
                  (try gi_wp2)
                  refine ⟨rb, HFIN.out.1, rfl, ClF H (.slice (some ⟨g', 0, none⟩) (hl + 1) cap') (fun k => G k ∨ k = g2), ?_, ?_, fun k hk => ?_⟩
                  · rw [HRB.out]; exact HFIN.out.2.1
                  · rw [HRB.out]; exact HFIN.out.2.2.1
                  · rcases HFIN.out.2.2.2 k hk with e | e | e
                    · exact .inl e
                    · exact .inr (.inl e)
                    · exact .inr (.inr (by rw [e]; rfl))
                · go_simp; refine hK _ _ ?_; clear hK K
                  refine wpAnyIn_ready (rs := [0]) (by kernel_rfl) (by simp) ?_
                  refine AllReadyIn.cons rfl (fun K hK => ?_) AllReadyIn.nil
                  go_simp; refine hK _ _ ?_; clear hK K
                  refine wpAnyIn_ready (rs := [6]) (by kernel_rfl) (by simp) ?_
                  refine AllReadyIn.cons rfl (fun K hK => ?_) AllReadyIn.nil
                  refine stepIn_appendF rfl (.tmp 22) (.tmp 27) _ rfl _ _ _ rfl rfl hrun ?_; (try go_simp); refine hK _ _ ?_; clear hK K
                  refine wpAnyIn_ready (rs := [7]) (by kernel_rfl) (by simp) ?_
                  refine AllReadyIn.cons rfl (fun K hK => ?_) AllReadyIn.nil
                  go_simp; refine hK _ _ ?_; clear hK K
                  refine wpAnyIn_done (by kernel_rfl) ?_ _
                  (try gi_wp2)
                  refine ⟨rb, HFIN.out.1, rfl, ClF H (.slice (some ⟨g', 0, none⟩) (hl + 1) cap') (fun k => G k ∨ k = g2), ?_, ?_, fun k hk => ?_⟩
                  · rw [HRB.out]; exact HFIN.out.2.1
                  · rw [HRB.out]; exact HFIN.out.2.2.1
                  · rcases HFIN.out.2.2.2 k hk with e | e | e
                    · exact .inl e
                    · exact .inr (.inl e)
                    · exact .inr (.inr (by rw [e]; rfl))
          · go_simp; refine hK _ _ ?_; clear hK K
            refine wpAnyIn_ready (rs := [0, 1]) (by kernel_rfl) (by simp) ?_
            refine AllReadyIn.cons rfl (fun K hK => ?_) (AllReadyIn.cons rfl (fun K hK => ?_) AllReadyIn.nil)
            · go_simp; refine hK _ _ ?_; clear hK K
              refine wpAnyIn_ready (rs := [1]) (by kernel_rfl) (by simp) ?_
              refine AllReadyIn.cons rfl (fun K hK => ?_) AllReadyIn.nil
              go_simp; refine hK _ _ ?_; clear hK K
              refine wpAnyIn_ready (rs := [4]) (by kernel_rfl) (by simp) ?_
              refine AllReadyIn.cons rfl (fun K hK => ?_) AllReadyIn.nil
              go_simp; refine hK _ _ ?_; clear hK K
              refine wpAnyIn_ready (rs := [5]) (by kernel_rfl) (by simp) ?_
              refine AllReadyIn.cons rfl (fun K hK => ?_) AllReadyIn.nil
              go_simp; refine hK _ _ ?_; clear hK K
              refine wpAnyIn_ready (rs := [6]) (by kernel_rfl) (by simp) ?_
              refine AllReadyIn.cons rfl (fun K hK => ?_) AllReadyIn.nil
              refine stepIn_appendF rfl (.tmp 22) (.tmp 27) _ rfl _ _ _ rfl rfl hrun ?_; (try go_simp); refine hK _ _ ?_; clear hK K
              refine wpAnyIn_ready (rs := [7]) (by kernel_rfl) (by simp) ?_
              refine AllReadyIn.cons rfl (fun K hK => ?_) AllReadyIn.nil
              go_simp; refine hK _ _ ?_; clear hK K
              refine wpAnyIn_done (by kernel_rfl) ?_ _
              (try gi_wp2)
              refine ⟨rb, HFIN.out.1, rfl, ClF H (.slice (some ⟨g', 0, none⟩) (hl + 1) cap') (fun k => G k ∨ k = g2), ?_, ?_, fun k hk => ?_⟩
              · rw [HRB.out]; exact HFIN.out.2.1
              · rw [HRB.out]; exact HFIN.out.2.2.1
              · rcases HFIN.out.2.2.2 k hk with e | e | e
                · exact .inl e
                · exact .inr (.inl e)
                · exact .inr (.inr (by rw [e]; rfl))
            · go_simp; refine hK _ _ ?_; clear hK K
              refine wpAnyIn_ready (rs := [0, 4]) (by kernel_rfl) (by simp) ?_
              refine AllReadyIn.cons rfl (fun K hK => ?_) (AllReadyIn.cons rfl (fun K hK => ?_) AllReadyIn.nil)
              · go_simp; refine hK _ _ ?_; clear hK K
                refine wpAnyIn_ready (rs := [4]) (by kernel_rfl) (by simp) ?_
                refine AllReadyIn.cons rfl (fun K hK => ?_) AllReadyIn.nil
                go_simp; refine hK _ _ ?_; clear hK K
                refine wpAnyIn_ready (rs := [5]) (by kernel_rfl) (by simp) ?_
                refine AllReadyIn.cons rfl (fun K hK => ?_) AllReadyIn.nil
                go_simp; refine hK _ _ ?_; clear hK K
                refine wpAnyIn_ready (rs := [6]) (by kernel_rfl) (by simp) ?_
                refine AllReadyIn.cons rfl (fun K hK => ?_) AllReadyIn.nil
                refine stepIn_appendF rfl (.tmp 22) (.tmp 27) _ rfl _ _ _ rfl rfl hrun ?_; (try go_simp); refine hK _ _ ?_; clear hK K
                refine wpAnyIn_ready (rs := [7]) (by kernel_rfl) (by simp) ?_
                refine AllReadyIn.cons rfl (fun K hK => ?_) AllReadyIn.nil
                go_simp; refine hK _ _ ?_; clear hK K
                refine wpAnyIn_done (by kernel_rfl) ?_ _
                (try gi_wp2)
                refine ⟨rb, HFIN.out.1, rfl, ClF H (.slice (some ⟨g', 0, none⟩) (hl + 1) cap') (fun k => G k ∨ k = g2), ?_, ?_, fun k hk => ?_⟩
                · rw [HRB.out]; exact HFIN.out.2.1
                · rw [HRB.out]; exact HFIN.out.2.2.1
                · rcases HFIN.out.2.2.2 k hk with e | e | e
                  · exact .inl e
                  · exact .inr (.inl e)
                  · exact .inr (.inr (by rw [e]; rfl))
              · go_simp; refine hK _ _ ?_; clear hK K
                refine wpAnyIn_ready (rs := [0, 5]) (by kernel_rfl) (by simp) ?_
                refine AllReadyIn.cons rfl (fun K hK => ?_) (AllReadyIn.cons rfl (fun K hK => ?_) AllReadyIn.nil)
                · go_simp; refine hK _ _ ?_; clear hK K
                  refine wpAnyIn_ready (rs := [5]) (by kernel_rfl) (by simp) ?_
                  refine AllReadyIn.cons rfl (fun K hK => ?_) AllReadyIn.nil
                  go_simp; refine hK _ _ ?_; clear hK K
                  refine wpAnyIn_ready (rs := [6]) (by kernel_rfl) (by simp) ?_
                  refine AllReadyIn.cons rfl (fun K hK => ?_) AllReadyIn.nil
                  refine stepIn_appendF rfl (.tmp 22) (.tmp 27) _ rfl _ _ _ rfl rfl hrun ?_; (try go_simp); refine hK _ _ ?_; clear hK K
                  refine wpAnyIn_ready (rs := [7]) (by kernel_rfl) (by simp) ?_
                  refine AllReadyIn.cons rfl (fun K hK => ?_) AllReadyIn.nil
                  go_simp; refine hK _ _ ?_; clear hK K
                  refine wpAnyIn_done (by kernel_rfl) ?_ _
                  (try gi_wp2)
                  refine ⟨rb, HFIN.out.1, rfl, ClF H (.slice (some ⟨g', 0, none⟩) (hl + 1) cap') (fun k => G k ∨ k = g2), ?_, ?_, fun k hk => ?_⟩
                  · rw [HRB.out]; exact HFIN.out.2.1
                  · rw [HRB.out]; exact HFIN.out.2.2.1
                  · rcases HFIN.out.2.2.2 k hk with e | e | e
                    · exact .inl e
                    · exact .inr (.inl e)
                    · exact .inr (.inr (by rw [e]; rfl))
                · go_simp; refine hK _ _ ?_; clear hK K
                  refine wpAnyIn_ready (rs := [0]) (by kernel_rfl) (by simp) ?_
                  refine AllReadyIn.cons rfl (fun K hK => ?_) AllReadyIn.nil
                  go_simp; refine hK _ _ ?_; clear hK K
                  refine wpAnyIn_ready (rs := [6]) (by kernel_rfl) (by simp) ?_
                  refine AllReadyIn.cons rfl (fun K hK => ?_) AllReadyIn.nil
                  refine stepIn_appendF rfl (.tmp 22) (.tmp 27) _ rfl _ _ _ rfl rfl hrun ?_; (try go_simp); refine hK _ _ ?_; clear hK K
                  refine wpAnyIn_ready (rs := [7]) (by kernel_rfl) (by simp) ?_
                  refine AllReadyIn.cons rfl (fun K hK => ?_) AllReadyIn.nil
                  go_simp; refine hK _ _ ?_; clear hK K
                  refine wpAnyIn_done (by kernel_rfl) ?_ _
                  (try gi_wp2)
                  refine ⟨rb, HFIN.out.1, rfl, ClF H (.slice (some ⟨g', 0, none⟩) (hl + 1) cap') (fun k => G k ∨ k = g2), ?_, ?_, fun k hk => ?_⟩
                  · rw [HRB.out]; exact HFIN.out.2.1
                  · rw [HRB.out]; exact HFIN.out.2.2.1
                  · rcases HFIN.out.2.2.2 k hk with e | e | e
                    · exact .inl e
                    · exact .inr (.inl e)
                    · exact .inr (.inr (by rw [e]; rfl))
        · go_simp; refine hK _ _ ?_; clear hK K
          refine wpAnyIn_ready (rs := [0, 1, 2]) (by kernel_rfl) (by simp) ?_
          refine AllReadyIn.cons rfl (fun K hK => ?_) (AllReadyIn.cons rfl (fun K hK => ?_) (AllReadyIn.cons rfl (fun K hK => ?_) AllReadyIn.nil))
          · go_simp; refine hK _ _ ?_; clear hK K
            refine wpAnyIn_ready (rs := [1, 2]) (by kernel_rfl) (by simp) ?_
            refine AllReadyIn.cons rfl (fun K hK => ?_) (AllReadyIn.cons rfl (fun K hK => ?_) AllReadyIn.nil)
            · go_simp; refine hK _ _ ?_; clear hK K
              refine wpAnyIn_ready (rs := [2]) (by kernel_rfl) (by simp) ?_
              refine AllReadyIn.cons rfl (fun K hK => ?_) AllReadyIn.nil
              go_simp; refine hK _ _ ?_; clear hK K
              refine wpAnyIn_ready (rs := [4]) (by kernel_rfl) (by simp) ?_
              refine AllReadyIn.cons rfl (fun K hK => ?_) AllReadyIn.nil
              go_simp; refine hK _ _ ?_; clear hK K
              refine wpAnyIn_ready (rs := [5]) (by kernel_rfl) (by simp) ?_
              refine AllReadyIn.cons rfl (fun K hK => ?_) AllReadyIn.nil
              go_simp; refine hK _ _ ?_; clear hK K
              refine wpAnyIn_ready (rs := [6]) (by kernel_rfl) (by simp) ?_
              refine AllReadyIn.cons rfl (fun K hK => ?_) AllReadyIn.nil
              refine stepIn_appendF rfl (.tmp 22) (.tmp 27) _ rfl _ _ _ rfl rfl hrun ?_; (try go_simp); refine hK _ _ ?_; clear hK K
              refine wpAnyIn_ready (rs := [7]) (by kernel_rfl) (by simp) ?_
              refine AllReadyIn.cons rfl (fun K hK => ?_) AllReadyIn.nil
              go_simp; refine hK _ _ ?_; clear hK K
              refine wpAnyIn_done (by kernel_rfl) ?_ _
              (try gi_wp2)
              refine ⟨rb, HFIN.out.1, rfl, ClF H (.slice (some ⟨g', 0, none⟩) (hl + 1) cap') (fun k => G k ∨ k = g2), ?_, ?_, fun k hk => ?_⟩
              · rw [HRB.out]; exact HFIN.out.2.1
              · rw [HRB.out]; exact HFIN.out.2.2.1
              · rcases HFIN.out.2.2.2 k hk with e | e | e
                · exact .inl e
                · exact .inr (.inl e)
                · exact .inr (.inr (by rw [e]; rfl))
            · go_simp; refine hK _ _ ?_; clear hK K
              refine wpAnyIn_ready (rs := [1]) (by kernel_rfl) (by simp) ?_
              refine AllReadyIn.cons rfl (fun K hK => ?_) AllReadyIn.nil
              go_simp; refine hK _ _ ?_; clear hK K
              refine wpAnyIn_ready (rs := [4]) (by kernel_rfl) (by simp) ?_
              refine AllReadyIn.cons rfl (fun K hK => ?_) AllReadyIn.nil
              go_simp; refine hK _ _ ?_; clear hK K
              refine wpAnyIn_ready (rs := [5]) (by kernel_rfl) (by simp) ?_
              refine AllReadyIn.cons rfl (fun K hK => ?_) AllReadyIn.nil
              go_simp; refine hK _ _ ?_; clear hK K
              refine wpAnyIn_ready (rs := [6]) (by kernel_rfl) (by simp) ?_
              refine AllReadyIn.cons rfl (fun K hK => ?_) AllReadyIn.nil
              refine stepIn_appendF rfl (.tmp 22) (.tmp 27) _ rfl _ _ _ rfl rfl hrun ?_; (try go_simp); refine hK _ _ ?_; clear hK K
              refine wpAnyIn_ready (rs := [7]) (by kernel_rfl) (by simp) ?_
              refine AllReadyIn.cons rfl (fun K hK => ?_) AllReadyIn.nil
              go_simp; refine hK _ _ ?_; clear hK K
              refine wpAnyIn_done (by kernel_rfl) ?_ _
              (try gi_wp2)
              refine ⟨rb, HFIN.out.1, rfl, ClF H (.slice (some ⟨g', 0, none⟩) (hl + 1) cap') (fun k => G k ∨ k = g2), ?_, ?_, fun k hk => ?_⟩
              · rw [HRB.out]; exact HFIN.out.2.1
              · rw [HRB.out]; exact HFIN.out.2.2.1
              · rcases HFIN.out.2.2.2 k hk with e | e | e
                · exact .inl e
                · exact .inr (.inl e)
                · exact .inr (.inr (by rw [e]; rfl))
          · go_simp; refine hK _ _ ?_; clear hK K
            refine wpAnyIn_ready (rs := [0, 2]) (by kernel_rfl) (by simp) ?_
            refine AllReadyIn.cons rfl (fun K hK => ?_) (AllReadyIn.cons rfl (fun K hK => ?_) AllReadyIn.nil)
            · go_simp; refine hK _ _ ?_; clear hK K
              refine wpAnyIn_ready (rs := [2]) (by kernel_rfl) (by simp) ?_
              refine AllReadyIn.cons rfl (fun K hK => ?_) AllReadyIn.nil
              go_simp; refine hK _ _ ?_; clear hK K
              refine wpAnyIn_ready (rs := [4]) (by kernel_rfl) (by simp) ?_
              refine AllReadyIn.cons rfl (fun K hK => ?_) AllReadyIn.nil
              go_simp; refine hK _ _ ?_; clear hK K
              refine wpAnyIn_ready (rs := [5]) (by kernel_rfl) (by simp) ?_
              refine AllReadyIn.cons rfl (fun K hK => ?_) AllReadyIn.nil
              go_simp; refine hK _ _ ?_; clear hK K
              refine wpAnyIn_ready (rs := [6]) (by kernel_rfl) (by simp) ?_
              refine AllReadyIn.cons rfl (fun K hK => ?_) AllReadyIn.nil
              refine stepIn_appendF rfl (.tmp 22) (.tmp 27) _ rfl _ _ _ rfl rfl hrun ?_; (try go_simp); refine hK _ _ ?_; clear hK K
              refine wpAnyIn_ready (rs := [7]) (by kernel_rfl) (by simp) ?_
              refine AllReadyIn.cons rfl (fun K hK => ?_) AllReadyIn.nil
              go_simp; refine hK _ _ ?_; clear hK K
              refine wpAnyIn_done (by kernel_rfl) ?_ _
              (try gi_wp2)
              refine ⟨rb, HFIN.out.1, rfl, ClF H (.slice (some ⟨g', 0, none⟩) (hl + 1) cap') (fun k => G k ∨ k = g2), ?_, ?_, fun k hk => ?_⟩
              · rw [HRB.out]; exact HFIN.out.2.1
              · rw [HRB.out]; exact HFIN.out.2.2.1
              · rcases HFIN.out.2.2.2 k hk with e | e | e
                · exact .inl e
                · exact .inr (.inl e)
                · exact .inr (.inr (by rw [e]; rfl))
            · go_simp; refine hK _ _ ?_; clear hK K
              refine wpAnyIn_ready (rs := [0, 4]) (by kernel_rfl) (by simp) ?_
              refine AllReadyIn.cons rfl (fun K hK => ?_) (AllReadyIn.cons rfl (fun K hK => ?_) AllReadyIn.nil)
              · go_simp; refine hK _ _ ?_; clear hK K
                refine wpAnyIn_ready (rs := [4]) (by kernel_rfl) (by simp) ?_
                refine AllReadyIn.cons rfl (fun K hK => ?_) AllReadyIn.nil
                go_simp; refine hK _ _ ?_; clear hK K
                refine wpAnyIn_ready (rs := [5]) (by kernel_rfl) (by simp) ?_
                refine AllReadyIn.cons rfl (fun K hK => ?_) AllReadyIn.nil
                go_simp; refine hK _ _ ?_; clear hK K
                refine wpAnyIn_ready (rs := [6]) (by kernel_rfl) (by simp) ?_
                refine AllReadyIn.cons rfl (fun K hK => ?_) AllReadyIn.nil
                refine stepIn_appendF rfl (.tmp 22) (.tmp 27) _ rfl _ _ _ rfl rfl hrun ?_; (try go_simp); refine hK _ _ ?_; clear hK K
                refine wpAnyIn_ready (rs := [7]) (by kernel_rfl) (by simp) ?_
                refine AllReadyIn.cons rfl (fun K hK => ?_) AllReadyIn.nil
                go_simp; refine hK _ _ ?_; clear hK K
                refine wpAnyIn_done (by kernel_rfl) ?_ _
                (try gi_wp2)
                refine ⟨rb, HFIN.out.1, rfl, ClF H (.slice (some ⟨g', 0, none⟩) (hl + 1) cap') (fun k => G k ∨ k = g2), ?_, ?_, fun k hk => ?_⟩
                · rw [HRB.out]; exact HFIN.out.2.1
                · rw [HRB.out]; exact HFIN.out.2.2.1
                · rcases HFIN.out.2.2.2 k hk with e | e | e
                  · exact .inl e
                  · exact .inr (.inl e)
                  · exact .inr (.inr (by rw [e]; rfl))
              · go_simp; refine hK _ _ ?_; clear hK K
                refine wpAnyIn_ready (rs := [0, 5]) (by kernel_rfl) (by simp) ?_
                refine AllReadyIn.cons rfl (fun K hK => ?_) (AllReadyIn.cons rfl (fun K hK => ?_) AllReadyIn.nil)
                · go_simp; refine hK _ _ ?_; clear hK K
                  refine wpAnyIn_ready (rs := [5]) (by kernel_rfl) (by simp) ?_
                  refine AllReadyIn.cons rfl (fun K hK => ?_) AllReadyIn.nil
                  go_simp; refine hK _ _ ?_; clear hK K
                  refine wpAnyIn_ready (rs := [6]) (by kernel_rfl) (by simp) ?_
                  refine AllReadyIn.cons rfl (fun K hK => ?_) AllReadyIn.nil
                  refine stepIn_appendF rfl (.tmp 22) (.tmp 27) _ rfl _ _ _ rfl rfl hrun ?_; (try go_simp); refine hK _ _ ?_; clear hK K
                  refine wpAnyIn_ready (rs := [7]) (by kernel_rfl) (by simp) ?_
                  refine AllReadyIn.cons rfl (fun K hK => ?_) AllReadyIn.nil
                  go_simp; refine hK _ _ ?_; clear hK K
                  refine wpAnyIn_done (by kernel_rfl) ?_ _
                  (try gi_wp2)
                  refine ⟨rb, HFIN.out.1, rfl, ClF H (.slice (some ⟨g', 0, none⟩) (hl + 1) cap') (fun k => G k ∨ k = g2), ?_, ?_, fun k hk => ?_⟩
                  · rw [HRB.out]; exact HFIN.out.2.1
                  · rw [HRB.out]; exact HFIN.out.2.2.1
                  · rcases HFIN.out.2.2.2 k hk with e | e | e
                    · exact .inl e
                    · exact .inr (.inl e)
                    · exact .inr (.inr (by rw [e]; rfl))
                · go_simp; refine hK _ _ ?_; clear hK K
                  refine wpAnyIn_ready (rs := [0]) (by kernel_rfl) (by simp) ?_
                  refine AllReadyIn.cons rfl (fun K hK => ?_) AllReadyIn.nil
                  go_simp; refine hK _ _ ?_; clear hK K
                  refine wpAnyIn_ready (rs := [6]) (by kernel_rfl) (by simp) ?_
                  refine AllReadyIn.cons rfl (fun K hK => ?_) AllReadyIn.nil
                  refine stepIn_appendF rfl (.tmp 22) (.tmp 27) _ rfl _ _ _ rfl rfl hrun ?_; (try go_simp); refine hK _ _ ?_; clear hK K
                  refine wpAnyIn_ready (rs := [7]) (by kernel_rfl) (by simp) ?_
                  refine AllReadyIn.cons rfl (fun K hK => ?_) AllReadyIn.nil
                  go_simp; refine hK _ _ ?_; clear hK K
                  refine wpAnyIn_done (by kernel_rfl) ?_ _
                  (try gi_wp2)
                  refine ⟨rb, HFIN.out.1, rfl, ClF H (.slice (some ⟨g', 0, none⟩) (hl + 1) cap') (fun k => G k ∨ k = g2), ?_, ?_, fun k hk => ?_⟩
                  · rw [HRB.out]; exact HFIN.out.2.1
                  · rw [HRB.out]; exact HFIN.out.2.2.1
                  · rcases HFIN.out.2.2.2 k hk with e | e | e
                    · exact .inl e
                    · exact .inr (.inl e)
                    · exact .inr (.inr (by rw [e]; rfl))
          · go_simp; refine hK _ _ ?_; clear hK K
            refine wpAnyIn_ready (rs := [0, 1]) (by kernel_rfl) (by simp) ?_
            refine AllReadyIn.cons rfl (fun K hK => ?_) (AllReadyIn.cons rfl (fun K hK => ?_) AllReadyIn.nil)
            · go_simp; refine hK _ _ ?_; clear hK K
              refine wpAnyIn_ready (rs := [1]) (by kernel_rfl) (by simp) ?_
              refine AllReadyIn.cons rfl (fun K hK => ?_) AllReadyIn.nil
              go_simp; refine hK _ _ ?_; clear hK K
              refine wpAnyIn_ready (rs := [4]) (by kernel_rfl) (by simp) ?_
              refine AllReadyIn.cons rfl (fun K hK => ?_) AllReadyIn.nil
              go_simp; refine hK _ _ ?_; clear hK K
              refine wpAnyIn_ready (rs := [5]) (by kernel_rfl) (by simp) ?_
              refine AllReadyIn.cons rfl (fun K hK => ?_) AllReadyIn.nil
              go_simp; refine hK _ _ ?_; clear hK K
              refine wpAnyIn_ready (rs := [6]) (by kernel_rfl) (by simp) ?_
              refine AllReadyIn.cons rfl (fun K hK => ?_) AllReadyIn.nil
              refine stepIn_appendF rfl (.tmp 22) (.tmp 27) _ rfl _ _ _ rfl rfl hrun ?_; (try go_simp); refine hK _ _ ?_; clear hK K
              refine wpAnyIn_ready (rs := [7]) (by kernel_rfl) (by simp) ?_
              refine AllReadyIn.cons rfl (fun K hK => ?_) AllReadyIn.nil
              go_simp; refine hK _ _ ?_; clear hK K
              refine wpAnyIn_done (by kernel_rfl) ?_ _
              (try gi_wp2)
              refine ⟨rb, HFIN.out.1, rfl, ClF H (.slice (some ⟨g', 0, none⟩) (hl + 1) cap') (fun k => G k ∨ k = g2), ?_, ?_, fun k hk => ?_⟩
              · rw [HRB.out]; exact HFIN.out.2.1
              · rw [HRB.out]; exact HFIN.out.2.2.1
              · rcases HFIN.out.2.2.2 k hk with e | e | e
                · exact .inl e
                · exact .inr (.inl e)
                · exact .inr (.inr (by rw [e]; rfl))
            · go_simp; refine hK _ _ ?_; clear hK K
              refine wpAnyIn_ready (rs := [0, 4]) (by kernel_rfl) (by simp) ?_
              refine AllReadyIn.cons rfl (fun K hK => ?_) (AllReadyIn.cons rfl (fun K hK => ?_) AllReadyIn.nil)
              · go_simp; refine hK _ _ ?_; clear hK K
                refine wpAnyIn_ready (rs := [4]) (by kernel_rfl) (by simp) ?_
                refine AllReadyIn.cons rfl (fun K hK => ?_) AllReadyIn.nil
                go_simp; refine hK _ _ ?_; clear hK K
                refine wpAnyIn_ready (rs := [5]) (by kernel_rfl) (by simp) ?_
                refine AllReadyIn.cons rfl (fun K hK => ?_) AllReadyIn.nil
                go_simp; refine hK _ _ ?_; clear hK K
                refine wpAnyIn_ready (rs := [6]) (by kernel_rfl) (by simp) ?_
                refine AllReadyIn.cons rfl (fun K hK => ?_) AllReadyIn.nil
                refine stepIn_appendF rfl (.tmp 22) (.tmp 27) _ rfl _ _ _ rfl rfl hrun ?_; (try go_simp); refine hK _ _ ?_; clear hK K
                refine wpAnyIn_ready (rs := [7]) (by kernel_rfl) (by simp) ?_
                refine AllReadyIn.cons rfl (fun K hK => ?_) AllReadyIn.nil
                go_simp; refine hK _ _ ?_; clear hK K
                refine wpAnyIn_done (by kernel_rfl) ?_ _
                (try gi_wp2)
                refine ⟨rb, HFIN.out.1, rfl, ClF H (.slice (some ⟨g', 0, none⟩) (hl + 1) cap') (fun k => G k ∨ k = g2), ?_, ?_, fun k hk => ?_⟩
                · rw [HRB.out]; exact HFIN.out.2.1
                · rw [HRB.out]; exact HFIN.out.2.2.1
                · rcases HFIN.out.2.2.2 k hk with e | e | e
                  · exact .inl e
                  · exact .inr (.inl e)
                  · exact .inr (.inr (by rw [e]; rfl))
              · go_simp; refine hK _ _ ?_; clear hK K
                refine wpAnyIn_ready (rs := [0, 5]) (by kernel_rfl) (by simp) ?_
                refine AllReadyIn.cons rfl (fun K hK => ?_) (AllReadyIn.cons rfl (fun K hK => ?_) AllReadyIn.nil)
                · go_simp; refine hK _ _ ?_; clear hK K
                  refine wpAnyIn_ready (rs := [5]) (by kernel_rfl) (by simp) ?_
                  refine AllReadyIn.cons rfl (fun K hK => ?_) AllReadyIn.nil
                  go_simp; refine hK _ _ ?_; clear hK K
                  refine wpAnyIn_ready (rs := [6]) (by kernel_rfl) (by simp) ?_
                  refine AllReadyIn.cons rfl (fun K hK => ?_) AllReadyIn.nil
                  refine stepIn_appendF rfl (.tmp 22) (.tmp 27) _ rfl _ _ _ rfl rfl hrun ?_; (try go_simp); refine hK _ _ ?_; clear hK K
                  refine wpAnyIn_ready (rs := [7]) (by kernel_rfl) (by simp) ?_
                  refine AllReadyIn.cons rfl (fun K hK => ?_) AllReadyIn.nil
                  go_simp; refine hK _ _ ?_; clear hK K
                  refine wpAnyIn_done (by kernel_rfl) ?_ _
                  (try gi_wp2)
                  refine ⟨rb, HFIN.out.1, rfl, ClF H (.slice (some ⟨g', 0, none⟩) (hl + 1) cap') (fun k => G k ∨ k = g2), ?_, ?_, fun k hk => ?_⟩
                  · rw [HRB.out]; exact HFIN.out.2.1
                  · rw [HRB.out]; exact HFIN.out.2.2.1
                  · rcases HFIN.out.2.2.2 k hk with e | e | e
                    · exact .inl e
                    · exact .inr (.inl e)
                    · exact .inr (.inr (by rw [e]; rfl))
                · go_simp; refine hK _ _ ?_; clear hK K
                  refine wpAnyIn_ready (rs := [0]) (by kernel_rfl) (by simp) ?_
                  refine AllReadyIn.cons rfl (fun K hK => ?_) AllReadyIn.nil
                  go_simp; refine hK _ _ ?_; clear hK K
                  refine wpAnyIn_ready (rs := [6]) (by kernel_rfl) (by simp) ?_
                  refine AllReadyIn.cons rfl (fun K hK => ?_) AllReadyIn.nil
                  refine stepIn_appendF rfl (.tmp 22) (.tmp 27) _ rfl _ _ _ rfl rfl hrun ?_; (try go_simp); refine hK _ _ ?_; clear hK K
                  refine wpAnyIn_ready (rs := [7]) (by kernel_rfl) (by simp) ?_
                  refine AllReadyIn.cons rfl (fun K hK => ?_) AllReadyIn.nil
                  go_simp; refine hK _ _ ?_; clear hK K
                  refine wpAnyIn_done (by kernel_rfl) ?_ _
                  (try gi_wp2)
                  refine ⟨rb, HFIN.out.1, rfl, ClF H (.slice (some ⟨g', 0, none⟩) (hl + 1) cap') (fun k => G k ∨ k = g2), ?_, ?_, fun k hk => ?_⟩
                  · rw [HRB.out]; exact HFIN.out.2.1
                  · rw [HRB.out]; exact HFIN.out.2.2.1
                  · rcases HFIN.out.2.2.2 k hk with e | e | e
                    · exact .inl e
                    · exact .inr (.inl e)
                    · exact .inr (.inr (by rw [e]; rfl))
    have hit := iter_in 5 (l := H + 5) (B0 := H + 2) (FB := H + 3) (fp := H + 1) (src := src) C X (by omega) (hTU.of_below (hXB.mono (by omega))) hJ0 (fun k hk => by
      rcases hk with e | e | e | e | e | e
      · omega
      · omega
      · omega
      · omega
      · simp [Value.ownBlock] at e
      · exact e.elim) ((hkx _ (by omega)).trans u2) ((hkx _ (by omega)).trans u3) ((hkx _ (by omega)).trans u1)
    refine hit.mono ?_
    rintro e Z ⟨hv, F', ⟨v, hs, G, rfl, hI⟩, hp⟩
    exact ⟨hv, .inl ⟨hI.lop, v, hs, G, hI.out, hI.dfr, hI.own, hI.els, fun g hg => by obtain ⟨a, b, c, d, e, f⟩ := hI.gs g hg; exact ⟨a, c, e, f⟩, hI.below, hp⟩⟩
  case hready =>
    rintro Z r hlt ⟨v, hs, G, z0, z4, zo, ze, zg, zb, z1⟩
    rw [hUs] at hlt ⊢
    have hb := grownBy_putObj' Z (H + 4 + 1) (.loop r)
    have hk : ∀ k, k ≠ H + 5 → (Z.putObj (H + 4 + 1) (.loop r)).heap[k]? = Z.heap[k]? := fun k hk => World.putObj_heap_other (by omega)
    have y0 := (hk H (by omega)).trans z0
    have y1 := (hk (H + 1) (by omega)).trans z1
    have y4 := (hk (H + 4) (by omega)).trans z4
    have yo := own_butE zo ((But.refl (fun k => k = H + 4 + 1) Z).putObj (H + 4 + 1) (.loop r) rfl) (fun k e e2 => by have := (zo.lt k e2).1; omega)
    have ye := ze.keep (W' := Z.putObj (H + 4 + 1) (.loop r)) (fun g hg _ => hk g (zg g hg).2.2.2)
    have yb : Below H w (Z.putObj (H + 4 + 1) (.loop r)) := zb.grown hb (by omega) (fun k e => by cases e; omega)
    clear hb hk z0 z1 z4 zo ze zb u0 u1 u2 u3 hUb hTU
    generalize Z.putObj (H + 4 + 1) (.loop r) = Y at *
    have hl4 : H + 4 < Y.heap.size := (Array.getElem?_eq_some_iff.1 y4).1
    have hp5 : But (fun k => k = H + 4) Y (Y.putObj (H + 4) (.deferred none)) := (But.refl (fun k => k = H + 4) Y).putObj _ _ rfl
    have HFO := Aside0.mk (own_butE yo hp5 (fun k e e2 => by have := (yo.lt k e2).1; omega))
    have HFE := Aside0.mk (ye.keep (W' := Y.putObj (H + 4) (.deferred none)) (fun g hg hl => World.putObj_heap_other (zg g hg).2.2.1))
    have HFB := Aside0.mk (yb.trans (hp5.belowB (by omega) (fun k hk => by omega)))
    have HZG := Aside0.mk zg
    have Y4 := Aside0.mk y4
    have c1 : Y.cell? ⟨H, 0, none⟩ = some v := (blk_cell y0 0).trans rfl
    have hu76 := Tryz.underlying76
    cases he : (S.scan (bytesOf src)).err with
    | none =>
      rw [he] at y1
      have d0 : Y.cell? ⟨H + 1, 0, none⟩ = some (.int .i64 0) := (blk_cell y1 0).trans rfl
      have d1 : Y.cell? ⟨H + 1, 1, none⟩ = some (.int .i64 0) := (blk_cell y1 1).trans rfl
      have HE := Aside0.mk he
      clear y0 y1 y4 yo ye yb hlt hp5 zg
      gi_wp2
      refine ⟨by simp, .inl ⟨_, _, rfl, run_takeDeferred Y4.out, ?_⟩⟩
      refine ⟨_, results_tmp4 rfl _ _ _, by rw [hH]; exact HFB.out, ?_⟩
      unfold ClPost
      rw [HE.out]
      refine ⟨v, hs, G, rfl, ?_, HFE.out, fun g hg => ?_⟩
      · rw [hH]
        obtain ⟨o1, o2⟩ := HFO.out
        refine ⟨o1, o2.imp id ?_⟩
        rintro ⟨g, cap, cur, hv, hg, rest⟩
        exact ⟨g, cap, cur, hv, by omega, rest⟩
      · rw [hH]; exact ⟨(HZG.out g hg).1, (HZG.out g hg).2.1⟩
    | some p =>
      obtain ⟨c, ln⟩ := p
      have hc0 := HNE.out c ln he
      rw [he] at y1
      have d0 : Y.cell? ⟨H + 1, 0, none⟩ = some (.int .i64 c) := (blk_cell y1 0).trans rfl
      have d1 : Y.cell? ⟨H + 1, 1, none⟩ = some (.int .i64 ln) := (blk_cell y1 1).trans rfl
      have g0 : ((c : Int) != 0) = true := bne_iff_ne.2 (by omega)
      have HE := Aside0.mk he
      clear y0 y1 y4 yo ye yb hlt hp5 zg
      gi_upto_region 11 with (fail)
      gi_region
      all_goals
        gi_wp2
        refine ⟨by simp, .inl ⟨_, _, rfl, run_takeDeferred (show (World.heap _)[_]? = _ from Y4.out), ?_⟩⟩
        refine ⟨_, results_tmp4 rfl _ _ _, ?_, ?_⟩
        · rw [hH]; exact HFB.out.trans (below_drew (Below.refl _ _))
        · unfold ClPost; rw [HE.out]; rfl
end Go.Proofs.YtkkpjonfaflkmaaGreatDoor.T

/- scan.Clauses in the printer's form. -/
namespace Go.Proofs.YtkkpjonfaflkmaaGreatDoor.T
set_option linter.unusedSimpArgs false
set_option linter.unusedVariables false
open Go.RowKit Go.Maps Go.Proofs.YtkkpjonfaflkmaaGreatDoorW.PrintWords Go.Proofs.YtkkpjonfaflkmaaGreatDoorW.PrintLast Go.Proofs.YtkkpjonfaflkmaaGreatDoorW.PrintMore

theorem cells_C {W : World} {g : Nat} {cs : Array Value} {c : List S.Tk} (hg : W.heap[g]? = some (.cells cs 53 (0, 0))) (ht : cs.toList.take (c.length * 6) = tksL c) (hl : c.length ≤ 300000) : Kd.C k53 W (some ⟨g, 0, none⟩) (c.map toS).length (c.map toS) := by
  refine ⟨rfl, by rw [List.length_map]; omega, fun _ => ⟨_, rfl, fun j p hj => ?_⟩⟩
  rw [List.getElem?_map] at hj
  cases hc : c[j]? with
  | none => rw [hc] at hj; cases hj
  | some t =>
    rw [hc] at hj
    simp only [Option.map_some, Option.some.injEq] at hj
    subst hj
    have hjl : j < c.length := (List.getElem?_eq_some_iff.1 hc).1
    refine ⟨tkL t, rfl, k53_mk W (toS t), fun i u hu => ?_⟩
    have hi : i < 6 := (List.getElem?_eq_some_iff.1 hu).1
    have e1 : (tksL c)[j * 6 + i]? = some u := by
      rw [← tksL_at c j t hc, List.getElem?_take_of_lt hi, List.getElem?_drop] at hu
      exact hu
    rw [← ht, List.getElem?_take_of_lt (by omega)] at e1
    show W.cell? ((⟨g, 0, none⟩ : Addr).add (j * 6 + i)) = some u
    rw [add_plain, blk_cell hg]
    simpa using e1
theorem hdrs_N {G : Nat → Prop} {W : World} {base : Nat} {v : Value} {hs : List Value} {cls : List (List S.Tk)} (ho : W.ownsRow base 24 1 v hs.length hs) (h : Hdrs G W hs cls) (hG : ∀ g, G g → base ≤ g ∧ v.ownBlock ≠ some g) :
    Kd.N (Kd.slice 53 k53) 24 W base (fun k => base ≤ k) v (cls.map (List.map toS)) := by
  have hone : ∀ (j : Nat) (u : Value), hs[j]? = some u → u.oneCell' = true := fun j u hu => by
    have hj : j < cls.length := by rw [← h.1]; exact (List.getElem?_eq_some_iff.1 hu).1
    obtain ⟨g, cs, e1, _⟩ := h.2 j u _ hu (List.getElem?_eq_getElem hj)
    rw [e1]; rfl
  refine ⟨fun k hk => (ho.lt k hk).1, hs.map (fun u => [u]), by rw [List.length_map, List.length_map, h.1], ⟨fun k hk => hk.symm, hs, by rw [List.length_map]; exact ho, by rw [List.length_map]; exact (Nat.mul_one _).symm, fun j p hj => ?_⟩, fun j x c hx hc => ?_⟩
  · rw [List.getElem?_map] at hj
    cases hu : hs[j]? with
    | none => rw [hu] at hj; cases hj
    | some u =>
      rw [hu] at hj
      simp only [Option.map_some, Option.some.injEq] at hj
      subst hj
      have hjl : j < hs.length := (List.getElem?_eq_some_iff.1 hu).1
      have e : (hs.drop (j * 1)).take 1 = [u] := by
        rw [Nat.mul_one, List.drop_eq_getElem_cons hjl]
        rw [List.getElem?_eq_getElem hjl] at hu
        simp only [Option.some.injEq] at hu
        simp [hu]
      show (hs.drop (j * 1)).take 1 = [u] ∧ ((hs.drop (j * 1)).take 1).length = 1 ∧ ∀ u' ∈ (hs.drop (j * 1)).take 1, u'.oneCell' = true
      exact ⟨e, by rw [e]; rfl, fun u' hu' => by rw [e] at hu'; rw [List.mem_singleton.1 hu']; exact hone j u hu⟩
  · rw [List.getElem?_map] at hc hx
    cases hu : hs[j]? with
    | none => rw [hu] at hc; cases hc
    | some u =>
      cases hcl : cls[j]? with
      | none => rw [hcl] at hx; cases hx
      | some cl =>
        rw [hu] at hc
        rw [hcl] at hx
        simp only [Option.map_some, Option.some.injEq] at hc hx
        subst hc hx
        obtain ⟨g, cs, e1, e2, e3, e4, e5⟩ := h.2 j u cl hu hcl
        intro W' hW
        have hg' : W'.heap[g]? = some (.cells cs 53 (0, 0)) := (hW g ⟨(hG g e2).1, fun e => (hG g e2).2 e.symm⟩ (Array.getElem?_eq_some_iff.1 e3).1).trans e3
        exact ⟨_, _, by rw [e1, List.length_map], by rw [List.length_map]; exact Nat.le_refl _, cells_C hg' e4 e5⟩
/-- What Clauses returns. -/
def scan_Clauses.f (a0 : ByteArray) : Option (List (List S53) × Int × Int × Int) :=
  if a0.size ≤ 20000 then
    (match (S.scan (bytesOf a0)).err with
    | none => some ((S.scan (bytesOf a0)).cl.map fun c => c.dropLast.map toS, 0, 0, 0)
    | some p => some ([], p.1, p.2, 7))
  else some ([], 0, 0, 3)
set_option maxRecDepth 100000 in
set_option maxHeartbeats 4000000 in
theorem scan_Clauses.calls (a0 : ByteArray) (r1 : List (List S53)) (r2 r3 r4 : Int) (w : World) (hT : TabOK w) (h : scan_Clauses.f a0 = some (r1, r2, r3, r4)) :
    Calls Tryz.prog 19 #[.string a0] w fun e w' => ∃ v0 : Value, e = .returned (.tuple #[v0, .int .i64 r2, .int .i64 r3, .int .i64 r4]) ∧ Kd.N (Kd.slice 53 k53) 24 w' w.heap.size (fun k => w.heap.size ≤ k) v0 r1 ∧ Below w.heap.size w w' := by
  unfold scan_Clauses.f at h
  by_cases hs : a0.size ≤ 20000
  · rw [if_pos hs] at h
    refine (scan_Clauses_m.calls a0 w hs hT (fun c ln he => S.scan_err he)).mono ?_
    rintro e w' ⟨hb, hp⟩
    unfold ClPost at hp
    cases he : (S.scan (bytesOf a0)).err with
    | none =>
      rw [he] at h hp
      simp only [Option.some.injEq, Prod.mk.injEq] at h
      obtain ⟨rfl, rfl, rfl, rfl⟩ := h
      obtain ⟨v, hss, G, rfl, ho, hh, hG⟩ := hp
      have := hdrs_N ho hh hG
      rw [List.map_map] at this
      exact ⟨v, rfl, this, hb⟩
    | some p =>
      rw [he] at h hp
      simp only [Option.some.injEq, Prod.mk.injEq] at h
      obtain ⟨rfl, rfl, rfl, rfl⟩ := h
      exact ⟨_, hp, Kd.N_nil _ _ _ _ _, hb⟩
  · rw [if_neg hs] at h
    simp only [Option.some.injEq, Prod.mk.injEq] at h
    obtain ⟨rfl, rfl, rfl, rfl⟩ := h
    have HLM := Lib.hid (scan_limited.calls a0 3 w (by unfold scan_limited.f; rw [if_pos (by omega)]))
    clear hT
    refine (callsIn_wide (n := 8)).1 ?_
    refine callsIn_of_wp_marks Tryz.func19 rfl trivial ?_ rfl
    simp only [Tryz.ntmps19, List.size_toArray, List.length_cons, List.length_nil, Nat.reduceAdd, Nat.reduceSub, Array.replicate_succ, Array.replicate_zero, List.push_toArray, List.append_toArray, List.nil_append, List.cons_append]
    have hwf : ∀ f, Fence.wide.fn f := fun _ => trivial
    gi_wp2_with (gi_at_call 50; refine (callsIn_wide.2 HLM.out).mono ?_; rintro e w' ⟨rfl, ⟨⟨q, rfl⟩⟩⟩)
    refine ⟨_, results_tmp4 rfl _ _ _, ?_⟩
    exact ⟨_, rfl, Kd.N_nil _ _ _ _ _, pw_below_drewN (Below.refl _ _) _⟩
end Go.Proofs.YtkkpjonfaflkmaaGreatDoor.T

-- Written by a program of this session (mp.py over the kit's print.py), out of the translation.
namespace Go.Proofs.YtkkpjonfaflkmaaGreatDoor.T
set_option linter.unusedSimpArgs false
open Go.RowKit Go.Proofs.YtkkpjonfaflkmaaGreatDoorW.PrintWords Go.Proofs.YtkkpjonfaflkmaaGreatDoorW.PrintLast Go.Proofs.YtkkpjonfaflkmaaGreatDoorW.PrintMore
attribute [local go_sem] max2_int min2_int max_two min_two max_three min_three max_four min_four   -- for this text's walks alone
set_option linter.unusedVariables false
set_option linter.unusedSimpArgs false

/-! ### scan_Labels: function 20 -/
def scan_Labels.l0 : Nat → List (S73) → List (List (S53)) → Int → Int → Option ((List (S73)) × Int × Int × Int)
  | 0, _, _, _, _ => none
  | k + 1, x10, x25, x26, x27 => if x27 < x26 then (if 0 ≤ x27 then (if x27 < (x25.length : Int) then ((scan_label.f (rd_L4 x25 x27)).bind fun t112 => (if t112 = true then (if 0 < ((rd_L4 x25 x27).length : Int) then (if x10.length < 5864062014805 then (scan_Labels.l0 k (x10 ++ [(⟨(rd_T53 (rd_L4 x25 x27) 0).f1, (rd_T53 (rd_L4 x25 x27) 0).f3⟩ : S73)]) x25 x26 (wrap64 (x27 + 1))) else (none)) else (none)) else (scan_Labels.l0 k x10 x25 x26 (wrap64 (x27 + 1))))) else (none)) else (none)) else (some (x10, 0, 0, 0))
def scan_Labels.f (k : Nat) (a0 : ByteArray) : Option ((List (S73)) × Int × Int × Int) := (scan_Clauses.f a0).bind fun bt105 => (if bt105.2.2.2 = 0 then (scan_Labels.l0 k ([] : List (S73)) bt105.1 (bt105.1.length : Int) 0) else (some (([] : List (S73)), bt105.2.1, bt105.2.2.1, bt105.2.2.2)))
theorem scan_Labels.mono_l : ∀ k, (∀ y0 y1 y2 y3, LeO (scan_Labels.l0 k y0 y1 y2 y3) (scan_Labels.l0 (k + 1) y0 y1 y2 y3))
  | 0 => fun _ _ _ _ r h => by simp [scan_Labels.l0] at h
  | k + 1 => by
    have ih0 := scan_Labels.mono_l k
    · intro y0 y1 y2 y3
      unfold scan_Labels.l0
      repeat' first
      | (with_reducible exact ih0 _ _ _ _)
      | (with_reducible exact LeO.refl _)
      | (with_reducible exact LeO.none _)
      | (with_reducible refine LeO.ite ?_ ?_)
      | (with_reducible refine LeO.bind ?_ (fun _ => ?_))
      | exact ih0 _ _ _ _
      | exact LeO.none _
      | refine LeO.ite ?_ ?_
      | refine LeO.bind ?_ (fun _ => ?_)
theorem scan_Labels.mono : ∀ a0 k, LeO (scan_Labels.f k a0) (scan_Labels.f (k + 1) a0) := by
  intro a0 k
  have ih0 := scan_Labels.mono_l k
  unfold scan_Labels.f
  repeat' first
      | (with_reducible exact ih0 _ _ _ _)
      | (with_reducible exact LeO.refl _)
      | (with_reducible exact LeO.none _)
      | (with_reducible refine LeO.ite ?_ ?_)
      | (with_reducible refine LeO.bind ?_ (fun _ => ?_))
      | exact ih0 _ _ _ _
      | exact LeO.none _
      | refine LeO.ite ?_ ?_
      | refine LeO.bind ?_ (fun _ => ?_)
def scan_Labels.T9 : Bool × List (List Nat × List Nat) := (true, [([], []), ([], []), ([1], [1]), ([2], [2]), ([3], [3]), ([], []), ([5], [5]), ([6], [6]), ([7], [7]), ([4, 8], [4, 8]), ([9], [9]), ([0, 10], [0, 10]), ([11, 11, 0, 1, 2, 3, 4, 5, 6, 7, 8, 9, 10, 11], [0, 11])])
def scan_Labels.B9 : List Nat := [0, 0, 2, 6, 14, 0, 32, 96, 224, 510, 1022, 2047, 4095]
theorem scan_Labels.tab9 : rtab .any (opsOf Tryz.f20 9) = scan_Labels.T9 := by kernel_rfl
theorem scan_Labels.bits9 : waitsOk scan_Labels.T9.2 scan_Labels.B9 = true := by kernel_rfl
set_option maxHeartbeats 8000000 in
set_option maxRecDepth 100000 in
theorem scan_Labels.calls (k : Nat) (a0 : ByteArray) (r1 : List (S73)) (r2 : Int) (r3 : Int) (r4 : Int) (w : World) (hT : TabOK w) (h : scan_Labels.f k a0 = some (r1, r2, r3, r4)) :
    Calls Tryz.prog 20 #[.string a0] w fun e w' => ∃ v0_ : Value, e = .returned (.tuple #[v0_, .int .i64 r2, .int .i64 r3, .int .i64 r4]) ∧ Kd.R k73 73 w' w.heap.size (fun _ => True) v0_ r1 ∧ Below w.heap.size w w' := by
  have hu73 := Tryz.underlying73
  have HB := Aside0.mk (Below.refl w.heap.size w)
  have H : ((scan_Clauses.f a0).bind fun bt105 => (if bt105.2.2.2 = 0 then (scan_Labels.l0 k ([] : List (S73)) bt105.1 (bt105.1.length : Int) 0) else (some (([] : List (S73)), bt105.2.1, bt105.2.2.1, bt105.2.2.2)))) = some (r1, r2, r3, r4) := h
  clear h
  replace H := Option.bind_eq_some_iff.mp H
  obtain ⟨⟨t105, t106, t107, t108⟩, A20, H⟩ := H
  replace H : (if t108 = 0 then (scan_Labels.l0 k ([] : List (S73)) t105 (t105.length : Int) 0) else (some (([] : List (S73)), t106, t107, t108))) = some (r1, r2, r3, r4) := H
  have A2 := Aside0.mk A20
  clear A20
  by_cases c3 : t108 = 0
  · rw [if_pos c3] at H
    have c3b0 : (t108 == 0) = true := beq_iff_eq.mpr c3
    have c3b1 : (t108 != 0) = false := bne_eq_false_iff_eq.mpr c3
    clear c3
    have H' := Aside0.mk H
    clear H
    go_enter Tryz.func20, Tryz.ntmps20
    go_wp2_with (first | ((with_reducible refine gate_callee (f := 19) rfl ?_); refine goesL_ (some 15) rfl rfl Tryz.func19 (by kernel_rfl) rfl #[.string a0] rfl (by (try simp only [List.map_toArray, List.map_cons, List.map_nil]); first | done | rfl | (simp only [List.length_drop, List.length_take]; rfl)) ?_; (with_reducible refine (scan_Clauses.calls a0 t105 t106 t107 t108 _ (TabOK.of_below hT (by repeat (first | (with_reducible first | exact HB.out | apply below_alloc | apply pw_below_drewN | apply below_drew1) | exact HB.out))) A2.out).mono ?_); rintro e w4 ⟨v109, rfl, ho0, hb⟩; refine ⟨_, rfl, ?_⟩; have n0_ := Aside0.mk (Kd.N_lower (Kd.N_mono (ok' := fun k_ => True) ho0 (fun k_ hk_ => trivial)) (below_size (by repeat (first | (with_reducible first | exact HB.out | apply below_alloc | apply pw_below_drewN | apply below_drew1) | exact HB.out)))); have n1_ := Aside0.mk (below_step (by repeat (first | (with_reducible first | exact HB.out | apply below_alloc | apply pw_below_drewN | apply below_drew1) | exact HB.out)) hb); clear HB; have HO110 := n0_; have HB := n1_; clear n0_ n1_; (try clear hb); (try clear hb2); (try clear hk); (try clear hi); (try clear ho0); obtain ⟨Ao5, co5, eo5⟩ := Kd.N_slice HO110.out; subst eo5))
    go_loopg [10, 27] k (fun kq v10 v27 w' => ∃ (x10_1 : List (S73)) (x27_1 : Int), v27 = .int .i64 x27_1 ∧ Aside0 (scan_Labels.l0 kq x10_1 t105 (t105.length : Int) x27_1 = some (r1, r2, r3, r4)) ∧ Aside0 (kq ≤ k) ∧ Aside0 (Kd.R k73 73 w' w.heap.size (fun _ => True) v10 x10_1) ∧ Aside0 (Kd.N (Kd.slice 53 k53) 24 w' w.heap.size (fun k_ => some k_ ≠ (v10 : Value).ownBlock) (.slice Ao5 t105.length co5) t105) ∧ Aside0 (Below w.heap.size w w'))
    case atStart => exact ⟨(([] : List (S73))), (0), (by first | rfl | (simp; done) | (simp [*]; done)), H', ⟨Nat.le_refl _⟩, ⟨by first | exact Kd.R_nil _ _ _ _ _ | exact Kd.N_nil _ _ _ _ _ | exact Kd.V_nil _ _ _ _ _ | exact Kd.Q_nil _ _ _ _ _ | exact Kd.S_nil _ _ _ _ _⟩, ⟨by (with_reducible repeat (first | apply Kd.N_alloc | apply Kd.N_drewN | apply Kd.N_drew)); exact Kd.N_mono HO110.out (fun _ hk => (by simp [Value.ownBlock]))⟩, ⟨by repeat (first | (with_reducible first | exact HB.out | apply below_alloc | apply pw_below_drewN | apply below_drew1) | exact HB.out)⟩⟩
    case round =>
      clear H'
      try clear c1
      try clear c2
      try clear p2
      try clear c3
      try clear c3b0
      try clear c3b1
      obtain ⟨x10_1, x27_1, rfl, HA, HK1, HO_10, HO_25, HB⟩ := hrel
      cases gk with
      | zero => exact absurd HA.out (by simp [scan_Labels.l0])
      | succ k1 =>
        have H := HA.out
        clear HA
        simp only [scan_Labels.l0] at H
        by_cases c6 : x27_1 < (t105.length : Int)
        · rw [if_pos c6] at H
          have c6b0 : decide (x27_1 < (t105.length : Int)) = true := decide_eq_true c6
          clear c6
          by_cases c7 : 0 ≤ x27_1
          · rw [if_pos c7] at H
            have c7b0 : decide (0 ≤ x27_1) = true := decide_eq_true c7
            clear c7
            by_cases c8 : x27_1 < (t105.length : Int)
            · rw [if_pos c8] at H
              have c8b0 : decide (x27_1 < (t105.length : Int)) = true := decide_eq_true c8
              clear c8
              replace H := Option.bind_eq_some_iff.mp H
              obtain ⟨t112, A90, H⟩ := H
              replace H : (if t112 = true then (if 0 < ((rd_L4 t105 x27_1).length : Int) then (if x10_1.length < 5864062014805 then (scan_Labels.l0 k1 (x10_1 ++ [(⟨(rd_T53 (rd_L4 t105 x27_1) 0).f1, (rd_T53 (rd_L4 t105 x27_1) 0).f3⟩ : S73)]) t105 (t105.length : Int) (wrap64 (x27_1 + 1))) else (none)) else (none)) else (scan_Labels.l0 k1 x10_1 t105 (t105.length : Int) (wrap64 (x27_1 + 1)))) = some (r1, r2, r3, r4) := H
              have A9 := Aside0.mk A90
              clear A90
              by_cases c10 : t112 = true
              · subst c10
                have H1 : (if 0 < ((rd_L4 t105 x27_1).length : Int) then (if x10_1.length < 5864062014805 then (scan_Labels.l0 k1 (x10_1 ++ [(⟨(rd_T53 (rd_L4 t105 x27_1) 0).f1, (rd_T53 (rd_L4 t105 x27_1) 0).f3⟩ : S73)]) t105 (t105.length : Int) (wrap64 (x27_1 + 1))) else (none)) else (none)) = some (r1, r2, r3, r4) := by rw [if_pos rfl] at H; exact H
                clear H
                have H := H1
                clear H1
                by_cases c11 : 0 < ((rd_L4 t105 x27_1).length : Int)
                · rw [if_pos c11] at H
                  have c11b0 : decide (0 < ((rd_L4 t105 x27_1).length : Int)) = true := decide_eq_true c11
                  have c11b1 : decide (0 < (rd_L4 t105 x27_1).length) = true := decide_eq_true (by omega)
                  clear c11
                  by_cases c12 : x10_1.length < 5864062014805
                  · rw [if_pos c12] at H
                    have LMc12 := Aside0.mk c12
                    clear c12
                    obtain ⟨y115, hy115⟩ : ∃ y_ : List (S73), y_ = (x10_1 ++ [(⟨(rd_T53 (rd_L4 t105 x27_1) 0).f1, (rd_T53 (rd_L4 t105 x27_1) 0).f3⟩ : S73)]) := ⟨_, rfl⟩
                    replace H : (scan_Labels.l0 k1 y115 t105 (t105.length : Int) (wrap64 (x27_1 + 1))) = some (r1, r2, r3, r4) := by first | (rw [hy115]; with_reducible exact H) | (have H2_ := (Option.bind_some _ _).symm.trans H; rw [hy115]; with_reducible exact H2_) | (have H2_ := (Option.bind_some _ _).symm.trans H; with_reducible exact H2_) | with_reducible exact H | (rw [hy115]; exact H) | exact H
                    have Ny115 := Aside0.mk hy115
                    clear hy115
                    have H' := Aside0.mk H
                    clear H
                    have p111 : 0 ≤ (x27_1 : Int) := of_decide_eq_true (by first | (with_reducible assumption) | assumption)
                    have q111 : x27_1 < (t105.length : Int) := of_decide_eq_true (by first | (with_reducible assumption) | assumption)
                    obtain ⟨ad111, A111_0, c111_0, e111, hx111_0, hl111_0, hi111_0⟩ := at_L4 (Kd.N_reads' HO_25.out).2.2 x27_1 p111 q111
                    cases e111
                    obtain ⟨ce111, hce111, hMe111, hcc111⟩ := Kd.N_get HO_25.out [] x27_1 p111 (by first | exact q111 | exact of_decide_eq_true (by first | (with_reducible assumption) | assumption) | (have e_ := (Kd.N_reads' HO_25.out).1; omega))
                    obtain ⟨ua111_0, uc111_0, rfl, ul111_0, ge111_0⟩ := Kd.FK_slice_open hMe111
                    have hv111_0 := hcc111 0 _ rfl
                    rw [Nat.add_zero, show ((Kd.slice 53 k53)).sz = 1 from rfl, Nat.mul_one] at hv111_0
                    replace hv111_0 := Option.some.inj (hv111_0.symm.trans hx111_0)
                    injection hv111_0 with hva_ hvn_ hvc_
                    rw [hva_] at ge111_0
                    rw [hvc_] at ul111_0
                    have HL111_0 := Aside0.mk (show Kd.V k53 53 _ w.heap.size _ _ (rd_L4 t105 x27_1) from Kd.V_mk ul111_0 ge111_0)
                    clear hva_ hvn_ hvc_ ge111_0 ul111_0
                    clear hcc111 hce111
                    have HR111_0 := Aside0.mk hi111_0
                    have HC111_0 := Aside0.mk hl111_0
                    clear hi111_0 hl111_0
                    replace p111 := eq_true p111
                    replace q111 := eq_true q111
                    try go_wp2_with (first | ((with_reducible refine gate_callee (f := 54) rfl ?_); refine goesL_ (some 32) rfl rfl Tryz.func54 (by kernel_rfl) rfl #[.slice A111_0 (rd_L4 t105 x27_1).length c111_0] rfl (by (try simp only [List.map_toArray, List.map_cons, List.map_nil]); first | done | rfl | (simp only [List.length_drop, List.length_take]; rfl)) ?_; (with_reducible refine (scan_label.calls _ _ (rd_L4 t105 x27_1) true _ ?side1 ?side2 A9.out).mono ?_); (case side1 => repeat (first | exact (by repeat (first | (with_reducible exact HR111_0.out) | (with_reducible refine Kd.C_alloc ?_ _) | (with_reducible refine Kd.C_drewN ?_ _) | (with_reducible refine Kd.C_drew ?_) | exact HR111_0.out)) | (with_reducible refine Kd.C_alloc ?_ _) | (with_reducible refine Kd.C_drewN ?_ _) | (with_reducible refine Kd.C_drew ?_))); (case side2 => exact HC111_0.out); rintro e w' ⟨rfl, ⟨nd, rfl⟩⟩; refine ⟨_, rfl, ?_⟩))
                    (try (rw [drewN_self wr]; generalize hq_ : World.drewN wr _ = wr; have n0_ : Aside0 (Kd.V k53 53 wr w.heap.size (fun k_ => some k_ ≠ (u10 : Value).ownBlock ∧ some k_ ≠ (.slice (some ad111) t105.length co5 : Value).ownBlock) (.slice A111_0 (rd_L4 t105 x27_1).length c111_0) (rd_L4 t105 x27_1)) := ⟨by rw [← hq_]; exact (by (with_reducible repeat (first | apply Kd.V_alloc | apply Kd.V_drewN | apply Kd.V_drew)); exact HL111_0.out)⟩; have n1_ : Aside0 (Kd.R k73 73 wr w.heap.size (fun _ => True) u10 x10_1) := ⟨by rw [← hq_]; exact (by (with_reducible repeat (first | apply Kd.R_alloc | apply Kd.R_drewN | apply Kd.R_drew)); exact HO_10.out)⟩; have n2_ : Aside0 (Kd.N (Kd.slice 53 k53) 24 wr w.heap.size (fun k_ => some k_ ≠ (u10 : Value).ownBlock) (.slice (some ad111) t105.length co5) t105) := ⟨by rw [← hq_]; exact (by (with_reducible repeat (first | apply Kd.N_alloc | apply Kd.N_drewN | apply Kd.N_drew)); exact HO_25.out)⟩; have n3_ : Aside0 (Below w.heap.size w wr) := ⟨by rw [← hq_]; exact (by repeat (first | (with_reducible first | exact HB.out | apply below_alloc | apply pw_below_drewN | apply below_drew1) | exact HB.out))⟩; have n4_ : Aside0 (Kd.C k53 wr A111_0 (rd_L4 t105 x27_1).length (rd_L4 t105 x27_1)) := ⟨by rw [← hq_]; exact (by repeat (first | (with_reducible exact HR111_0.out) | (with_reducible refine Kd.C_alloc ?_ _) | (with_reducible refine Kd.C_drewN ?_ _) | (with_reducible refine Kd.C_drew ?_) | exact HR111_0.out))⟩; clear HL111_0 HO_10 HO_25 HB HR111_0 hq_; have HL111_0 := n0_; have HO_10 := n1_; have HO_25 := n2_; have HB := n3_; have HR111_0 := n4_; clear n0_ n1_ n2_ n3_ n4_))
                    have n0_ := Aside0.mk (Kd.R_drew HO_10.out)
                    have n1_ := Aside0.mk (Kd.N_drew HO_25.out)
                    have n2_ := Aside0.mk (Kd.V_drew HL111_0.out)
                    have n3_ := Aside0.mk (Kd.C_drew HR111_0.out)
                    have n4_ := Aside0.mk (below_drew1 HB.out)
                    clear HO_10
                    clear HO_25
                    clear HL111_0
                    clear HR111_0
                    clear HB
                    have HO_10 := n0_
                    have HO_25 := n1_
                    have HL111_0 := n2_
                    have HR111_0 := n3_
                    have HB := n4_
                    clear n0_ n1_ n2_ n3_ n4_
                    have p113 : 0 ≤ (0 : Int) := (by omega)
                    have q113 : 0 < ((rd_L4 t105 x27_1).length : Int) := of_decide_eq_true (by first | (with_reducible assumption) | assumption)
                    obtain ⟨ad113, e113, hx113_0, hx113_1, hx113_2, hx113_3, hx113_4, hx113_5⟩ := at_T53 (by repeat (first | (with_reducible exact HR111_0.out) | (with_reducible refine Kd.C_alloc ?_ _) | (with_reducible refine Kd.C_drewN ?_ _) | (with_reducible refine Kd.C_drew ?_) | exact HR111_0.out)) 0 p113 q113
                    cases e113
                    have qi113 : (0 < (rd_L4 t105 x27_1).length) = True := eq_true (by omega)
                    (try rw [show ((0 : Int)).toNat = 0 from rfl] at hx113_0)
                    (try rw [show 0 * 6 = 0 from rfl] at hx113_0)
                    (try rw [Addr.add_zero'] at hx113_0)
                    (try rw [show ((0 : Int)).toNat = 0 from rfl] at hx113_1)
                    (try rw [show 0 * 6 = 0 from rfl] at hx113_1)
                    (try rw [Addr.add_zero'] at hx113_1)
                    (try rw [show ((0 : Int)).toNat = 0 from rfl] at hx113_2)
                    (try rw [show 0 * 6 = 0 from rfl] at hx113_2)
                    (try rw [Addr.add_zero'] at hx113_2)
                    (try rw [show ((0 : Int)).toNat = 0 from rfl] at hx113_3)
                    (try rw [show 0 * 6 = 0 from rfl] at hx113_3)
                    (try rw [Addr.add_zero'] at hx113_3)
                    (try rw [show ((0 : Int)).toNat = 0 from rfl] at hx113_4)
                    (try rw [show 0 * 6 = 0 from rfl] at hx113_4)
                    (try rw [Addr.add_zero'] at hx113_4)
                    (try rw [show ((0 : Int)).toNat = 0 from rfl] at hx113_5)
                    (try rw [show 0 * 6 = 0 from rfl] at hx113_5)
                    (try rw [Addr.add_zero'] at hx113_5)
                    replace p113 := eq_true p113
                    replace q113 := eq_true q113
                    have p114 : 0 ≤ (0 : Int) := (by omega)
                    have q114 : 0 < ((rd_L4 t105 x27_1).length : Int) := of_decide_eq_true (by first | (with_reducible assumption) | assumption)
                    obtain ⟨ad114, e114, hx114_0, hx114_1, hx114_2, hx114_3, hx114_4, hx114_5⟩ := at_T53 (by repeat (first | (with_reducible exact HR111_0.out) | (with_reducible refine Kd.C_alloc ?_ _) | (with_reducible refine Kd.C_drewN ?_ _) | (with_reducible refine Kd.C_drew ?_) | exact HR111_0.out)) 0 p114 q114
                    obtain rfl : ad113 = ad114 := (by injection e114)
                    have qi114 : (0 < (rd_L4 t105 x27_1).length) = True := eq_true (by omega)
                    (try rw [show ((0 : Int)).toNat = 0 from rfl] at hx114_0)
                    (try rw [show 0 * 6 = 0 from rfl] at hx114_0)
                    (try rw [Addr.add_zero'] at hx114_0)
                    (try rw [show ((0 : Int)).toNat = 0 from rfl] at hx114_1)
                    (try rw [show 0 * 6 = 0 from rfl] at hx114_1)
                    (try rw [Addr.add_zero'] at hx114_1)
                    (try rw [show ((0 : Int)).toNat = 0 from rfl] at hx114_2)
                    (try rw [show 0 * 6 = 0 from rfl] at hx114_2)
                    (try rw [Addr.add_zero'] at hx114_2)
                    (try rw [show ((0 : Int)).toNat = 0 from rfl] at hx114_3)
                    (try rw [show 0 * 6 = 0 from rfl] at hx114_3)
                    (try rw [Addr.add_zero'] at hx114_3)
                    (try rw [show ((0 : Int)).toNat = 0 from rfl] at hx114_4)
                    (try rw [show 0 * 6 = 0 from rfl] at hx114_4)
                    (try rw [Addr.add_zero'] at hx114_4)
                    (try rw [show ((0 : Int)).toNat = 0 from rfl] at hx114_5)
                    (try rw [show 0 * 6 = 0 from rfl] at hx114_5)
                    (try rw [Addr.add_zero'] at hx114_5)
                    replace p114 := eq_true p114
                    replace q114 := eq_true q114
                    refine start_ (n := 13) (S := fun w' => w'.cell? ad113 = some (.int .i64 ((rd_T53 (rd_L4 t105 x27_1) 0).f0)) ∧ w'.cell? ⟨ad113.block, ad113.off + 1, none⟩ = some (.string ((rd_T53 (rd_L4 t105 x27_1) 0).f1)) ∧ w'.cell? ⟨ad113.block, ad113.off + 2, none⟩ = some (.bool ((rd_T53 (rd_L4 t105 x27_1) 0).f2)) ∧ w'.cell? ⟨ad113.block, ad113.off + 3, none⟩ = some (.int .i64 ((rd_T53 (rd_L4 t105 x27_1) 0).f3)) ∧ w'.cell? ⟨ad113.block, ad113.off + 4, none⟩ = some (.int .i64 ((rd_T53 (rd_L4 t105 x27_1) 0).f4)) ∧ w'.cell? ⟨ad113.block, ad113.off + 5, none⟩ = some (.int .i64 ((rd_T53 (rd_L4 t105 x27_1) 0).f5)) ∧ w'.cell? ad113 = some (.int .i64 ((rd_T53 (rd_L4 t105 x27_1) 0).f0)) ∧ w'.cell? ⟨ad113.block, ad113.off + 1, none⟩ = some (.string ((rd_T53 (rd_L4 t105 x27_1) 0).f1)) ∧ w'.cell? ⟨ad113.block, ad113.off + 2, none⟩ = some (.bool ((rd_T53 (rd_L4 t105 x27_1) 0).f2)) ∧ w'.cell? ⟨ad113.block, ad113.off + 3, none⟩ = some (.int .i64 ((rd_T53 (rd_L4 t105 x27_1) 0).f3)) ∧ w'.cell? ⟨ad113.block, ad113.off + 4, none⟩ = some (.int .i64 ((rd_T53 (rd_L4 t105 x27_1) 0).f4)) ∧ w'.cell? ⟨ad113.block, ad113.off + 5, none⟩ = some (.int .i64 ((rd_T53 (rd_L4 t105 x27_1) 0).f5))) (ds := [10, 11]) #[false, false, false, false, false, false, false, false, false, false, false, false, false] (by kernel_rfl) rfl rfl ⟨hx113_0, hx113_1, hx113_2, hx113_3, hx113_4, hx113_5, hx114_0, hx114_1, hx114_2, hx114_3, hx114_4, hx114_5⟩ (fun hHeld => ?_); refine with_tabW scan_Labels.tab9 scan_Labels.bits9 (fun HT_ HW_ => ?_)
                    generalize wr.drew = w13 at HO_10 HO_25 HL111_0 HR111_0 HB hx113_0 hx113_1 hx113_2 hx113_3 hx113_4 hx113_5 hx114_0 hx114_1 hx114_2 hx114_3 hx114_4 hx114_5 hHeld ⊢
                    refine pure_ (i := 0) (N := some 33) (v := ?_) (a' := ?_) #[true, false, false, false, false, false, false, false, false, false, false, false, false] rfl rfl (any_of HT_.out (by kernel_rfl)) (fun _ _ _ h => h) (Or.inl ⟨by rfl, ?_⟩) ?_ ?_
                    rotate_left
                    · intro w'
                      go_simp
                      with_reducible rfl
                    rotate_left
                    · simp only [Act.put, List.setIfInBounds_toArray, List.set_cons_zero, List.set_cons_succ, i64_w, i32_w]
                      rfl
                    refine pure_ (i := 1) (N := some 34) (v := ?_) (a' := ?_) #[true, true, false, false, false, false, false, false, false, false, false, false, false] rfl rfl (any_of HT_.out (by kernel_rfl)) (fun _ _ _ h => h) (Or.inl ⟨by rfl, ?_⟩) ?_ ?_
                    rotate_left
                    · intro w'
                      go_simp
                      with_reducible rfl
                    rotate_left
                    · simp only [Act.put, List.setIfInBounds_toArray, List.set_cons_zero, List.set_cons_succ, i64_w, i32_w]
                      rfl
                    refine pure_ (i := 2) (N := some 35) (v := ?_) (a' := ?_) #[true, true, true, false, false, false, false, false, false, false, false, false, false] rfl rfl (any_of HT_.out (by kernel_rfl)) (fun _ _ _ h => h) (Or.inl ⟨by rfl, ?_⟩) ?_ ?_
                    rotate_left
                    · intro w'
                      go_simp
                      with_reducible rfl
                    rotate_left
                    · simp only [Act.put, List.setIfInBounds_toArray, List.set_cons_zero, List.set_cons_succ, i64_w, i32_w]
                      rfl
                    refine pure_ (i := 3) (N := some 36) (v := ?_) (a' := ?_) #[true, true, true, true, false, false, false, false, false, false, false, false, false] rfl rfl (any_of HT_.out (by kernel_rfl)) (fun _ _ _ h => h) (Or.inl ⟨by rfl, ?_⟩) ?_ ?_
                    rotate_left
                    · intro w'
                      go_simp
                      with_reducible rfl
                    rotate_left
                    · simp only [Act.put, List.setIfInBounds_toArray, List.set_cons_zero, List.set_cons_succ, i64_w, i32_w]
                      rfl
                    refine pure_ (i := 5) (N := some 38) (v := ?_) (a' := ?_) #[true, true, true, true, false, true, false, false, false, false, false, false, false] rfl rfl (any_of HT_.out (by kernel_rfl)) (fun _ _ _ h => h) (Or.inl ⟨by rfl, ?_⟩) ?_ ?_
                    rotate_left
                    · intro w'
                      go_simp
                      with_reducible rfl
                    rotate_left
                    · simp only [Act.put, List.setIfInBounds_toArray, List.set_cons_zero, List.set_cons_succ, i64_w, i32_w]
                      rfl
                    refine pure_ (i := 6) (N := some 39) (v := ?_) (a' := ?_) #[true, true, true, true, false, true, true, false, false, false, false, false, false] rfl rfl (any_of HT_.out (by kernel_rfl)) (fun _ _ _ h => h) (Or.inl ⟨by rfl, ?_⟩) ?_ ?_
                    rotate_left
                    · intro w'
                      go_simp
                      with_reducible rfl
                    rotate_left
                    · simp only [Act.put, List.setIfInBounds_toArray, List.set_cons_zero, List.set_cons_succ, i64_w, i32_w]
                      rfl
                    refine pure_ (i := 7) (N := some 40) (v := ?_) (a' := ?_) #[true, true, true, true, false, true, true, true, false, false, false, false, false] rfl rfl (any_of HT_.out (by kernel_rfl)) (fun _ _ _ h => h) (Or.inl ⟨by rfl, ?_⟩) ?_ ?_
                    rotate_left
                    · intro w'
                      go_simp
                      with_reducible rfl
                    rotate_left
                    · simp only [Act.put, List.setIfInBounds_toArray, List.set_cons_zero, List.set_cons_succ, i64_w, i32_w]
                      rfl
                    refine take_ (i := 4) (N := some 37) (v := ?_) (a' := ?_) #[true, true, true, true, true, true, true, true, false, false, false, false, false] rfl rfl (take_ofW HT_.out HW_.out (by kernel_rfl)) (fun _ _ _ h => h) (Or.inl ⟨by rfl, ?_⟩) hHeld ?_ ?_
                    rotate_left
                    · rintro w' ⟨s0, s1, s2, s3, s4, s5, s6, s7, s8, s9, s10, s11⟩
                      go_simp
                      with_reducible rfl
                    rotate_left
                    · simp only [Act.put, List.setIfInBounds_toArray, List.set_cons_zero, List.set_cons_succ, i64_w, i32_w]
                      rfl
                    refine take_ (i := 8) (N := some 41) (v := ?_) (a' := ?_) #[true, true, true, true, true, true, true, true, true, false, false, false, false] rfl rfl (take_ofW HT_.out HW_.out (by kernel_rfl)) (fun _ _ _ h => h) (Or.inl ⟨by rfl, ?_⟩) hHeld ?_ ?_
                    rotate_left
                    · rintro w' ⟨s0, s1, s2, s3, s4, s5, s6, s7, s8, s9, s10, s11⟩
                      go_simp
                      with_reducible rfl
                    rotate_left
                    · simp only [Act.put, List.setIfInBounds_toArray, List.set_cons_zero, List.set_cons_succ, i64_w, i32_w]
                      rfl
                    refine pure_ (i := 9) (N := some 42) (v := ?_) (a' := ?_) #[true, true, true, true, true, true, true, true, true, true, false, false, false] rfl rfl (any_of HT_.out (by kernel_rfl)) (fun _ _ _ h => h) (Or.inl ⟨by rfl, ?_⟩) ?_ ?_
                    rotate_left
                    · intro w'
                      go_simp
                      with_reducible rfl
                    rotate_left
                    · simp only [Act.put, List.setIfInBounds_toArray, List.set_cons_zero, List.set_cons_succ, i64_w, i32_w]
                      rfl
                    refine last_ (i := 10) (N := some 43) #[true, true, true, true, true, true, true, true, true, true, true, false, false] rfl rfl (one_of HT_.out (by kernel_rfl)) (by decide) (fun K hK => ?_)
                    refine value_ (w1 := ?_) (v := ?_) (by rfl) rfl ?_ ?_
                    rotate_left 2
                    · go_simp
                      constructor
                      · rfl
                      · rfl
                    refine hK.out _ _ ?_
                    clear hK K
                    refine norm_ (a' := ?_) ?_ ?_
                    rotate_left
                    · show Act.put _ (some 43) _ = _
                      simp only [Act.put, List.setIfInBounds_toArray, List.set_cons_zero, List.set_cons_succ, i64_w, i32_w]
                      rfl
                    refine last_ (i := 11) (N := some 44) #[true, true, true, true, true, true, true, true, true, true, true, true, false] rfl rfl (one_of HT_.out (by kernel_rfl)) (by decide) (fun K hK => ?_)
                    refine Kd.R_append_step k73 (w0 := w) w.heap.size (by rfl) (.tmp 33) (.tmp 43) 34 73 (.agg #[(.string ⟨#[]⟩), (.int .i64 0)]) 24 rfl Tryz.underlying34 info73 rfl (by decide) (by omega) u10 x10_1 (⟨(rd_T53 (rd_L4 t105 x27_1) 0).f1, (rd_T53 (rd_L4 t105 x27_1) 0).f3⟩ : S73) [.string ((rd_T53 (rd_L4 t105 x27_1) 0).f1), .int .i64 ((rd_T53 (rd_L4 t105 x27_1) 0).f3)] (fun _ => True) (fun _ => False) rfl rfl ?aP (fun _ hk => hk.elim) ?aF ?aO ?aB ?aS ?aL ?_
                    (case aP => exact k73_mkM _ _ _ (⟨(rd_T53 (rd_L4 t105 x27_1) 0).f1, (rd_T53 (rd_L4 t105 x27_1) 0).f3⟩ : S73))
                    (case aB => exact (by repeat (first | (with_reducible first | exact HB.out | apply below_alloc | apply pw_below_drewN | apply below_drew1) | exact HB.out)))
                    (case aF => exact (fun _ _ => trivial))
                    (case aO => exact (by (with_reducible repeat (first | apply Kd.R_alloc | apply Kd.R_drewN | apply Kd.R_drew)); exact HO_10.out))
                    (case aS => exact (below_size (by repeat (first | (with_reducible first | exact HB.out | apply below_alloc | apply pw_below_drewN | apply below_drew1) | exact HB.out))))
                    (case aL => have := LMc12.out; omega)
                    intro v116 w14 ho hb hg hat
                    rw [← Ny115.out] at ho
                    have n0_ := Aside0.mk (Kd.N_afterv (ok := (fun _ => True)) (by (with_reducible repeat (first | apply Kd.N_alloc | apply Kd.N_drewN | apply Kd.N_drew)); exact Kd.N_mono HO_25.out (fun _ hk => ⟨trivial, hk⟩)) hg hat)
                    have n1_ := Aside0.mk (Kd.V_afterv (ok := (fun k_ => some k_ ≠ (.slice (some ad111) t105.length co5 : Value).ownBlock)) (by (with_reducible repeat (first | apply Kd.V_alloc | apply Kd.V_drewN | apply Kd.V_drew)); exact Kd.V_mono HL111_0.out (fun _ hk => ⟨hk.2, hk.1⟩)) hg hat)
                    have n2_ := Aside0.mk (hb)
                    have n3_ := Aside0.mk (ho)
                    clear HO_25
                    clear HL111_0
                    clear HB
                    clear HO_10
                    have HO_25 := n0_
                    have HL111_0 := n1_
                    have HB := n2_
                    have HO117 := n3_
                    clear n0_ n1_ n2_ n3_
                    clear ho hb hg hat
                    refine hK.out _ _ ?_
                    clear hK K
                    refine norm_ (a' := ?_) ?_ ?_
                    rotate_left
                    · show Act.put _ (some 44) _ = _
                      simp only [Act.put, List.setIfInBounds_toArray, List.set_cons_zero, List.set_cons_succ, i64_w, i32_w]
                      rfl
                    refine pure_ (i := 12) (N := some 10) (v := ?_) (a' := ?_) #[true, true, true, true, true, true, true, true, true, true, true, true, true] rfl rfl (any_of HT_.out (by kernel_rfl)) (fun _ _ _ h => h) (Or.inl ⟨by rfl, ?_⟩) ?_ ?_
                    rotate_left
                    · intro w'
                      go_simp
                      with_reducible rfl
                    rotate_left
                    · simp only [Act.put, List.setIfInBounds_toArray, List.set_cons_zero, List.set_cons_succ, i64_w, i32_w]
                      rfl
                    refine done_ (done_of HT_.out (by kernel_rfl)) ?_
                    try go_wp2
                    go_roundg k1
                    case measure => have := HK1.out; omega
                    case rel => exact ⟨(y115), (wrap64 (x27_1 + 1)), (by first | rfl | (simp; done) | (simp [*]; done)), H', ⟨by have := HK1.out; omega⟩, ⟨by (with_reducible repeat (first | apply Kd.R_alloc | apply Kd.R_drewN | apply Kd.R_drew)); exact HO117.out⟩, ⟨by (with_reducible repeat (first | apply Kd.N_alloc | apply Kd.N_drewN | apply Kd.N_drew)); exact Kd.N_mono HO_25.out (fun _ hk => hk.2)⟩, ⟨by repeat (first | (with_reducible first | exact HB.out | apply below_alloc | apply pw_below_drewN | apply below_drew1) | exact HB.out)⟩⟩
                  · rw [if_neg c12] at H
                    exact absurd H (by simp)
                · rw [if_neg c11] at H
                  exact absurd H (by simp)
              · replace c10 := Bool.eq_false_iff.mpr c10
                subst c10
                have H1 : (scan_Labels.l0 k1 x10_1 t105 (t105.length : Int) (wrap64 (x27_1 + 1))) = some (r1, r2, r3, r4) := by rw [if_neg (show ¬ (false = true) by decide)] at H; exact H
                clear H
                have H := H1
                clear H1
                have H' := Aside0.mk H
                clear H
                have p111 : 0 ≤ (x27_1 : Int) := of_decide_eq_true (by first | (with_reducible assumption) | assumption)
                have q111 : x27_1 < (t105.length : Int) := of_decide_eq_true (by first | (with_reducible assumption) | assumption)
                obtain ⟨ad111, A111_0, c111_0, e111, hx111_0, hl111_0, hi111_0⟩ := at_L4 (Kd.N_reads' HO_25.out).2.2 x27_1 p111 q111
                cases e111
                obtain ⟨ce111, hce111, hMe111, hcc111⟩ := Kd.N_get HO_25.out [] x27_1 p111 (by first | exact q111 | exact of_decide_eq_true (by first | (with_reducible assumption) | assumption) | (have e_ := (Kd.N_reads' HO_25.out).1; omega))
                obtain ⟨ua111_0, uc111_0, rfl, ul111_0, ge111_0⟩ := Kd.FK_slice_open hMe111
                have hv111_0 := hcc111 0 _ rfl
                rw [Nat.add_zero, show ((Kd.slice 53 k53)).sz = 1 from rfl, Nat.mul_one] at hv111_0
                replace hv111_0 := Option.some.inj (hv111_0.symm.trans hx111_0)
                injection hv111_0 with hva_ hvn_ hvc_
                rw [hva_] at ge111_0
                rw [hvc_] at ul111_0
                have HL111_0 := Aside0.mk (show Kd.V k53 53 _ w.heap.size _ _ (rd_L4 t105 x27_1) from Kd.V_mk ul111_0 ge111_0)
                clear hva_ hvn_ hvc_ ge111_0 ul111_0
                clear hcc111 hce111
                have HR111_0 := Aside0.mk hi111_0
                have HC111_0 := Aside0.mk hl111_0
                clear hi111_0 hl111_0
                replace p111 := eq_true p111
                replace q111 := eq_true q111
                go_wp2_with (first | ((with_reducible refine gate_callee (f := 54) rfl ?_); refine goesL_ (some 32) rfl rfl Tryz.func54 (by kernel_rfl) rfl #[.slice A111_0 (rd_L4 t105 x27_1).length c111_0] rfl (by (try simp only [List.map_toArray, List.map_cons, List.map_nil]); first | done | rfl | (simp only [List.length_drop, List.length_take]; rfl)) ?_; (with_reducible refine (scan_label.calls _ _ (rd_L4 t105 x27_1) false _ ?side1 ?side2 A9.out).mono ?_); (case side1 => repeat (first | exact (by repeat (first | (with_reducible exact HR111_0.out) | (with_reducible refine Kd.C_alloc ?_ _) | (with_reducible refine Kd.C_drewN ?_ _) | (with_reducible refine Kd.C_drew ?_) | exact HR111_0.out)) | (with_reducible refine Kd.C_alloc ?_ _) | (with_reducible refine Kd.C_drewN ?_ _) | (with_reducible refine Kd.C_drew ?_))); (case side2 => exact HC111_0.out); rintro e w' ⟨rfl, ⟨nd, rfl⟩⟩; refine ⟨_, rfl, ?_⟩))
                go_roundg k1
                case measure => have := HK1.out; omega
                case rel => exact ⟨(x10_1), (wrap64 (x27_1 + 1)), (by first | rfl | (simp; done) | (simp [*]; done)), H', ⟨by have := HK1.out; omega⟩, ⟨by (with_reducible repeat (first | apply Kd.R_alloc | apply Kd.R_drewN | apply Kd.R_drew)); exact HO_10.out⟩, ⟨by (with_reducible repeat (first | apply Kd.N_alloc | apply Kd.N_drewN | apply Kd.N_drew)); exact HO_25.out⟩, ⟨by repeat (first | (with_reducible first | exact HB.out | apply below_alloc | apply pw_below_drewN | apply below_drew1) | exact HB.out)⟩⟩
            · rw [if_neg c8] at H
              exact absurd H (by simp)
          · rw [if_neg c7] at H
            exact absurd H (by simp)
        · rw [if_neg c6] at H
          have c6b0 : decide (x27_1 < (t105.length : Int)) = false := decide_eq_false c6
          clear c6
          simp only [Option.some.injEq, Prod.mk.injEq] at H
          obtain ⟨rfl, rfl, rfl, rfl⟩ := H
          go_wp2
          refine bodyPost_ret (results_list (rs := [.tmp 2, .tmp 3, .tmp 4, .tmp 5]) rfl (by simp) (.tmp (.tmp (.tmp (.tmp .nil))))) rfl ?_
          exact ⟨_, by first | rfl | (simp [errW_none, errW_some] <;> rfl) | (simp [*, errW_none, errW_some] <;> rfl), by (with_reducible repeat (first | apply Kd.R_alloc | apply Kd.R_drewN | apply Kd.R_drew)); exact HO_10.out, by repeat (first | (with_reducible first | exact HB.out | apply below_alloc | apply pw_below_drewN | apply below_drew1) | exact HB.out)⟩
  · rw [if_neg c3] at H
    have c3b0 : (t108 == 0) = false := beq_eq_false_iff_ne.mpr c3
    have c3b1 : (t108 != 0) = true := bne_iff_ne.mpr c3
    simp only [Option.some.injEq, Prod.mk.injEq] at H
    obtain ⟨rfl, rfl, rfl, rfl⟩ := H
    go_enter Tryz.func20, Tryz.ntmps20
    go_wp2_with (first | ((with_reducible refine gate_callee (f := 19) rfl ?_); refine goesL_ (some 15) rfl rfl Tryz.func19 (by kernel_rfl) rfl #[.string a0] rfl (by (try simp only [List.map_toArray, List.map_cons, List.map_nil]); first | done | rfl | (simp only [List.length_drop, List.length_take]; rfl)) ?_; (with_reducible refine (scan_Clauses.calls a0 t105 t106 t107 t108 _ (TabOK.of_below hT (by repeat (first | (with_reducible first | exact HB.out | apply below_alloc | apply pw_below_drewN | apply below_drew1) | exact HB.out))) A2.out).mono ?_); rintro e w15 ⟨v109, rfl, ho0, hb⟩; refine ⟨_, rfl, ?_⟩; have n0_ := Aside0.mk (Kd.N_lower (Kd.N_mono (ok' := fun k_ => True) ho0 (fun k_ hk_ => trivial)) (below_size (by repeat (first | (with_reducible first | exact HB.out | apply below_alloc | apply pw_below_drewN | apply below_drew1) | exact HB.out)))); have n1_ := Aside0.mk (below_step (by repeat (first | (with_reducible first | exact HB.out | apply below_alloc | apply pw_below_drewN | apply below_drew1) | exact HB.out)) hb); clear HB; have HO110 := n0_; have HB := n1_; clear n0_ n1_; (try clear hb); (try clear hb2); (try clear hk); (try clear hi); (try clear ho0)))
    refine bodyPost_ret (results_list (rs := [.tmp 2, .tmp 3, .tmp 4, .tmp 5]) rfl (by simp) (.tmp (.tmp (.tmp (.tmp .nil))))) rfl ?_
    exact ⟨_, by first | rfl | (simp [errW_none, errW_some] <;> rfl) | (simp [*, errW_none, errW_some] <;> rfl), by first | exact Kd.R_nil _ _ _ _ _ | exact Kd.N_nil _ _ _ _ _ | exact Kd.V_nil _ _ _ _ _ | exact Kd.Q_nil _ _ _ _ _ | exact Kd.S_nil _ _ _ _ _, by repeat (first | (with_reducible first | exact HB.out | apply below_alloc | apply pw_below_drewN | apply below_drew1) | exact HB.out)⟩

end Go.Proofs.YtkkpjonfaflkmaaGreatDoor.T

-- Written by a program of this session (mp.py over the kit's print.py), out of the translation.
namespace Go.Proofs.YtkkpjonfaflkmaaGreatDoor.T
set_option linter.unusedSimpArgs false
open Go.RowKit Go.Proofs.YtkkpjonfaflkmaaGreatDoorW.PrintWords Go.Proofs.YtkkpjonfaflkmaaGreatDoorW.PrintLast Go.Proofs.YtkkpjonfaflkmaaGreatDoorW.PrintMore
attribute [local go_sem] max2_int min2_int max_two min_two max_three min_three max_four min_four   -- for this text's walks alone
set_option linter.unusedVariables false
set_option linter.unusedSimpArgs false

theorem eqA73 (d : Nat) (w : World) (x0 y0 : ByteArray) (x1 y1 : Int) :
    (Op.equalIn (d + 2) 73 (.agg #[.string x0, .int .i64 x1]) (.agg #[.string y0, .int .i64 y1])).run Tryz.prog w = .ok (x0.toList == y0.toList && (x1 == y1)) w := by
  refine eqA_of Tryz.underlying73 (by kernel_rfl) ?_
  refine eqf_cons (by rfl) (by go_simp; rfl) (by go_simp; rfl) (by go_simp) ?_
  exact eqf_last (by rfl) (by go_simp; rfl) (by go_simp; rfl) (by go_simp)
end Go.Proofs.YtkkpjonfaflkmaaGreatDoor.T

/- The statements' sanity: its closed calls. -/
namespace Go.Proofs.YtkkpjonfaflkmaaGreatDoor.T
set_option linter.unusedSimpArgs false
set_option linter.unusedVariables false
open Go.RowKit Go.Maps Go.Proofs.YtkkpjonfaflkmaaGreatDoorW.PrintWords Go.Proofs.YtkkpjonfaflkmaaGreatDoorW.PrintLast Go.Proofs.YtkkpjonfaflkmaaGreatDoorW.PrintMore
attribute [local go_sem] Oper.semAt_some

def sanA : ByteArray := ⟨#[115, 97, 121, 32, 49, 32, 43, 32, 97, 46, 98, 32, 45, 45, 32, 47, 42, 32, 120, 32, 42, 47, 32, 39, 105, 116, 39, 39, 115, 39]⟩
def sanB : ByteArray := ⟨#[49, 101, 43, 53, 120]⟩
def sanC : ByteArray := ⟨#[102, 40, 97, 44, 32, 10, 98, 41]⟩
def sanD : ByteArray := ⟨#[120, 58, 32, 121, 58, 32, 115, 97, 121, 32, 49, 59, 32, 59, 32, 115, 97, 121, 32, 50]⟩
def sanE : ByteArray := ⟨#[97, 10, 39, 98]⟩
def sanF : ByteArray := ⟨#[97, 32, 47, 42, 32, 98, 32, 47, 42, 32, 99, 32, 42, 47, 10, 100]⟩
def sanW : List S53 := [⟨1, ⟨#[65]⟩, false, 0, 0, 0⟩, ⟨1, ⟨#[66]⟩, false, 0, 0, 0⟩, ⟨4, ⟨#[]⟩, false, 0, 0, 0⟩]
def toksOf (s : ByteArray) : List S53 := (S.tokens (bytesOf s)).map toS
/-- Tokens of a source: how it ends; its row, if it has tokens. -/
theorem san_tokens (s : ByteArray) (n : Nat) (c l e : Int) (hf : scan_Tokens.f s = some (toksOf s, c, l, e)) (hn : (toksOf s).length = n) (h0 : 0 < n) (w : World) (hT : TabOK w) :
    Calls Tryz.prog 17 #[.string s] w fun e' w' => ∃ ad cp, e' = .returned (.tuple #[.slice (some ad) n cp, .int .i64 c, .int .i64 l, .int .i64 e]) ∧ Kd.C k53 w' (some ad) n (toksOf s) ∧ Below w.heap.size w w' := by
  refine (scan_Tokens.calls s _ _ _ _ w hT hf).mono ?_
  rintro e' w' ⟨v0, rfl, hR, hb⟩
  obtain ⟨A, cp, rfl, hc, hC⟩ := Kd.R_reads hR
  rw [hn] at hC ⊢
  obtain ⟨ad, rfl⟩ : ∃ ad, A = some ad := by
    obtain ⟨h1, h2, h3⟩ := hC
    obtain ⟨ad, e, _⟩ := h3 h0
    exact ⟨ad, e⟩
  exact ⟨ad, cp, rfl, hC, hb⟩
theorem sanA_f : scan_Tokens.f sanA = some (toksOf sanA, 0, 0, 0) := by
  have h1 : (S.scan (bytesOf sanA)).err = none := by decide +kernel
  unfold scan_Tokens.f
  rw [if_pos (by decide), h1]; rfl
theorem sanB_f : scan_Tokens.f sanB = some (toksOf sanB, 0, 0, 0) := by
  have h1 : (S.scan (bytesOf sanB)).err = none := by decide +kernel
  unfold scan_Tokens.f
  rw [if_pos (by decide), h1]; rfl
theorem sanC_f : scan_Tokens.f sanC = some (toksOf sanC, 0, 0, 0) := by
  have h1 : (S.scan (bytesOf sanC)).err = none := by decide +kernel
  unfold scan_Tokens.f
  rw [if_pos (by decide), h1]; rfl
theorem sanE_f : scan_Tokens.f sanE = some (toksOf sanE, 6, 2, 7) := by
  have h1 : (S.scan (bytesOf sanE)).err = some (6, 2) := by decide +kernel
  unfold scan_Tokens.f
  rw [if_pos (by decide), h1]; rfl
theorem sanF_f : scan_Tokens.f sanF = some (toksOf sanF, 6, 1, 7) := by
  have h1 : (S.scan (bytesOf sanF)).err = some (6, 1) := by decide +kernel
  unfold scan_Tokens.f
  rw [if_pos (by decide), h1]; rfl
theorem sanW_f : scan_Write.f sanW = some (⟨#[65, 47, 42, 42, 47, 66, 10]⟩, 0) := by decide +kernel
theorem san_split : scan_Split.f ⟨#[97, 46, 98, 46]⟩ = some (⟨#[65, 46]⟩, [⟨#[66]⟩, ⟨#[]⟩], 0) := by decide +kernel
theorem san_val : scan_Value.f ⟨#[39, 52, 97, 52, 66, 39, 120]⟩ = some (⟨#[74, 75]⟩, 0, 0) := by decide +kernel
theorem san_lit : scan_Literal.f ⟨#[105, 116, 39, 115]⟩ = some (⟨#[34, 105, 116, 39, 115, 34]⟩, 0) := by decide +kernel
def sanM : List S73 := [⟨⟨#[88]⟩, 1⟩, ⟨⟨#[89]⟩, 1⟩]
theorem marks_inj : ∀ l : List S73, l.map (fun x => (x.f0, x.f1)) = [((⟨#[88]⟩ : ByteArray), (1 : Int)), (⟨#[89]⟩, 1)] → l = sanM
  | [], h => by cases h
  | [_], h => by simp at h
  | [a, b], h => by
    obtain ⟨a0, a1⟩ := a
    obtain ⟨b0, b1⟩ := b
    simp only [List.map_cons, List.map_nil, List.cons.injEq, Prod.mk.injEq, and_true] at h
    obtain ⟨⟨rfl, rfl⟩, rfl, rfl⟩ := h
    rfl
  | _ :: _ :: _ :: _, h => by simp at h
theorem san_labels : scan_Labels.f 10 sanD = some (sanM, 0, 0, 0) := by
  have h : (scan_Labels.f 10 sanD).map (fun p => (p.1.map (fun x => (x.f0, x.f1)), p.2)) = some ([((⟨#[88]⟩ : ByteArray), (1 : Int)), (⟨#[89]⟩, 1)], 0, 0, 0) := by decide +kernel
  obtain ⟨p, h1, h2⟩ := Option.map_eq_some_iff.1 h
  obtain ⟨l, q⟩ := p
  simp only [Prod.mk.injEq] at h2
  rw [h1, marks_inj l h2.1]
  obtain ⟨h3, rfl, rfl, rfl⟩ := h2
  rfl
theorem san_labels_c (w : World) (hT : TabOK w) :
    Calls Tryz.prog 20 #[.string sanD] w fun e' w' => ∃ ad cp, e' = .returned (.tuple #[.slice (some ad) 2 cp, .int .i64 0, .int .i64 0, .int .i64 0]) ∧ Kd.C k73 w' (some ad) 2 sanM ∧ Below w.heap.size w w' := by
  refine (scan_Labels.calls 10 sanD _ _ _ _ w hT san_labels).mono ?_
  rintro e' w' ⟨v0, rfl, hR, hb⟩
  obtain ⟨A, cp, rfl, hc, hC⟩ := Kd.R_reads hR
  obtain ⟨ad, rfl⟩ : ∃ ad, A = some ad := by
    obtain ⟨h1, h2, h3⟩ := hC
    obtain ⟨ad, e, _⟩ := h3 (by decide)
    exact ⟨ad, e⟩
  exact ⟨ad, cp, rfl, hC, hb⟩
theorem san_split_c (w : World) (hT : TabOK w) :
    Calls Tryz.prog 27 #[.string ⟨#[97, 46, 98, 46]⟩] w fun e' w' => ∃ ad cp, e' = .returned (.tuple #[.string ⟨#[65, 46]⟩, .slice (some ad) 2 cp, .int .i64 0]) ∧ Kd.C Kd.string w' (some ad) 2 [⟨#[66]⟩, ⟨#[]⟩] ∧ Below w.heap.size w w' := by
  refine (scan_Split.calls _ _ _ _ w hT san_split).mono ?_
  rintro e' w' ⟨v0, rfl, hR, hb⟩
  obtain ⟨A, cp, rfl, hc, hC⟩ := Kd.R_reads hR
  obtain ⟨ad, rfl⟩ : ∃ ad, A = some ad := by
    obtain ⟨h1, h2, h3⟩ := hC
    obtain ⟨ad, e, _⟩ := h3 (by decide)
    exact ⟨ad, e⟩
  exact ⟨ad, cp, rfl, hC, hb⟩
/-- One token of a row, by its cells. -/
theorem tok_at {w : World} {ad : Addr} {n : Nat} {l : List S53} (h : Kd.C k53 w (some ad) n l) (i : Nat) (hi : i < n) (t : S53) (ht : rd_T53 l (i : Int) = t) :
    w.cell? (ad.add (i * 6)) = some (.int .i64 t.f0) ∧ w.cell? ⟨(ad.add (i * 6)).block, (ad.add (i * 6)).off + 1, none⟩ = some (.string t.f1) ∧ w.cell? ⟨(ad.add (i * 6)).block, (ad.add (i * 6)).off + 2, none⟩ = some (.bool t.f2) ∧ w.cell? ⟨(ad.add (i * 6)).block, (ad.add (i * 6)).off + 3, none⟩ = some (.int .i64 t.f3) := by
  obtain ⟨ad', e, x0, x1, x2, x3, _⟩ := at_T53 h (i : Int) (by omega) (by omega)
  cases e
  simp only [Int.toNat_natCast] at x0 x1 x2 x3
  subst ht
  exact ⟨x0, x1, x2, x3⟩
theorem add_lit (ad : Addr) (n : Nat) (h : 0 < n) : ad.add n = ⟨ad.block, ad.off + n, none⟩ := by
  unfold Addr.add
  rw [if_neg (by omega)]
attribute [local go_sem high] eqA73
set_option maxRecDepth 100000 in
set_option maxHeartbeats 16000000 in
theorem san_holds (w : World) (hT : TabOK w) : Calls Tryz.prog 16 #[] w fun e w' => e = .returned (.bool true) ∧ Below w.heap.size w w' := by
  have HT := Aside0.mk hT
  have HA := Lib.hid (fun W hW => san_tokens sanA 8 _ _ _ sanA_f (by decide +kernel) (by decide) W hW)
  have HB := Lib.hid (fun W hW => san_tokens sanB 3 _ _ _ sanB_f (by decide +kernel) (by decide) W hW)
  have HC := Lib.hid (fun W hW => san_tokens sanC 6 _ _ _ sanC_f (by decide +kernel) (by decide) W hW)
  have HD := Lib.hid (fun W hW => san_labels_c W hW)
  have HE := Lib.hid (fun W hW => san_tokens sanE 2 _ _ _ sanE_f (by decide +kernel) (by decide) W hW)
  have HF := Lib.hid (fun W hW => san_tokens sanF 1 _ _ _ sanF_f (by decide +kernel) (by decide) W hW)
  have HV := Lib.hid (fun W => scan_Value.calls _ _ _ _ W san_val)
  have HS := Lib.hid (fun W hW => san_split_c W hW)
  clear hT
  go_enter Tryz.func16, Tryz.ntmps16
  go_upto_region 2 with (go_at_call 17; refine (HA.out _ HT.out).mono ?_; rintro e w1 ⟨adA, cpA, rfl, hCA, hb1⟩)
  have HT1 := Aside0.mk (HT.out.of_below hb1)
  go_upto_region 3 with (go_at_call 17; refine (HB.out _ HT1.out).mono ?_; rintro e w2 ⟨adB, cpB, rfl, hCB, hb2⟩)
  have HT2 := Aside0.mk (HT1.out.of_below hb2)
  go_upto_region 4 with (go_at_call 17; refine (HC.out _ HT2.out).mono ?_; rintro e w3 ⟨adC, cpC, rfl, hCC, hb3⟩)
  have HT3 := Aside0.mk (HT2.out.of_below hb3)
  go_upto_region 5 with (go_at_call 20; refine (HD.out _ HT3.out).mono ?_; rintro e w4 ⟨adD, cpD, rfl, hCD, hb4⟩)
  have HT4 := Aside0.mk (HT3.out.of_below hb4)
  go_upto_region 6 with (go_at_call 17; refine (HE.out _ HT4.out).mono ?_; rintro e w5 ⟨adE, cpE, rfl, hCE, hb5⟩)
  have HT5 := Aside0.mk (HT4.out.of_below hb5)
  go_upto_region 7 with (go_at_call 17; refine (HF.out _ HT5.out).mono ?_; rintro e w6 ⟨adF, cpF, rfl, hCF, hb6⟩)
  have HT6 := Aside0.mk (HT5.out.of_below hb6)
  go_upto_region 8 with (go_at_call 32; refine (HV.out _).mono ?_; rintro e w7 ⟨rfl, hb7⟩)
  have HT7 := Aside0.mk (HT6.out.of_below hb7)
  go_upto_region 9 with (go_at_call 27; refine (HS.out _ HT7.out).mono ?_; rintro e w8 ⟨adS, cpS, rfl, hCS, hb8⟩)
  have kA := Kd.C_below (Kd.C_below (Kd.C_below (Kd.C_below (Kd.C_below (Kd.C_below (Kd.C_below hCA hb2) hb3) hb4) hb5) hb6) hb7) hb8
  have kB := Kd.C_below (Kd.C_below (Kd.C_below (Kd.C_below (Kd.C_below (Kd.C_below hCB hb3) hb4) hb5) hb6) hb7) hb8
  have kC := Kd.C_below (Kd.C_below (Kd.C_below (Kd.C_below (Kd.C_below hCC hb4) hb5) hb6) hb7) hb8
  have kD := Kd.C_below (Kd.C_below (Kd.C_below (Kd.C_below hCD hb5) hb6) hb7) hb8
  have hB8 : Below w.heap.size w w8 := by
    have s1 := hb1.size
    have s2 := hb2.size
    have s3 := hb3.size
    have s4 := hb4.size
    have s5 := hb5.size
    have s6 := hb6.size
    have s7 := hb7.size
    exact hb1.trans ((hb2.mono (by omega)).trans ((hb3.mono (by omega)).trans ((hb4.mono (by omega)).trans ((hb5.mono (by omega)).trans ((hb6.mono (by omega)).trans ((hb7.mono (by omega)).trans (hb8.mono (by omega))))))))
  have HT8 := Aside0.mk (HT7.out.of_below hb8)
  have HB8 := Aside0.mk hB8
  have HS8 := Aside0.mk hCS
  clear hCA hCB hCC hCD hCE hCF hb1 hb2 hb3 hb4 hb5 hb6 hb7 hb8 hB8 hCS HT1 HT2 HT3 HT4 HT5 HT6 HT7 HT HA HB HC HD HE HF HV HS
  have KA := Aside0.mk kA
  have KB := Aside0.mk kB
  have KC := Aside0.mk kC
  have KD := Aside0.mk kD
  clear kA kB kC kD
  go_upto_region 11 with (fail)
  obtain ⟨p30, p31, p32, p33⟩ := tok_at KA.out 3 (by decide) ⟨1, ⟨#[65, 46, 66]⟩, true, 1, 8, 11⟩ (by kernel_rfl)
  rw [add_lit _ _ (by decide)] at p30 p31 p32 p33
  simp only [Nat.reduceMul] at p30 p31 p32 p33
  obtain ⟨p50, p51, p52, p53⟩ := tok_at KA.out 5 (by decide) ⟨3, ⟨#[45]⟩, false, 1, 13, 14⟩ (by kernel_rfl)
  rw [add_lit _ _ (by decide)] at p50 p51 p52 p53
  simp only [Nat.reduceMul] at p50 p51 p52 p53
  obtain ⟨p60, p61, p62, p63⟩ := tok_at KA.out 6 (by decide) ⟨2, ⟨#[105, 116, 39, 115]⟩, true, 1, 23, 30⟩ (by kernel_rfl)
  rw [add_lit _ _ (by decide)] at p60 p61 p62 p63
  simp only [Nat.reduceMul] at p60 p61 p62 p63
  obtain ⟨p70, p71, p72, p73⟩ := tok_at KA.out 7 (by decide) ⟨4, ⟨#[]⟩, false, 1, 30, 30⟩ (by kernel_rfl)
  rw [add_lit _ _ (by decide)] at p70 p71 p72 p73
  simp only [Nat.reduceMul] at p70 p71 p72 p73
  obtain ⟨q00, q01, q02, q03⟩ := tok_at KB.out 0 (by decide) ⟨1, ⟨#[49, 69, 43, 53]⟩, false, 1, 0, 4⟩ (by kernel_rfl)
  rw [show (0 : Nat) * 6 = 0 from rfl, Addr.add_zero'] at q00 q01 q02 q03
  obtain ⟨q10, q11, q12, q13⟩ := tok_at KB.out 1 (by decide) ⟨1, ⟨#[88]⟩, false, 1, 4, 5⟩ (by kernel_rfl)
  rw [add_lit _ _ (by decide)] at q10 q11 q12 q13
  simp only [Nat.reduceMul] at q10 q11 q12 q13
  go_upto_region 12 with (fail)
  clear p30 p31 p32 p33 p50 p51 p52 p53 p60 p61 p62 p63 p70 p71 p72 p73 q00 q01 q02 q03 q10 q11 q12 q13
  obtain ⟨r20, r21, r22, r23⟩ := tok_at KC.out 2 (by decide) ⟨1, ⟨#[65]⟩, false, 1, 2, 3⟩ (by kernel_rfl)
  rw [add_lit _ _ (by decide)] at r20 r21 r22 r23
  simp only [Nat.reduceMul] at r20 r21 r22 r23
  obtain ⟨r30, r31, r32, r33⟩ := tok_at KC.out 3 (by decide) ⟨1, ⟨#[66]⟩, true, 2, 6, 7⟩ (by kernel_rfl)
  rw [add_lit _ _ (by decide)] at r30 r31 r32 r33
  simp only [Nat.reduceMul] at r30 r31 r32 r33
  obtain ⟨am, em, m0, m1⟩ := at_T73 KD.out (1 : Int) (by decide) (by decide)
  cases em
  rw [show rd_T73 sanM (1 : Int) = ⟨⟨#[89]⟩, 1⟩ from rfl, show (1 : Int).toNat * 2 = 2 from rfl, add_lit _ _ (by decide)] at m0 m1
  have HW := Lib.hid (fun (W : World) (g : Nat) (h : W.heap[g]? = some (.cells #[.int .i64 1, .string ⟨#[65]⟩, .bool false, .int .i64 0, .int .i64 0, .int .i64 0, .int .i64 1, .string ⟨#[66]⟩, .bool false, .int .i64 0, .int .i64 0, .int .i64 0, .int .i64 4, .string ⟨#[]⟩, .bool false, .int .i64 0, .int .i64 0, .int .i64 0] 53 (0, 0))) (hW : TabOK W) => scan_Write.calls (some ⟨g, 0, none⟩) 3 sanW _ _ W hW (row_C h rfl (by decide)) (Nat.le_refl _) sanW_f)
  go_upto_region 13 with (fail)
  clear r20 r21 r22 r23 r30 r31 r32 r33 m0 m1
  have hal : Below w8.heap.size w8 (w8.alloc (.cells #[.int .i64 1, .string ⟨#[65]⟩, .bool false, .int .i64 0, .int .i64 0, .int .i64 0, .int .i64 1, .string ⟨#[66]⟩, .bool false, .int .i64 0, .int .i64 0, .int .i64 0, .int .i64 4, .string ⟨#[]⟩, .bool false, .int .i64 0, .int .i64 0, .int .i64 0] 53)) := below_alloc (Below.refl _ _) _
  have HAL := Aside0.mk hal
  have HNW := Aside0.mk (heap_alloc_new w8 (.cells #[.int .i64 1, .string ⟨#[65]⟩, .bool false, .int .i64 0, .int .i64 0, .int .i64 0, .int .i64 1, .string ⟨#[66]⟩, .bool false, .int .i64 0, .int .i64 0, .int .i64 0, .int .i64 4, .string ⟨#[]⟩, .bool false, .int .i64 0, .int .i64 0, .int .i64 0] 53))
  clear hal
  go_upto_region 14 with (go_at_call 35; refine (HW.out _ _ HNW.out (HT8.out.of_below HAL.out)).mono ?_; rintro e w9 ⟨rfl, hb9⟩)
  have HT9 := Aside0.mk ((HT8.out.of_below HAL.out).of_below hb9)
  have HL := Lib.hid (fun W hW => scan_Literal.calls _ _ _ W hW san_lit)
  go_upto_region 15 with (go_at_call 30; refine (HL.out _ HT9.out).mono ?_; rintro e w10 ⟨rfl, hb10⟩)
  have hB9 : Below w8.heap.size w8 w10 := by
    have s1 := HAL.out.size
    have s2 := hb9.size
    exact HAL.out.trans ((hb9.mono (by omega)).trans (hb10.mono (by omega)))
  have kS := Kd.C_below HS8.out hB9
  obtain ⟨sa, es, s0⟩ := Kd.at_string kS (0 : Int) (by decide) (by decide)
  cases es
  obtain ⟨sa, es, s1⟩ := Kd.at_string kS (1 : Int) (by decide) (by decide)
  cases es
  rw [show (0 : Int).toNat = 0 from rfl, Addr.add_zero'] at s0
  rw [show (1 : Int).toNat = 1 from rfl, add_lit _ _ (by decide)] at s1
  have s0' : w10.cell? adS = some (.string ⟨#[66]⟩) := s0
  have s1' : w10.cell? ⟨adS.block, adS.off + 1, none⟩ = some (.string ⟨#[]⟩) := s1
  have HFB := Aside0.mk (HB8.out.trans (hB9.mono HB8.out.size))
  clear s0 s1 hB9 hb9 hb10 kS
  go_wp2_with (fail)
  refine bodyPost_ret (results_tmp rfl _ _ _) rfl ?_
  exact ⟨rfl, HFB.out⟩
def qanatlaw03_sanity.f : Option Bool := some true
theorem qanatlaw03_sanity.calls (r : Bool) (w : World) (hT : TabOK w) (h : qanatlaw03_sanity.f = some r) : Calls Tryz.prog 16 #[] w fun e w' => e = .returned (.bool r) ∧ Below w.heap.size w w' := by
  obtain rfl := Option.some.inj h
  exact san_holds w hT
end Go.Proofs.YtkkpjonfaflkmaaGreatDoor.T
