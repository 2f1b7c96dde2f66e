/- Part 11 of the proof of ScanLocal: the functions that it calls return what their plain descriptions say. -/
import Derived.Test.YtkkpjonfaflkmaaGreatDoorCScanLocal4
import Derived.StillTail
import Derived.StillTactics
import Derived.OrdersIn
import Derived.TacticsIn
import Derived.Test.YtkkpjonfaflkmaaGreatDoorCScanLocal10
import Derived.Test.YtkkpjonfaflkmaaGreatDoorCScanLocal6
import Derived.RegionIn
import Derived.OwnWalkIn
import Derived.LoopIn
import Derived.TacticsInMore
import Derived.Deep.AppendLies
import Derived.Sort.CutIn
import Derived.RecoverIn
import Derived.Test.YtkkpjonfaflkmaaGreatDoorCScanLocal8

namespace Go.Proofs.YtkkpjonfaflkmaaGreatDoor.T
set_option linter.unusedSimpArgs false
set_option linter.unusedVariables false
open Go.RowKit
variable {P : Program} {ops : Array Oper} {md : Region.Mode} {w : World} {k : Nat}
theorem wide_wpIn_of_still {o : Oper} {a : Act} {K : Act → Prop} {K' : Act → World → Prop} {Q' : Exit → Act → World → Prop} (h : ∀ a, K a → K' a w) (hh : o.still P a w K) : o.wpIn Fence.wide k P a w K' Q' := by
  unfold Oper.still at hh
  unfold Oper.wpIn
  refine ⟨fun f _ => trivial, ?_⟩
  rw [show Fence.wide.round = none from rfl, Oper.semAt_none]
  generalize (execOp a.eval o).run P w = r at *
  cases r with
  | ok n w' =>
    cases n <;> simp only [Oper.stillUpon] at hh <;> simp only [Oper.uponIn]
    case enter f args =>
      obtain ⟨rfl, v, hc, hn⟩ := hh
      exact ⟨fun e => (by cases e), (callsIn_wide.2 hc).mono (fun e w'' ⟨he, hw⟩ => by subst he; subst hw; exact h _ hn)⟩
    all_goals (obtain ⟨rfl, h2⟩ := hh; exact h _ h2)
  | halt x w' => simp only [Oper.stillUpon] at hh
theorem wide_wpOpIn_of_stOp {i : Nat} {a : Act} {K : Act → Prop} {K' : Act → World → Prop} {Q' : Exit → Act → World → Prop} (h : ∀ a, K a → K' a w) (hh : stOp P ops w i K a) : wpOpIn Fence.wide k P ops Q' i K' a w := by
  unfold stOp at hh
  unfold wpOpIn
  split
  · rename_i ho; simp only [ho] at hh; exact h _ hh
  · rename_i o ho
    simp only [ho] at hh
    split
    · rename_i hw; simp only [hw, if_true] at hh; exact wide_wpIn_of_still h hh
    · rename_i hw; simp only [hw] at hh; exact ⟨fun f _ => trivial, h _ hh⟩
theorem wide_wpAnyIn_of_head {n g : Nat} {L : Array Bool → Act → Prop} {Q' : Exit → Act → World → Prop} (hL : ∀ listed a, L listed a → wpAnyIn Fence.wide k P md ops Q' g listed a w) :
    ∀ (f : Nat) (listed : Array Bool) (a : Act), wpAnyL P md ops w n L f listed a → wpAnyIn Fence.wide k P md ops Q' (f + g) listed a w
  | 0, listed, a, h => by rw [Nat.zero_add]; exact hL _ _ h
  | f + 1, listed, a, h => by
    rw [show f + 1 + g = (f + g) + 1 by omega]
    exact ⟨fun h0 => absurd h0 h.1, fun i hi => wide_wpOpIn_of_stOp (fun a' h' => wide_wpAnyIn_of_head hL f _ a' h') (h.2 i hi).2⟩
theorem wide_wpAnyIn_of_seq {Q' : Exit → Act → World → Prop} : ∀ (l : List Oper) (m : Nat) (listed : Array Bool) (a : Act) (w : World), (∀ j, l[j]? = ops[m + j]?) →
    Region.seqB md ops l.length m listed = true → wpListIn Fence.wide k P ops Q' l a w → wpAnyIn Fence.wide k P md ops Q' l.length listed a w
  | [], _, _, _, _, _, hB, h => ⟨by simpa [Region.seqB] using hB, h⟩
  | o :: l, m, listed, a, w, hl, hB, h => by
    have h0 : ops[m]? = some o := by simpa using (hl 0).symm
    simp only [List.length_cons, Region.seqB, Bool.and_eq_true, decide_eq_true_eq] at hB
    refine ⟨fun h1 => (by rw [hB.1] at h1; cases h1), fun i hi => ?_⟩
    rw [hB.1] at hi
    have hik : i = m := by simpa using hi
    subst hik
    have hw : wpOpIn Fence.wide k P ops Q' i (wpListIn Fence.wide k P ops Q' l) a w := by unfold wpOpIn; simp only [h0]; exact h
    exact wpOpIn_mono (fun a' w' h' => wide_wpAnyIn_of_seq l (i + 1) _ a' w' (fun j => by have := hl (j + 1); simpa [Nat.add_assoc, Nat.add_comm 1 j] using this) hB.2 h') hw
theorem wide_region_still_tail {id : Nat} {Q : Exit → Act → World → Prop} {a : Act} {w : World} {l : List Oper} (n : Nat) (hm : P.follows .mixedOrders = true) (hB : Region.lexTailB .any l.toArray n = true)
    (h : wpStill P l.toArray w.drew (fun a' => wpListIn Fence.wide k P l.toArray Q (l.drop n) a' w.drew) (l.take n) a) : (Code.region id l.toArray true).wpIn Fence.wide k P Q a w := by
  simp only [Region.lexTailB, Bool.and_eq_true, decide_eq_true_eq] at hB
  obtain ⟨⟨⟨⟨hsel, hn⟩, hs⟩, hc⟩, hlex⟩ := hB
  have hn' : n < l.length := by simpa using hn
  have htl : (l.take n).length = n := by simp; omega
  have hdl : (l.drop n).length = l.toArray.size - n := by simp
  have inv0 : HeadInv .any l.toArray n (Array.replicate l.toArray.size false) :=
    ⟨by simp, fun j oj _ hl => (by rw [getD_replicate_false] at hl; cases hl), fun t _ ht => getD_in (by simpa using ht) (getD_replicate_false _ _)⟩
  have H := wpAnyL_lex (md := .any) (g := l.toArray.size - n) hsel hs hc hn (l.take n) 0 _ a (fun j hj => by
    have hj' : j < n := by rw [htl] at hj; exact hj
    simp [hj']) (by simpa using htl) inv0 (by rw [htl]; exact hlex) h
  refine wpIn_region_any hm ?_
  have := wide_wpAnyIn_of_head (Q' := Q) (k := k) (g := l.toArray.size - n) (fun listed a' hL => by
    have := wide_wpAnyIn_of_seq (md := .any) (Q' := Q) (k := k) (l.drop n) n listed a' w.drew (fun j => by simp [List.getElem?_drop]) (by rw [hdl]; exact hL.1) hL.2
    rwa [hdl] at this) _ _ _ H
  rw [htl, show n + (l.toArray.size - n) = l.toArray.size by omega] at this
  exact this
end Go.Proofs.YtkkpjonfaflkmaaGreatDoor.T

namespace Go.Proofs.YtkkpjonfaflkmaaGreatDoor.T
set_option linter.unusedSimpArgs false
set_option linter.unusedVariables false
open Go.RowKit Go.Proofs.YtkkpjonfaflkmaaGreatDoorW.PrintWords Go.Proofs.YtkkpjonfaflkmaaGreatDoorW.PrintLast Go.Proofs.YtkkpjonfaflkmaaGreatDoorW.PrintMore
attribute [local go_sem] Oper.semAt_some
def tkL (t : S.Tk) : List Value := [.int .i64 t.kind, .string (strOfNums t.text), .bool t.gap, .int .i64 t.line, .int .i64 t.at_, .int .i64 t.to]
def tksL (l : List S.Tk) : List Value := (l.map tkL).flatten
theorem tksL_length : ∀ l : List S.Tk, (tksL l).length = l.length * 6
  | [] => rfl
  | t :: l => by
    have := tksL_length l
    simp only [tksL, List.map_cons, List.flatten_cons, List.length_append, List.length_cons] at this ⊢
    rw [this]
    show 6 + _ = _
    omega
theorem tksL_append (a b : List S.Tk) : tksL (a ++ b) = tksL a ++ tksL b := by simp [tksL]
theorem tksL_take (l : List S.Tk) (n : Nat) : (tksL l).take (n * 6) = tksL (l.take n) := by
  induction l generalizing n with
  | nil => simp [tksL]
  | cons t l ih =>
    cases n with
    | zero => simp [tksL]
    | succ n =>
      have := ih n
      simp only [tksL, List.take_succ_cons, List.map_cons, List.flatten_cons] at this ⊢
      rw [← this, List.take_append]
      rw [List.take_of_length_le (by show 6 ≤ _; omega)]
      congr 2
      show (n + 1) * 6 - 6 = n * 6
      omega
theorem tkL_one (t : S.Tk) : ∀ u ∈ tkL t, u.oneCell' = true := by
  intro u hu
  simp [tkL] at hu
  rcases hu with rfl | rfl | rfl | rfl | rfl | rfl <;> rfl
structure Client (l n : Nat) (J : List (List S.Tk) → (Nat → Prop) → World → Prop) : Prop where
  stable : ∀ {pre F W W'}, J pre F W → But (fun k => ¬ F k) W W' → J pre F W'
  lt : ∀ {pre F W}, J pre F W → ∀ k, F k → k < W.heap.size
  yield : ∀ {pre F W base v cl}, J pre F W → W.ownsRow base 53 6 v cl.length (tksL cl) → cl ≠ [] → (∀ k, F k → v.ownBlock ≠ some k) → pre.flatten.length + cl.length ≤ 300000 →
    YieldAt Fence.wide n Tryz.prog l #[v] W fun e W' => e = .returned (.bool true) ∧ ∃ F', J (pre ++ [cl]) F' W' ∧ But F W W' ∧ ∀ k, F' k → F k ∨ W.heap.size ≤ k ∨ v.ownBlock = some k
structure Cur (CB GB YB l base : Nat) (v : Value) (cur : List S.Tk) (gap : Bool) (W : World) : Prop where
  cb : W.heap[CB]? = some (.cells #[v] 24 (0, 0))
  gb : W.heap[GB]? = some (.cells #[.bool gap] 4 (0, 0))
  yb : W.heap[YB]? = some (.cells #[.func (.yield l) #[] #[]] 55 (0, 0))
  own : W.ownsRow base 53 6 v cur.length (tksL cur)
  l1 : CB < base
  l2 : GB < base
  l3 : YB < base
  n1 : CB ≠ GB
  n2 : CB ≠ YB
  n3 : GB ≠ YB
  lw : base ≤ W.heap.size
theorem own_but {W W' : World} {base n : Nat} {v : Value} {xs : List Value} {A : Nat → Prop} (h : W.ownsRow base 53 6 v n xs) (hb : But A W W') (hA : ∀ k, A k → v.ownBlock ≠ some k) : W'.ownsRow base 53 6 v n xs := by
  obtain ⟨h1, h2⟩ := h
  refine ⟨h1, h2.imp id ?_⟩
  rintro ⟨g, cap, cur, hv, hbg, hg, rest⟩
  have hlt : g < W.heap.size := (Array.getElem?_eq_some_iff.1 hg).1
  exact ⟨g, cap, cur, hv, hbg, (hb.block g hlt (fun e => hA g e (by rw [hv]; rfl))).trans hg, rest⟩
theorem Cur.but {CB GB YB l base : Nat} {v : Value} {cur : List S.Tk} {gap : Bool} {W W' : World} {A : Nat → Prop} (h : Cur CB GB YB l base v cur gap W) (hb : But A W W') (hA : ∀ k, A k → k ≠ CB ∧ k ≠ GB ∧ k ≠ YB ∧ v.ownBlock ≠ some k) : Cur CB GB YB l base v cur gap W' := by
  have hl := h.lw
  have ha := h.l1
  have hbb := h.l2
  have hc := h.l3
  refine ⟨(hb.block CB (by omega) (fun e => (hA _ e).1 rfl)).trans h.cb, (hb.block GB (by omega) (fun e => (hA _ e).2.1 rfl)).trans h.gb, (hb.block YB (by omega) (fun e => (hA _ e).2.2.1 rfl)).trans h.yb, own_but h.own hb (fun k e => (hA k e).2.2.2), ha, hbb, hc, h.n1, h.n2, h.n3, Nat.le_trans hl hb.size⟩
theorem stepIn_append {n : Nat} {P : Program} {ops : Array Oper} {o : Oper} {a : Act} {w w' : World} {K : Act → World → Prop} {Q : Exit → Act → World → Prop} {E : Prop} (hgd : o.guard = none) (s x : Operand) (t : TypeId)
    (ho : o.op = .call { callee := .builtin .append, args := #[s, x], argTypes := #[t, t] }) (v u v' : Value) (hs : a.eval s = v) (hx : a.eval x = u)
    (hr : (Builtin.append_ #[t, t] o.type #[v, u]).run P w = .ok v' w') (hK : K (a.put o.dst v') w') : if Region.wanted o (yielded ops a.tmps) = true then Oper.wpIn Fence.wide n P o a w K Q else E := by
  have hw : Region.wanted o (yielded ops a.tmps) = true := by simp [Region.wanted, hgd]
  rw [if_pos hw]
  unfold Oper.wpIn
  refine ⟨fun f _ => trivial, ?_⟩
  rw [show Fence.wide.round = none from rfl, Oper.semAt_none]
  unfold execOp
  simp only [ho, resolve, invoke, builtin, Sem.run_bind, Sem.run_pure, Result.andThen_ok, List.map_toArray, List.map_cons, List.map_nil, hs, hx, hr]
  exact hK
set_option maxRecDepth 100000 in
set_option maxHeartbeats 4000000 in
theorem end_in (n : Nat) (hn : 1 ≤ n) {l CB GB YB base : Nat} {J : List (List S.Tk) → (Nat → Prop) → World → Prop} (C : Client l (n - 1) J) (i ti line : Nat) {v : Value} {cur : List S.Tk} {gap : Bool} {pre : List (List S.Tk)} {F : Nat → Prop} (W : World)
    (hC : Cur CB GB YB l base v cur gap W) (hJ : J pre F W) (hF : ∀ k, F k → k ≠ CB ∧ k ≠ GB ∧ k ≠ YB ∧ v.ownBlock ≠ some k) (hlen : pre.flatten.length + cur.length + 1 ≤ 300000) :
    CallsIn Fence.wide n Tryz.prog 90 #[.int .i64 i, .int .i64 ti, .int .i64 line, .pointer (some ⟨CB, 0, none⟩), .pointer (some ⟨GB, 0, none⟩), .pointer (some ⟨YB, 0, none⟩)] W fun e W' =>
      e = .returned (.bool true) ∧ ∃ F', J (pre ++ S.emit cur i ti line) F' W' ∧ Cur CB GB YB l base (.slice none 0 0) [] false W' ∧ But (fun k => F k ∨ k = CB ∨ k = GB ∨ v.ownBlock = some k) W W' ∧ ∀ k, F' k → F k ∨ W.heap.size ≤ k ∨ v.ownBlock = some k := by
  have HC := Aside0.mk hC
  have HJ := Aside0.mk hJ
  have HF := Aside0.mk hF
  obtain ⟨A, cn, cap, hv, hcn⟩ : ∃ A cn cap, v = .slice A cn cap ∧ cur.length = cn := by
    rcases hC.own.2 with ⟨rfl, e2⟩ | ⟨g, cap, cs, rfl, _⟩
    · exact ⟨_, _, _, rfl, e2⟩
    · exact ⟨_, _, _, rfl, rfl⟩
  subst hv
  have c1 : W.cell? ⟨CB, 0, none⟩ = some (.slice A cn cap) := (blk_cell hC.cb 0).trans rfl
  have c2 : W.cell? ⟨GB, 0, none⟩ = some (.bool gap) := (blk_cell hC.gb 0).trans rfl
  have c3 : W.cell? ⟨YB, 0, none⟩ = some (.func (.yield l) #[] #[]) := (blk_cell hC.yb 0).trans rfl
  have f1 := blk_frozen hC.cb 0
  have f2 := blk_frozen hC.gb 0
  have n1 := hC.n1
  have n2 := hC.n2
  have n3 := hC.n3
  have HCN := Aside0.mk hcn
  clear hC hJ hF hcn
  refine callsIn_of_wp Tryz.func90 rfl trivial ?_ rfl
  simp only [Tryz.ntmps90, List.size_toArray, List.length_cons, List.length_nil, Nat.reduceAdd, Nat.reduceSub, Array.replicate_succ, Array.replicate_zero, List.push_toArray, List.append_toArray, List.nil_append, List.cons_append]
  have hb2 : But (fun k => k = CB ∨ k = GB) W ((W.setCell ⟨CB, 0, none⟩ (.slice none 0 0)).setCell ⟨GB, 0, none⟩ (.bool false)) :=
    ((But.refl _ W).set ⟨CB, 0, none⟩ _ (.inl rfl)).set ⟨GB, 0, none⟩ _ (.inr rfl)
  have hj2 : J pre F ((W.setCell ⟨CB, 0, none⟩ (.slice none 0 0)).setCell ⟨GB, 0, none⟩ (.bool false)) :=
    C.stable HJ.out (hb2.mono (fun k _ hk hf => by rcases hk with rfl | rfl; exact (HF.out _ hf).1 rfl; exact (HF.out _ hf).2.1 rfl))
  have hcur2 : Cur CB GB YB l base (.slice none 0 0) [] false ((W.setCell ⟨CB, 0, none⟩ (.slice none 0 0)).setCell ⟨GB, 0, none⟩ (.bool false)) := by
    refine ⟨(Below.heap_setCell _ ⟨GB, 0, none⟩ _ CB n1).trans (blk_put (cs := #[_]) HC.out.cb 0 _ rfl), blk_put (cs := #[_]) ((Below.heap_setCell _ ⟨CB, 0, none⟩ _ GB (fun e => n1 e.symm)).trans HC.out.gb) 0 _ rfl,
      (Below.heap_setCell _ ⟨GB, 0, none⟩ _ YB (fun e => n3 e.symm)).trans ((Below.heap_setCell _ ⟨CB, 0, none⟩ _ YB (fun e => n2 e.symm)).trans HC.out.yb), World.ownsRow_nil _ _ _ _, HC.out.l1, HC.out.l2, HC.out.l3, n1, n2, n3, Nat.le_trans HC.out.lw hb2.size⟩
  have hown2 : ((W.setCell ⟨CB, 0, none⟩ (.slice none 0 0)).setCell ⟨GB, 0, none⟩ (.bool false)).ownsRow base 53 6 (.slice A cn cap) cur.length (tksL cur) := by
    refine own_but HC.out.own hb2 (fun k hk e => ?_)
    have := (HC.out.own.lt k e).1
    have := HC.out.l1
    have := HC.out.l2
    rcases hk with rfl | rfl <;> omega
  have HB2 := Aside0.mk hb2
  have HJ2 := Aside0.mk hj2
  have HCU2 := Aside0.mk hcur2
  have HOW2 := Aside0.mk hown2
  clear hb2 hj2 hcur2 hown2
  by_cases h0 : cn = 0
  · subst h0
    gi_wp2
    go_ret
    have hnil : cur = [] := List.length_eq_zero_iff.1 HCN.out
    refine ⟨rfl, F, ?_, HCU2.out, HB2.out.mono (fun k _ hk => by rcases hk with rfl | rfl; exact .inr (.inl rfl); exact .inr (.inr (.inl rfl))), fun k hk => .inl hk⟩
    rw [hnil]
    simpa [S.emit] using HJ2.out
  · have g0 : ((cn : Int) == 0) = false := beq_eq_false_iff_ne.2 (by omega)
    gi_upto_region 5 with (fail)
    obtain ⟨g, rfl, hg0⟩ : ∃ g, A = some ⟨g, 0, none⟩ ∧ base ≤ g := by
      rcases HOW2.out.2 with ⟨e, e2⟩ | ⟨g, cap', cs, e, hb, _⟩
      · rw [HCN.out] at e2; omega
      · simp only [Value.slice.injEq] at e
        exact ⟨g, e.1, hb⟩
    have c4 : ((W.setCell ⟨CB, 0, none⟩ (.slice none 0 0)).setCell ⟨GB, 0, none⟩ (.bool false)).cell? ⟨YB, 0, none⟩ = some (.func (.yield l) #[] #[]) := (blk_cell HCU2.out.yb 0).trans rfl
    generalize (W.setCell ⟨CB, 0, none⟩ (.slice none 0 0)).setCell ⟨GB, 0, none⟩ (.bool false) = W2 at *
    clear c1 c2 c3 f1 f2
    obtain ⟨H, hH⟩ : ∃ H, W2.heap.size = H := ⟨_, rfl⟩
    obtain ⟨X, hX⟩ : ∃ X, W2.drew.alloc (.cells #[.int .i64 4, .string ⟨#[]⟩, .bool false, .int .i64 line, .int .i64 i, .int .i64 ti] 53) = X := ⟨_, rfl⟩
    obtain ⟨i0, hi, hz0, hz1, hz2⟩ := info_parts (show (Tryz.prog.info? 53).map (fun i => (i.zero, i.size, i.bytes)) = some (some (.agg zTk), 6, 56) by kernel_rfl)
    have hXb : But (fun _ => False) W2 X := by rw [← hX]; exact ((But.refl _ W2).drew).alloc _
    have hXs : X.heap.size = H + 1 := by rw [← hX, ← hH]; exact World.size_alloc _ _
    have hXn : X.heap[H]? = some (.cells #[.int .i64 4, .string ⟨#[]⟩, .bool false, .int .i64 line, .int .i64 i, .int .i64 ti] 53 (0, 0)) := by
      rw [← hX, ← hH]; exact heap_alloc_new W2.drew _
    have hXo : X.ownsRow base 53 6 (.slice (some ⟨g, 0, none⟩) cn cap) cn (tksL cur) := by
      have := own_but HOW2.out hXb (fun k e => e.elim)
      rwa [HCN.out] at this
    have hlw := HCU2.out.lw
    obtain ⟨g', cap', w1, hrun, hown1, hgrow, hat, hlt⟩ := run_append_lies (P := Tryz.prog) X 24 24 base 53 i0 (.agg zTk) 6 56 Tryz.underlying24 hi hz0 hz1 hz2 rfl (by decide) _ cn _ hXo
      ⟨H, 0, none⟩ 1 1 (tkL (S.endTk i ti line)) rfl (fun j u hu => by
        rw [add_plain, blk_cell hXn j]
        have e : (#[.int .i64 4, .string ⟨#[]⟩, .bool false, .int .i64 line, .int .i64 i, .int .i64 ti] : Array Value) = (tkL (S.endTk i ti line)).toArray := rfl
        rw [e]; simpa using hu) (tkL_one _) (by decide) (by unfold maxLen; have := HCN.out; omega) (by have := HCN.out; omega) (by omega) (H + 1) hXs
    have hbX : But (fun k => k = g) X w1 := ⟨hgrow.os, hgrow.tape, hgrow.output, hgrow.size, fun k hk hn => hgrow.block k hk (by intro e; simp [Value.ownBlock] at e; exact hn e)⟩
    have hb21 : But (fun k => k = g) W2 w1 := hXb.trans hbX (fun k _ e => e.elim) (fun k _ e => e)
    have hj1 : J pre F w1 := C.stable HJ2.out (hb21.mono (fun k _ e hf => (HF.out k hf).2.2.2 (by rw [e]; rfl)))
    have hcl : (cur ++ [S.endTk i ti line]).length = cn + 1 := by rw [List.length_append, HCN.out]; rfl
    have hown2 : w1.ownsRow base 53 6 (.slice (some ⟨g', 0, none⟩) (cn + 1) cap') (cur ++ [S.endTk i ti line]).length (tksL (cur ++ [S.endTk i ti line])) := by
      rw [hcl, tksL_append]
      have : tksL [S.endTk i ti line] = tkL (S.endTk i ti line) := by simp [tksL]
      rw [this]; exact hown1
    have hg' : ∀ k, F k → (Value.slice (some ⟨g', 0, none⟩) (cn + 1) cap').ownBlock ≠ some k := fun k hk e => by
      have e' : g' = k := by simpa [Value.ownBlock] using e
      rcases hat with h | h
      · exact (HF.out k hk).2.2.2 (by rw [h, e'])
      · have := C.lt HJ2.out k hk
        omega
    have hY := C.yield hj1 hown2 (by simp) hg' (by rw [hcl]; have := HCN.out; omega)
    obtain ⟨fn, tmps, assign, body, hy, hR⟩ := hY
    have HR := Lib.hid hR
    have HFIN : Aside0 (∀ F' W3, J (pre ++ [cur ++ [S.endTk i ti line]]) F' W3 → But F w1 W3 → (∀ k, F' k → F k ∨ w1.heap.size ≤ k ∨ (Value.slice (some ⟨g', 0, none⟩) (cn + 1) cap').ownBlock = some k) →
        ∃ F', J (pre ++ S.emit cur i ti line) F' W3 ∧ Cur CB GB YB l base (.slice none 0 0) [] false W3 ∧ But (fun k => F k ∨ k = CB ∨ k = GB ∨ (Value.slice (some ⟨g, 0, none⟩) cn cap).ownBlock = some k) W W3 ∧ ∀ k, F' k → F k ∨ W.heap.size ≤ k ∨ (Value.slice (some ⟨g, 0, none⟩) cn cap).ownBlock = some k) := ⟨fun F' W3 hj3 hb3 hf3 => by
      have hne : cur ≠ [] := fun e => by rw [e] at HCN; have := HCN.out; simp at this; omega
      have he : S.emit cur i ti line = [cur ++ [S.endTk i ti line]] := by unfold S.emit; rw [if_neg hne]
      have hl1 := HCU2.out.l1
      have hl2 := HCU2.out.l2
      have hl3 := HCU2.out.l3
      refine ⟨F', by rw [he]; exact hj3, ?_, ?_, ?_⟩
      · refine HCU2.out.but (hb21.trans hb3 (C := fun k => k = g ∨ F k) (fun k _ e => .inl e) (fun k _ e => .inr e)) (fun k hk => ?_)
        rcases hk with rfl | hk
        · exact ⟨by omega, by omega, by omega, by simp [Value.ownBlock]⟩
        · obtain ⟨q1, q2, q3, _⟩ := HF.out k hk
          exact ⟨q1, q2, q3, by simp [Value.ownBlock]⟩
      · refine HB2.out.trans (hb21.trans hb3 (C := fun k => k = g ∨ F k) (fun k _ e => .inl e) (fun k _ e => .inr e)) (fun k _ hk => ?_) (fun k _ hk => ?_)
        · rcases hk with rfl | rfl
          · exact .inr (.inl rfl)
          · exact .inr (.inr (.inl rfl))
        · rcases hk with rfl | hk
          · exact .inr (.inr (.inr rfl))
          · exact .inl hk
      · intro k hk
        have hs2 := HB2.out.size
        have hs1 := hb21.size
        rcases hf3 k hk with h | h | h
        · exact .inl h
        · exact .inr (.inl (by omega))
        · have e' : g' = k := by simpa [Value.ownBlock] using h
          rcases hat with h | h
          · exact .inr (.inr (by rw [h, e']))
          · exact .inr (.inl (by omega))⟩
    have HAT := Aside0.mk hat
    have HB21 := Aside0.mk hb21
    have HHH := Aside0.mk hH
    clear hR hown1 hown2 hgrow hbX hb21 hj1 hat hg' hXn hXo
    have hyX : X.cell? ⟨YB, 0, none⟩ = some (.func (.yield l) #[] #[]) := (blk_cell ((hXb.block YB (by have := HCU2.out.l3; omega) (fun e => e)).trans HCU2.out.yb) 0).trans rfl
    have hyw : w1.cell? ⟨YB, 0, none⟩ = some (.func (.yield l) #[] #[]) := (blk_cell ((HB21.out.block YB (by have := HCU2.out.l3; omega) (fun e => by have := HCU2.out.l3; omega)).trans HCU2.out.yb) 0).trans rfl
    clear hXb
    refine wpIn_region_any (by kernel_rfl) ?_
    change wpAnyIn _ _ _ _ _ _ _ _ _ (World.drew W2)
    refine wpAnyIn_take (i := 1) (v := (.slice (some ⟨g, 0, none⟩) cn cap)) rfl rfl (by kernel_rfl) (by kernel_rfl) (by kernel_rfl) (fun _ _ _ h => h) ⟨Or.inl ⟨by rfl, by intro w; go_simp⟩, fun _ => rfl⟩ ?_
    refine wpAnyIn_take (i := 2) (v := (.int .i64 line)) rfl rfl (by kernel_rfl) (by kernel_rfl) (by kernel_rfl) (fun _ _ _ h => h) ⟨Or.inl ⟨by rfl, by intro w; go_simp⟩, fun _ => rfl⟩ ?_
    refine wpAnyIn_take (i := 3) (v := (.int .i64 i)) rfl rfl (by kernel_rfl) (by kernel_rfl) (by kernel_rfl) (fun _ _ _ h => h) ⟨Or.inl ⟨by rfl, by intro w; go_simp⟩, fun _ => rfl⟩ ?_
    refine wpAnyIn_take (i := 4) (v := (.int .i64 ti)) rfl rfl (by kernel_rfl) (by kernel_rfl) (by kernel_rfl) (fun _ _ _ h => h) ⟨Or.inl ⟨by rfl, by intro w; go_simp⟩, fun _ => rfl⟩ ?_
    refine wpAnyIn_take (i := 5) (v := (.agg #[.int .i64 4, .string ⟨#[]⟩, .bool false, .int .i64 line, .int .i64 i, .int .i64 ti])) rfl rfl (by kernel_rfl) (by kernel_rfl) (by kernel_rfl) (fun _ _ _ h => h) ⟨Or.inl ⟨by rfl, by intro w; go_simp⟩, fun _ => rfl⟩ ?_
    refine wpAnyIn_ready (rs := [0, 6]) (by kernel_rfl) (by simp) ?_
    refine AllReadyIn.cons rfl (fun K hK => ?_) (AllReadyIn.cons rfl (fun K hK => ?_) AllReadyIn.nil)
    · go_simp
      refine hK _ _ ?_
      clear hK K
      refine wpAnyIn_ready (rs := [6]) (by kernel_rfl) (by simp) ?_
      refine AllReadyIn.cons rfl (fun K hK => ?_) AllReadyIn.nil
      go_simp
      refine hK _ _ ?_
      clear hK K
      refine wpAnyIn_ready (rs := [7]) (by kernel_rfl) (by simp) ?_
      refine AllReadyIn.cons rfl (fun K hK => ?_) AllReadyIn.nil
      refine stepIn_append rfl (.tmp 16) (.tmp 21) _ rfl _ _ _ rfl rfl hrun ?_
      try go_simp
      refine hK _ _ ?_
      clear hK K
      refine wpAnyIn_ready (rs := [8]) (by kernel_rfl) (by simp) ?_
      refine AllReadyIn.cons rfl (fun K hK => ?_) AllReadyIn.nil
      go_simp
      refine HR.out.mono ?_
      rintro e W3 ⟨rfl, F', hj3, hb3, hf3⟩
      refine hK _ _ ?_
      clear hK K
      refine wpAnyIn_ready (rs := [9]) (by kernel_rfl) (by simp) ?_
      refine AllReadyIn.cons rfl (fun K hK => ?_) AllReadyIn.nil
      go_simp
      refine hK _ _ ?_
      clear hK K
      refine wpAnyIn_done (by kernel_rfl) ?_ _
      gi_wp2
      go_ret
      exact ⟨rfl, HFIN.out F' W3 hj3 hb3 hf3⟩
    · go_simp
      refine hK _ _ ?_
      clear hK K
      refine wpAnyIn_ready (rs := [0, 7]) (by kernel_rfl) (by simp) ?_
      refine AllReadyIn.cons rfl (fun K hK => ?_) (AllReadyIn.cons rfl (fun K hK => ?_) AllReadyIn.nil)
      · go_simp
        refine hK _ _ ?_
        clear hK K
        refine wpAnyIn_ready (rs := [7]) (by kernel_rfl) (by simp) ?_
        refine AllReadyIn.cons rfl (fun K hK => ?_) AllReadyIn.nil
        refine stepIn_append rfl (.tmp 16) (.tmp 21) _ rfl _ _ _ rfl rfl hrun ?_
        try go_simp
        refine hK _ _ ?_
        clear hK K
        refine wpAnyIn_ready (rs := [8]) (by kernel_rfl) (by simp) ?_
        refine AllReadyIn.cons rfl (fun K hK => ?_) AllReadyIn.nil
        go_simp
        refine HR.out.mono ?_
        rintro e W3 ⟨rfl, F', hj3, hb3, hf3⟩
        refine hK _ _ ?_
        clear hK K
        refine wpAnyIn_ready (rs := [9]) (by kernel_rfl) (by simp) ?_
        refine AllReadyIn.cons rfl (fun K hK => ?_) AllReadyIn.nil
        go_simp
        refine hK _ _ ?_
        clear hK K
        refine wpAnyIn_done (by kernel_rfl) ?_ _
        gi_wp2
        go_ret
        exact ⟨rfl, HFIN.out F' W3 hj3 hb3 hf3⟩
      · refine stepIn_append rfl (.tmp 16) (.tmp 21) _ rfl _ _ _ rfl rfl hrun ?_
        try go_simp
        refine hK _ _ ?_
        clear hK K
        refine wpAnyIn_ready (rs := [0]) (by kernel_rfl) (by simp) ?_
        refine AllReadyIn.cons rfl (fun K hK => ?_) AllReadyIn.nil
        go_simp
        refine hK _ _ ?_
        clear hK K
        refine wpAnyIn_ready (rs := [8]) (by kernel_rfl) (by simp) ?_
        refine AllReadyIn.cons rfl (fun K hK => ?_) AllReadyIn.nil
        go_simp
        refine HR.out.mono ?_
        rintro e W3 ⟨rfl, F', hj3, hb3, hf3⟩
        refine hK _ _ ?_
        clear hK K
        refine wpAnyIn_ready (rs := [9]) (by kernel_rfl) (by simp) ?_
        refine AllReadyIn.cons rfl (fun K hK => ?_) AllReadyIn.nil
        go_simp
        refine hK _ _ ?_
        clear hK K
        refine wpAnyIn_done (by kernel_rfl) ?_ _
        gi_wp2
        go_ret
        exact ⟨rfl, HFIN.out F' W3 hj3 hb3 hf3⟩
end Go.Proofs.YtkkpjonfaflkmaaGreatDoor.T

namespace Go.Proofs.YtkkpjonfaflkmaaGreatDoor.T
set_option linter.unusedSimpArgs false
set_option linter.unusedVariables false
open Go.RowKit Go.Proofs.YtkkpjonfaflkmaaGreatDoorW.PrintWords Go.Proofs.YtkkpjonfaflkmaaGreatDoorW.PrintLast Go.Proofs.YtkkpjonfaflkmaaGreatDoorW.PrintMore
attribute [local go_sem] Oper.semAt_some
set_option maxRecDepth 100000 in
set_option maxHeartbeats 400000 in
theorem deferred_idle (n : Nat) (p q r : Value) (W : World) :
    CallsDIn Fence.wide n Tryz.prog 89 #[p, q, r] .returning W fun e u' W' => e = .returned (.tuple #[]) ∧ u' = .returning ∧ W' = W := by
  refine callsDIn_of_wpSIn Tryz.func89 rfl trivial fun c₀ cs hu => ?_
  have hwf : ∀ f, Fence.wide.fn f := fun _ => trivial
  simp only [Tryz.ntmps89, List.size_toArray, List.length_cons, List.length_nil, Nat.reduceAdd, Nat.reduceSub, Array.replicate_succ, Array.replicate_zero, List.push_toArray, List.append_toArray, List.nil_append, List.cons_append]
  apply wpSIn_seq
  apply wpSIn_region
  simp [wpOpsSIn, go_sem, recoverD, hu, Tryz.ntmps89, Exit.thenS, hwf]
  refine wpSIn_of_wpIn rfl ?_
  generalize hQ : (fun (e : Exit) (a' : Act) (w' : World) => _) = Q
  gi_wp2
  rw [← hQ]
  refine ⟨rfl, .returning, ?_, _, results_none rfl _ _ _, rfl, rfl, rfl⟩
  rw [← hu]
def partial_ (cur : List S.Tk) : List (List S.Tk) := if cur = [] then [] else [cur]
set_option maxRecDepth 100000 in
set_option maxHeartbeats 4000000 in
theorem deferred_panic (n : Nat) (hn : 1 ≤ n) {l CB GB YB FB fp base : Nat} {J : List (List S.Tk) → (Nat → Prop) → World → Prop} (C : Client l (n - 1) J) (c ln a b : Int) {v : Value} {cur : List S.Tk} {gap : Bool} {pre : List (List S.Tk)} {F : Nat → Prop} (W : World)
    (hC : Cur CB GB YB l base v cur gap W) (hJ : J pre F W) (hF : ∀ k, F k → k ≠ CB ∧ k ≠ GB ∧ k ≠ YB ∧ v.ownBlock ≠ some k) (hFp : ∀ k, F k → k ≠ fp) (hfp : W.heap[fp]? = some (.cells #[.int .i64 a, .int .i64 b] 76 (0, 0)))
    (hfb : W.heap[FB]? = some (.cells #[.pointer (some ⟨fp, 0, none⟩)] 88 (0, 0))) (hne : fp ≠ CB ∧ fp ≠ YB ∧ fp < base) (hgb : fp ≠ GB) (hlen : pre.flatten.length + cur.length ≤ 300000) :
    CallsDIn Fence.wide n Tryz.prog 89 #[.pointer (some ⟨FB, 0, none⟩), .pointer (some ⟨CB, 0, none⟩), .pointer (some ⟨YB, 0, none⟩)] (.panicking [{ v := fl c ln, recovered := false }]) W fun e u' W' =>
      e = .returned (.tuple #[]) ∧ u' = .panicking [{ v := fl c ln, recovered := true }] ∧ (∃ F', J (pre ++ partial_ cur) F' W') ∧ W'.heap[fp]? = some (.cells #[.int .i64 c, .int .i64 ln] 76 (0, 0)) := by
  obtain ⟨A, cn, cap, hv, hcn⟩ : ∃ A cn cap, v = .slice A cn cap ∧ cur.length = cn := by
    rcases hC.own.2 with ⟨rfl, e2⟩ | ⟨g, cap, cs, rfl, _⟩
    · exact ⟨_, _, _, rfl, e2⟩
    · exact ⟨_, _, _, rfl, rfl⟩
  subst hv
  have HC := Aside0.mk hC
  have HJ := Aside0.mk hJ
  have HF := Aside0.mk hF
  have HFP := Aside0.mk hFp
  have HP := Aside0.mk hfp
  have HCN := Aside0.mk hcn
  have HFB := Aside0.mk hfb
  have c1 : W.cell? ⟨CB, 0, none⟩ = some (.slice A cn cap) := (blk_cell hC.cb 0).trans rfl
  have c3 : W.cell? ⟨YB, 0, none⟩ = some (.func (.yield l) #[] #[]) := (blk_cell hC.yb 0).trans rfl
  have c4 : W.cell? ⟨FB, 0, none⟩ = some (.pointer (some ⟨fp, 0, none⟩)) := (blk_cell hfb 0).trans rfl
  have p0 : W.cell? ⟨fp, 0, none⟩ = some (.int .i64 a) := (blk_cell hfp 0).trans rfl
  have p1 : W.cell? ⟨fp, 1, none⟩ = some (.int .i64 b) := (blk_cell hfp 1).trans rfl
  have q0 := blk_frozen hfp 0
  have q1 := blk_frozen hfp 1
  have hta : ∀ X : World, (Instr.typeAssert (.iface 76 (.agg #[.int .i64 c, .int .i64 ln])) 20 76 true).run Tryz.prog X = .ok (.tuple #[.agg #[.int .i64 c, .int .i64 ln], .bool true]) X := fun X => by kernel_rfl
  have hu76 := Tryz.underlying76
  clear hC hJ hF hFp hfp hcn hfb
  refine callsDIn_of_wpSIn Tryz.func89 rfl trivial fun c₀ cs hu => ?_
  have hwf : ∀ f, Fence.wide.fn f := fun _ => trivial
  simp only [Tryz.ntmps89, List.size_toArray, List.length_cons, List.length_nil, Nat.reduceAdd, Nat.reduceSub, Array.replicate_succ, Array.replicate_zero, List.push_toArray, List.append_toArray, List.nil_append, List.cons_append]
  apply wpSIn_seq
  apply wpSIn_region
  simp [wpOpsSIn, go_sem, recoverD, hu, Tryz.ntmps89, Exit.thenS, hwf, fl]
  refine wpSIn_of_wpIn rfl ?_
  generalize hQ : (fun (e : Exit) (a' : Act) (w' : World) => _) = Q
  gi_upto_region 5 with (fail)
  have hb1 : But (fun _ => False) W (W.alloc (.cells #[.int .i64 c, .int .i64 ln] 76)) := (But.refl _ W).alloc _
  have hn1 := heap_alloc_new W (.cells #[.int .i64 c, .int .i64 ln] 76)
  have hf1 : ∀ (k : Nat) (o : Obj), W.heap[k]? = some o → (W.alloc (.cells #[.int .i64 c, .int .i64 ln] 76)).heap[k]? = some o := fun k o h => (hb1.block k (Array.getElem?_eq_some_iff.1 h).1 (fun e => e)).trans h
  have hfb1 := hf1 _ _ HFB.out
  have hfp1 := hf1 _ _ HP.out
  have hj1 := C.stable HJ.out (hb1.mono (B := fun k => ¬ F k) (fun _ _ e => e.elim))
  have hc1 := HC.out.but hb1 (fun _ e => e.elim)
  obtain ⟨H, hH⟩ : ∃ H, W.heap.size = H := ⟨_, rfl⟩
  rw [hH] at hn1 ⊢
  have hlt : fp ≠ H ∧ FB ≠ H := by
    have h1 := (Array.getElem?_eq_some_iff.1 HP.out).1
    have h2 := (Array.getElem?_eq_some_iff.1 HFB.out).1
    omega
  clear c1 c3 c4 p0 p1 q0 q1 hf1 hta hH
  generalize W.alloc (.cells #[.int .i64 c, .int .i64 ln] 76) = W1 at *
  have c4 : W1.cell? ⟨FB, 0, none⟩ = some (.pointer (some ⟨fp, 0, none⟩)) := (blk_cell hfb1 0).trans rfl
  have e0 : W1.cell? ⟨H, 0, none⟩ = some (.int .i64 c) := (blk_cell hn1 0).trans rfl
  have e1 : W1.cell? ⟨H, 1, none⟩ = some (.int .i64 ln) := (blk_cell hn1 1).trans rfl
  have p0 : W1.cell? ⟨fp, 0, none⟩ = some (.int .i64 a) := (blk_cell hfp1 0).trans rfl
  have p1 : W1.cell? ⟨fp, 1, none⟩ = some (.int .i64 b) := (blk_cell hfp1 1).trans rfl
  have q0 := blk_frozen hfp1 0
  have q1 := blk_frozen hfp1 1
  obtain ⟨n1, n2, n3⟩ := hne
  have hb2 : But (fun k => k = fp) W1 ((W1.setCell ⟨fp, 0, none⟩ (.int .i64 c)).setCell ⟨fp, 1, none⟩ (.int .i64 ln)) := ((But.refl (fun k => k = fp) W1).set ⟨fp, 0, none⟩ _ rfl).set ⟨fp, 1, none⟩ _ rfl
  have hfp2 : ((W1.setCell ⟨fp, 0, none⟩ (.int .i64 c)).setCell ⟨fp, 1, none⟩ (.int .i64 ln)).heap[fp]? = some (.cells #[.int .i64 c, .int .i64 ln] 76 (0, 0)) := blk_put (blk_put hfp1 0 _ rfl) 1 _ rfl
  have hj2 := C.stable hj1 (hb2.mono (B := fun k => ¬ F k) (fun k _ e hf => HFP.out k hf e))
  have hc2 := hc1.but hb2 (fun k e => by
    have hg := hc1.n1
    refine ⟨by omega, ?_, by omega, fun h => ?_⟩
    · rw [e]; exact hgb
    · have := (hc1.own.lt k h).1
      omega)
  have HJ2 := Aside0.mk hj2
  have HC2 := Aside0.mk hc2
  have HP2 := Aside0.mk hfp2
  clear hb1 hb2 hj1 hj2 hc1 hc2 hfp1 hfp2 hfb1 hn1
  gi_upto_region 6 with (fail)
  generalize (W1.setCell ⟨fp, 0, none⟩ (.int .i64 c)).setCell ⟨fp, 1, none⟩ (.int .i64 ln) = W2 at *
  clear c4 e0 e1 p0 p1 q0 q1
  have c1 : W2.cell? ⟨CB, 0, none⟩ = some (.slice A cn cap) := (blk_cell HC2.out.cb 0).trans rfl
  have c3 : W2.cell? ⟨YB, 0, none⟩ = some (.func (.yield l) #[] #[]) := (blk_cell HC2.out.yb 0).trans rfl
  by_cases h0 : cn = 0
  · subst h0
    have hnil : cur = [] := List.length_eq_zero_iff.1 HCN.out
    gi_wp2
    rw [← hQ]
    refine ⟨rfl, _, rfl, _, results_none rfl _ _ _, rfl, by first | rfl | (simp [fl]; done), ⟨F, ?_⟩, HP2.out⟩
    rw [hnil]
    simpa [partial_] using HJ2.out
  · have g0 : decide ((0 : Int) < (cn : Int)) = true := decide_eq_true (by omega)
    have g1 : decide (0 < cn) = true := decide_eq_true (by omega)
    have hY := C.yield HJ2.out HC2.out.own (fun e => by rw [e] at HCN; have := HCN.out; simp at this; omega) (fun k hk => (HF.out k hk).2.2.2) hlen
    obtain ⟨fn, tmps, assign, body, hy, hR⟩ := hY
    have HR := Lib.hid hR
    clear hR
    gi_wp2
    refine HR.out.mono ?_
    rintro e W3 ⟨rfl, F', hj3, hb3, hf3⟩
    gi_wp2
    rw [← hQ]
    refine ⟨rfl, _, rfl, _, results_none rfl _ _ _, rfl, by first | rfl | (simp [fl]; done), ⟨F', ?_⟩, ?_⟩
    · have : partial_ cur = [cur] := by
        unfold partial_
        rw [if_neg (fun e => by rw [e] at HCN; have := HCN.out; simp at this; omega)]
      rw [this]; exact hj3
    · exact (hb3.block fp (Array.getElem?_eq_some_iff.1 HP2.out).1 (fun hf => HFP.out fp hf rfl)).trans HP2.out
end Go.Proofs.YtkkpjonfaflkmaaGreatDoor.T

namespace Go.Proofs.YtkkpjonfaflkmaaGreatDoor.T
set_option linter.unusedSimpArgs false
open Go.RowKit Go.Proofs.YtkkpjonfaflkmaaGreatDoorW.PrintWords Go.Proofs.YtkkpjonfaflkmaaGreatDoorW.PrintLast Go.Proofs.YtkkpjonfaflkmaaGreatDoorW.PrintMore
attribute [local go_sem] max2_int min2_int max_two min_two max_three min_three max_four min_four   -- for this text's walks alone
set_option linter.unusedVariables false
set_option linter.unusedSimpArgs false
def scan_comma.f (l0 : List (S53)) : Option (Bool) := if (l0.length : Int) > 0 then (if 0 ≤ (wrap64 ((l0.length : Int) - 1)) then (if (wrap64 ((l0.length : Int) - 1)) < (l0.length : Int) then (if ((rd_T53 l0 (wrap64 ((l0.length : Int) - 1))).f0) = 3 then (some (((rd_T53 l0 (wrap64 ((l0.length : Int) - 1))).f1).toList == ([44] : List UInt8))) else (some false)) else (none)) else (none)) else (some false)
set_option maxHeartbeats 8000000 in
set_option maxRecDepth 100000 in
theorem scan_comma.calls (A0 : Option Addr) (c0 : Nat) (l0 : List (S53)) (r : Bool) (w : World) (hr0 : Kd.C k53 w A0 l0.length l0) (hc0 : l0.length ≤ c0) (h : scan_comma.f l0 = some r) :
    Calls Tryz.prog 92 #[.slice A0 l0.length c0] w fun e w' => e = .returned (.bool r) ∧ Drawn0 w w' := by
  have HR0 := Aside0.mk hr0
  have HC0 := Aside0.mk hc0
  clear hr0 hc0
  have H : (if (l0.length : Int) > 0 then (if 0 ≤ (wrap64 ((l0.length : Int) - 1)) then (if (wrap64 ((l0.length : Int) - 1)) < (l0.length : Int) then (if ((rd_T53 l0 (wrap64 ((l0.length : Int) - 1))).f0) = 3 then (some (((rd_T53 l0 (wrap64 ((l0.length : Int) - 1))).f1).toList == ([44] : List UInt8))) else (some false)) else (none)) else (none)) else (some false)) = some r := h
  clear h
  by_cases c2 : (l0.length : Int) > 0
  · rw [if_pos c2] at H
    have c2b0 : decide (0 < (l0.length : Int)) = true := decide_eq_true c2
    have c2b1 : decide (0 < l0.length) = true := decide_eq_true (by omega)
    clear c2
    obtain ⟨ji3, hji3⟩ : ∃ j_ : Int, (wrap64 ((l0.length : Int) - 1)) = j_ := ⟨_, rfl⟩
    replace H : (if 0 ≤ (ji3) then (if (ji3) < (l0.length : Int) then (if ((rd_T53 l0 (ji3)).f0) = 3 then (some (((rd_T53 l0 (ji3)).f1).toList == ([44] : List UInt8))) else (some false)) else (none)) else (none)) = some r := by first | (rw [hji3] at H; exact H) | (simp only [hji3] at H ⊢; exact H)
    have hji3w : (IntKind.i64.wrap ((l0.length : Int) - 1)) = ji3 := (i64_w _).trans hji3
    by_cases c4 : 0 ≤ (ji3)
    · rw [if_pos c4] at H
      have c4b0 : decide (0 ≤ (ji3)) = true := decide_eq_true c4
      clear c4
      by_cases c5 : (ji3) < (l0.length : Int)
      · rw [if_pos c5] at H
        have c5b0 : decide ((ji3) < (l0.length : Int)) = true := decide_eq_true c5
        clear c5
        by_cases c6 : ((rd_T53 l0 (ji3)).f0) = 3
        · rw [if_pos c6] at H
          have c6b0 : (((rd_T53 l0 (ji3)).f0) == 3) = true := beq_iff_eq.mpr c6
          have c6b1 : (((rd_T53 l0 (ji3)).f0) != 3) = false := bne_eq_false_iff_eq.mpr c6
          clear c6
          obtain rfl := Option.some.inj H
          have p146 : 0 ≤ ((ji3) : Int) := of_decide_eq_true (by first | (with_reducible assumption) | assumption)
          have q146 : (ji3) < (l0.length : Int) := of_decide_eq_true (by first | (with_reducible assumption) | assumption)
          obtain ⟨ad146, e146, hx146_0, hx146_1, hx146_2, hx146_3, hx146_4, hx146_5⟩ := at_T53 HR0.out (ji3) p146 q146
          cases e146
          replace p146 := eq_true p146
          replace q146 := eq_true q146
          have p147 : 0 ≤ ((ji3) : Int) := of_decide_eq_true (by first | (with_reducible assumption) | assumption)
          have q147 : (ji3) < (l0.length : Int) := of_decide_eq_true (by first | (with_reducible assumption) | assumption)
          obtain ⟨ad147, e147, hx147_0, hx147_1, hx147_2, hx147_3, hx147_4, hx147_5⟩ := at_T53 HR0.out (ji3) p147 q147
          obtain rfl : ad146 = ad147 := (by injection e147)
          replace p147 := eq_true p147
          replace q147 := eq_true q147
          go_enter Tryz.func92, Tryz.ntmps92
          go_wp2
          go_ret
          exact ⟨by first | rfl | (simp; done) | (simp only [← hji3] <;> (first | rfl | simp)) | (simp [*]; done), by repeat (first | exact Drawn0.refl _ | apply Drawn0.step)⟩
        · rw [if_neg c6] at H
          have c6b0 : (((rd_T53 l0 (ji3)).f0) == 3) = false := beq_eq_false_iff_ne.mpr c6
          have c6b1 : (((rd_T53 l0 (ji3)).f0) != 3) = true := bne_iff_ne.mpr c6
          obtain rfl := Option.some.inj H
          have p146 : 0 ≤ ((ji3) : Int) := of_decide_eq_true (by first | (with_reducible assumption) | assumption)
          have q146 : (ji3) < (l0.length : Int) := of_decide_eq_true (by first | (with_reducible assumption) | assumption)
          obtain ⟨ad146, e146, hx146_0, hx146_1, hx146_2, hx146_3, hx146_4, hx146_5⟩ := at_T53 HR0.out (ji3) p146 q146
          cases e146
          replace p146 := eq_true p146
          replace q146 := eq_true q146
          go_enter Tryz.func92, Tryz.ntmps92
          go_wp2
          go_ret
          exact ⟨by first | rfl | (simp; done) | (simp only [← hji3] <;> (first | rfl | simp)) | (simp [*]; done), by repeat (first | exact Drawn0.refl _ | apply Drawn0.step)⟩
      · rw [if_neg c5] at H
        exact absurd H (by simp)
    · rw [if_neg c4] at H
      exact absurd H (by simp)
  · rw [if_neg c2] at H
    have c2b0 : decide (0 < (l0.length : Int)) = false := decide_eq_false c2
    have c2b1 : decide (0 < l0.length) = false := decide_eq_false (by omega)
    clear c2
    obtain rfl := Option.some.inj H
    go_enter Tryz.func92, Tryz.ntmps92
    go_wp2
    go_ret
    exact ⟨by first | rfl | (simp; done) | (simp [*]; done), by repeat (first | exact Drawn0.refl _ | apply Drawn0.step)⟩
end Go.Proofs.YtkkpjonfaflkmaaGreatDoor.T

namespace Go.Proofs.YtkkpjonfaflkmaaGreatDoor.T
set_option linter.unusedSimpArgs false
open Go.RowKit Go.Proofs.YtkkpjonfaflkmaaGreatDoorW.PrintWords Go.Proofs.YtkkpjonfaflkmaaGreatDoorW.PrintLast Go.Proofs.YtkkpjonfaflkmaaGreatDoorW.PrintMore
attribute [local go_sem] max2_int min2_int max_two min_two max_three min_three max_four min_four   -- for this text's walks alone
set_option linter.unusedVariables false
set_option linter.unusedSimpArgs false
def scan_label.f (l0 : List (S53)) : Option (Bool) := if (l0.length : Int) = 2 then (if 0 < (l0.length : Int) then (if ((rd_T53 l0 0).f0) = 1 then (if 1 < (l0.length : Int) then (if ((rd_T53 l0 1).f0) = 3 then (some (((rd_T53 l0 1).f1).toList == ([58] : List UInt8))) else (some false)) else (none)) else (some false)) else (none)) else (some false)
set_option maxHeartbeats 8000000 in
set_option maxRecDepth 100000 in
theorem scan_label.calls (A0 : Option Addr) (c0 : Nat) (l0 : List (S53)) (r : Bool) (w : World) (hr0 : Kd.C k53 w A0 l0.length l0) (hc0 : l0.length ≤ c0) (h : scan_label.f l0 = some r) :
    Calls Tryz.prog 54 #[.slice A0 l0.length c0] w fun e w' => e = .returned (.bool r) ∧ Drawn0 w w' := by
  have HR0 := Aside0.mk hr0
  have HC0 := Aside0.mk hc0
  clear hr0 hc0
  have H : (if (l0.length : Int) = 2 then (if 0 < (l0.length : Int) then (if ((rd_T53 l0 0).f0) = 1 then (if 1 < (l0.length : Int) then (if ((rd_T53 l0 1).f0) = 3 then (some (((rd_T53 l0 1).f1).toList == ([58] : List UInt8))) else (some false)) else (none)) else (some false)) else (none)) else (some false)) = some r := h
  clear h
  by_cases c2 : (l0.length : Int) = 2
  · rw [if_pos c2] at H
    have c2b0 : ((l0.length : Int) == 2) = true := beq_iff_eq.mpr c2
    have c2b1 : ((l0.length : Int) != 2) = false := bne_eq_false_iff_eq.mpr c2
    clear c2
    by_cases c3 : 0 < (l0.length : Int)
    · rw [if_pos c3] at H
      have c3b0 : decide (0 < (l0.length : Int)) = true := decide_eq_true c3
      have c3b1 : decide (0 < l0.length) = true := decide_eq_true (by omega)
      clear c3
      by_cases c4 : ((rd_T53 l0 0).f0) = 1
      · rw [if_pos c4] at H
        have c4b0 : (((rd_T53 l0 0).f0) == 1) = true := beq_iff_eq.mpr c4
        have c4b1 : (((rd_T53 l0 0).f0) != 1) = false := bne_eq_false_iff_eq.mpr c4
        clear c4
        by_cases c5 : 1 < (l0.length : Int)
        · rw [if_pos c5] at H
          have c5b0 : decide (1 < (l0.length : Int)) = true := decide_eq_true c5
          have c5b1 : decide (1 < l0.length) = true := decide_eq_true (by omega)
          clear c5
          by_cases c6 : ((rd_T53 l0 1).f0) = 3
          · rw [if_pos c6] at H
            have c6b0 : (((rd_T53 l0 1).f0) == 3) = true := beq_iff_eq.mpr c6
            have c6b1 : (((rd_T53 l0 1).f0) != 3) = false := bne_eq_false_iff_eq.mpr c6
            clear c6
            obtain rfl := Option.some.inj H
            have p102 : 0 ≤ (0 : Int) := (by omega)
            have q102 : 0 < (l0.length : Int) := of_decide_eq_true (by first | (with_reducible assumption) | assumption)
            obtain ⟨ad102, e102, hx102_0, hx102_1, hx102_2, hx102_3, hx102_4, hx102_5⟩ := at_T53 HR0.out 0 p102 q102
            cases e102
            have qi102 : (0 < l0.length) = True := eq_true (by omega)
            (try rw [show ((0 : Int)).toNat = 0 from rfl] at hx102_0)
            (try rw [show 0 * 6 = 0 from rfl] at hx102_0)
            (try rw [Addr.add_zero'] at hx102_0)
            (try rw [show ((0 : Int)).toNat = 0 from rfl] at hx102_1)
            (try rw [show 0 * 6 = 0 from rfl] at hx102_1)
            (try rw [Addr.add_zero'] at hx102_1)
            (try rw [show ((0 : Int)).toNat = 0 from rfl] at hx102_2)
            (try rw [show 0 * 6 = 0 from rfl] at hx102_2)
            (try rw [Addr.add_zero'] at hx102_2)
            (try rw [show ((0 : Int)).toNat = 0 from rfl] at hx102_3)
            (try rw [show 0 * 6 = 0 from rfl] at hx102_3)
            (try rw [Addr.add_zero'] at hx102_3)
            (try rw [show ((0 : Int)).toNat = 0 from rfl] at hx102_4)
            (try rw [show 0 * 6 = 0 from rfl] at hx102_4)
            (try rw [Addr.add_zero'] at hx102_4)
            (try rw [show ((0 : Int)).toNat = 0 from rfl] at hx102_5)
            (try rw [show 0 * 6 = 0 from rfl] at hx102_5)
            (try rw [Addr.add_zero'] at hx102_5)
            replace p102 := eq_true p102
            replace q102 := eq_true q102
            have p103 : 0 ≤ (1 : Int) := (by omega)
            have q103 : 1 < (l0.length : Int) := of_decide_eq_true (by first | (with_reducible assumption) | assumption)
            obtain ⟨ad103, e103, hx103_0, hx103_1, hx103_2, hx103_3, hx103_4, hx103_5⟩ := at_T53 HR0.out 1 p103 q103
            obtain rfl : ad102 = ad103 := (by injection e103)
            (try simp only [show (1 : Int).toNat = 1 from rfl, Nat.reduceMul, Nat.reduceEqDiff, Go.Addr.add, ↓reduceIte] at hx103_0)
            (try simp only [show (1 : Int).toNat = 1 from rfl, Nat.reduceMul, Nat.reduceEqDiff, Go.Addr.add, ↓reduceIte] at hx103_1)
            (try simp only [show (1 : Int).toNat = 1 from rfl, Nat.reduceMul, Nat.reduceEqDiff, Go.Addr.add, ↓reduceIte] at hx103_2)
            (try simp only [show (1 : Int).toNat = 1 from rfl, Nat.reduceMul, Nat.reduceEqDiff, Go.Addr.add, ↓reduceIte] at hx103_3)
            (try simp only [show (1 : Int).toNat = 1 from rfl, Nat.reduceMul, Nat.reduceEqDiff, Go.Addr.add, ↓reduceIte] at hx103_4)
            (try simp only [show (1 : Int).toNat = 1 from rfl, Nat.reduceMul, Nat.reduceEqDiff, Go.Addr.add, ↓reduceIte] at hx103_5)
            have qi103 : (1 < l0.length) = True := eq_true (by omega)
            (try rw [show ((1 : Int)).toNat = 1 from rfl] at hx103_0)
            (try rw [show 1 * 6 = 6 from rfl] at hx103_0)
            (try rw [show ((1 : Int)).toNat = 1 from rfl] at hx103_1)
            (try rw [show 1 * 6 = 6 from rfl] at hx103_1)
            (try rw [show ((1 : Int)).toNat = 1 from rfl] at hx103_2)
            (try rw [show 1 * 6 = 6 from rfl] at hx103_2)
            (try rw [show ((1 : Int)).toNat = 1 from rfl] at hx103_3)
            (try rw [show 1 * 6 = 6 from rfl] at hx103_3)
            (try rw [show ((1 : Int)).toNat = 1 from rfl] at hx103_4)
            (try rw [show 1 * 6 = 6 from rfl] at hx103_4)
            (try rw [show ((1 : Int)).toNat = 1 from rfl] at hx103_5)
            (try rw [show 1 * 6 = 6 from rfl] at hx103_5)
            replace p103 := eq_true p103
            replace q103 := eq_true q103
            have p104 : 0 ≤ (1 : Int) := (by omega)
            have q104 : 1 < (l0.length : Int) := of_decide_eq_true (by first | (with_reducible assumption) | assumption)
            obtain ⟨ad104, e104, hx104_0, hx104_1, hx104_2, hx104_3, hx104_4, hx104_5⟩ := at_T53 HR0.out 1 p104 q104
            obtain rfl : ad102 = ad104 := (by injection e104)
            (try simp only [show (1 : Int).toNat = 1 from rfl, Nat.reduceMul, Nat.reduceEqDiff, Go.Addr.add, ↓reduceIte] at hx104_0)
            (try simp only [show (1 : Int).toNat = 1 from rfl, Nat.reduceMul, Nat.reduceEqDiff, Go.Addr.add, ↓reduceIte] at hx104_1)
            (try simp only [show (1 : Int).toNat = 1 from rfl, Nat.reduceMul, Nat.reduceEqDiff, Go.Addr.add, ↓reduceIte] at hx104_2)
            (try simp only [show (1 : Int).toNat = 1 from rfl, Nat.reduceMul, Nat.reduceEqDiff, Go.Addr.add, ↓reduceIte] at hx104_3)
            (try simp only [show (1 : Int).toNat = 1 from rfl, Nat.reduceMul, Nat.reduceEqDiff, Go.Addr.add, ↓reduceIte] at hx104_4)
            (try simp only [show (1 : Int).toNat = 1 from rfl, Nat.reduceMul, Nat.reduceEqDiff, Go.Addr.add, ↓reduceIte] at hx104_5)
            have qi104 : (1 < l0.length) = True := eq_true (by omega)
            (try rw [show ((1 : Int)).toNat = 1 from rfl] at hx104_0)
            (try rw [show 1 * 6 = 6 from rfl] at hx104_0)
            (try rw [show ((1 : Int)).toNat = 1 from rfl] at hx104_1)
            (try rw [show 1 * 6 = 6 from rfl] at hx104_1)
            (try rw [show ((1 : Int)).toNat = 1 from rfl] at hx104_2)
            (try rw [show 1 * 6 = 6 from rfl] at hx104_2)
            (try rw [show ((1 : Int)).toNat = 1 from rfl] at hx104_3)
            (try rw [show 1 * 6 = 6 from rfl] at hx104_3)
            (try rw [show ((1 : Int)).toNat = 1 from rfl] at hx104_4)
            (try rw [show 1 * 6 = 6 from rfl] at hx104_4)
            (try rw [show ((1 : Int)).toNat = 1 from rfl] at hx104_5)
            (try rw [show 1 * 6 = 6 from rfl] at hx104_5)
            replace p104 := eq_true p104
            replace q104 := eq_true q104
            go_enter Tryz.func54, Tryz.ntmps54
            go_wp2
            go_ret
            exact ⟨by first | rfl | (simp; done) | (simp [*]; done), by repeat (first | exact Drawn0.refl _ | apply Drawn0.step)⟩
          · rw [if_neg c6] at H
            have c6b0 : (((rd_T53 l0 1).f0) == 3) = false := beq_eq_false_iff_ne.mpr c6
            have c6b1 : (((rd_T53 l0 1).f0) != 3) = true := bne_iff_ne.mpr c6
            obtain rfl := Option.some.inj H
            have p102 : 0 ≤ (0 : Int) := (by omega)
            have q102 : 0 < (l0.length : Int) := of_decide_eq_true (by first | (with_reducible assumption) | assumption)
            obtain ⟨ad102, e102, hx102_0, hx102_1, hx102_2, hx102_3, hx102_4, hx102_5⟩ := at_T53 HR0.out 0 p102 q102
            cases e102
            have qi102 : (0 < l0.length) = True := eq_true (by omega)
            (try rw [show ((0 : Int)).toNat = 0 from rfl] at hx102_0)
            (try rw [show 0 * 6 = 0 from rfl] at hx102_0)
            (try rw [Addr.add_zero'] at hx102_0)
            (try rw [show ((0 : Int)).toNat = 0 from rfl] at hx102_1)
            (try rw [show 0 * 6 = 0 from rfl] at hx102_1)
            (try rw [Addr.add_zero'] at hx102_1)
            (try rw [show ((0 : Int)).toNat = 0 from rfl] at hx102_2)
            (try rw [show 0 * 6 = 0 from rfl] at hx102_2)
            (try rw [Addr.add_zero'] at hx102_2)
            (try rw [show ((0 : Int)).toNat = 0 from rfl] at hx102_3)
            (try rw [show 0 * 6 = 0 from rfl] at hx102_3)
            (try rw [Addr.add_zero'] at hx102_3)
            (try rw [show ((0 : Int)).toNat = 0 from rfl] at hx102_4)
            (try rw [show 0 * 6 = 0 from rfl] at hx102_4)
            (try rw [Addr.add_zero'] at hx102_4)
            (try rw [show ((0 : Int)).toNat = 0 from rfl] at hx102_5)
            (try rw [show 0 * 6 = 0 from rfl] at hx102_5)
            (try rw [Addr.add_zero'] at hx102_5)
            replace p102 := eq_true p102
            replace q102 := eq_true q102
            have p103 : 0 ≤ (1 : Int) := (by omega)
            have q103 : 1 < (l0.length : Int) := of_decide_eq_true (by first | (with_reducible assumption) | assumption)
            obtain ⟨ad103, e103, hx103_0, hx103_1, hx103_2, hx103_3, hx103_4, hx103_5⟩ := at_T53 HR0.out 1 p103 q103
            obtain rfl : ad102 = ad103 := (by injection e103)
            (try simp only [show (1 : Int).toNat = 1 from rfl, Nat.reduceMul, Nat.reduceEqDiff, Go.Addr.add, ↓reduceIte] at hx103_0)
            (try simp only [show (1 : Int).toNat = 1 from rfl, Nat.reduceMul, Nat.reduceEqDiff, Go.Addr.add, ↓reduceIte] at hx103_1)
            (try simp only [show (1 : Int).toNat = 1 from rfl, Nat.reduceMul, Nat.reduceEqDiff, Go.Addr.add, ↓reduceIte] at hx103_2)
            (try simp only [show (1 : Int).toNat = 1 from rfl, Nat.reduceMul, Nat.reduceEqDiff, Go.Addr.add, ↓reduceIte] at hx103_3)
            (try simp only [show (1 : Int).toNat = 1 from rfl, Nat.reduceMul, Nat.reduceEqDiff, Go.Addr.add, ↓reduceIte] at hx103_4)
            (try simp only [show (1 : Int).toNat = 1 from rfl, Nat.reduceMul, Nat.reduceEqDiff, Go.Addr.add, ↓reduceIte] at hx103_5)
            have qi103 : (1 < l0.length) = True := eq_true (by omega)
            (try rw [show ((1 : Int)).toNat = 1 from rfl] at hx103_0)
            (try rw [show 1 * 6 = 6 from rfl] at hx103_0)
            (try rw [show ((1 : Int)).toNat = 1 from rfl] at hx103_1)
            (try rw [show 1 * 6 = 6 from rfl] at hx103_1)
            (try rw [show ((1 : Int)).toNat = 1 from rfl] at hx103_2)
            (try rw [show 1 * 6 = 6 from rfl] at hx103_2)
            (try rw [show ((1 : Int)).toNat = 1 from rfl] at hx103_3)
            (try rw [show 1 * 6 = 6 from rfl] at hx103_3)
            (try rw [show ((1 : Int)).toNat = 1 from rfl] at hx103_4)
            (try rw [show 1 * 6 = 6 from rfl] at hx103_4)
            (try rw [show ((1 : Int)).toNat = 1 from rfl] at hx103_5)
            (try rw [show 1 * 6 = 6 from rfl] at hx103_5)
            replace p103 := eq_true p103
            replace q103 := eq_true q103
            go_enter Tryz.func54, Tryz.ntmps54
            go_wp2
            go_ret
            exact ⟨by first | rfl | (simp; done) | (simp [*]; done), by repeat (first | exact Drawn0.refl _ | apply Drawn0.step)⟩
        · rw [if_neg c5] at H
          exact absurd H (by simp)
      · rw [if_neg c4] at H
        have c4b0 : (((rd_T53 l0 0).f0) == 1) = false := beq_eq_false_iff_ne.mpr c4
        have c4b1 : (((rd_T53 l0 0).f0) != 1) = true := bne_iff_ne.mpr c4
        obtain rfl := Option.some.inj H
        have p102 : 0 ≤ (0 : Int) := (by omega)
        have q102 : 0 < (l0.length : Int) := of_decide_eq_true (by first | (with_reducible assumption) | assumption)
        obtain ⟨ad102, e102, hx102_0, hx102_1, hx102_2, hx102_3, hx102_4, hx102_5⟩ := at_T53 HR0.out 0 p102 q102
        cases e102
        have qi102 : (0 < l0.length) = True := eq_true (by omega)
        (try rw [show ((0 : Int)).toNat = 0 from rfl] at hx102_0)
        (try rw [show 0 * 6 = 0 from rfl] at hx102_0)
        (try rw [Addr.add_zero'] at hx102_0)
        (try rw [show ((0 : Int)).toNat = 0 from rfl] at hx102_1)
        (try rw [show 0 * 6 = 0 from rfl] at hx102_1)
        (try rw [Addr.add_zero'] at hx102_1)
        (try rw [show ((0 : Int)).toNat = 0 from rfl] at hx102_2)
        (try rw [show 0 * 6 = 0 from rfl] at hx102_2)
        (try rw [Addr.add_zero'] at hx102_2)
        (try rw [show ((0 : Int)).toNat = 0 from rfl] at hx102_3)
        (try rw [show 0 * 6 = 0 from rfl] at hx102_3)
        (try rw [Addr.add_zero'] at hx102_3)
        (try rw [show ((0 : Int)).toNat = 0 from rfl] at hx102_4)
        (try rw [show 0 * 6 = 0 from rfl] at hx102_4)
        (try rw [Addr.add_zero'] at hx102_4)
        (try rw [show ((0 : Int)).toNat = 0 from rfl] at hx102_5)
        (try rw [show 0 * 6 = 0 from rfl] at hx102_5)
        (try rw [Addr.add_zero'] at hx102_5)
        replace p102 := eq_true p102
        replace q102 := eq_true q102
        go_enter Tryz.func54, Tryz.ntmps54
        go_wp2
        go_ret
        exact ⟨by first | rfl | (simp; done) | (simp [*]; done), by repeat (first | exact Drawn0.refl _ | apply Drawn0.step)⟩
    · rw [if_neg c3] at H
      exact absurd H (by simp)
  · rw [if_neg c2] at H
    have c2b0 : ((l0.length : Int) == 2) = false := beq_eq_false_iff_ne.mpr c2
    have c2b1 : ((l0.length : Int) != 2) = true := bne_iff_ne.mpr c2
    obtain rfl := Option.some.inj H
    go_enter Tryz.func54, Tryz.ntmps54
    go_wp2
    go_ret
    exact ⟨by first | rfl | (simp; done) | (simp [*]; done), by repeat (first | exact Drawn0.refl _ | apply Drawn0.step)⟩
end Go.Proofs.YtkkpjonfaflkmaaGreatDoor.T

namespace Go.Proofs.YtkkpjonfaflkmaaGreatDoor.T
set_option linter.unusedSimpArgs false
set_option linter.unusedVariables false
open Go.RowKit Go.Proofs.YtkkpjonfaflkmaaGreatDoorW.PrintWords Go.Proofs.YtkkpjonfaflkmaaGreatDoorW.PrintLast Go.Proofs.YtkkpjonfaflkmaaGreatDoorW.PrintMore
def toS (t : S.Tk) : S53 := ⟨t.kind, strOfNums t.text, t.gap, t.line, t.at_, t.to⟩
theorem tksL_at : ∀ (l : List S.Tk) (j : Nat) (t : S.Tk), l[j]? = some t → ((tksL l).drop (j * 6)).take 6 = tkL t
  | [], j, t, h => by simp at h
  | a :: l, 0, t, h => by
    simp only [List.getElem?_cons_zero, Option.some.injEq] at h
    subst h
    simp only [tksL, List.map_cons, List.flatten_cons, Nat.zero_mul, List.drop_zero]
    rw [List.take_append, List.take_of_length_le (by show 6 ≤ 6; omega)]
    have : 6 - (tkL a).length = 0 := rfl
    rw [this, List.take_zero, List.append_nil]
  | a :: l, j + 1, t, h => by
    simp only [List.getElem?_cons_succ] at h
    have := tksL_at l j t h
    rw [← this]
    congr 1
    simp only [tksL, List.map_cons, List.flatten_cons]
    rw [List.drop_append]
    rw [List.drop_eq_nil_of_le (by show 6 ≤ _; omega), List.nil_append]
    congr 1
    show (j + 1) * 6 - 6 = j * 6
    omega
theorem tks_reps {W : World} {base : Nat} {ok : Nat → Prop} (cur : List S.Tk) : Reps (k53.M W base ok) 6 (cur.map toS) (tksL cur) := by
  refine ⟨by rw [tksL_length, List.length_map], fun j p hj => ?_⟩
  rw [List.getElem?_map] at hj
  cases hc : cur[j]? with
  | none => rw [hc] at hj; cases hj
  | some t =>
    rw [hc] at hj
    simp only [Option.map_some, Option.some.injEq] at hj
    subst hj
    rw [tksL_at cur j t hc]
    exact k53_mkM W base ok (toS t)
theorem tks_R {W : World} {base : Nat} {v : Value} {cur : List S.Tk} (h : W.ownsRow base 53 6 v cur.length (tksL cur)) : Kd.R k53 53 W base (fun _ => True) v (cur.map toS) :=
  ⟨fun _ _ => trivial, tksL cur, by rw [List.length_map]; exact h, tks_reps cur⟩
theorem tks_C {W : World} {base : Nat} {A : Option Addr} {n c : Nat} {cur : List S.Tk} (h : W.ownsRow base 53 6 (.slice A n c) cur.length (tksL cur)) : n = cur.length ∧ n ≤ c ∧ Kd.C k53 W A (cur.map toS).length (cur.map toS) := by
  obtain ⟨A', c', e, hc, hC⟩ := Kd.R_reads (tks_R h)
  simp only [Value.slice.injEq, List.length_map] at e hc
  obtain ⟨rfl, rfl, rfl⟩ := e
  exact ⟨rfl, hc, hC⟩
def Bytes (t : S.Tk) : Prop := ∀ x ∈ t.text, 0 ≤ x ∧ x < 256
theorem text_eq {t : S.Tk} (h : Bytes t) (c : UInt8) : ((strOfNums t.text).toList == [c]) = decide (t.text = [(c.toNat : Int)]) := by
  rw [str_eq, bytesOf_str _ h]
  rfl
theorem comma_f (cur : List S.Tk) (hb : ∀ t ∈ cur, Bytes t) (hl : cur.length ≤ 1000000) : scan_comma.f (cur.map toS) = some (S.comma cur) := by
  unfold scan_comma.f S.comma
  rcases List.eq_nil_or_concat cur with rfl | ⟨l, t, rfl⟩
  · rfl
  · have hlen : ((List.concat l t).map toS).length = l.length + 1 := by simp
    have hw : wrap64 ((((List.concat l t).map toS).length : Int) - 1) = (l.length : Int) := by
      rw [hlen]
      have : l.length ≤ 1000000 := by simp at hl; omega
      unfold wrap64; omega
    rw [if_pos (by rw [hlen]; omega), hw, if_pos (by omega), if_pos (by rw [hlen]; omega)]
    have hrd : rd_T53 ((List.concat l t).map toS) (l.length : Int) = toS t := by
      unfold rd_T53
      simp
    rw [hrd]
    have hlast : (List.concat l t).getLast? = some t := by simp
    rw [hlast]
    have ht : Bytes t := hb t (by simp)
    show (if ((t.kind : Nat) : Int) = 3 then some ((strOfNums t.text).toList == [44]) else some false) = some (decide (t.kind = 3) && decide (t.text = [44]))
    rw [text_eq ht]
    by_cases hk : t.kind = 3
    · rw [if_pos (by omega)]; simp [hk]
    · rw [if_neg (by omega)]; simp [hk]
theorem label_f (cur : List S.Tk) (hb : ∀ t ∈ cur, Bytes t) : scan_label.f (cur.map toS) = some (S.label cur) := by
  unfold scan_label.f
  rcases cur with _ | ⟨a, _ | ⟨b, _ | ⟨c, r⟩⟩⟩
  · rfl
  · rw [if_neg (by simp)]; rfl
  · have hlen : (([a, b] : List S.Tk).map toS).length = 2 := rfl
    rw [hlen, if_pos (by omega), if_pos (by omega)]
    have ha : rd_T53 (([a, b] : List S.Tk).map toS) 0 = toS a := rfl
    have hb' : rd_T53 (([a, b] : List S.Tk).map toS) 1 = toS b := rfl
    rw [ha, hb', if_pos (by omega : (1 : Int) < (2 : Nat))]
    show (if ((a.kind : Nat) : Int) = 1 then (if ((b.kind : Nat) : Int) = 3 then some ((strOfNums b.text).toList == [58]) else some false) else some false) = some (decide (a.kind = 1) && decide (b.kind = 3) && decide (b.text = [58]))
    rw [text_eq (hb b (by simp))]
    by_cases h1 : a.kind = 1
    · rw [if_pos (by omega)]
      by_cases h2 : b.kind = 3
      · rw [if_pos (by omega)]; simp [h1, h2]
      · rw [if_neg (by omega)]; simp [h1, h2]
    · rw [if_neg (by omega)]; simp [h1]
  · rw [if_neg (by simp only [List.map_cons, List.length_cons]; omega)]; rfl
end Go.Proofs.YtkkpjonfaflkmaaGreatDoor.T
