/- Part 10 of the proof of ScanCase: the functions that it calls return what their plain descriptions say. -/
import Derived.Test.YtkkpjonfaflkmaaGreatDoorCScanCase9
import Derived.RecoverIn
import Derived.Test.YtkkpjonfaflkmaaGreatDoorCScanCase3
import Derived.Test.YtkkpjonfaflkmaaGreatDoorCScanCase4

namespace Go.Proofs.YtkkpjonfaflkmaaGreatDoor.T
set_option linter.unusedSimpArgs false
set_option linter.unusedVariables false
open Go.RowKit Go.Proofs.YtkkpjonfaflkmaaGreatDoorW.PrintWords Go.Proofs.YtkkpjonfaflkmaaGreatDoorW.PrintLast Go.Proofs.YtkkpjonfaflkmaaGreatDoorW.PrintMore
attribute [local go_sem] Oper.semAt_some
set_option maxRecDepth 100000 in
set_option maxHeartbeats 400000 in
theorem deferred_idle (n : Nat) (p q r : Value) (W : World) :
    CallsDIn Fence.wide n Tryz.prog 89 #[p, q, r] .returning W fun e u' W' => e = .returned (.tuple #[]) ∧ u' = .returning ∧ W' = W := by
  refine callsDIn_of_wpSIn Tryz.func89 rfl trivial fun c₀ cs hu => ?_
  have hwf : ∀ f, Fence.wide.fn f := fun _ => trivial
  simp only [Tryz.ntmps89, List.size_toArray, List.length_cons, List.length_nil, Nat.reduceAdd, Nat.reduceSub, Array.replicate_succ, Array.replicate_zero, List.push_toArray, List.append_toArray, List.nil_append, List.cons_append]
  apply wpSIn_seq
  apply wpSIn_region
  simp [wpOpsSIn, go_sem, recoverD, hu, Tryz.ntmps89, Exit.thenS, hwf]
  refine wpSIn_of_wpIn rfl ?_
  generalize hQ : (fun (e : Exit) (a' : Act) (w' : World) => _) = Q
  gi_wp2
  rw [← hQ]
  refine ⟨rfl, .returning, ?_, _, results_none rfl _ _ _, rfl, rfl, rfl⟩
  rw [← hu]
def partial_ (cur : List S.Tk) : List (List S.Tk) := if cur = [] then [] else [cur]
set_option maxRecDepth 100000 in
set_option maxHeartbeats 4000000 in
theorem deferred_panic (n : Nat) (hn : 1 ≤ n) {l CB GB YB FB fp base : Nat} {J : List (List S.Tk) → (Nat → Prop) → World → Prop} (C : Client l (n - 1) J) (c ln a b : Int) {v : Value} {cur : List S.Tk} {gap : Bool} {pre : List (List S.Tk)} {F : Nat → Prop} (W : World)
    (hC : Cur CB GB YB l base v cur gap W) (hJ : J pre F W) (hF : ∀ k, F k → k ≠ CB ∧ k ≠ GB ∧ k ≠ YB ∧ v.ownBlock ≠ some k) (hFp : ∀ k, F k → k ≠ fp) (hfp : W.heap[fp]? = some (.cells #[.int .i64 a, .int .i64 b] 76 (0, 0)))
    (hfb : W.heap[FB]? = some (.cells #[.pointer (some ⟨fp, 0, none⟩)] 88 (0, 0))) (hne : fp ≠ CB ∧ fp ≠ YB ∧ fp < base) (hgb : fp ≠ GB) (hlen : pre.flatten.length + cur.length ≤ 300000) :
    CallsDIn Fence.wide n Tryz.prog 89 #[.pointer (some ⟨FB, 0, none⟩), .pointer (some ⟨CB, 0, none⟩), .pointer (some ⟨YB, 0, none⟩)] (.panicking [{ v := fl c ln, recovered := false }]) W fun e u' W' =>
      e = .returned (.tuple #[]) ∧ u' = .panicking [{ v := fl c ln, recovered := true }] ∧ (∃ F', J (pre ++ partial_ cur) F' W') ∧ W'.heap[fp]? = some (.cells #[.int .i64 c, .int .i64 ln] 76 (0, 0)) := by
  obtain ⟨A, cn, cap, hv, hcn⟩ : ∃ A cn cap, v = .slice A cn cap ∧ cur.length = cn := by
    rcases hC.own.2 with ⟨rfl, e2⟩ | ⟨g, cap, cs, rfl, _⟩
    · exact ⟨_, _, _, rfl, e2⟩
    · exact ⟨_, _, _, rfl, rfl⟩
  subst hv
  have HC := Aside0.mk hC
  have HJ := Aside0.mk hJ
  have HF := Aside0.mk hF
  have HFP := Aside0.mk hFp
  have HP := Aside0.mk hfp
  have HCN := Aside0.mk hcn
  have HFB := Aside0.mk hfb
  have c1 : W.cell? ⟨CB, 0, none⟩ = some (.slice A cn cap) := (blk_cell hC.cb 0).trans rfl
  have c3 : W.cell? ⟨YB, 0, none⟩ = some (.func (.yield l) #[] #[]) := (blk_cell hC.yb 0).trans rfl
  have c4 : W.cell? ⟨FB, 0, none⟩ = some (.pointer (some ⟨fp, 0, none⟩)) := (blk_cell hfb 0).trans rfl
  have p0 : W.cell? ⟨fp, 0, none⟩ = some (.int .i64 a) := (blk_cell hfp 0).trans rfl
  have p1 : W.cell? ⟨fp, 1, none⟩ = some (.int .i64 b) := (blk_cell hfp 1).trans rfl
  have q0 := blk_frozen hfp 0
  have q1 := blk_frozen hfp 1
  have hta : ∀ X : World, (Instr.typeAssert (.iface 76 (.agg #[.int .i64 c, .int .i64 ln])) 20 76 true).run Tryz.prog X = .ok (.tuple #[.agg #[.int .i64 c, .int .i64 ln], .bool true]) X := fun X => by kernel_rfl
  have hu76 := Tryz.underlying76
  clear hC hJ hF hFp hfp hcn hfb
  refine callsDIn_of_wpSIn Tryz.func89 rfl trivial fun c₀ cs hu => ?_
  have hwf : ∀ f, Fence.wide.fn f := fun _ => trivial
  simp only [Tryz.ntmps89, List.size_toArray, List.length_cons, List.length_nil, Nat.reduceAdd, Nat.reduceSub, Array.replicate_succ, Array.replicate_zero, List.push_toArray, List.append_toArray, List.nil_append, List.cons_append]
  apply wpSIn_seq
  apply wpSIn_region
  simp [wpOpsSIn, go_sem, recoverD, hu, Tryz.ntmps89, Exit.thenS, hwf, fl]
  refine wpSIn_of_wpIn rfl ?_
  generalize hQ : (fun (e : Exit) (a' : Act) (w' : World) => _) = Q
  gi_upto_region 5 with (fail)
  have hb1 : But (fun _ => False) W (W.alloc (.cells #[.int .i64 c, .int .i64 ln] 76)) := (But.refl _ W).alloc _
  have hn1 := heap_alloc_new W (.cells #[.int .i64 c, .int .i64 ln] 76)
  have hf1 : ∀ (k : Nat) (o : Obj), W.heap[k]? = some o → (W.alloc (.cells #[.int .i64 c, .int .i64 ln] 76)).heap[k]? = some o := fun k o h => (hb1.block k (Array.getElem?_eq_some_iff.1 h).1 (fun e => e)).trans h
  have hfb1 := hf1 _ _ HFB.out
  have hfp1 := hf1 _ _ HP.out
  have hj1 := C.stable HJ.out (hb1.mono (B := fun k => ¬ F k) (fun _ _ e => e.elim))
  have hc1 := HC.out.but hb1 (fun _ e => e.elim)
  obtain ⟨H, hH⟩ : ∃ H, W.heap.size = H := ⟨_, rfl⟩
  rw [hH] at hn1 ⊢
  have hlt : fp ≠ H ∧ FB ≠ H := by
    have h1 := (Array.getElem?_eq_some_iff.1 HP.out).1
    have h2 := (Array.getElem?_eq_some_iff.1 HFB.out).1
    omega
  clear c1 c3 c4 p0 p1 q0 q1 hf1 hta hH
  generalize W.alloc (.cells #[.int .i64 c, .int .i64 ln] 76) = W1 at *
  have c4 : W1.cell? ⟨FB, 0, none⟩ = some (.pointer (some ⟨fp, 0, none⟩)) := (blk_cell hfb1 0).trans rfl
  have e0 : W1.cell? ⟨H, 0, none⟩ = some (.int .i64 c) := (blk_cell hn1 0).trans rfl
  have e1 : W1.cell? ⟨H, 1, none⟩ = some (.int .i64 ln) := (blk_cell hn1 1).trans rfl
  have p0 : W1.cell? ⟨fp, 0, none⟩ = some (.int .i64 a) := (blk_cell hfp1 0).trans rfl
  have p1 : W1.cell? ⟨fp, 1, none⟩ = some (.int .i64 b) := (blk_cell hfp1 1).trans rfl
  have q0 := blk_frozen hfp1 0
  have q1 := blk_frozen hfp1 1
  obtain ⟨n1, n2, n3⟩ := hne
  have hb2 : But (fun k => k = fp) W1 ((W1.setCell ⟨fp, 0, none⟩ (.int .i64 c)).setCell ⟨fp, 1, none⟩ (.int .i64 ln)) := ((But.refl (fun k => k = fp) W1).set ⟨fp, 0, none⟩ _ rfl).set ⟨fp, 1, none⟩ _ rfl
  have hfp2 : ((W1.setCell ⟨fp, 0, none⟩ (.int .i64 c)).setCell ⟨fp, 1, none⟩ (.int .i64 ln)).heap[fp]? = some (.cells #[.int .i64 c, .int .i64 ln] 76 (0, 0)) := blk_put (blk_put hfp1 0 _ rfl) 1 _ rfl
  have hj2 := C.stable hj1 (hb2.mono (B := fun k => ¬ F k) (fun k _ e hf => HFP.out k hf e))
  have hc2 := hc1.but hb2 (fun k e => by
    have hg := hc1.n1
    refine ⟨by omega, ?_, by omega, fun h => ?_⟩
    · rw [e]; exact hgb
    · have := (hc1.own.lt k h).1
      omega)
  have HJ2 := Aside0.mk hj2
  have HC2 := Aside0.mk hc2
  have HP2 := Aside0.mk hfp2
  clear hb1 hb2 hj1 hj2 hc1 hc2 hfp1 hfp2 hfb1 hn1
  gi_upto_region 6 with (fail)
  generalize (W1.setCell ⟨fp, 0, none⟩ (.int .i64 c)).setCell ⟨fp, 1, none⟩ (.int .i64 ln) = W2 at *
  clear c4 e0 e1 p0 p1 q0 q1
  have c1 : W2.cell? ⟨CB, 0, none⟩ = some (.slice A cn cap) := (blk_cell HC2.out.cb 0).trans rfl
  have c3 : W2.cell? ⟨YB, 0, none⟩ = some (.func (.yield l) #[] #[]) := (blk_cell HC2.out.yb 0).trans rfl
  by_cases h0 : cn = 0
  · subst h0
    have hnil : cur = [] := List.length_eq_zero_iff.1 HCN.out
    gi_wp2
    rw [← hQ]
    refine ⟨rfl, _, rfl, _, results_none rfl _ _ _, rfl, by first | rfl | (simp [fl]; done), ⟨F, ?_⟩, HP2.out⟩
    rw [hnil]
    simpa [partial_] using HJ2.out
  · have g0 : decide ((0 : Int) < (cn : Int)) = true := decide_eq_true (by omega)
    have g1 : decide (0 < cn) = true := decide_eq_true (by omega)
    have hY := C.yield HJ2.out HC2.out.own (fun e => by rw [e] at HCN; have := HCN.out; simp at this; omega) (fun k hk => (HF.out k hk).2.2.2) hlen
    obtain ⟨fn, tmps, assign, body, hy, hR⟩ := hY
    have HR := Lib.hid hR
    clear hR
    gi_wp2
    refine HR.out.mono ?_
    rintro e W3 ⟨rfl, F', hj3, hb3, hf3⟩
    gi_wp2
    rw [← hQ]
    refine ⟨rfl, _, rfl, _, results_none rfl _ _ _, rfl, by first | rfl | (simp [fl]; done), ⟨F', ?_⟩, ?_⟩
    · have : partial_ cur = [cur] := by
        unfold partial_
        rw [if_neg (fun e => by rw [e] at HCN; have := HCN.out; simp at this; omega)]
      rw [this]; exact hj3
    · exact (hb3.block fp (Array.getElem?_eq_some_iff.1 HP2.out).1 (fun hf => HFP.out fp hf rfl)).trans HP2.out
end Go.Proofs.YtkkpjonfaflkmaaGreatDoor.T

namespace Go.Proofs.YtkkpjonfaflkmaaGreatDoor.T
set_option linter.unusedSimpArgs false
open Go.RowKit Go.Proofs.YtkkpjonfaflkmaaGreatDoorW.PrintWords Go.Proofs.YtkkpjonfaflkmaaGreatDoorW.PrintLast Go.Proofs.YtkkpjonfaflkmaaGreatDoorW.PrintMore
attribute [local go_sem] max2_int min2_int max_two min_two max_three min_three max_four min_four   -- for this text's walks alone
set_option linter.unusedVariables false
set_option linter.unusedSimpArgs false
def scan_comma.f (l0 : List (S53)) : Option (Bool) := if (l0.length : Int) > 0 then (if 0 ≤ (wrap64 ((l0.length : Int) - 1)) then (if (wrap64 ((l0.length : Int) - 1)) < (l0.length : Int) then (if ((rd_T53 l0 (wrap64 ((l0.length : Int) - 1))).f0) = 3 then (some (((rd_T53 l0 (wrap64 ((l0.length : Int) - 1))).f1).toList == ([44] : List UInt8))) else (some false)) else (none)) else (none)) else (some false)
set_option maxHeartbeats 8000000 in
set_option maxRecDepth 100000 in
theorem scan_comma.calls (A0 : Option Addr) (c0 : Nat) (l0 : List (S53)) (r : Bool) (w : World) (hr0 : Kd.C k53 w A0 l0.length l0) (hc0 : l0.length ≤ c0) (h : scan_comma.f l0 = some r) :
    Calls Tryz.prog 92 #[.slice A0 l0.length c0] w fun e w' => e = .returned (.bool r) ∧ Drawn0 w w' := by
  have HR0 := Aside0.mk hr0
  have HC0 := Aside0.mk hc0
  clear hr0 hc0
  have H : (if (l0.length : Int) > 0 then (if 0 ≤ (wrap64 ((l0.length : Int) - 1)) then (if (wrap64 ((l0.length : Int) - 1)) < (l0.length : Int) then (if ((rd_T53 l0 (wrap64 ((l0.length : Int) - 1))).f0) = 3 then (some (((rd_T53 l0 (wrap64 ((l0.length : Int) - 1))).f1).toList == ([44] : List UInt8))) else (some false)) else (none)) else (none)) else (some false)) = some r := h
  clear h
  by_cases c2 : (l0.length : Int) > 0
  · rw [if_pos c2] at H
    have c2b0 : decide (0 < (l0.length : Int)) = true := decide_eq_true c2
    have c2b1 : decide (0 < l0.length) = true := decide_eq_true (by omega)
    clear c2
    obtain ⟨ji3, hji3⟩ : ∃ j_ : Int, (wrap64 ((l0.length : Int) - 1)) = j_ := ⟨_, rfl⟩
    replace H : (if 0 ≤ (ji3) then (if (ji3) < (l0.length : Int) then (if ((rd_T53 l0 (ji3)).f0) = 3 then (some (((rd_T53 l0 (ji3)).f1).toList == ([44] : List UInt8))) else (some false)) else (none)) else (none)) = some r := by first | (rw [hji3] at H; exact H) | (simp only [hji3] at H ⊢; exact H)
    have hji3w : (IntKind.i64.wrap ((l0.length : Int) - 1)) = ji3 := (i64_w _).trans hji3
    by_cases c4 : 0 ≤ (ji3)
    · rw [if_pos c4] at H
      have c4b0 : decide (0 ≤ (ji3)) = true := decide_eq_true c4
      clear c4
      by_cases c5 : (ji3) < (l0.length : Int)
      · rw [if_pos c5] at H
        have c5b0 : decide ((ji3) < (l0.length : Int)) = true := decide_eq_true c5
        clear c5
        by_cases c6 : ((rd_T53 l0 (ji3)).f0) = 3
        · rw [if_pos c6] at H
          have c6b0 : (((rd_T53 l0 (ji3)).f0) == 3) = true := beq_iff_eq.mpr c6
          have c6b1 : (((rd_T53 l0 (ji3)).f0) != 3) = false := bne_eq_false_iff_eq.mpr c6
          clear c6
          obtain rfl := Option.some.inj H
          have p146 : 0 ≤ ((ji3) : Int) := of_decide_eq_true (by first | (with_reducible assumption) | assumption)
          have q146 : (ji3) < (l0.length : Int) := of_decide_eq_true (by first | (with_reducible assumption) | assumption)
          obtain ⟨ad146, e146, hx146_0, hx146_1, hx146_2, hx146_3, hx146_4, hx146_5⟩ := at_T53 HR0.out (ji3) p146 q146
          cases e146
          replace p146 := eq_true p146
          replace q146 := eq_true q146
          have p147 : 0 ≤ ((ji3) : Int) := of_decide_eq_true (by first | (with_reducible assumption) | assumption)
          have q147 : (ji3) < (l0.length : Int) := of_decide_eq_true (by first | (with_reducible assumption) | assumption)
          obtain ⟨ad147, e147, hx147_0, hx147_1, hx147_2, hx147_3, hx147_4, hx147_5⟩ := at_T53 HR0.out (ji3) p147 q147
          obtain rfl : ad146 = ad147 := (by injection e147)
          replace p147 := eq_true p147
          replace q147 := eq_true q147
          go_enter Tryz.func92, Tryz.ntmps92
          go_wp2
          go_ret
          exact ⟨by first | rfl | (simp; done) | (simp only [← hji3] <;> (first | rfl | simp)) | (simp [*]; done), by repeat (first | exact Drawn0.refl _ | apply Drawn0.step)⟩
        · rw [if_neg c6] at H
          have c6b0 : (((rd_T53 l0 (ji3)).f0) == 3) = false := beq_eq_false_iff_ne.mpr c6
          have c6b1 : (((rd_T53 l0 (ji3)).f0) != 3) = true := bne_iff_ne.mpr c6
          obtain rfl := Option.some.inj H
          have p146 : 0 ≤ ((ji3) : Int) := of_decide_eq_true (by first | (with_reducible assumption) | assumption)
          have q146 : (ji3) < (l0.length : Int) := of_decide_eq_true (by first | (with_reducible assumption) | assumption)
          obtain ⟨ad146, e146, hx146_0, hx146_1, hx146_2, hx146_3, hx146_4, hx146_5⟩ := at_T53 HR0.out (ji3) p146 q146
          cases e146
          replace p146 := eq_true p146
          replace q146 := eq_true q146
          go_enter Tryz.func92, Tryz.ntmps92
          go_wp2
          go_ret
          exact ⟨by first | rfl | (simp; done) | (simp only [← hji3] <;> (first | rfl | simp)) | (simp [*]; done), by repeat (first | exact Drawn0.refl _ | apply Drawn0.step)⟩
      · rw [if_neg c5] at H
        exact absurd H (by simp)
    · rw [if_neg c4] at H
      exact absurd H (by simp)
  · rw [if_neg c2] at H
    have c2b0 : decide (0 < (l0.length : Int)) = false := decide_eq_false c2
    have c2b1 : decide (0 < l0.length) = false := decide_eq_false (by omega)
    clear c2
    obtain rfl := Option.some.inj H
    go_enter Tryz.func92, Tryz.ntmps92
    go_wp2
    go_ret
    exact ⟨by first | rfl | (simp; done) | (simp [*]; done), by repeat (first | exact Drawn0.refl _ | apply Drawn0.step)⟩
end Go.Proofs.YtkkpjonfaflkmaaGreatDoor.T

namespace Go.Proofs.YtkkpjonfaflkmaaGreatDoor.T
set_option linter.unusedSimpArgs false
open Go.RowKit Go.Proofs.YtkkpjonfaflkmaaGreatDoorW.PrintWords Go.Proofs.YtkkpjonfaflkmaaGreatDoorW.PrintLast Go.Proofs.YtkkpjonfaflkmaaGreatDoorW.PrintMore
attribute [local go_sem] max2_int min2_int max_two min_two max_three min_three max_four min_four   -- for this text's walks alone
set_option linter.unusedVariables false
set_option linter.unusedSimpArgs false
def scan_label.f (l0 : List (S53)) : Option (Bool) := if (l0.length : Int) = 2 then (if 0 < (l0.length : Int) then (if ((rd_T53 l0 0).f0) = 1 then (if 1 < (l0.length : Int) then (if ((rd_T53 l0 1).f0) = 3 then (some (((rd_T53 l0 1).f1).toList == ([58] : List UInt8))) else (some false)) else (none)) else (some false)) else (none)) else (some false)
set_option maxHeartbeats 8000000 in
set_option maxRecDepth 100000 in
theorem scan_label.calls (A0 : Option Addr) (c0 : Nat) (l0 : List (S53)) (r : Bool) (w : World) (hr0 : Kd.C k53 w A0 l0.length l0) (hc0 : l0.length ≤ c0) (h : scan_label.f l0 = some r) :
    Calls Tryz.prog 54 #[.slice A0 l0.length c0] w fun e w' => e = .returned (.bool r) ∧ Drawn0 w w' := by
  have HR0 := Aside0.mk hr0
  have HC0 := Aside0.mk hc0
  clear hr0 hc0
  have H : (if (l0.length : Int) = 2 then (if 0 < (l0.length : Int) then (if ((rd_T53 l0 0).f0) = 1 then (if 1 < (l0.length : Int) then (if ((rd_T53 l0 1).f0) = 3 then (some (((rd_T53 l0 1).f1).toList == ([58] : List UInt8))) else (some false)) else (none)) else (some false)) else (none)) else (some false)) = some r := h
  clear h
  by_cases c2 : (l0.length : Int) = 2
  · rw [if_pos c2] at H
    have c2b0 : ((l0.length : Int) == 2) = true := beq_iff_eq.mpr c2
    have c2b1 : ((l0.length : Int) != 2) = false := bne_eq_false_iff_eq.mpr c2
    clear c2
    by_cases c3 : 0 < (l0.length : Int)
    · rw [if_pos c3] at H
      have c3b0 : decide (0 < (l0.length : Int)) = true := decide_eq_true c3
      have c3b1 : decide (0 < l0.length) = true := decide_eq_true (by omega)
      clear c3
      by_cases c4 : ((rd_T53 l0 0).f0) = 1
      · rw [if_pos c4] at H
        have c4b0 : (((rd_T53 l0 0).f0) == 1) = true := beq_iff_eq.mpr c4
        have c4b1 : (((rd_T53 l0 0).f0) != 1) = false := bne_eq_false_iff_eq.mpr c4
        clear c4
        by_cases c5 : 1 < (l0.length : Int)
        · rw [if_pos c5] at H
          have c5b0 : decide (1 < (l0.length : Int)) = true := decide_eq_true c5
          have c5b1 : decide (1 < l0.length) = true := decide_eq_true (by omega)
          clear c5
          by_cases c6 : ((rd_T53 l0 1).f0) = 3
          · rw [if_pos c6] at H
            have c6b0 : (((rd_T53 l0 1).f0) == 3) = true := beq_iff_eq.mpr c6
            have c6b1 : (((rd_T53 l0 1).f0) != 3) = false := bne_eq_false_iff_eq.mpr c6
            clear c6
            obtain rfl := Option.some.inj H
            have p102 : 0 ≤ (0 : Int) := (by omega)
            have q102 : 0 < (l0.length : Int) := of_decide_eq_true (by first | (with_reducible assumption) | assumption)
            obtain ⟨ad102, e102, hx102_0, hx102_1, hx102_2, hx102_3, hx102_4, hx102_5⟩ := at_T53 HR0.out 0 p102 q102
            cases e102
            have qi102 : (0 < l0.length) = True := eq_true (by omega)
            (try rw [show ((0 : Int)).toNat = 0 from rfl] at hx102_0)
            (try rw [show 0 * 6 = 0 from rfl] at hx102_0)
            (try rw [Addr.add_zero'] at hx102_0)
            (try rw [show ((0 : Int)).toNat = 0 from rfl] at hx102_1)
            (try rw [show 0 * 6 = 0 from rfl] at hx102_1)
            (try rw [Addr.add_zero'] at hx102_1)
            (try rw [show ((0 : Int)).toNat = 0 from rfl] at hx102_2)
            (try rw [show 0 * 6 = 0 from rfl] at hx102_2)
            (try rw [Addr.add_zero'] at hx102_2)
            (try rw [show ((0 : Int)).toNat = 0 from rfl] at hx102_3)
            (try rw [show 0 * 6 = 0 from rfl] at hx102_3)
            (try rw [Addr.add_zero'] at hx102_3)
            (try rw [show ((0 : Int)).toNat = 0 from rfl] at hx102_4)
            (try rw [show 0 * 6 = 0 from rfl] at hx102_4)
            (try rw [Addr.add_zero'] at hx102_4)
            (try rw [show ((0 : Int)).toNat = 0 from rfl] at hx102_5)
            (try rw [show 0 * 6 = 0 from rfl] at hx102_5)
            (try rw [Addr.add_zero'] at hx102_5)
            replace p102 := eq_true p102
            replace q102 := eq_true q102
            have p103 : 0 ≤ (1 : Int) := (by omega)
            have q103 : 1 < (l0.length : Int) := of_decide_eq_true (by first | (with_reducible assumption) | assumption)
            obtain ⟨ad103, e103, hx103_0, hx103_1, hx103_2, hx103_3, hx103_4, hx103_5⟩ := at_T53 HR0.out 1 p103 q103
            obtain rfl : ad102 = ad103 := (by injection e103)
            (try simp only [show (1 : Int).toNat = 1 from rfl, Nat.reduceMul, Nat.reduceEqDiff, Go.Addr.add, ↓reduceIte] at hx103_0)
            (try simp only [show (1 : Int).toNat = 1 from rfl, Nat.reduceMul, Nat.reduceEqDiff, Go.Addr.add, ↓reduceIte] at hx103_1)
            (try simp only [show (1 : Int).toNat = 1 from rfl, Nat.reduceMul, Nat.reduceEqDiff, Go.Addr.add, ↓reduceIte] at hx103_2)
            (try simp only [show (1 : Int).toNat = 1 from rfl, Nat.reduceMul, Nat.reduceEqDiff, Go.Addr.add, ↓reduceIte] at hx103_3)
            (try simp only [show (1 : Int).toNat = 1 from rfl, Nat.reduceMul, Nat.reduceEqDiff, Go.Addr.add, ↓reduceIte] at hx103_4)
            (try simp only [show (1 : Int).toNat = 1 from rfl, Nat.reduceMul, Nat.reduceEqDiff, Go.Addr.add, ↓reduceIte] at hx103_5)
            have qi103 : (1 < l0.length) = True := eq_true (by omega)
            (try rw [show ((1 : Int)).toNat = 1 from rfl] at hx103_0)
            (try rw [show 1 * 6 = 6 from rfl] at hx103_0)
            (try rw [show ((1 : Int)).toNat = 1 from rfl] at hx103_1)
            (try rw [show 1 * 6 = 6 from rfl] at hx103_1)
            (try rw [show ((1 : Int)).toNat = 1 from rfl] at hx103_2)
            (try rw [show 1 * 6 = 6 from rfl] at hx103_2)
            (try rw [show ((1 : Int)).toNat = 1 from rfl] at hx103_3)
            (try rw [show 1 * 6 = 6 from rfl] at hx103_3)
            (try rw [show ((1 : Int)).toNat = 1 from rfl] at hx103_4)
            (try rw [show 1 * 6 = 6 from rfl] at hx103_4)
            (try rw [show ((1 : Int)).toNat = 1 from rfl] at hx103_5)
            (try rw [show 1 * 6 = 6 from rfl] at hx103_5)
            replace p103 := eq_true p103
            replace q103 := eq_true q103
            have p104 : 0 ≤ (1 : Int) := (by omega)
            have q104 : 1 < (l0.length : Int) := of_decide_eq_true (by first | (with_reducible assumption) | assumption)
            obtain ⟨ad104, e104, hx104_0, hx104_1, hx104_2, hx104_3, hx104_4, hx104_5⟩ := at_T53 HR0.out 1 p104 q104
            obtain rfl : ad102 = ad104 := (by injection e104)
            (try simp only [show (1 : Int).toNat = 1 from rfl, Nat.reduceMul, Nat.reduceEqDiff, Go.Addr.add, ↓reduceIte] at hx104_0)
            (try simp only [show (1 : Int).toNat = 1 from rfl, Nat.reduceMul, Nat.reduceEqDiff, Go.Addr.add, ↓reduceIte] at hx104_1)
            (try simp only [show (1 : Int).toNat = 1 from rfl, Nat.reduceMul, Nat.reduceEqDiff, Go.Addr.add, ↓reduceIte] at hx104_2)
            (try simp only [show (1 : Int).toNat = 1 from rfl, Nat.reduceMul, Nat.reduceEqDiff, Go.Addr.add, ↓reduceIte] at hx104_3)
            (try simp only [show (1 : Int).toNat = 1 from rfl, Nat.reduceMul, Nat.reduceEqDiff, Go.Addr.add, ↓reduceIte] at hx104_4)
            (try simp only [show (1 : Int).toNat = 1 from rfl, Nat.reduceMul, Nat.reduceEqDiff, Go.Addr.add, ↓reduceIte] at hx104_5)
            have qi104 : (1 < l0.length) = True := eq_true (by omega)
            (try rw [show ((1 : Int)).toNat = 1 from rfl] at hx104_0)
            (try rw [show 1 * 6 = 6 from rfl] at hx104_0)
            (try rw [show ((1 : Int)).toNat = 1 from rfl] at hx104_1)
            (try rw [show 1 * 6 = 6 from rfl] at hx104_1)
            (try rw [show ((1 : Int)).toNat = 1 from rfl] at hx104_2)
            (try rw [show 1 * 6 = 6 from rfl] at hx104_2)
            (try rw [show ((1 : Int)).toNat = 1 from rfl] at hx104_3)
            (try rw [show 1 * 6 = 6 from rfl] at hx104_3)
            (try rw [show ((1 : Int)).toNat = 1 from rfl] at hx104_4)
            (try rw [show 1 * 6 = 6 from rfl] at hx104_4)
            (try rw [show ((1 : Int)).toNat = 1 from rfl] at hx104_5)
            (try rw [show 1 * 6 = 6 from rfl] at hx104_5)
            replace p104 := eq_true p104
            replace q104 := eq_true q104
            go_enter Tryz.func54, Tryz.ntmps54
            go_wp2
            go_ret
            exact ⟨by first | rfl | (simp; done) | (simp [*]; done), by repeat (first | exact Drawn0.refl _ | apply Drawn0.step)⟩
          · rw [if_neg c6] at H
            have c6b0 : (((rd_T53 l0 1).f0) == 3) = false := beq_eq_false_iff_ne.mpr c6
            have c6b1 : (((rd_T53 l0 1).f0) != 3) = true := bne_iff_ne.mpr c6
            obtain rfl := Option.some.inj H
            have p102 : 0 ≤ (0 : Int) := (by omega)
            have q102 : 0 < (l0.length : Int) := of_decide_eq_true (by first | (with_reducible assumption) | assumption)
            obtain ⟨ad102, e102, hx102_0, hx102_1, hx102_2, hx102_3, hx102_4, hx102_5⟩ := at_T53 HR0.out 0 p102 q102
            cases e102
            have qi102 : (0 < l0.length) = True := eq_true (by omega)
            (try rw [show ((0 : Int)).toNat = 0 from rfl] at hx102_0)
            (try rw [show 0 * 6 = 0 from rfl] at hx102_0)
            (try rw [Addr.add_zero'] at hx102_0)
            (try rw [show ((0 : Int)).toNat = 0 from rfl] at hx102_1)
            (try rw [show 0 * 6 = 0 from rfl] at hx102_1)
            (try rw [Addr.add_zero'] at hx102_1)
            (try rw [show ((0 : Int)).toNat = 0 from rfl] at hx102_2)
            (try rw [show 0 * 6 = 0 from rfl] at hx102_2)
            (try rw [Addr.add_zero'] at hx102_2)
            (try rw [show ((0 : Int)).toNat = 0 from rfl] at hx102_3)
            (try rw [show 0 * 6 = 0 from rfl] at hx102_3)
            (try rw [Addr.add_zero'] at hx102_3)
            (try rw [show ((0 : Int)).toNat = 0 from rfl] at hx102_4)
            (try rw [show 0 * 6 = 0 from rfl] at hx102_4)
            (try rw [Addr.add_zero'] at hx102_4)
            (try rw [show ((0 : Int)).toNat = 0 from rfl] at hx102_5)
            (try rw [show 0 * 6 = 0 from rfl] at hx102_5)
            (try rw [Addr.add_zero'] at hx102_5)
            replace p102 := eq_true p102
            replace q102 := eq_true q102
            have p103 : 0 ≤ (1 : Int) := (by omega)
            have q103 : 1 < (l0.length : Int) := of_decide_eq_true (by first | (with_reducible assumption) | assumption)
            obtain ⟨ad103, e103, hx103_0, hx103_1, hx103_2, hx103_3, hx103_4, hx103_5⟩ := at_T53 HR0.out 1 p103 q103
            obtain rfl : ad102 = ad103 := (by injection e103)
            (try simp only [show (1 : Int).toNat = 1 from rfl, Nat.reduceMul, Nat.reduceEqDiff, Go.Addr.add, ↓reduceIte] at hx103_0)
            (try simp only [show (1 : Int).toNat = 1 from rfl, Nat.reduceMul, Nat.reduceEqDiff, Go.Addr.add, ↓reduceIte] at hx103_1)
            (try simp only [show (1 : Int).toNat = 1 from rfl, Nat.reduceMul, Nat.reduceEqDiff, Go.Addr.add, ↓reduceIte] at hx103_2)
            (try simp only [show (1 : Int).toNat = 1 from rfl, Nat.reduceMul, Nat.reduceEqDiff, Go.Addr.add, ↓reduceIte] at hx103_3)
            (try simp only [show (1 : Int).toNat = 1 from rfl, Nat.reduceMul, Nat.reduceEqDiff, Go.Addr.add, ↓reduceIte] at hx103_4)
            (try simp only [show (1 : Int).toNat = 1 from rfl, Nat.reduceMul, Nat.reduceEqDiff, Go.Addr.add, ↓reduceIte] at hx103_5)
            have qi103 : (1 < l0.length) = True := eq_true (by omega)
            (try rw [show ((1 : Int)).toNat = 1 from rfl] at hx103_0)
            (try rw [show 1 * 6 = 6 from rfl] at hx103_0)
            (try rw [show ((1 : Int)).toNat = 1 from rfl] at hx103_1)
            (try rw [show 1 * 6 = 6 from rfl] at hx103_1)
            (try rw [show ((1 : Int)).toNat = 1 from rfl] at hx103_2)
            (try rw [show 1 * 6 = 6 from rfl] at hx103_2)
            (try rw [show ((1 : Int)).toNat = 1 from rfl] at hx103_3)
            (try rw [show 1 * 6 = 6 from rfl] at hx103_3)
            (try rw [show ((1 : Int)).toNat = 1 from rfl] at hx103_4)
            (try rw [show 1 * 6 = 6 from rfl] at hx103_4)
            (try rw [show ((1 : Int)).toNat = 1 from rfl] at hx103_5)
            (try rw [show 1 * 6 = 6 from rfl] at hx103_5)
            replace p103 := eq_true p103
            replace q103 := eq_true q103
            go_enter Tryz.func54, Tryz.ntmps54
            go_wp2
            go_ret
            exact ⟨by first | rfl | (simp; done) | (simp [*]; done), by repeat (first | exact Drawn0.refl _ | apply Drawn0.step)⟩
        · rw [if_neg c5] at H
          exact absurd H (by simp)
      · rw [if_neg c4] at H
        have c4b0 : (((rd_T53 l0 0).f0) == 1) = false := beq_eq_false_iff_ne.mpr c4
        have c4b1 : (((rd_T53 l0 0).f0) != 1) = true := bne_iff_ne.mpr c4
        obtain rfl := Option.some.inj H
        have p102 : 0 ≤ (0 : Int) := (by omega)
        have q102 : 0 < (l0.length : Int) := of_decide_eq_true (by first | (with_reducible assumption) | assumption)
        obtain ⟨ad102, e102, hx102_0, hx102_1, hx102_2, hx102_3, hx102_4, hx102_5⟩ := at_T53 HR0.out 0 p102 q102
        cases e102
        have qi102 : (0 < l0.length) = True := eq_true (by omega)
        (try rw [show ((0 : Int)).toNat = 0 from rfl] at hx102_0)
        (try rw [show 0 * 6 = 0 from rfl] at hx102_0)
        (try rw [Addr.add_zero'] at hx102_0)
        (try rw [show ((0 : Int)).toNat = 0 from rfl] at hx102_1)
        (try rw [show 0 * 6 = 0 from rfl] at hx102_1)
        (try rw [Addr.add_zero'] at hx102_1)
        (try rw [show ((0 : Int)).toNat = 0 from rfl] at hx102_2)
        (try rw [show 0 * 6 = 0 from rfl] at hx102_2)
        (try rw [Addr.add_zero'] at hx102_2)
        (try rw [show ((0 : Int)).toNat = 0 from rfl] at hx102_3)
        (try rw [show 0 * 6 = 0 from rfl] at hx102_3)
        (try rw [Addr.add_zero'] at hx102_3)
        (try rw [show ((0 : Int)).toNat = 0 from rfl] at hx102_4)
        (try rw [show 0 * 6 = 0 from rfl] at hx102_4)
        (try rw [Addr.add_zero'] at hx102_4)
        (try rw [show ((0 : Int)).toNat = 0 from rfl] at hx102_5)
        (try rw [show 0 * 6 = 0 from rfl] at hx102_5)
        (try rw [Addr.add_zero'] at hx102_5)
        replace p102 := eq_true p102
        replace q102 := eq_true q102
        go_enter Tryz.func54, Tryz.ntmps54
        go_wp2
        go_ret
        exact ⟨by first | rfl | (simp; done) | (simp [*]; done), by repeat (first | exact Drawn0.refl _ | apply Drawn0.step)⟩
    · rw [if_neg c3] at H
      exact absurd H (by simp)
  · rw [if_neg c2] at H
    have c2b0 : ((l0.length : Int) == 2) = false := beq_eq_false_iff_ne.mpr c2
    have c2b1 : ((l0.length : Int) != 2) = true := bne_iff_ne.mpr c2
    obtain rfl := Option.some.inj H
    go_enter Tryz.func54, Tryz.ntmps54
    go_wp2
    go_ret
    exact ⟨by first | rfl | (simp; done) | (simp [*]; done), by repeat (first | exact Drawn0.refl _ | apply Drawn0.step)⟩
end Go.Proofs.YtkkpjonfaflkmaaGreatDoor.T

namespace Go.Proofs.YtkkpjonfaflkmaaGreatDoor.T
set_option linter.unusedSimpArgs false
set_option linter.unusedVariables false
open Go.RowKit Go.Proofs.YtkkpjonfaflkmaaGreatDoorW.PrintWords Go.Proofs.YtkkpjonfaflkmaaGreatDoorW.PrintLast Go.Proofs.YtkkpjonfaflkmaaGreatDoorW.PrintMore
def toS (t : S.Tk) : S53 := ⟨t.kind, strOfNums t.text, t.gap, t.line, t.at_, t.to⟩
theorem tksL_at : ∀ (l : List S.Tk) (j : Nat) (t : S.Tk), l[j]? = some t → ((tksL l).drop (j * 6)).take 6 = tkL t
  | [], j, t, h => by simp at h
  | a :: l, 0, t, h => by
    simp only [List.getElem?_cons_zero, Option.some.injEq] at h
    subst h
    simp only [tksL, List.map_cons, List.flatten_cons, Nat.zero_mul, List.drop_zero]
    rw [List.take_append, List.take_of_length_le (by show 6 ≤ 6; omega)]
    have : 6 - (tkL a).length = 0 := rfl
    rw [this, List.take_zero, List.append_nil]
  | a :: l, j + 1, t, h => by
    simp only [List.getElem?_cons_succ] at h
    have := tksL_at l j t h
    rw [← this]
    congr 1
    simp only [tksL, List.map_cons, List.flatten_cons]
    rw [List.drop_append]
    rw [List.drop_eq_nil_of_le (by show 6 ≤ _; omega), List.nil_append]
    congr 1
    show (j + 1) * 6 - 6 = j * 6
    omega
theorem tks_reps {W : World} {base : Nat} {ok : Nat → Prop} (cur : List S.Tk) : Reps (k53.M W base ok) 6 (cur.map toS) (tksL cur) := by
  refine ⟨by rw [tksL_length, List.length_map], fun j p hj => ?_⟩
  rw [List.getElem?_map] at hj
  cases hc : cur[j]? with
  | none => rw [hc] at hj; cases hj
  | some t =>
    rw [hc] at hj
    simp only [Option.map_some, Option.some.injEq] at hj
    subst hj
    rw [tksL_at cur j t hc]
    exact k53_mkM W base ok (toS t)
theorem tks_R {W : World} {base : Nat} {v : Value} {cur : List S.Tk} (h : W.ownsRow base 53 6 v cur.length (tksL cur)) : Kd.R k53 53 W base (fun _ => True) v (cur.map toS) :=
  ⟨fun _ _ => trivial, tksL cur, by rw [List.length_map]; exact h, tks_reps cur⟩
theorem tks_C {W : World} {base : Nat} {A : Option Addr} {n c : Nat} {cur : List S.Tk} (h : W.ownsRow base 53 6 (.slice A n c) cur.length (tksL cur)) : n = cur.length ∧ n ≤ c ∧ Kd.C k53 W A (cur.map toS).length (cur.map toS) := by
  obtain ⟨A', c', e, hc, hC⟩ := Kd.R_reads (tks_R h)
  simp only [Value.slice.injEq, List.length_map] at e hc
  obtain ⟨rfl, rfl, rfl⟩ := e
  exact ⟨rfl, hc, hC⟩
def Bytes (t : S.Tk) : Prop := ∀ x ∈ t.text, 0 ≤ x ∧ x < 256
theorem text_eq {t : S.Tk} (h : Bytes t) (c : UInt8) : ((strOfNums t.text).toList == [c]) = decide (t.text = [(c.toNat : Int)]) := by
  rw [str_eq, bytesOf_str _ h]
  rfl
theorem comma_f (cur : List S.Tk) (hb : ∀ t ∈ cur, Bytes t) (hl : cur.length ≤ 1000000) : scan_comma.f (cur.map toS) = some (S.comma cur) := by
  unfold scan_comma.f S.comma
  rcases List.eq_nil_or_concat cur with rfl | ⟨l, t, rfl⟩
  · rfl
  · have hlen : ((List.concat l t).map toS).length = l.length + 1 := by simp
    have hw : wrap64 ((((List.concat l t).map toS).length : Int) - 1) = (l.length : Int) := by
      rw [hlen]
      have : l.length ≤ 1000000 := by simp at hl; omega
      unfold wrap64; omega
    rw [if_pos (by rw [hlen]; omega), hw, if_pos (by omega), if_pos (by rw [hlen]; omega)]
    have hrd : rd_T53 ((List.concat l t).map toS) (l.length : Int) = toS t := by
      unfold rd_T53
      simp
    rw [hrd]
    have hlast : (List.concat l t).getLast? = some t := by simp
    rw [hlast]
    have ht : Bytes t := hb t (by simp)
    show (if ((t.kind : Nat) : Int) = 3 then some ((strOfNums t.text).toList == [44]) else some false) = some (decide (t.kind = 3) && decide (t.text = [44]))
    rw [text_eq ht]
    by_cases hk : t.kind = 3
    · rw [if_pos (by omega)]; simp [hk]
    · rw [if_neg (by omega)]; simp [hk]
theorem label_f (cur : List S.Tk) (hb : ∀ t ∈ cur, Bytes t) : scan_label.f (cur.map toS) = some (S.label cur) := by
  unfold scan_label.f
  rcases cur with _ | ⟨a, _ | ⟨b, _ | ⟨c, r⟩⟩⟩
  · rfl
  · rw [if_neg (by simp)]; rfl
  · have hlen : (([a, b] : List S.Tk).map toS).length = 2 := rfl
    rw [hlen, if_pos (by omega), if_pos (by omega)]
    have ha : rd_T53 (([a, b] : List S.Tk).map toS) 0 = toS a := rfl
    have hb' : rd_T53 (([a, b] : List S.Tk).map toS) 1 = toS b := rfl
    rw [ha, hb', if_pos (by omega : (1 : Int) < (2 : Nat))]
    show (if ((a.kind : Nat) : Int) = 1 then (if ((b.kind : Nat) : Int) = 3 then some ((strOfNums b.text).toList == [58]) else some false) else some false) = some (decide (a.kind = 1) && decide (b.kind = 3) && decide (b.text = [58]))
    rw [text_eq (hb b (by simp))]
    by_cases h1 : a.kind = 1
    · rw [if_pos (by omega)]
      by_cases h2 : b.kind = 3
      · rw [if_pos (by omega)]; simp [h1, h2]
      · rw [if_neg (by omega)]; simp [h1, h2]
    · rw [if_neg (by omega)]; simp [h1]
  · rw [if_neg (by simp only [List.map_cons, List.length_cons]; omega)]; rfl
end Go.Proofs.YtkkpjonfaflkmaaGreatDoor.T

namespace Go.Proofs.YtkkpjonfaflkmaaGreatDoor.T
set_option linter.unusedSimpArgs false
set_option linter.unusedVariables false
open Go.RowKit Go.Maps Go.Proofs.YtkkpjonfaflkmaaGreatDoorW.PrintWords Go.Proofs.YtkkpjonfaflkmaaGreatDoorW.PrintLast Go.Proofs.YtkkpjonfaflkmaaGreatDoorW.PrintMore
attribute [local go_sem] Oper.semAt_some
structure It (l H s fp FB : Nat) (src : ByteArray) (hd : Int → Value) (D : DataW Unit) (J : List (List S.Tk) → (Nat → Prop) → World → Prop) (i line : Nat) (v : Value) (cur : List S.Tk) (gap : Bool) (pre : List (List S.Tk)) (F : Nat → Prop) (W : World) : Prop where
  sm : ScM s src i line (H + 1) (H + 1 + 2) hd D W
  cu : Cur (s + 1) (s + 1 + 1) H l (s + 3) v cur gap W
  jj : J pre F W
  ff : ∀ k, F k → (k < H ∨ s + 3 ≤ k) ∧ v.ownBlock ≠ some k ∧ k ≠ fp ∧ k ≠ FB
  hfp : W.heap[fp]? = some (.cells #[.int .i64 0, .int .i64 0] 76 (0, 0))
  hfb : W.heap[FB]? = some (.cells #[.pointer (some ⟨fp, 0, none⟩)] 88 (0, 0))
  byt : ∀ t ∈ cur, Bytes t
  len : pre.flatten.length + 2 * cur.length ≤ 2 * i
  l1 : H + 1 < s
  l2 : fp < H
  l3 : FB < H
  rows : ∀ c g, (hd c).ownBlock = some g → H + 1 < g ∧ g < s
section
variable {l n H s fp FB : Nat} {src : ByteArray} {hd : Int → Value} {D : DataW Unit} {J : List (List S.Tk) → (Nat → Prop) → World → Prop} {i line : Nat} {v : Value} {cur : List S.Tk} {gap : Bool} {pre : List (List S.Tk)} {F : Nat → Prop} {W W' : World}
theorem It.own_ge (h : It l H s fp FB src hd D J i line v cur gap pre F W) : ∀ k, v.ownBlock = some k → s + 3 ≤ k := fun k e => (h.cu.own.lt k e).1
theorem It.step (C : Client l n J) (h : It l H s fp FB src hd D J i line v cur gap pre F W) {i' line' : Nat} (hb : But (· = s) W W') (hs : Sc s src i' line' (.map (some (H + 1))) W') (hi : i ≤ i') : It l H s fp FB src hd D J i' line' v cur gap pre F W' := by
  have h1 := h.l1
  have h2 := h.l2
  have h3 := h.l3
  have hsm := h.sm
  refine ⟨⟨hs, hsm.sg.but hsm.nm hsm.nr hb, hsm.nm, hsm.nr⟩, h.cu.but hb (fun k e => ⟨by omega, by omega, by omega, fun e2 => by have := h.own_ge k e2; omega⟩), C.stable h.jj (hb.mono (fun k _ e hf => by have := (h.ff k hf).1; omega)), h.ff, (hb.block fp (Array.getElem?_eq_some_iff.1 h.hfp).1 (by show ¬ fp = s; omega)).trans h.hfp, (hb.block FB (Array.getElem?_eq_some_iff.1 h.hfb).1 (by show ¬ FB = s; omega)).trans h.hfb, h.byt, by have := h.len; omega, h1, h2, h3, h.rows⟩
theorem It.new (C : Client l n J) (h : It l H s fp FB src hd D J i line v cur gap pre F W) (hb : But (fun _ => False) W W') : It l H s fp FB src hd D J i line v cur gap pre F W' := by
  have hb2 : But (· = s) W W' := hb.mono (fun _ _ e => e.elim)
  refine h.step C hb2 ?_ (Nat.le_refl _)
  exact (hb.block s h.sm.sc.lt (fun e => e)).trans h.sm.sc
theorem It.put (C : Client l n J) (h : It l H s fp FB src hd D J i line v cur gap pre F W) {v' : Value} {cur' : List S.Tk} {gap' : Bool} (hb : But (fun k => k = s + 1 ∨ k = s + 1 + 1 ∨ v.ownBlock = some k) W W') (hc : Cur (s + 1) (s + 1 + 1) H l (s + 3) v' cur' gap' W')
    (hv : ∀ k, v'.ownBlock = some k → v.ownBlock = some k ∨ W.heap.size ≤ k) (hby : ∀ t ∈ cur', Bytes t) (hl : pre.flatten.length + 2 * cur'.length ≤ 2 * i) : It l H s fp FB src hd D J i line v' cur' gap' pre F W' := by
  have h1 := h.l1
  have h2 := h.l2
  have h3 := h.l3
  have hsm := h.sm
  have ho := h.own_ge
  have hne : ∀ k, k < s + 1 → ¬ (k = s + 1 ∨ k = s + 1 + 1 ∨ v.ownBlock = some k) := fun k hk e => by
    rcases e with e | e | e
    · omega
    · omega
    · have := ho k e; omega
  have hblk : ∀ k, k < s + 1 → k < W.heap.size → W'.heap[k]? = W.heap[k]? := fun k hk hl => hb.block k hl (hne k hk)
  refine ⟨⟨(hblk s (by omega) hsm.sc.lt).trans hsm.sc, hsm.sg.blk (hblk _ (by omega) hsm.sg.map.lt) (fun c g hg => hblk g (by have := h.rows c g hg; omega) ((hsm.sg.row c).lt g hg).2), hsm.nm, hsm.nr⟩, hc, C.stable h.jj (hb.mono (fun k _ e hf => ?_)), fun k hf => ?_,
    (hblk fp (by omega) (Array.getElem?_eq_some_iff.1 h.hfp).1).trans h.hfp, (hblk FB (by omega) (Array.getElem?_eq_some_iff.1 h.hfb).1).trans h.hfb, hby, hl, h1, h2, h3, h.rows⟩
  · obtain ⟨q1, q2, _⟩ := h.ff k hf
    rcases e with e | e | e
    · omega
    · omega
    · exact q2 e
  · obtain ⟨q1, q2, q3, q4⟩ := h.ff k hf
    refine ⟨q1, fun e => ?_, q3, q4⟩
    rcases hv k e with e2 | e2
    · exact q2 e2
    · have := C.lt h.jj k hf; omega
theorem It.ended (C : Client l n J) (h : It l H s fp FB src hd D J i line v cur gap pre F W) {pre' : List (List S.Tk)} {F' : Nat → Prop} (hj : J pre' F' W') (hc : Cur (s + 1) (s + 1 + 1) H l (s + 3) (.slice none 0 0) [] false W')
    (hb : But (fun k => F k ∨ k = s + 1 ∨ k = s + 1 + 1 ∨ v.ownBlock = some k) W W') (hF : ∀ k, F' k → F k ∨ W.heap.size ≤ k ∨ v.ownBlock = some k) (hl : pre'.flatten.length ≤ 2 * i) : It l H s fp FB src hd D J i line (.slice none 0 0) [] false pre' F' W' := by
  have h1 := h.l1
  have h2 := h.l2
  have h3 := h.l3
  have hsm := h.sm
  have ho := h.own_ge
  have hne : ∀ k, H ≤ k → k < s + 1 → ¬ (F k ∨ k = s + 1 ∨ k = s + 1 + 1 ∨ v.ownBlock = some k) := fun k hk hk2 e => by
    rcases e with e | e | e | e
    · have := (h.ff k e).1; omega
    · omega
    · omega
    · have := ho k e; omega
  have hblk : ∀ k, H ≤ k → k < s + 1 → k < W.heap.size → W'.heap[k]? = W.heap[k]? := fun k hk hk2 hl => hb.block k hl (hne k hk hk2)
  have hfb : ∀ k, (k = fp ∨ k = FB) → k < W.heap.size → W'.heap[k]? = W.heap[k]? := fun k hk hl => hb.block k hl (fun e => by
    rcases e with e | e | e | e
    · have := (h.ff k e).2.2; omega
    · omega
    · omega
    · have := ho k e; omega)
  have hsz : s + 3 ≤ W.heap.size := h.cu.lw
  refine ⟨⟨(hblk s (by omega) (by omega) hsm.sc.lt).trans hsm.sc, hsm.sg.blk (hblk _ (by omega) (by omega) hsm.sg.map.lt) (fun c g hg => hblk g (by have := h.rows c g hg; omega) (by have := h.rows c g hg; omega) ((hsm.sg.row c).lt g hg).2), hsm.nm, hsm.nr⟩, hc, hj, fun k hf => ?_,
    (hfb fp (.inl rfl) (Array.getElem?_eq_some_iff.1 h.hfp).1).trans h.hfp, (hfb FB (.inr rfl) (Array.getElem?_eq_some_iff.1 h.hfb).1).trans h.hfb, by simp, by simpa using hl, h1, h2, h3, h.rows⟩
  refine ⟨?_, by simp [Value.ownBlock], ?_, ?_⟩
  · rcases hF k hf with e | e | e
    · exact (h.ff k e).1
    · omega
    · have := ho k e; omega
  · rcases hF k hf with e | e | e
    · exact (h.ff k e).2.2.1
    · omega
    · have := ho k e; omega
  · rcases hF k hf with e | e | e
    · exact (h.ff k e).2.2.2
    · omega
    · have := ho k e; omega
theorem It.drewN (C : Client l n J) (h : It l H s fp FB src hd D J i line v cur gap pre F W) (q : Nat) : It l H s fp FB src hd D J i line v cur gap pre F (W.drewN q) := h.new C ((But.refl _ W).drewN q)
theorem It.setGap (C : Client l n J) (h : It l H s fp FB src hd D J i line v cur gap pre F W) (g : Bool) : It l H s fp FB src hd D J i line v cur g pre F (W.setCell ⟨s + 1 + 1, 0, none⟩ (.bool g)) := by
  have hb : But (fun k => k = s + 1 + 1) W (W.setCell ⟨s + 1 + 1, 0, none⟩ (.bool g)) := (But.refl (fun k => k = s + 1 + 1) W).set ⟨s + 1 + 1, 0, none⟩ _ rfl
  have h1 := h.l1
  have hc := h.cu
  refine h.put C (hb.mono (fun k _ e => .inr (.inl e))) ⟨(hb.block (s + 1) (by have := hc.lw; omega) (by omega)).trans hc.cb, blk_put (cs := #[_]) hc.gb 0 _ rfl, (hb.block H (by have := hc.lw; omega) (by omega)).trans hc.yb, own_but hc.own hb (fun k e e2 => by have := h.own_ge k e2; omega), hc.l1, hc.l2, hc.l3, hc.n1, hc.n2, hc.n3, Nat.le_trans hc.lw hb.size⟩ (fun k e => .inl e) h.byt h.len
theorem It.setCur (C : Client l n J) (h : It l H s fp FB src hd D J i line v cur gap pre F W) {v' : Value} {cur' : List S.Tk} (ho : W.ownsRow (s + 3) 53 6 v' cur'.length (tksL cur')) (hv : ∀ k, v'.ownBlock = some k → v.ownBlock = some k) (hby : ∀ t ∈ cur', Bytes t) (hl : pre.flatten.length + 2 * cur'.length ≤ 2 * i) :
    It l H s fp FB src hd D J i line v' cur' gap pre F (W.setCell ⟨s + 1, 0, none⟩ v') := by
  have hb : But (fun k => k = s + 1) W (W.setCell ⟨s + 1, 0, none⟩ v') := (But.refl (fun k => k = s + 1) W).set ⟨s + 1, 0, none⟩ _ rfl
  have h1 := h.l1
  have hc := h.cu
  refine h.put C (hb.mono (fun k _ e => .inl e)) ⟨blk_put (cs := #[_]) hc.cb 0 _ rfl, (hb.block (s + 1 + 1) (by have := hc.lw; omega) (by omega)).trans hc.gb, (hb.block H (by have := hc.lw; omega) (by omega)).trans hc.yb, own_but ho hb (fun k e e2 => by have := (ho.lt k e2).1; omega), hc.l1, hc.l2, hc.l3, hc.n1, hc.n2, hc.n3, Nat.le_trans hc.lw hb.size⟩ (fun k e => .inl (hv k e)) hby hl
theorem own_cut {A : Option Addr} {cn cap base : Nat} (h : W.ownsRow base 53 6 (.slice A cn cap) cur.length (tksL cur)) (hne : cur ≠ []) : W.ownsRow base 53 6 (.slice A (cn - 1) cap) cur.dropLast.length (tksL cur.dropLast) := by
  refine ⟨tksL_length _, .inr ?_⟩
  rcases h.2 with ⟨e, e2⟩ | ⟨g, cap', cs, e, hg, hb, h1, h2, h3, h4⟩
  · exact absurd (List.length_eq_zero_iff.1 e2) hne
  · simp only [Value.slice.injEq] at e
    obtain ⟨rfl, rfl, rfl⟩ := e
    refine ⟨g, cap, cs, by rw [List.length_dropLast], hg, hb, by rw [List.length_dropLast]; omega, h2, h3, ?_⟩
    have e1 : cur.dropLast = cur.take (cur.length - 1) := List.dropLast_eq_take
    rw [List.length_dropLast, e1, ← tksL_take, ← h4, List.take_take]
    congr 1
    omega
theorem It.cutc (C : Client l n J) {A : Option Addr} {cn cap : Nat} (h : It l H s fp FB src hd D J i line (.slice A cn cap) cur gap pre F W) (hne : cur ≠ []) : It l H s fp FB src hd D J i line (.slice A (cn - 1) cap) cur.dropLast gap pre F (W.setCell ⟨s + 1, 0, none⟩ (.slice A (cn - 1) cap)) :=
  h.setCur C (own_cut h.cu.own hne) (fun k e => by cases A with | none => simp [Value.ownBlock] at e | some a => exact e) (fun t ht => h.byt t ((List.dropLast_sublist _).subset ht)) (by have := h.len; rw [List.length_dropLast]; omega)
theorem It.more (C : Client l n J) {X w1 : World} (h : It l H s fp FB src hd D J i line v cur gap pre F W) (hX : But (fun _ => False) W X) {v' : Value} {t : S.Tk} (ho : w1.ownsRow (s + 3) 53 6 v' (cur.length + 1) (tksL cur ++ tkL t)) (hg : X.grownBy w1 v.ownBlock)
    (hv : v'.ownBlock = v.ownBlock ∨ v'.ownBlock = some X.heap.size) (hby : Bytes t) (hl : pre.flatten.length + 2 * (cur.length + 1) ≤ 2 * i) :
    It l H s fp FB src hd D J i line v' (cur ++ [t]) false pre F ((w1.setCell ⟨s + 1, 0, none⟩ v').setCell ⟨s + 1 + 1, 0, none⟩ (.bool false)) := by
  have hb1 : But (fun k => v.ownBlock = some k) X w1 := ⟨hg.os, hg.tape, hg.output, hg.size, fun k hk hn => hg.block k hk (fun e => hn e.symm)⟩
  have hb2 : But (fun k => k = s + 1 ∨ k = s + 1 + 1) w1 ((w1.setCell ⟨s + 1, 0, none⟩ v').setCell ⟨s + 1 + 1, 0, none⟩ (.bool false)) := ((But.refl (fun k => k = s + 1 ∨ k = s + 1 + 1) w1).set ⟨s + 1, 0, none⟩ _ (.inl rfl)).set ⟨s + 1 + 1, 0, none⟩ _ (.inr rfl)
  have h01 : But (fun k => v.ownBlock = some k) W w1 := hX.trans hb1 (fun _ _ e => e.elim) (fun _ _ e => e)
  have h02 : But (fun k => k = s + 1 ∨ k = s + 1 + 1 ∨ v.ownBlock = some k) W ((w1.setCell ⟨s + 1, 0, none⟩ v').setCell ⟨s + 1 + 1, 0, none⟩ (.bool false)) :=
    h01.trans hb2 (fun _ _ e => .inr (.inr e)) (fun _ _ e => e.elim .inl (fun e => .inr (.inl e)))
  have h1 := h.l1
  have hc := h.cu
  have hlw := hc.lw
  have hge := h.own_ge
  have hs1 := h01.size
  refine h.put C h02 ⟨?_, ?_, ?_, ?_, hc.l1, hc.l2, hc.l3, hc.n1, hc.n2, hc.n3, Nat.le_trans hlw h02.size⟩ (fun k e => ?_) (fun t' ht' => ?_) (by rw [List.length_append]; exact hl)
  · exact (Below.heap_setCell _ ⟨s + 1 + 1, 0, none⟩ _ (s + 1) (by show s + 1 ≠ s + 1 + 1; omega)).trans (blk_put (cs := #[_]) ((h01.block (s + 1) (by omega) (fun e => by have := hge _ e; omega)).trans hc.cb) 0 _ rfl)
  · exact blk_put (cs := #[_]) ((Below.heap_setCell _ ⟨s + 1, 0, none⟩ _ (s + 1 + 1) (by show s + 1 + 1 ≠ s + 1; omega)).trans ((h01.block (s + 1 + 1) (by omega) (fun e => by have := hge _ e; omega)).trans hc.gb)) 0 _ rfl
  · exact (h02.block H (by omega) (fun e => by rcases e with e | e | e; omega; omega; have := hge _ e; omega)).trans hc.yb
  · rw [List.length_append, tksL_append]
    have e : tksL [t] = tkL t := by simp [tksL]
    rw [e]
    refine own_but ho hb2 (fun k e e2 => ?_)
    have := (ho.lt k e2).1
    omega
  · rcases hv with hv | hv
    · exact .inl (by rw [← hv, e])
    · refine .inr ?_
      rw [hv] at e
      have := hX.size
      cases e
      exact this
  · rcases List.mem_append.1 ht' with ht' | ht'
    · exact h.byt t' ht'
    · rw [List.mem_singleton.1 ht']; exact hby
theorem comma_calls {A : Option Addr} {cn cap base : Nat} (h : W.ownsRow base 53 6 (.slice A cn cap) cur.length (tksL cur)) (hb : ∀ t ∈ cur, Bytes t) (hl : cur.length ≤ 1000000) :
    Calls Tryz.prog 92 #[.slice A cn cap] W fun e w' => e = .returned (.bool (S.comma cur)) ∧ Drawn0 W w' := by
  obtain ⟨rfl, hc, hC⟩ := tks_C h
  have := scan_comma.calls A cap (cur.map toS) (S.comma cur) W hC (by rw [List.length_map]; exact hc) (comma_f cur hb hl)
  rwa [List.length_map] at this
theorem label_calls {A : Option Addr} {cn cap base : Nat} (h : W.ownsRow base 53 6 (.slice A cn cap) cur.length (tksL cur)) (hb : ∀ t ∈ cur, Bytes t) :
    Calls Tryz.prog 54 #[.slice A cn cap] W fun e w' => e = .returned (.bool (S.label cur)) ∧ Drawn0 W w' := by
  obtain ⟨rfl, hc, hC⟩ := tks_C h
  have := scan_label.calls A cap (cur.map toS) (S.label cur) W hC (by rw [List.length_map]; exact hc) (label_f cur hb)
  rwa [List.length_map] at this
theorem It.other (C : Client l n J) (h : It l H s fp FB src hd D J i line v cur gap pre F W) {A : Nat → Prop} (hb : But A W W') (hA : ∀ k, A k → s + 3 ≤ k ∧ ¬ F k ∧ v.ownBlock ≠ some k) : It l H s fp FB src hd D J i line v cur gap pre F W' := by
  have h1 := h.l1
  have h2 := h.l2
  have h3 := h.l3
  have hsm := h.sm
  have hblk : ∀ k, k < s + 3 → k < W.heap.size → W'.heap[k]? = W.heap[k]? := fun k hk hl => hb.block k hl (fun e => by have := (hA k e).1; omega)
  exact ⟨⟨(hblk s (by omega) hsm.sc.lt).trans hsm.sc, hsm.sg.blk (hblk _ (by omega) hsm.sg.map.lt) (fun c g hg => hblk g (by have := h.rows c g hg; omega) ((hsm.sg.row c).lt g hg).2), hsm.nm, hsm.nr⟩, h.cu.but hb (fun k e => by have := hA k e; exact ⟨by omega, by omega, by omega, this.2.2⟩), C.stable h.jj (hb.mono (fun k _ e hf => (hA k e).2.1 hf)), h.ff,
    (hblk fp (by omega) (Array.getElem?_eq_some_iff.1 h.hfp).1).trans h.hfp, (hblk FB (by omega) (Array.getElem?_eq_some_iff.1 h.hfb).1).trans h.hfb, h.byt, h.len, h1, h2, h3, h.rows⟩
theorem emit_len (pre : List (List S.Tk)) (cur : List S.Tk) (a b c : Nat) : (pre ++ S.emit cur a b c).flatten.length ≤ pre.flatten.length + 2 * cur.length := by
  unfold S.emit
  by_cases h : cur = []
  · rw [if_pos h]; simp
  · rw [if_neg h]
    have : 0 < cur.length := List.length_pos_iff.2 h
    simp only [List.flatten_append, List.flatten_cons, List.flatten_nil, List.append_nil, List.length_append, List.length_cons, List.length_nil]
    omega
theorem pre_pre (a b : List (List S.Tk)) (o : S.Out) : (S.Out.pre b o).pre a = o.pre (a ++ b) := by simp [S.Out.pre]
theorem It.endc (C : Client l n J) {cn cap : Nat} {A : Option Addr} (h : It l H s fp FB src hd D J i line (.slice A cn cap) cur gap pre F W) (hi : i ≤ 100000) (a b c : Nat) :
    CallsIn Fence.wide (n + 1) Tryz.prog 90 #[.int .i64 a, .int .i64 b, .int .i64 c, .pointer (some ⟨s + 1, 0, none⟩), .pointer (some ⟨s + 1 + 1, 0, none⟩), .pointer (some ⟨H, 0, none⟩)] W fun e W' =>
      e = .returned (.bool true) ∧ ∃ F', It l H s fp FB src hd D J i line (.slice none 0 0) [] false (pre ++ S.emit cur a b c) F' W' := by
  have h1 := h.l1
  refine (end_in (n + 1) (by omega) (C : Client l (n + 1 - 1) J) a b c W h.cu h.jj (fun k hk => ?_) (by have := h.len; omega)).mono ?_
  · obtain ⟨q1, q2, _⟩ := h.ff k hk
    exact ⟨by omega, by omega, by omega, q2⟩
  · rintro e W' ⟨rfl, F', hj, hc, hb, hf⟩
    exact ⟨rfl, F', h.ended C hj hc hb hf (by have := emit_len pre cur a b c; have := h.len; omega)⟩
theorem It.fail (C : Client l n J) (h : It l H s fp FB src hd D J i line v cur gap pre F W) (hb : But (· = s) W W') : Cur (s + 1) (s + 1 + 1) H l (s + 3) v cur gap W' ∧ J pre F W' ∧ (∀ k, F k → k ≠ s + 1 ∧ k ≠ s + 1 + 1 ∧ k ≠ H ∧ v.ownBlock ≠ some k) ∧ (∀ k, F k → k ≠ fp) ∧
    W'.heap[fp]? = some (.cells #[.int .i64 0, .int .i64 0] 76 (0, 0)) ∧ W'.heap[FB]? = some (.cells #[.pointer (some ⟨fp, 0, none⟩)] 88 (0, 0)) := by
  have h1 := h.l1
  have h2 := h.l2
  have h3 := h.l3
  refine ⟨h.cu.but hb (fun k e => ⟨by omega, by omega, by omega, fun e2 => by have := h.own_ge k e2; omega⟩), C.stable h.jj (hb.mono (fun k _ e hf => by have := (h.ff k hf).1; omega)), fun k hk => ?_, fun k hk => (h.ff k hk).2.2.1, (hb.block fp (Array.getElem?_eq_some_iff.1 h.hfp).1 (by show ¬ fp = s; omega)).trans h.hfp, (hb.block FB (Array.getElem?_eq_some_iff.1 h.hfb).1 (by show ¬ FB = s; omega)).trans h.hfb⟩
  obtain ⟨q1, q2, _⟩ := h.ff k hk
  exact ⟨by omega, by omega, by omega, q2⟩
end
end Go.Proofs.YtkkpjonfaflkmaaGreatDoor.T
