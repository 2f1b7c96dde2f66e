/- Part 18 of the proof of ScanLocal: the functions that it calls return what their plain descriptions say. -/
import Derived.Test.YtkkpjonfaflkmaaGreatDoorCScanLocal17
import Derived.Test.YtkkpjonfaflkmaaGreatDoorCScanLocal13
import Derived.Test.YtkkpjonfaflkmaaGreatDoorCScanLocal4
import Derived.Test.YtkkpjonfaflkmaaGreatDoorCScanLocal11
import Derived.Test.YtkkpjonfaflkmaaGreatDoorCScanLocal15
import Derived.Test.YtkkpjonfaflkmaaGreatDoorCScanLocal16

namespace Go.Proofs.YtkkpjonfaflkmaaGreatDoor.T
set_option linter.unusedSimpArgs false
set_option linter.unusedVariables false
open Go.RowKit Go.Maps Go.Proofs.YtkkpjonfaflkmaaGreatDoorW.PrintWords Go.Proofs.YtkkpjonfaflkmaaGreatDoorW.PrintLast Go.Proofs.YtkkpjonfaflkmaaGreatDoorW.PrintMore
theorem cells_C {W : World} {g : Nat} {cs : Array Value} {c : List S.Tk} (hg : W.heap[g]? = some (.cells cs 53 (0, 0))) (ht : cs.toList.take (c.length * 6) = tksL c) (hl : c.length ≤ 300000) : Kd.C k53 W (some ⟨g, 0, none⟩) (c.map toS).length (c.map toS) := by
  refine ⟨rfl, by rw [List.length_map]; omega, fun _ => ⟨_, rfl, fun j p hj => ?_⟩⟩
  rw [List.getElem?_map] at hj
  cases hc : c[j]? with
  | none => rw [hc] at hj; cases hj
  | some t =>
    rw [hc] at hj
    simp only [Option.map_some, Option.some.injEq] at hj
    subst hj
    have hjl : j < c.length := (List.getElem?_eq_some_iff.1 hc).1
    refine ⟨tkL t, rfl, k53_mk W (toS t), fun i u hu => ?_⟩
    have hi : i < 6 := (List.getElem?_eq_some_iff.1 hu).1
    have e1 : (tksL c)[j * 6 + i]? = some u := by
      rw [← tksL_at c j t hc, List.getElem?_take_of_lt hi, List.getElem?_drop] at hu
      exact hu
    rw [← ht, List.getElem?_take_of_lt (by omega)] at e1
    show W.cell? ((⟨g, 0, none⟩ : Addr).add (j * 6 + i)) = some u
    rw [add_plain, blk_cell hg]
    simpa using e1
theorem hdrs_N {G : Nat → Prop} {W : World} {base : Nat} {v : Value} {hs : List Value} {cls : List (List S.Tk)} (ho : W.ownsRow base 24 1 v hs.length hs) (h : Hdrs G W hs cls) (hG : ∀ g, G g → base ≤ g ∧ v.ownBlock ≠ some g) :
    Kd.N (Kd.slice 53 k53) 24 W base (fun k => base ≤ k) v (cls.map (List.map toS)) := by
  have hone : ∀ (j : Nat) (u : Value), hs[j]? = some u → u.oneCell' = true := fun j u hu => by
    have hj : j < cls.length := by rw [← h.1]; exact (List.getElem?_eq_some_iff.1 hu).1
    obtain ⟨g, cs, e1, _⟩ := h.2 j u _ hu (List.getElem?_eq_getElem hj)
    rw [e1]; rfl
  refine ⟨fun k hk => (ho.lt k hk).1, hs.map (fun u => [u]), by rw [List.length_map, List.length_map, h.1], ⟨fun k hk => hk.symm, hs, by rw [List.length_map]; exact ho, by rw [List.length_map]; exact (Nat.mul_one _).symm, fun j p hj => ?_⟩, fun j x c hx hc => ?_⟩
  · rw [List.getElem?_map] at hj
    cases hu : hs[j]? with
    | none => rw [hu] at hj; cases hj
    | some u =>
      rw [hu] at hj
      simp only [Option.map_some, Option.some.injEq] at hj
      subst hj
      have hjl : j < hs.length := (List.getElem?_eq_some_iff.1 hu).1
      have e : (hs.drop (j * 1)).take 1 = [u] := by
        rw [Nat.mul_one, List.drop_eq_getElem_cons hjl]
        rw [List.getElem?_eq_getElem hjl] at hu
        simp only [Option.some.injEq] at hu
        simp [hu]
      show (hs.drop (j * 1)).take 1 = [u] ∧ ((hs.drop (j * 1)).take 1).length = 1 ∧ ∀ u' ∈ (hs.drop (j * 1)).take 1, u'.oneCell' = true
      exact ⟨e, by rw [e]; rfl, fun u' hu' => by rw [e] at hu'; rw [List.mem_singleton.1 hu']; exact hone j u hu⟩
  · rw [List.getElem?_map] at hc hx
    cases hu : hs[j]? with
    | none => rw [hu] at hc; cases hc
    | some u =>
      cases hcl : cls[j]? with
      | none => rw [hcl] at hx; cases hx
      | some cl =>
        rw [hu] at hc
        rw [hcl] at hx
        simp only [Option.map_some, Option.some.injEq] at hc hx
        subst hc hx
        obtain ⟨g, cs, e1, e2, e3, e4, e5⟩ := h.2 j u cl hu hcl
        intro W' hW
        have hg' : W'.heap[g]? = some (.cells cs 53 (0, 0)) := (hW g ⟨(hG g e2).1, fun e => (hG g e2).2 e.symm⟩ (Array.getElem?_eq_some_iff.1 e3).1).trans e3
        exact ⟨_, _, by rw [e1, List.length_map], by rw [List.length_map]; exact Nat.le_refl _, cells_C hg' e4 e5⟩
def scan_Clauses.f (a0 : ByteArray) : Option (List (List S53) × Int × Int × Int) :=
  if a0.size ≤ 20000 then
    (match (S.scan (bytesOf a0)).err with
    | none => some ((S.scan (bytesOf a0)).cl.map fun c => c.dropLast.map toS, 0, 0, 0)
    | some p => some ([], p.1, p.2, 7))
  else some ([], 0, 0, 3)
set_option maxRecDepth 100000 in
set_option maxHeartbeats 4000000 in
theorem scan_Clauses.calls (a0 : ByteArray) (r1 : List (List S53)) (r2 r3 r4 : Int) (w : World) (hT : TabOK w) (h : scan_Clauses.f a0 = some (r1, r2, r3, r4)) :
    Calls Tryz.prog 19 #[.string a0] w fun e w' => ∃ v0 : Value, e = .returned (.tuple #[v0, .int .i64 r2, .int .i64 r3, .int .i64 r4]) ∧ Kd.N (Kd.slice 53 k53) 24 w' w.heap.size (fun k => w.heap.size ≤ k) v0 r1 ∧ Below w.heap.size w w' := by
  unfold scan_Clauses.f at h
  by_cases hs : a0.size ≤ 20000
  · rw [if_pos hs] at h
    refine (scan_Clauses_m.calls a0 w hs hT (fun c ln he => S.scan_err he)).mono ?_
    rintro e w' ⟨hb, hp⟩
    unfold ClPost at hp
    cases he : (S.scan (bytesOf a0)).err with
    | none =>
      rw [he] at h hp
      simp only [Option.some.injEq, Prod.mk.injEq] at h
      obtain ⟨rfl, rfl, rfl, rfl⟩ := h
      obtain ⟨v, hss, G, rfl, ho, hh, hG⟩ := hp
      have := hdrs_N ho hh hG
      rw [List.map_map] at this
      exact ⟨v, rfl, this, hb⟩
    | some p =>
      rw [he] at h hp
      simp only [Option.some.injEq, Prod.mk.injEq] at h
      obtain ⟨rfl, rfl, rfl, rfl⟩ := h
      exact ⟨_, hp, Kd.N_nil _ _ _ _ _, hb⟩
  · rw [if_neg hs] at h
    simp only [Option.some.injEq, Prod.mk.injEq] at h
    obtain ⟨rfl, rfl, rfl, rfl⟩ := h
    have HLM := Lib.hid (scan_limited.calls a0 3 w (by unfold scan_limited.f; rw [if_pos (by omega)]))
    clear hT
    refine (callsIn_wide (n := 8)).1 ?_
    refine callsIn_of_wp_marks Tryz.func19 rfl trivial ?_ rfl
    simp only [Tryz.ntmps19, List.size_toArray, List.length_cons, List.length_nil, Nat.reduceAdd, Nat.reduceSub, Array.replicate_succ, Array.replicate_zero, List.push_toArray, List.append_toArray, List.nil_append, List.cons_append]
    have hwf : ∀ f, Fence.wide.fn f := fun _ => trivial
    gi_wp2_with (gi_at_call 50; refine (callsIn_wide.2 HLM.out).mono ?_; rintro e w' ⟨rfl, ⟨⟨q, rfl⟩⟩⟩)
    refine ⟨_, results_tmp4 rfl _ _ _, ?_⟩
    exact ⟨_, rfl, Kd.N_nil _ _ _ _ _, pw_below_drewN (Below.refl _ _) _⟩
end Go.Proofs.YtkkpjonfaflkmaaGreatDoor.T

namespace Go.Proofs.YtkkpjonfaflkmaaGreatDoor.T
set_option linter.unusedSimpArgs false
open Go.RowKit Go.Proofs.YtkkpjonfaflkmaaGreatDoorW.PrintWords Go.Proofs.YtkkpjonfaflkmaaGreatDoorW.PrintLast Go.Proofs.YtkkpjonfaflkmaaGreatDoorW.PrintMore
attribute [local go_sem] max2_int min2_int max_two min_two max_three min_three max_four min_four   -- for this text's walks alone
set_option linter.unusedVariables false
set_option linter.unusedSimpArgs false
def scan_Labels.l0 : Nat → List (S73) → List (List (S53)) → Int → Int → Option ((List (S73)) × Int × Int × Int)
  | 0, _, _, _, _ => none
  | k + 1, x10, x25, x26, x27 => if x27 < x26 then (if 0 ≤ x27 then (if x27 < (x25.length : Int) then ((scan_label.f (rd_L4 x25 x27)).bind fun t112 => (if t112 = true then (if 0 < ((rd_L4 x25 x27).length : Int) then (if x10.length < 5864062014805 then (scan_Labels.l0 k (x10 ++ [(⟨(rd_T53 (rd_L4 x25 x27) 0).f1, (rd_T53 (rd_L4 x25 x27) 0).f3⟩ : S73)]) x25 x26 (wrap64 (x27 + 1))) else (none)) else (none)) else (scan_Labels.l0 k x10 x25 x26 (wrap64 (x27 + 1))))) else (none)) else (none)) else (some (x10, 0, 0, 0))
def scan_Labels.f (k : Nat) (a0 : ByteArray) : Option ((List (S73)) × Int × Int × Int) := (scan_Clauses.f a0).bind fun bt105 => (if bt105.2.2.2 = 0 then (scan_Labels.l0 k ([] : List (S73)) bt105.1 (bt105.1.length : Int) 0) else (some (([] : List (S73)), bt105.2.1, bt105.2.2.1, bt105.2.2.2)))
theorem scan_Labels.mono_l : ∀ k, (∀ y0 y1 y2 y3, LeO (scan_Labels.l0 k y0 y1 y2 y3) (scan_Labels.l0 (k + 1) y0 y1 y2 y3))
  | 0 => fun _ _ _ _ r h => by simp [scan_Labels.l0] at h
  | k + 1 => by
    have ih0 := scan_Labels.mono_l k
    · intro y0 y1 y2 y3
      unfold scan_Labels.l0
      repeat' first
      | (with_reducible exact ih0 _ _ _ _)
      | (with_reducible exact LeO.refl _)
      | (with_reducible exact LeO.none _)
      | (with_reducible refine LeO.ite ?_ ?_)
      | (with_reducible refine LeO.bind ?_ (fun _ => ?_))
      | exact ih0 _ _ _ _
      | exact LeO.none _
      | refine LeO.ite ?_ ?_
      | refine LeO.bind ?_ (fun _ => ?_)
theorem scan_Labels.mono : ∀ a0 k, LeO (scan_Labels.f k a0) (scan_Labels.f (k + 1) a0) := by
  intro a0 k
  have ih0 := scan_Labels.mono_l k
  unfold scan_Labels.f
  repeat' first
      | (with_reducible exact ih0 _ _ _ _)
      | (with_reducible exact LeO.refl _)
      | (with_reducible exact LeO.none _)
      | (with_reducible refine LeO.ite ?_ ?_)
      | (with_reducible refine LeO.bind ?_ (fun _ => ?_))
      | exact ih0 _ _ _ _
      | exact LeO.none _
      | refine LeO.ite ?_ ?_
      | refine LeO.bind ?_ (fun _ => ?_)
def scan_Labels.T9 : Bool × List (List Nat × List Nat) := (true, [([], []), ([], []), ([1], [1]), ([2], [2]), ([3], [3]), ([], []), ([5], [5]), ([6], [6]), ([7], [7]), ([4, 8], [4, 8]), ([9], [9]), ([0, 10], [0, 10]), ([11, 11, 0, 1, 2, 3, 4, 5, 6, 7, 8, 9, 10, 11], [0, 11])])
def scan_Labels.B9 : List Nat := [0, 0, 2, 6, 14, 0, 32, 96, 224, 510, 1022, 2047, 4095]
theorem scan_Labels.tab9 : rtab .any (opsOf Tryz.f20 9) = scan_Labels.T9 := by kernel_rfl
theorem scan_Labels.bits9 : waitsOk scan_Labels.T9.2 scan_Labels.B9 = true := by kernel_rfl
set_option maxHeartbeats 8000000 in
set_option maxRecDepth 100000 in
theorem scan_Labels.calls (k : Nat) (a0 : ByteArray) (r1 : List (S73)) (r2 : Int) (r3 : Int) (r4 : Int) (w : World) (hT : TabOK w) (h : scan_Labels.f k a0 = some (r1, r2, r3, r4)) :
    Calls Tryz.prog 20 #[.string a0] w fun e w' => ∃ v0_ : Value, e = .returned (.tuple #[v0_, .int .i64 r2, .int .i64 r3, .int .i64 r4]) ∧ Kd.R k73 73 w' w.heap.size (fun _ => True) v0_ r1 ∧ Below w.heap.size w w' := by
  have hu73 := Tryz.underlying73
  have HB := Aside0.mk (Below.refl w.heap.size w)
  have H : ((scan_Clauses.f a0).bind fun bt105 => (if bt105.2.2.2 = 0 then (scan_Labels.l0 k ([] : List (S73)) bt105.1 (bt105.1.length : Int) 0) else (some (([] : List (S73)), bt105.2.1, bt105.2.2.1, bt105.2.2.2)))) = some (r1, r2, r3, r4) := h
  clear h
  replace H := Option.bind_eq_some_iff.mp H
  obtain ⟨⟨t105, t106, t107, t108⟩, A20, H⟩ := H
  replace H : (if t108 = 0 then (scan_Labels.l0 k ([] : List (S73)) t105 (t105.length : Int) 0) else (some (([] : List (S73)), t106, t107, t108))) = some (r1, r2, r3, r4) := H
  have A2 := Aside0.mk A20
  clear A20
  by_cases c3 : t108 = 0
  · rw [if_pos c3] at H
    have c3b0 : (t108 == 0) = true := beq_iff_eq.mpr c3
    have c3b1 : (t108 != 0) = false := bne_eq_false_iff_eq.mpr c3
    clear c3
    have H' := Aside0.mk H
    clear H
    go_enter Tryz.func20, Tryz.ntmps20
    go_wp2_with (first | ((with_reducible refine gate_callee (f := 19) rfl ?_); refine goesL_ (some 15) rfl rfl Tryz.func19 (by kernel_rfl) rfl #[.string a0] rfl (by (try simp only [List.map_toArray, List.map_cons, List.map_nil]); first | done | rfl | (simp only [List.length_drop, List.length_take]; rfl)) ?_; (with_reducible refine (scan_Clauses.calls a0 t105 t106 t107 t108 _ (TabOK.of_below hT (by repeat (first | (with_reducible first | exact HB.out | apply below_alloc | apply pw_below_drewN | apply below_drew1) | exact HB.out))) A2.out).mono ?_); rintro e w4 ⟨v109, rfl, ho0, hb⟩; refine ⟨_, rfl, ?_⟩; have n0_ := Aside0.mk (Kd.N_lower (Kd.N_mono (ok' := fun k_ => True) ho0 (fun k_ hk_ => trivial)) (below_size (by repeat (first | (with_reducible first | exact HB.out | apply below_alloc | apply pw_below_drewN | apply below_drew1) | exact HB.out)))); have n1_ := Aside0.mk (below_step (by repeat (first | (with_reducible first | exact HB.out | apply below_alloc | apply pw_below_drewN | apply below_drew1) | exact HB.out)) hb); clear HB; have HO110 := n0_; have HB := n1_; clear n0_ n1_; (try clear hb); (try clear hb2); (try clear hk); (try clear hi); (try clear ho0); obtain ⟨Ao5, co5, eo5⟩ := Kd.N_slice HO110.out; subst eo5))
    go_loopg [10, 27] k (fun kq v10 v27 w' => ∃ (x10_1 : List (S73)) (x27_1 : Int), v27 = .int .i64 x27_1 ∧ Aside0 (scan_Labels.l0 kq x10_1 t105 (t105.length : Int) x27_1 = some (r1, r2, r3, r4)) ∧ Aside0 (kq ≤ k) ∧ Aside0 (Kd.R k73 73 w' w.heap.size (fun _ => True) v10 x10_1) ∧ Aside0 (Kd.N (Kd.slice 53 k53) 24 w' w.heap.size (fun k_ => some k_ ≠ (v10 : Value).ownBlock) (.slice Ao5 t105.length co5) t105) ∧ Aside0 (Below w.heap.size w w'))
    case atStart => exact ⟨(([] : List (S73))), (0), (by first | rfl | (simp; done) | (simp [*]; done)), H', ⟨Nat.le_refl _⟩, ⟨by first | exact Kd.R_nil _ _ _ _ _ | exact Kd.N_nil _ _ _ _ _ | exact Kd.V_nil _ _ _ _ _ | exact Kd.Q_nil _ _ _ _ _ | exact Kd.S_nil _ _ _ _ _⟩, ⟨by (with_reducible repeat (first | apply Kd.N_alloc | apply Kd.N_drewN | apply Kd.N_drew)); exact Kd.N_mono HO110.out (fun _ hk => (by simp [Value.ownBlock]))⟩, ⟨by repeat (first | (with_reducible first | exact HB.out | apply below_alloc | apply pw_below_drewN | apply below_drew1) | exact HB.out)⟩⟩
    case round =>
      clear H'
      try clear c1
      try clear c2
      try clear p2
      try clear c3
      try clear c3b0
      try clear c3b1
      obtain ⟨x10_1, x27_1, rfl, HA, HK1, HO_10, HO_25, HB⟩ := hrel
      cases gk with
      | zero => exact absurd HA.out (by simp [scan_Labels.l0])
      | succ k1 =>
        have H := HA.out
        clear HA
        simp only [scan_Labels.l0] at H
        by_cases c6 : x27_1 < (t105.length : Int)
        · rw [if_pos c6] at H
          have c6b0 : decide (x27_1 < (t105.length : Int)) = true := decide_eq_true c6
          clear c6
          by_cases c7 : 0 ≤ x27_1
          · rw [if_pos c7] at H
            have c7b0 : decide (0 ≤ x27_1) = true := decide_eq_true c7
            clear c7
            by_cases c8 : x27_1 < (t105.length : Int)
            · rw [if_pos c8] at H
              have c8b0 : decide (x27_1 < (t105.length : Int)) = true := decide_eq_true c8
              clear c8
              replace H := Option.bind_eq_some_iff.mp H
              obtain ⟨t112, A90, H⟩ := H
              replace H : (if t112 = true then (if 0 < ((rd_L4 t105 x27_1).length : Int) then (if x10_1.length < 5864062014805 then (scan_Labels.l0 k1 (x10_1 ++ [(⟨(rd_T53 (rd_L4 t105 x27_1) 0).f1, (rd_T53 (rd_L4 t105 x27_1) 0).f3⟩ : S73)]) t105 (t105.length : Int) (wrap64 (x27_1 + 1))) else (none)) else (none)) else (scan_Labels.l0 k1 x10_1 t105 (t105.length : Int) (wrap64 (x27_1 + 1)))) = some (r1, r2, r3, r4) := H
              have A9 := Aside0.mk A90
              clear A90
              by_cases c10 : t112 = true
              · subst c10
                have H1 : (if 0 < ((rd_L4 t105 x27_1).length : Int) then (if x10_1.length < 5864062014805 then (scan_Labels.l0 k1 (x10_1 ++ [(⟨(rd_T53 (rd_L4 t105 x27_1) 0).f1, (rd_T53 (rd_L4 t105 x27_1) 0).f3⟩ : S73)]) t105 (t105.length : Int) (wrap64 (x27_1 + 1))) else (none)) else (none)) = some (r1, r2, r3, r4) := by rw [if_pos rfl] at H; exact H
                clear H
                have H := H1
                clear H1
                by_cases c11 : 0 < ((rd_L4 t105 x27_1).length : Int)
                · rw [if_pos c11] at H
                  have c11b0 : decide (0 < ((rd_L4 t105 x27_1).length : Int)) = true := decide_eq_true c11
                  have c11b1 : decide (0 < (rd_L4 t105 x27_1).length) = true := decide_eq_true (by omega)
                  clear c11
                  by_cases c12 : x10_1.length < 5864062014805
                  · rw [if_pos c12] at H
                    have LMc12 := Aside0.mk c12
                    clear c12
                    obtain ⟨y115, hy115⟩ : ∃ y_ : List (S73), y_ = (x10_1 ++ [(⟨(rd_T53 (rd_L4 t105 x27_1) 0).f1, (rd_T53 (rd_L4 t105 x27_1) 0).f3⟩ : S73)]) := ⟨_, rfl⟩
                    replace H : (scan_Labels.l0 k1 y115 t105 (t105.length : Int) (wrap64 (x27_1 + 1))) = some (r1, r2, r3, r4) := by first | (rw [hy115]; with_reducible exact H) | (have H2_ := (Option.bind_some _ _).symm.trans H; rw [hy115]; with_reducible exact H2_) | (have H2_ := (Option.bind_some _ _).symm.trans H; with_reducible exact H2_) | with_reducible exact H | (rw [hy115]; exact H) | exact H
                    have Ny115 := Aside0.mk hy115
                    clear hy115
                    have H' := Aside0.mk H
                    clear H
                    have p111 : 0 ≤ (x27_1 : Int) := of_decide_eq_true (by first | (with_reducible assumption) | assumption)
                    have q111 : x27_1 < (t105.length : Int) := of_decide_eq_true (by first | (with_reducible assumption) | assumption)
                    obtain ⟨ad111, A111_0, c111_0, e111, hx111_0, hl111_0, hi111_0⟩ := at_L4 (Kd.N_reads' HO_25.out).2.2 x27_1 p111 q111
                    cases e111
                    obtain ⟨ce111, hce111, hMe111, hcc111⟩ := Kd.N_get HO_25.out [] x27_1 p111 (by first | exact q111 | exact of_decide_eq_true (by first | (with_reducible assumption) | assumption) | (have e_ := (Kd.N_reads' HO_25.out).1; omega))
                    obtain ⟨ua111_0, uc111_0, rfl, ul111_0, ge111_0⟩ := Kd.FK_slice_open hMe111
                    have hv111_0 := hcc111 0 _ rfl
                    rw [Nat.add_zero, show ((Kd.slice 53 k53)).sz = 1 from rfl, Nat.mul_one] at hv111_0
                    replace hv111_0 := Option.some.inj (hv111_0.symm.trans hx111_0)
                    injection hv111_0 with hva_ hvn_ hvc_
                    rw [hva_] at ge111_0
                    rw [hvc_] at ul111_0
                    have HL111_0 := Aside0.mk (show Kd.V k53 53 _ w.heap.size _ _ (rd_L4 t105 x27_1) from Kd.V_mk ul111_0 ge111_0)
                    clear hva_ hvn_ hvc_ ge111_0 ul111_0
                    clear hcc111 hce111
                    have HR111_0 := Aside0.mk hi111_0
                    have HC111_0 := Aside0.mk hl111_0
                    clear hi111_0 hl111_0
                    replace p111 := eq_true p111
                    replace q111 := eq_true q111
                    try go_wp2_with (first | ((with_reducible refine gate_callee (f := 54) rfl ?_); refine goesL_ (some 32) rfl rfl Tryz.func54 (by kernel_rfl) rfl #[.slice A111_0 (rd_L4 t105 x27_1).length c111_0] rfl (by (try simp only [List.map_toArray, List.map_cons, List.map_nil]); first | done | rfl | (simp only [List.length_drop, List.length_take]; rfl)) ?_; (with_reducible refine (scan_label.calls _ _ (rd_L4 t105 x27_1) true _ ?side1 ?side2 A9.out).mono ?_); (case side1 => repeat (first | exact (by repeat (first | (with_reducible exact HR111_0.out) | (with_reducible refine Kd.C_alloc ?_ _) | (with_reducible refine Kd.C_drewN ?_ _) | (with_reducible refine Kd.C_drew ?_) | exact HR111_0.out)) | (with_reducible refine Kd.C_alloc ?_ _) | (with_reducible refine Kd.C_drewN ?_ _) | (with_reducible refine Kd.C_drew ?_))); (case side2 => exact HC111_0.out); rintro e w' ⟨rfl, ⟨nd, rfl⟩⟩; refine ⟨_, rfl, ?_⟩))
                    (try (rw [drewN_self wr]; generalize hq_ : World.drewN wr _ = wr; have n0_ : Aside0 (Kd.V k53 53 wr w.heap.size (fun k_ => some k_ ≠ (u10 : Value).ownBlock ∧ some k_ ≠ (.slice (some ad111) t105.length co5 : Value).ownBlock) (.slice A111_0 (rd_L4 t105 x27_1).length c111_0) (rd_L4 t105 x27_1)) := ⟨by rw [← hq_]; exact (by (with_reducible repeat (first | apply Kd.V_alloc | apply Kd.V_drewN | apply Kd.V_drew)); exact HL111_0.out)⟩; have n1_ : Aside0 (Kd.R k73 73 wr w.heap.size (fun _ => True) u10 x10_1) := ⟨by rw [← hq_]; exact (by (with_reducible repeat (first | apply Kd.R_alloc | apply Kd.R_drewN | apply Kd.R_drew)); exact HO_10.out)⟩; have n2_ : Aside0 (Kd.N (Kd.slice 53 k53) 24 wr w.heap.size (fun k_ => some k_ ≠ (u10 : Value).ownBlock) (.slice (some ad111) t105.length co5) t105) := ⟨by rw [← hq_]; exact (by (with_reducible repeat (first | apply Kd.N_alloc | apply Kd.N_drewN | apply Kd.N_drew)); exact HO_25.out)⟩; have n3_ : Aside0 (Below w.heap.size w wr) := ⟨by rw [← hq_]; exact (by repeat (first | (with_reducible first | exact HB.out | apply below_alloc | apply pw_below_drewN | apply below_drew1) | exact HB.out))⟩; have n4_ : Aside0 (Kd.C k53 wr A111_0 (rd_L4 t105 x27_1).length (rd_L4 t105 x27_1)) := ⟨by rw [← hq_]; exact (by repeat (first | (with_reducible exact HR111_0.out) | (with_reducible refine Kd.C_alloc ?_ _) | (with_reducible refine Kd.C_drewN ?_ _) | (with_reducible refine Kd.C_drew ?_) | exact HR111_0.out))⟩; clear HL111_0 HO_10 HO_25 HB HR111_0 hq_; have HL111_0 := n0_; have HO_10 := n1_; have HO_25 := n2_; have HB := n3_; have HR111_0 := n4_; clear n0_ n1_ n2_ n3_ n4_))
                    have n0_ := Aside0.mk (Kd.R_drew HO_10.out)
                    have n1_ := Aside0.mk (Kd.N_drew HO_25.out)
                    have n2_ := Aside0.mk (Kd.V_drew HL111_0.out)
                    have n3_ := Aside0.mk (Kd.C_drew HR111_0.out)
                    have n4_ := Aside0.mk (below_drew1 HB.out)
                    clear HO_10
                    clear HO_25
                    clear HL111_0
                    clear HR111_0
                    clear HB
                    have HO_10 := n0_
                    have HO_25 := n1_
                    have HL111_0 := n2_
                    have HR111_0 := n3_
                    have HB := n4_
                    clear n0_ n1_ n2_ n3_ n4_
                    have p113 : 0 ≤ (0 : Int) := (by omega)
                    have q113 : 0 < ((rd_L4 t105 x27_1).length : Int) := of_decide_eq_true (by first | (with_reducible assumption) | assumption)
                    obtain ⟨ad113, e113, hx113_0, hx113_1, hx113_2, hx113_3, hx113_4, hx113_5⟩ := at_T53 (by repeat (first | (with_reducible exact HR111_0.out) | (with_reducible refine Kd.C_alloc ?_ _) | (with_reducible refine Kd.C_drewN ?_ _) | (with_reducible refine Kd.C_drew ?_) | exact HR111_0.out)) 0 p113 q113
                    cases e113
                    have qi113 : (0 < (rd_L4 t105 x27_1).length) = True := eq_true (by omega)
                    (try rw [show ((0 : Int)).toNat = 0 from rfl] at hx113_0)
                    (try rw [show 0 * 6 = 0 from rfl] at hx113_0)
                    (try rw [Addr.add_zero'] at hx113_0)
                    (try rw [show ((0 : Int)).toNat = 0 from rfl] at hx113_1)
                    (try rw [show 0 * 6 = 0 from rfl] at hx113_1)
                    (try rw [Addr.add_zero'] at hx113_1)
                    (try rw [show ((0 : Int)).toNat = 0 from rfl] at hx113_2)
                    (try rw [show 0 * 6 = 0 from rfl] at hx113_2)
                    (try rw [Addr.add_zero'] at hx113_2)
                    (try rw [show ((0 : Int)).toNat = 0 from rfl] at hx113_3)
                    (try rw [show 0 * 6 = 0 from rfl] at hx113_3)
                    (try rw [Addr.add_zero'] at hx113_3)
                    (try rw [show ((0 : Int)).toNat = 0 from rfl] at hx113_4)
                    (try rw [show 0 * 6 = 0 from rfl] at hx113_4)
                    (try rw [Addr.add_zero'] at hx113_4)
                    (try rw [show ((0 : Int)).toNat = 0 from rfl] at hx113_5)
                    (try rw [show 0 * 6 = 0 from rfl] at hx113_5)
                    (try rw [Addr.add_zero'] at hx113_5)
                    replace p113 := eq_true p113
                    replace q113 := eq_true q113
                    have p114 : 0 ≤ (0 : Int) := (by omega)
                    have q114 : 0 < ((rd_L4 t105 x27_1).length : Int) := of_decide_eq_true (by first | (with_reducible assumption) | assumption)
                    obtain ⟨ad114, e114, hx114_0, hx114_1, hx114_2, hx114_3, hx114_4, hx114_5⟩ := at_T53 (by repeat (first | (with_reducible exact HR111_0.out) | (with_reducible refine Kd.C_alloc ?_ _) | (with_reducible refine Kd.C_drewN ?_ _) | (with_reducible refine Kd.C_drew ?_) | exact HR111_0.out)) 0 p114 q114
                    obtain rfl : ad113 = ad114 := (by injection e114)
                    have qi114 : (0 < (rd_L4 t105 x27_1).length) = True := eq_true (by omega)
                    (try rw [show ((0 : Int)).toNat = 0 from rfl] at hx114_0)
                    (try rw [show 0 * 6 = 0 from rfl] at hx114_0)
                    (try rw [Addr.add_zero'] at hx114_0)
                    (try rw [show ((0 : Int)).toNat = 0 from rfl] at hx114_1)
                    (try rw [show 0 * 6 = 0 from rfl] at hx114_1)
                    (try rw [Addr.add_zero'] at hx114_1)
                    (try rw [show ((0 : Int)).toNat = 0 from rfl] at hx114_2)
                    (try rw [show 0 * 6 = 0 from rfl] at hx114_2)
                    (try rw [Addr.add_zero'] at hx114_2)
                    (try rw [show ((0 : Int)).toNat = 0 from rfl] at hx114_3)
                    (try rw [show 0 * 6 = 0 from rfl] at hx114_3)
                    (try rw [Addr.add_zero'] at hx114_3)
                    (try rw [show ((0 : Int)).toNat = 0 from rfl] at hx114_4)
                    (try rw [show 0 * 6 = 0 from rfl] at hx114_4)
                    (try rw [Addr.add_zero'] at hx114_4)
                    (try rw [show ((0 : Int)).toNat = 0 from rfl] at hx114_5)
                    (try rw [show 0 * 6 = 0 from rfl] at hx114_5)
                    (try rw [Addr.add_zero'] at hx114_5)
                    replace p114 := eq_true p114
                    replace q114 := eq_true q114
                    refine start_ (n := 13) (S := fun w' => w'.cell? ad113 = some (.int .i64 ((rd_T53 (rd_L4 t105 x27_1) 0).f0)) ∧ w'.cell? ⟨ad113.block, ad113.off + 1, none⟩ = some (.string ((rd_T53 (rd_L4 t105 x27_1) 0).f1)) ∧ w'.cell? ⟨ad113.block, ad113.off + 2, none⟩ = some (.bool ((rd_T53 (rd_L4 t105 x27_1) 0).f2)) ∧ w'.cell? ⟨ad113.block, ad113.off + 3, none⟩ = some (.int .i64 ((rd_T53 (rd_L4 t105 x27_1) 0).f3)) ∧ w'.cell? ⟨ad113.block, ad113.off + 4, none⟩ = some (.int .i64 ((rd_T53 (rd_L4 t105 x27_1) 0).f4)) ∧ w'.cell? ⟨ad113.block, ad113.off + 5, none⟩ = some (.int .i64 ((rd_T53 (rd_L4 t105 x27_1) 0).f5)) ∧ w'.cell? ad113 = some (.int .i64 ((rd_T53 (rd_L4 t105 x27_1) 0).f0)) ∧ w'.cell? ⟨ad113.block, ad113.off + 1, none⟩ = some (.string ((rd_T53 (rd_L4 t105 x27_1) 0).f1)) ∧ w'.cell? ⟨ad113.block, ad113.off + 2, none⟩ = some (.bool ((rd_T53 (rd_L4 t105 x27_1) 0).f2)) ∧ w'.cell? ⟨ad113.block, ad113.off + 3, none⟩ = some (.int .i64 ((rd_T53 (rd_L4 t105 x27_1) 0).f3)) ∧ w'.cell? ⟨ad113.block, ad113.off + 4, none⟩ = some (.int .i64 ((rd_T53 (rd_L4 t105 x27_1) 0).f4)) ∧ w'.cell? ⟨ad113.block, ad113.off + 5, none⟩ = some (.int .i64 ((rd_T53 (rd_L4 t105 x27_1) 0).f5))) (ds := [10, 11]) #[false, false, false, false, false, false, false, false, false, false, false, false, false] (by kernel_rfl) rfl rfl ⟨hx113_0, hx113_1, hx113_2, hx113_3, hx113_4, hx113_5, hx114_0, hx114_1, hx114_2, hx114_3, hx114_4, hx114_5⟩ (fun hHeld => ?_); refine with_tabW scan_Labels.tab9 scan_Labels.bits9 (fun HT_ HW_ => ?_)
                    generalize wr.drew = w13 at HO_10 HO_25 HL111_0 HR111_0 HB hx113_0 hx113_1 hx113_2 hx113_3 hx113_4 hx113_5 hx114_0 hx114_1 hx114_2 hx114_3 hx114_4 hx114_5 hHeld ⊢
                    refine pure_ (i := 0) (N := some 33) (v := ?_) (a' := ?_) #[true, false, false, false, false, false, false, false, false, false, false, false, false] rfl rfl (any_of HT_.out (by kernel_rfl)) (fun _ _ _ h => h) (Or.inl ⟨by rfl, ?_⟩) ?_ ?_
                    rotate_left
                    · intro w'
                      go_simp
                      with_reducible rfl
                    rotate_left
                    · simp only [Act.put, List.setIfInBounds_toArray, List.set_cons_zero, List.set_cons_succ, i64_w, i32_w]
                      rfl
                    refine pure_ (i := 1) (N := some 34) (v := ?_) (a' := ?_) #[true, true, false, false, false, false, false, false, false, false, false, false, false] rfl rfl (any_of HT_.out (by kernel_rfl)) (fun _ _ _ h => h) (Or.inl ⟨by rfl, ?_⟩) ?_ ?_
                    rotate_left
                    · intro w'
                      go_simp
                      with_reducible rfl
                    rotate_left
                    · simp only [Act.put, List.setIfInBounds_toArray, List.set_cons_zero, List.set_cons_succ, i64_w, i32_w]
                      rfl
                    refine pure_ (i := 2) (N := some 35) (v := ?_) (a' := ?_) #[true, true, true, false, false, false, false, false, false, false, false, false, false] rfl rfl (any_of HT_.out (by kernel_rfl)) (fun _ _ _ h => h) (Or.inl ⟨by rfl, ?_⟩) ?_ ?_
                    rotate_left
                    · intro w'
                      go_simp
                      with_reducible rfl
                    rotate_left
                    · simp only [Act.put, List.setIfInBounds_toArray, List.set_cons_zero, List.set_cons_succ, i64_w, i32_w]
                      rfl
                    refine pure_ (i := 3) (N := some 36) (v := ?_) (a' := ?_) #[true, true, true, true, false, false, false, false, false, false, false, false, false] rfl rfl (any_of HT_.out (by kernel_rfl)) (fun _ _ _ h => h) (Or.inl ⟨by rfl, ?_⟩) ?_ ?_
                    rotate_left
                    · intro w'
                      go_simp
                      with_reducible rfl
                    rotate_left
                    · simp only [Act.put, List.setIfInBounds_toArray, List.set_cons_zero, List.set_cons_succ, i64_w, i32_w]
                      rfl
                    refine pure_ (i := 5) (N := some 38) (v := ?_) (a' := ?_) #[true, true, true, true, false, true, false, false, false, false, false, false, false] rfl rfl (any_of HT_.out (by kernel_rfl)) (fun _ _ _ h => h) (Or.inl ⟨by rfl, ?_⟩) ?_ ?_
                    rotate_left
                    · intro w'
                      go_simp
                      with_reducible rfl
                    rotate_left
                    · simp only [Act.put, List.setIfInBounds_toArray, List.set_cons_zero, List.set_cons_succ, i64_w, i32_w]
                      rfl
                    refine pure_ (i := 6) (N := some 39) (v := ?_) (a' := ?_) #[true, true, true, true, false, true, true, false, false, false, false, false, false] rfl rfl (any_of HT_.out (by kernel_rfl)) (fun _ _ _ h => h) (Or.inl ⟨by rfl, ?_⟩) ?_ ?_
                    rotate_left
                    · intro w'
                      go_simp
                      with_reducible rfl
                    rotate_left
                    · simp only [Act.put, List.setIfInBounds_toArray, List.set_cons_zero, List.set_cons_succ, i64_w, i32_w]
                      rfl
                    refine pure_ (i := 7) (N := some 40) (v := ?_) (a' := ?_) #[true, true, true, true, false, true, true, true, false, false, false, false, false] rfl rfl (any_of HT_.out (by kernel_rfl)) (fun _ _ _ h => h) (Or.inl ⟨by rfl, ?_⟩) ?_ ?_
                    rotate_left
                    · intro w'
                      go_simp
                      with_reducible rfl
                    rotate_left
                    · simp only [Act.put, List.setIfInBounds_toArray, List.set_cons_zero, List.set_cons_succ, i64_w, i32_w]
                      rfl
                    refine take_ (i := 4) (N := some 37) (v := ?_) (a' := ?_) #[true, true, true, true, true, true, true, true, false, false, false, false, false] rfl rfl (take_ofW HT_.out HW_.out (by kernel_rfl)) (fun _ _ _ h => h) (Or.inl ⟨by rfl, ?_⟩) hHeld ?_ ?_
                    rotate_left
                    · rintro w' ⟨s0, s1, s2, s3, s4, s5, s6, s7, s8, s9, s10, s11⟩
                      go_simp
                      with_reducible rfl
                    rotate_left
                    · simp only [Act.put, List.setIfInBounds_toArray, List.set_cons_zero, List.set_cons_succ, i64_w, i32_w]
                      rfl
                    refine take_ (i := 8) (N := some 41) (v := ?_) (a' := ?_) #[true, true, true, true, true, true, true, true, true, false, false, false, false] rfl rfl (take_ofW HT_.out HW_.out (by kernel_rfl)) (fun _ _ _ h => h) (Or.inl ⟨by rfl, ?_⟩) hHeld ?_ ?_
                    rotate_left
                    · rintro w' ⟨s0, s1, s2, s3, s4, s5, s6, s7, s8, s9, s10, s11⟩
                      go_simp
                      with_reducible rfl
                    rotate_left
                    · simp only [Act.put, List.setIfInBounds_toArray, List.set_cons_zero, List.set_cons_succ, i64_w, i32_w]
                      rfl
                    refine pure_ (i := 9) (N := some 42) (v := ?_) (a' := ?_) #[true, true, true, true, true, true, true, true, true, true, false, false, false] rfl rfl (any_of HT_.out (by kernel_rfl)) (fun _ _ _ h => h) (Or.inl ⟨by rfl, ?_⟩) ?_ ?_
                    rotate_left
                    · intro w'
                      go_simp
                      with_reducible rfl
                    rotate_left
                    · simp only [Act.put, List.setIfInBounds_toArray, List.set_cons_zero, List.set_cons_succ, i64_w, i32_w]
                      rfl
                    refine last_ (i := 10) (N := some 43) #[true, true, true, true, true, true, true, true, true, true, true, false, false] rfl rfl (one_of HT_.out (by kernel_rfl)) (by decide) (fun K hK => ?_)
                    refine value_ (w1 := ?_) (v := ?_) (by rfl) rfl ?_ ?_
                    rotate_left 2
                    · go_simp
                      constructor
                      · rfl
                      · rfl
                    refine hK.out _ _ ?_
                    clear hK K
                    refine norm_ (a' := ?_) ?_ ?_
                    rotate_left
                    · show Act.put _ (some 43) _ = _
                      simp only [Act.put, List.setIfInBounds_toArray, List.set_cons_zero, List.set_cons_succ, i64_w, i32_w]
                      rfl
                    refine last_ (i := 11) (N := some 44) #[true, true, true, true, true, true, true, true, true, true, true, true, false] rfl rfl (one_of HT_.out (by kernel_rfl)) (by decide) (fun K hK => ?_)
                    refine Kd.R_append_step k73 (w0 := w) w.heap.size (by rfl) (.tmp 33) (.tmp 43) 34 73 (.agg #[(.string ⟨#[]⟩), (.int .i64 0)]) 24 rfl Tryz.underlying34 info73 rfl (by decide) (by omega) u10 x10_1 (⟨(rd_T53 (rd_L4 t105 x27_1) 0).f1, (rd_T53 (rd_L4 t105 x27_1) 0).f3⟩ : S73) [.string ((rd_T53 (rd_L4 t105 x27_1) 0).f1), .int .i64 ((rd_T53 (rd_L4 t105 x27_1) 0).f3)] (fun _ => True) (fun _ => False) rfl rfl ?aP (fun _ hk => hk.elim) ?aF ?aO ?aB ?aS ?aL ?_
                    (case aP => exact k73_mkM _ _ _ (⟨(rd_T53 (rd_L4 t105 x27_1) 0).f1, (rd_T53 (rd_L4 t105 x27_1) 0).f3⟩ : S73))
                    (case aB => exact (by repeat (first | (with_reducible first | exact HB.out | apply below_alloc | apply pw_below_drewN | apply below_drew1) | exact HB.out)))
                    (case aF => exact (fun _ _ => trivial))
                    (case aO => exact (by (with_reducible repeat (first | apply Kd.R_alloc | apply Kd.R_drewN | apply Kd.R_drew)); exact HO_10.out))
                    (case aS => exact (below_size (by repeat (first | (with_reducible first | exact HB.out | apply below_alloc | apply pw_below_drewN | apply below_drew1) | exact HB.out))))
                    (case aL => have := LMc12.out; omega)
                    intro v116 w14 ho hb hg hat
                    rw [← Ny115.out] at ho
                    have n0_ := Aside0.mk (Kd.N_afterv (ok := (fun _ => True)) (by (with_reducible repeat (first | apply Kd.N_alloc | apply Kd.N_drewN | apply Kd.N_drew)); exact Kd.N_mono HO_25.out (fun _ hk => ⟨trivial, hk⟩)) hg hat)
                    have n1_ := Aside0.mk (Kd.V_afterv (ok := (fun k_ => some k_ ≠ (.slice (some ad111) t105.length co5 : Value).ownBlock)) (by (with_reducible repeat (first | apply Kd.V_alloc | apply Kd.V_drewN | apply Kd.V_drew)); exact Kd.V_mono HL111_0.out (fun _ hk => ⟨hk.2, hk.1⟩)) hg hat)
                    have n2_ := Aside0.mk (hb)
                    have n3_ := Aside0.mk (ho)
                    clear HO_25
                    clear HL111_0
                    clear HB
                    clear HO_10
                    have HO_25 := n0_
                    have HL111_0 := n1_
                    have HB := n2_
                    have HO117 := n3_
                    clear n0_ n1_ n2_ n3_
                    clear ho hb hg hat
                    refine hK.out _ _ ?_
                    clear hK K
                    refine norm_ (a' := ?_) ?_ ?_
                    rotate_left
                    · show Act.put _ (some 44) _ = _
                      simp only [Act.put, List.setIfInBounds_toArray, List.set_cons_zero, List.set_cons_succ, i64_w, i32_w]
                      rfl
                    refine pure_ (i := 12) (N := some 10) (v := ?_) (a' := ?_) #[true, true, true, true, true, true, true, true, true, true, true, true, true] rfl rfl (any_of HT_.out (by kernel_rfl)) (fun _ _ _ h => h) (Or.inl ⟨by rfl, ?_⟩) ?_ ?_
                    rotate_left
                    · intro w'
                      go_simp
                      with_reducible rfl
                    rotate_left
                    · simp only [Act.put, List.setIfInBounds_toArray, List.set_cons_zero, List.set_cons_succ, i64_w, i32_w]
                      rfl
                    refine done_ (done_of HT_.out (by kernel_rfl)) ?_
                    try go_wp2
                    go_roundg k1
                    case measure => have := HK1.out; omega
                    case rel => exact ⟨(y115), (wrap64 (x27_1 + 1)), (by first | rfl | (simp; done) | (simp [*]; done)), H', ⟨by have := HK1.out; omega⟩, ⟨by (with_reducible repeat (first | apply Kd.R_alloc | apply Kd.R_drewN | apply Kd.R_drew)); exact HO117.out⟩, ⟨by (with_reducible repeat (first | apply Kd.N_alloc | apply Kd.N_drewN | apply Kd.N_drew)); exact Kd.N_mono HO_25.out (fun _ hk => hk.2)⟩, ⟨by repeat (first | (with_reducible first | exact HB.out | apply below_alloc | apply pw_below_drewN | apply below_drew1) | exact HB.out)⟩⟩
                  · rw [if_neg c12] at H
                    exact absurd H (by simp)
                · rw [if_neg c11] at H
                  exact absurd H (by simp)
              · replace c10 := Bool.eq_false_iff.mpr c10
                subst c10
                have H1 : (scan_Labels.l0 k1 x10_1 t105 (t105.length : Int) (wrap64 (x27_1 + 1))) = some (r1, r2, r3, r4) := by rw [if_neg (show ¬ (false = true) by decide)] at H; exact H
                clear H
                have H := H1
                clear H1
                have H' := Aside0.mk H
                clear H
                have p111 : 0 ≤ (x27_1 : Int) := of_decide_eq_true (by first | (with_reducible assumption) | assumption)
                have q111 : x27_1 < (t105.length : Int) := of_decide_eq_true (by first | (with_reducible assumption) | assumption)
                obtain ⟨ad111, A111_0, c111_0, e111, hx111_0, hl111_0, hi111_0⟩ := at_L4 (Kd.N_reads' HO_25.out).2.2 x27_1 p111 q111
                cases e111
                obtain ⟨ce111, hce111, hMe111, hcc111⟩ := Kd.N_get HO_25.out [] x27_1 p111 (by first | exact q111 | exact of_decide_eq_true (by first | (with_reducible assumption) | assumption) | (have e_ := (Kd.N_reads' HO_25.out).1; omega))
                obtain ⟨ua111_0, uc111_0, rfl, ul111_0, ge111_0⟩ := Kd.FK_slice_open hMe111
                have hv111_0 := hcc111 0 _ rfl
                rw [Nat.add_zero, show ((Kd.slice 53 k53)).sz = 1 from rfl, Nat.mul_one] at hv111_0
                replace hv111_0 := Option.some.inj (hv111_0.symm.trans hx111_0)
                injection hv111_0 with hva_ hvn_ hvc_
                rw [hva_] at ge111_0
                rw [hvc_] at ul111_0
                have HL111_0 := Aside0.mk (show Kd.V k53 53 _ w.heap.size _ _ (rd_L4 t105 x27_1) from Kd.V_mk ul111_0 ge111_0)
                clear hva_ hvn_ hvc_ ge111_0 ul111_0
                clear hcc111 hce111
                have HR111_0 := Aside0.mk hi111_0
                have HC111_0 := Aside0.mk hl111_0
                clear hi111_0 hl111_0
                replace p111 := eq_true p111
                replace q111 := eq_true q111
                go_wp2_with (first | ((with_reducible refine gate_callee (f := 54) rfl ?_); refine goesL_ (some 32) rfl rfl Tryz.func54 (by kernel_rfl) rfl #[.slice A111_0 (rd_L4 t105 x27_1).length c111_0] rfl (by (try simp only [List.map_toArray, List.map_cons, List.map_nil]); first | done | rfl | (simp only [List.length_drop, List.length_take]; rfl)) ?_; (with_reducible refine (scan_label.calls _ _ (rd_L4 t105 x27_1) false _ ?side1 ?side2 A9.out).mono ?_); (case side1 => repeat (first | exact (by repeat (first | (with_reducible exact HR111_0.out) | (with_reducible refine Kd.C_alloc ?_ _) | (with_reducible refine Kd.C_drewN ?_ _) | (with_reducible refine Kd.C_drew ?_) | exact HR111_0.out)) | (with_reducible refine Kd.C_alloc ?_ _) | (with_reducible refine Kd.C_drewN ?_ _) | (with_reducible refine Kd.C_drew ?_))); (case side2 => exact HC111_0.out); rintro e w' ⟨rfl, ⟨nd, rfl⟩⟩; refine ⟨_, rfl, ?_⟩))
                go_roundg k1
                case measure => have := HK1.out; omega
                case rel => exact ⟨(x10_1), (wrap64 (x27_1 + 1)), (by first | rfl | (simp; done) | (simp [*]; done)), H', ⟨by have := HK1.out; omega⟩, ⟨by (with_reducible repeat (first | apply Kd.R_alloc | apply Kd.R_drewN | apply Kd.R_drew)); exact HO_10.out⟩, ⟨by (with_reducible repeat (first | apply Kd.N_alloc | apply Kd.N_drewN | apply Kd.N_drew)); exact HO_25.out⟩, ⟨by repeat (first | (with_reducible first | exact HB.out | apply below_alloc | apply pw_below_drewN | apply below_drew1) | exact HB.out)⟩⟩
            · rw [if_neg c8] at H
              exact absurd H (by simp)
          · rw [if_neg c7] at H
            exact absurd H (by simp)
        · rw [if_neg c6] at H
          have c6b0 : decide (x27_1 < (t105.length : Int)) = false := decide_eq_false c6
          clear c6
          simp only [Option.some.injEq, Prod.mk.injEq] at H
          obtain ⟨rfl, rfl, rfl, rfl⟩ := H
          go_wp2
          refine bodyPost_ret (results_list (rs := [.tmp 2, .tmp 3, .tmp 4, .tmp 5]) rfl (by simp) (.tmp (.tmp (.tmp (.tmp .nil))))) rfl ?_
          exact ⟨_, by first | rfl | (simp [errW_none, errW_some] <;> rfl) | (simp [*, errW_none, errW_some] <;> rfl), by (with_reducible repeat (first | apply Kd.R_alloc | apply Kd.R_drewN | apply Kd.R_drew)); exact HO_10.out, by repeat (first | (with_reducible first | exact HB.out | apply below_alloc | apply pw_below_drewN | apply below_drew1) | exact HB.out)⟩
  · rw [if_neg c3] at H
    have c3b0 : (t108 == 0) = false := beq_eq_false_iff_ne.mpr c3
    have c3b1 : (t108 != 0) = true := bne_iff_ne.mpr c3
    simp only [Option.some.injEq, Prod.mk.injEq] at H
    obtain ⟨rfl, rfl, rfl, rfl⟩ := H
    go_enter Tryz.func20, Tryz.ntmps20
    go_wp2_with (first | ((with_reducible refine gate_callee (f := 19) rfl ?_); refine goesL_ (some 15) rfl rfl Tryz.func19 (by kernel_rfl) rfl #[.string a0] rfl (by (try simp only [List.map_toArray, List.map_cons, List.map_nil]); first | done | rfl | (simp only [List.length_drop, List.length_take]; rfl)) ?_; (with_reducible refine (scan_Clauses.calls a0 t105 t106 t107 t108 _ (TabOK.of_below hT (by repeat (first | (with_reducible first | exact HB.out | apply below_alloc | apply pw_below_drewN | apply below_drew1) | exact HB.out))) A2.out).mono ?_); rintro e w15 ⟨v109, rfl, ho0, hb⟩; refine ⟨_, rfl, ?_⟩; have n0_ := Aside0.mk (Kd.N_lower (Kd.N_mono (ok' := fun k_ => True) ho0 (fun k_ hk_ => trivial)) (below_size (by repeat (first | (with_reducible first | exact HB.out | apply below_alloc | apply pw_below_drewN | apply below_drew1) | exact HB.out)))); have n1_ := Aside0.mk (below_step (by repeat (first | (with_reducible first | exact HB.out | apply below_alloc | apply pw_below_drewN | apply below_drew1) | exact HB.out)) hb); clear HB; have HO110 := n0_; have HB := n1_; clear n0_ n1_; (try clear hb); (try clear hb2); (try clear hk); (try clear hi); (try clear ho0)))
    refine bodyPost_ret (results_list (rs := [.tmp 2, .tmp 3, .tmp 4, .tmp 5]) rfl (by simp) (.tmp (.tmp (.tmp (.tmp .nil))))) rfl ?_
    exact ⟨_, by first | rfl | (simp [errW_none, errW_some] <;> rfl) | (simp [*, errW_none, errW_some] <;> rfl), by first | exact Kd.R_nil _ _ _ _ _ | exact Kd.N_nil _ _ _ _ _ | exact Kd.V_nil _ _ _ _ _ | exact Kd.Q_nil _ _ _ _ _ | exact Kd.S_nil _ _ _ _ _, by repeat (first | (with_reducible first | exact HB.out | apply below_alloc | apply pw_below_drewN | apply below_drew1) | exact HB.out)⟩
end Go.Proofs.YtkkpjonfaflkmaaGreatDoor.T

namespace Go.Proofs.YtkkpjonfaflkmaaGreatDoor.T
set_option linter.unusedSimpArgs false
open Go.RowKit Go.Proofs.YtkkpjonfaflkmaaGreatDoorW.PrintWords Go.Proofs.YtkkpjonfaflkmaaGreatDoorW.PrintLast Go.Proofs.YtkkpjonfaflkmaaGreatDoorW.PrintMore
attribute [local go_sem] max2_int min2_int max_two min_two max_three min_three max_four min_four   -- for this text's walks alone
set_option linter.unusedVariables false
set_option linter.unusedSimpArgs false
theorem eqA73 (d : Nat) (w : World) (x0 y0 : ByteArray) (x1 y1 : Int) :
    (Op.equalIn (d + 2) 73 (.agg #[.string x0, .int .i64 x1]) (.agg #[.string y0, .int .i64 y1])).run Tryz.prog w = .ok (x0.toList == y0.toList && (x1 == y1)) w := by
  refine eqA_of Tryz.underlying73 (by kernel_rfl) ?_
  refine eqf_cons (by rfl) (by go_simp; rfl) (by go_simp; rfl) (by go_simp) ?_
  exact eqf_last (by rfl) (by go_simp; rfl) (by go_simp; rfl) (by go_simp)
end Go.Proofs.YtkkpjonfaflkmaaGreatDoor.T

namespace Go.Proofs.YtkkpjonfaflkmaaGreatDoor.T
set_option linter.unusedSimpArgs false
set_option linter.unusedVariables false
open Go.RowKit Go.Maps Go.Proofs.YtkkpjonfaflkmaaGreatDoorW.PrintWords Go.Proofs.YtkkpjonfaflkmaaGreatDoorW.PrintLast Go.Proofs.YtkkpjonfaflkmaaGreatDoorW.PrintMore
attribute [local go_sem] Oper.semAt_some
def sanA : ByteArray := ⟨#[115, 97, 121, 32, 49, 32, 43, 32, 97, 46, 98, 32, 45, 45, 32, 47, 42, 32, 120, 32, 42, 47, 32, 39, 105, 116, 39, 39, 115, 39]⟩
def sanB : ByteArray := ⟨#[49, 101, 43, 53, 120]⟩
def sanC : ByteArray := ⟨#[102, 40, 97, 44, 32, 10, 98, 41]⟩
def sanD : ByteArray := ⟨#[120, 58, 32, 121, 58, 32, 115, 97, 121, 32, 49, 59, 32, 59, 32, 115, 97, 121, 32, 50]⟩
def sanE : ByteArray := ⟨#[97, 10, 39, 98]⟩
def sanF : ByteArray := ⟨#[97, 32, 47, 42, 32, 98, 32, 47, 42, 32, 99, 32, 42, 47, 10, 100]⟩
def sanW : List S53 := [⟨1, ⟨#[65]⟩, false, 0, 0, 0⟩, ⟨1, ⟨#[66]⟩, false, 0, 0, 0⟩, ⟨4, ⟨#[]⟩, false, 0, 0, 0⟩]
def toksOf (s : ByteArray) : List S53 := (S.tokens (bytesOf s)).map toS
theorem san_tokens (s : ByteArray) (n : Nat) (c l e : Int) (hf : scan_Tokens.f s = some (toksOf s, c, l, e)) (hn : (toksOf s).length = n) (h0 : 0 < n) (w : World) (hT : TabOK w) :
    Calls Tryz.prog 17 #[.string s] w fun e' w' => ∃ ad cp, e' = .returned (.tuple #[.slice (some ad) n cp, .int .i64 c, .int .i64 l, .int .i64 e]) ∧ Kd.C k53 w' (some ad) n (toksOf s) ∧ Below w.heap.size w w' := by
  refine (scan_Tokens.calls s _ _ _ _ w hT hf).mono ?_
  rintro e' w' ⟨v0, rfl, hR, hb⟩
  obtain ⟨A, cp, rfl, hc, hC⟩ := Kd.R_reads hR
  rw [hn] at hC ⊢
  obtain ⟨ad, rfl⟩ : ∃ ad, A = some ad := by
    obtain ⟨h1, h2, h3⟩ := hC
    obtain ⟨ad, e, _⟩ := h3 h0
    exact ⟨ad, e⟩
  exact ⟨ad, cp, rfl, hC, hb⟩
theorem sanA_f : scan_Tokens.f sanA = some (toksOf sanA, 0, 0, 0) := by
  have h1 : (S.scan (bytesOf sanA)).err = none := by decide +kernel
  unfold scan_Tokens.f
  rw [if_pos (by decide), h1]; rfl
theorem sanB_f : scan_Tokens.f sanB = some (toksOf sanB, 0, 0, 0) := by
  have h1 : (S.scan (bytesOf sanB)).err = none := by decide +kernel
  unfold scan_Tokens.f
  rw [if_pos (by decide), h1]; rfl
theorem sanC_f : scan_Tokens.f sanC = some (toksOf sanC, 0, 0, 0) := by
  have h1 : (S.scan (bytesOf sanC)).err = none := by decide +kernel
  unfold scan_Tokens.f
  rw [if_pos (by decide), h1]; rfl
theorem sanE_f : scan_Tokens.f sanE = some (toksOf sanE, 6, 2, 7) := by
  have h1 : (S.scan (bytesOf sanE)).err = some (6, 2) := by decide +kernel
  unfold scan_Tokens.f
  rw [if_pos (by decide), h1]; rfl
theorem sanF_f : scan_Tokens.f sanF = some (toksOf sanF, 6, 1, 7) := by
  have h1 : (S.scan (bytesOf sanF)).err = some (6, 1) := by decide +kernel
  unfold scan_Tokens.f
  rw [if_pos (by decide), h1]; rfl
theorem sanW_f : scan_Write.f sanW = some (⟨#[65, 47, 42, 42, 47, 66, 10]⟩, 0) := by decide +kernel
theorem san_split : scan_Split.f ⟨#[97, 46, 98, 46]⟩ = some (⟨#[65, 46]⟩, [⟨#[66]⟩, ⟨#[]⟩], 0) := by decide +kernel
theorem san_val : scan_Value.f ⟨#[39, 52, 97, 52, 66, 39, 120]⟩ = some (⟨#[74, 75]⟩, 0, 0) := by decide +kernel
theorem san_lit : scan_Literal.f ⟨#[105, 116, 39, 115]⟩ = some (⟨#[34, 105, 116, 39, 115, 34]⟩, 0) := by decide +kernel
def sanM : List S73 := [⟨⟨#[88]⟩, 1⟩, ⟨⟨#[89]⟩, 1⟩]
theorem marks_inj : ∀ l : List S73, l.map (fun x => (x.f0, x.f1)) = [((⟨#[88]⟩ : ByteArray), (1 : Int)), (⟨#[89]⟩, 1)] → l = sanM
  | [], h => by cases h
  | [_], h => by simp at h
  | [a, b], h => by
    obtain ⟨a0, a1⟩ := a
    obtain ⟨b0, b1⟩ := b
    simp only [List.map_cons, List.map_nil, List.cons.injEq, Prod.mk.injEq, and_true] at h
    obtain ⟨⟨rfl, rfl⟩, rfl, rfl⟩ := h
    rfl
  | _ :: _ :: _ :: _, h => by simp at h
theorem san_labels : scan_Labels.f 10 sanD = some (sanM, 0, 0, 0) := by
  have h : (scan_Labels.f 10 sanD).map (fun p => (p.1.map (fun x => (x.f0, x.f1)), p.2)) = some ([((⟨#[88]⟩ : ByteArray), (1 : Int)), (⟨#[89]⟩, 1)], 0, 0, 0) := by decide +kernel
  obtain ⟨p, h1, h2⟩ := Option.map_eq_some_iff.1 h
  obtain ⟨l, q⟩ := p
  simp only [Prod.mk.injEq] at h2
  rw [h1, marks_inj l h2.1]
  obtain ⟨h3, rfl, rfl, rfl⟩ := h2
  rfl
theorem san_labels_c (w : World) (hT : TabOK w) :
    Calls Tryz.prog 20 #[.string sanD] w fun e' w' => ∃ ad cp, e' = .returned (.tuple #[.slice (some ad) 2 cp, .int .i64 0, .int .i64 0, .int .i64 0]) ∧ Kd.C k73 w' (some ad) 2 sanM ∧ Below w.heap.size w w' := by
  refine (scan_Labels.calls 10 sanD _ _ _ _ w hT san_labels).mono ?_
  rintro e' w' ⟨v0, rfl, hR, hb⟩
  obtain ⟨A, cp, rfl, hc, hC⟩ := Kd.R_reads hR
  obtain ⟨ad, rfl⟩ : ∃ ad, A = some ad := by
    obtain ⟨h1, h2, h3⟩ := hC
    obtain ⟨ad, e, _⟩ := h3 (by decide)
    exact ⟨ad, e⟩
  exact ⟨ad, cp, rfl, hC, hb⟩
theorem san_split_c (w : World) (hT : TabOK w) :
    Calls Tryz.prog 27 #[.string ⟨#[97, 46, 98, 46]⟩] w fun e' w' => ∃ ad cp, e' = .returned (.tuple #[.string ⟨#[65, 46]⟩, .slice (some ad) 2 cp, .int .i64 0]) ∧ Kd.C Kd.string w' (some ad) 2 [⟨#[66]⟩, ⟨#[]⟩] ∧ Below w.heap.size w w' := by
  refine (scan_Split.calls _ _ _ _ w hT san_split).mono ?_
  rintro e' w' ⟨v0, rfl, hR, hb⟩
  obtain ⟨A, cp, rfl, hc, hC⟩ := Kd.R_reads hR
  obtain ⟨ad, rfl⟩ : ∃ ad, A = some ad := by
    obtain ⟨h1, h2, h3⟩ := hC
    obtain ⟨ad, e, _⟩ := h3 (by decide)
    exact ⟨ad, e⟩
  exact ⟨ad, cp, rfl, hC, hb⟩
theorem tok_at {w : World} {ad : Addr} {n : Nat} {l : List S53} (h : Kd.C k53 w (some ad) n l) (i : Nat) (hi : i < n) (t : S53) (ht : rd_T53 l (i : Int) = t) :
    w.cell? (ad.add (i * 6)) = some (.int .i64 t.f0) ∧ w.cell? ⟨(ad.add (i * 6)).block, (ad.add (i * 6)).off + 1, none⟩ = some (.string t.f1) ∧ w.cell? ⟨(ad.add (i * 6)).block, (ad.add (i * 6)).off + 2, none⟩ = some (.bool t.f2) ∧ w.cell? ⟨(ad.add (i * 6)).block, (ad.add (i * 6)).off + 3, none⟩ = some (.int .i64 t.f3) := by
  obtain ⟨ad', e, x0, x1, x2, x3, _⟩ := at_T53 h (i : Int) (by omega) (by omega)
  cases e
  simp only [Int.toNat_natCast] at x0 x1 x2 x3
  subst ht
  exact ⟨x0, x1, x2, x3⟩
theorem add_lit (ad : Addr) (n : Nat) (h : 0 < n) : ad.add n = ⟨ad.block, ad.off + n, none⟩ := by
  unfold Addr.add
  rw [if_neg (by omega)]
attribute [local go_sem high] eqA73
set_option maxRecDepth 100000 in
set_option maxHeartbeats 16000000 in
theorem san_holds (w : World) (hT : TabOK w) : Calls Tryz.prog 16 #[] w fun e w' => e = .returned (.bool true) ∧ Below w.heap.size w w' := by
  have HT := Aside0.mk hT
  have HA := Lib.hid (fun W hW => san_tokens sanA 8 _ _ _ sanA_f (by decide +kernel) (by decide) W hW)
  have HB := Lib.hid (fun W hW => san_tokens sanB 3 _ _ _ sanB_f (by decide +kernel) (by decide) W hW)
  have HC := Lib.hid (fun W hW => san_tokens sanC 6 _ _ _ sanC_f (by decide +kernel) (by decide) W hW)
  have HD := Lib.hid (fun W hW => san_labels_c W hW)
  have HE := Lib.hid (fun W hW => san_tokens sanE 2 _ _ _ sanE_f (by decide +kernel) (by decide) W hW)
  have HF := Lib.hid (fun W hW => san_tokens sanF 1 _ _ _ sanF_f (by decide +kernel) (by decide) W hW)
  have HV := Lib.hid (fun W => scan_Value.calls _ _ _ _ W san_val)
  have HS := Lib.hid (fun W hW => san_split_c W hW)
  clear hT
  go_enter Tryz.func16, Tryz.ntmps16
  go_upto_region 2 with (go_at_call 17; refine (HA.out _ HT.out).mono ?_; rintro e w1 ⟨adA, cpA, rfl, hCA, hb1⟩)
  have HT1 := Aside0.mk (HT.out.of_below hb1)
  go_upto_region 3 with (go_at_call 17; refine (HB.out _ HT1.out).mono ?_; rintro e w2 ⟨adB, cpB, rfl, hCB, hb2⟩)
  have HT2 := Aside0.mk (HT1.out.of_below hb2)
  go_upto_region 4 with (go_at_call 17; refine (HC.out _ HT2.out).mono ?_; rintro e w3 ⟨adC, cpC, rfl, hCC, hb3⟩)
  have HT3 := Aside0.mk (HT2.out.of_below hb3)
  go_upto_region 5 with (go_at_call 20; refine (HD.out _ HT3.out).mono ?_; rintro e w4 ⟨adD, cpD, rfl, hCD, hb4⟩)
  have HT4 := Aside0.mk (HT3.out.of_below hb4)
  go_upto_region 6 with (go_at_call 17; refine (HE.out _ HT4.out).mono ?_; rintro e w5 ⟨adE, cpE, rfl, hCE, hb5⟩)
  have HT5 := Aside0.mk (HT4.out.of_below hb5)
  go_upto_region 7 with (go_at_call 17; refine (HF.out _ HT5.out).mono ?_; rintro e w6 ⟨adF, cpF, rfl, hCF, hb6⟩)
  have HT6 := Aside0.mk (HT5.out.of_below hb6)
  go_upto_region 8 with (go_at_call 32; refine (HV.out _).mono ?_; rintro e w7 ⟨rfl, hb7⟩)
  have HT7 := Aside0.mk (HT6.out.of_below hb7)
  go_upto_region 9 with (go_at_call 27; refine (HS.out _ HT7.out).mono ?_; rintro e w8 ⟨adS, cpS, rfl, hCS, hb8⟩)
  have kA := Kd.C_below (Kd.C_below (Kd.C_below (Kd.C_below (Kd.C_below (Kd.C_below (Kd.C_below hCA hb2) hb3) hb4) hb5) hb6) hb7) hb8
  have kB := Kd.C_below (Kd.C_below (Kd.C_below (Kd.C_below (Kd.C_below (Kd.C_below hCB hb3) hb4) hb5) hb6) hb7) hb8
  have kC := Kd.C_below (Kd.C_below (Kd.C_below (Kd.C_below (Kd.C_below hCC hb4) hb5) hb6) hb7) hb8
  have kD := Kd.C_below (Kd.C_below (Kd.C_below (Kd.C_below hCD hb5) hb6) hb7) hb8
  have hB8 : Below w.heap.size w w8 := by
    have s1 := hb1.size
    have s2 := hb2.size
    have s3 := hb3.size
    have s4 := hb4.size
    have s5 := hb5.size
    have s6 := hb6.size
    have s7 := hb7.size
    exact hb1.trans ((hb2.mono (by omega)).trans ((hb3.mono (by omega)).trans ((hb4.mono (by omega)).trans ((hb5.mono (by omega)).trans ((hb6.mono (by omega)).trans ((hb7.mono (by omega)).trans (hb8.mono (by omega))))))))
  have HT8 := Aside0.mk (HT7.out.of_below hb8)
  have HB8 := Aside0.mk hB8
  have HS8 := Aside0.mk hCS
  clear hCA hCB hCC hCD hCE hCF hb1 hb2 hb3 hb4 hb5 hb6 hb7 hb8 hB8 hCS HT1 HT2 HT3 HT4 HT5 HT6 HT7 HT HA HB HC HD HE HF HV HS
  have KA := Aside0.mk kA
  have KB := Aside0.mk kB
  have KC := Aside0.mk kC
  have KD := Aside0.mk kD
  clear kA kB kC kD
  go_upto_region 11 with (fail)
  obtain ⟨p30, p31, p32, p33⟩ := tok_at KA.out 3 (by decide) ⟨1, ⟨#[65, 46, 66]⟩, true, 1, 8, 11⟩ (by kernel_rfl)
  rw [add_lit _ _ (by decide)] at p30 p31 p32 p33
  simp only [Nat.reduceMul] at p30 p31 p32 p33
  obtain ⟨p50, p51, p52, p53⟩ := tok_at KA.out 5 (by decide) ⟨3, ⟨#[45]⟩, false, 1, 13, 14⟩ (by kernel_rfl)
  rw [add_lit _ _ (by decide)] at p50 p51 p52 p53
  simp only [Nat.reduceMul] at p50 p51 p52 p53
  obtain ⟨p60, p61, p62, p63⟩ := tok_at KA.out 6 (by decide) ⟨2, ⟨#[105, 116, 39, 115]⟩, true, 1, 23, 30⟩ (by kernel_rfl)
  rw [add_lit _ _ (by decide)] at p60 p61 p62 p63
  simp only [Nat.reduceMul] at p60 p61 p62 p63
  obtain ⟨p70, p71, p72, p73⟩ := tok_at KA.out 7 (by decide) ⟨4, ⟨#[]⟩, false, 1, 30, 30⟩ (by kernel_rfl)
  rw [add_lit _ _ (by decide)] at p70 p71 p72 p73
  simp only [Nat.reduceMul] at p70 p71 p72 p73
  obtain ⟨q00, q01, q02, q03⟩ := tok_at KB.out 0 (by decide) ⟨1, ⟨#[49, 69, 43, 53]⟩, false, 1, 0, 4⟩ (by kernel_rfl)
  rw [show (0 : Nat) * 6 = 0 from rfl, Addr.add_zero'] at q00 q01 q02 q03
  obtain ⟨q10, q11, q12, q13⟩ := tok_at KB.out 1 (by decide) ⟨1, ⟨#[88]⟩, false, 1, 4, 5⟩ (by kernel_rfl)
  rw [add_lit _ _ (by decide)] at q10 q11 q12 q13
  simp only [Nat.reduceMul] at q10 q11 q12 q13
  go_upto_region 12 with (fail)
  clear p30 p31 p32 p33 p50 p51 p52 p53 p60 p61 p62 p63 p70 p71 p72 p73 q00 q01 q02 q03 q10 q11 q12 q13
  obtain ⟨r20, r21, r22, r23⟩ := tok_at KC.out 2 (by decide) ⟨1, ⟨#[65]⟩, false, 1, 2, 3⟩ (by kernel_rfl)
  rw [add_lit _ _ (by decide)] at r20 r21 r22 r23
  simp only [Nat.reduceMul] at r20 r21 r22 r23
  obtain ⟨r30, r31, r32, r33⟩ := tok_at KC.out 3 (by decide) ⟨1, ⟨#[66]⟩, true, 2, 6, 7⟩ (by kernel_rfl)
  rw [add_lit _ _ (by decide)] at r30 r31 r32 r33
  simp only [Nat.reduceMul] at r30 r31 r32 r33
  obtain ⟨am, em, m0, m1⟩ := at_T73 KD.out (1 : Int) (by decide) (by decide)
  cases em
  rw [show rd_T73 sanM (1 : Int) = ⟨⟨#[89]⟩, 1⟩ from rfl, show (1 : Int).toNat * 2 = 2 from rfl, add_lit _ _ (by decide)] at m0 m1
  have HW := Lib.hid (fun (W : World) (g : Nat) (h : W.heap[g]? = some (.cells #[.int .i64 1, .string ⟨#[65]⟩, .bool false, .int .i64 0, .int .i64 0, .int .i64 0, .int .i64 1, .string ⟨#[66]⟩, .bool false, .int .i64 0, .int .i64 0, .int .i64 0, .int .i64 4, .string ⟨#[]⟩, .bool false, .int .i64 0, .int .i64 0, .int .i64 0] 53 (0, 0))) (hW : TabOK W) => scan_Write.calls (some ⟨g, 0, none⟩) 3 sanW _ _ W hW (row_C h rfl (by decide)) (Nat.le_refl _) sanW_f)
  go_upto_region 13 with (fail)
  clear r20 r21 r22 r23 r30 r31 r32 r33 m0 m1
  have hal : Below w8.heap.size w8 (w8.alloc (.cells #[.int .i64 1, .string ⟨#[65]⟩, .bool false, .int .i64 0, .int .i64 0, .int .i64 0, .int .i64 1, .string ⟨#[66]⟩, .bool false, .int .i64 0, .int .i64 0, .int .i64 0, .int .i64 4, .string ⟨#[]⟩, .bool false, .int .i64 0, .int .i64 0, .int .i64 0] 53)) := below_alloc (Below.refl _ _) _
  have HAL := Aside0.mk hal
  have HNW := Aside0.mk (heap_alloc_new w8 (.cells #[.int .i64 1, .string ⟨#[65]⟩, .bool false, .int .i64 0, .int .i64 0, .int .i64 0, .int .i64 1, .string ⟨#[66]⟩, .bool false, .int .i64 0, .int .i64 0, .int .i64 0, .int .i64 4, .string ⟨#[]⟩, .bool false, .int .i64 0, .int .i64 0, .int .i64 0] 53))
  clear hal
  go_upto_region 14 with (go_at_call 35; refine (HW.out _ _ HNW.out (HT8.out.of_below HAL.out)).mono ?_; rintro e w9 ⟨rfl, hb9⟩)
  have HT9 := Aside0.mk ((HT8.out.of_below HAL.out).of_below hb9)
  have HL := Lib.hid (fun W hW => scan_Literal.calls _ _ _ W hW san_lit)
  go_upto_region 15 with (go_at_call 30; refine (HL.out _ HT9.out).mono ?_; rintro e w10 ⟨rfl, hb10⟩)
  have hB9 : Below w8.heap.size w8 w10 := by
    have s1 := HAL.out.size
    have s2 := hb9.size
    exact HAL.out.trans ((hb9.mono (by omega)).trans (hb10.mono (by omega)))
  have kS := Kd.C_below HS8.out hB9
  obtain ⟨sa, es, s0⟩ := Kd.at_string kS (0 : Int) (by decide) (by decide)
  cases es
  obtain ⟨sa, es, s1⟩ := Kd.at_string kS (1 : Int) (by decide) (by decide)
  cases es
  rw [show (0 : Int).toNat = 0 from rfl, Addr.add_zero'] at s0
  rw [show (1 : Int).toNat = 1 from rfl, add_lit _ _ (by decide)] at s1
  have s0' : w10.cell? adS = some (.string ⟨#[66]⟩) := s0
  have s1' : w10.cell? ⟨adS.block, adS.off + 1, none⟩ = some (.string ⟨#[]⟩) := s1
  have HFB := Aside0.mk (HB8.out.trans (hB9.mono HB8.out.size))
  clear s0 s1 hB9 hb9 hb10 kS
  go_wp2_with (fail)
  refine bodyPost_ret (results_tmp rfl _ _ _) rfl ?_
  exact ⟨rfl, HFB.out⟩
def qanatlaw03_sanity.f : Option Bool := some true
theorem qanatlaw03_sanity.calls (r : Bool) (w : World) (hT : TabOK w) (h : qanatlaw03_sanity.f = some r) : Calls Tryz.prog 16 #[] w fun e w' => e = .returned (.bool r) ∧ Below w.heap.size w w' := by
  obtain rfl := Option.some.inj h
  exact san_holds w hT
end Go.Proofs.YtkkpjonfaflkmaaGreatDoor.T
