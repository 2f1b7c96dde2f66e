/- Part 3 of the proof of ScanLines: the functions that it calls return what their plain descriptions say. -/
import Derived.Test.YtkkpjonfaflkmaaGreatDoorCScanLines2
import Derived.RegionIn
import Derived.OwnWalkIn
import Derived.LoopIn
import Derived.TacticsInMore
import Derived.LoopNIn
import Derived.RangeFuncBox
import Derived.Deep.AppendSrc
import Derived.Deep.MidRow
import Derived.Sort.LoopGhostIn
import Derived.Deep.CutRange
import Derived.Carry
import Derived.Maps.OwnSet
import Derived.Maps.Views
import Derived.Deep.AppendLies
import Derived.Deep.RegionLaw

/- scan.groups yields the parts of a list of bytes, so many bytes each. -/
namespace Go.Proofs.YtkkpjonfaflkmaaGreatDoor.T
set_option linter.unusedSimpArgs false
set_option linter.unusedVariables false
open Go.RowKit Go.Proofs.YtkkpjonfaflkmaaGreatDoorW.PrintWords Go.Proofs.YtkkpjonfaflkmaaGreatDoorW.PrintLast Go.Proofs.YtkkpjonfaflkmaaGreatDoorW.PrintMore
attribute [local go_sem] Oper.semAt_some

def msrG (n : Nat) (v : Value) : Nat := n + 1 - (intOf v).toNat

set_option maxRecDepth 100000 in
set_option maxHeartbeats 2000000 in
theorem groups_in (n : Nat) (hn : 1 ≤ n) (l B1 B2 g N c ww : Nat) (hw : 0 < ww) (hN : N ≤ 1000000) (hww : ww ≤ 8) (hc : N ≤ c) (hc2 : c ≤ 9223372036854775807) (J : Nat → World → Prop) (Jx : World → Prop)
    (hJc : ∀ k A, J k A → A.cell? ⟨B1, 0, none⟩ = some (.int .i64 ww) ∧ A.cell? ⟨B2, 0, none⟩ = some (.slice (some ⟨g, 0, none⟩) N c))
    (hY : ∀ k W, k < N / ww → J k W → YieldAt Fence.wide (n - 1) Tryz.prog l #[.slice (some ⟨g, k * ww, none⟩) ww ww] W fun e W' => (e = .returned (.bool true) ∧ J (k + 1) W') ∨ (e = .returned (.bool false) ∧ Jx W'))
    (W : World) (h0 : J 0 W) :
    CallsIn Fence.wide n Tryz.prog 154 #[.func (.yield l) #[] #[], .pointer (some ⟨B1, 0, none⟩), .pointer (some ⟨B2, 0, none⟩)] W fun e W' => (∃ v, e = .returned v) ∧ (J (N / ww) W' ∨ Jx W') := by
  have HY := Aside0.mk hY
  have HJ0 := Aside0.mk h0
  have HJc := Aside0.mk hJc
  clear hY h0 hJc
  refine callsIn_of_wp Tryz.func154 rfl trivial ?_ rfl
  simp only [Tryz.ntmps154, List.size_toArray, List.length_cons, List.length_nil, Nat.reduceAdd, Nat.reduceSub, Array.replicate_succ, Array.replicate_zero, List.push_toArray, List.append_toArray, List.nil_append, List.cons_append]
  gi_wp2
  gi_loopw [4] (fun v wr => ∃ k i : Nat, k ≤ N / ww ∧ i = k * ww ∧ i ≤ N ∧ v = .int .i64 i ∧ Aside0 (J k wr))
    (fun v wr => msrG N v)
  case atStart => exact ⟨0, 0, Nat.zero_le _, by omega, Nat.zero_le _, rfl, HJ0⟩
  case round =>
    obtain ⟨k, i, hk, hi, hiN, rfl, HJ⟩ := hrel
    obtain ⟨c1, c2⟩ := HJc.out k wr HJ.out
    by_cases hlt : k < N / ww
    · have hfit : i + ww ≤ N := by
        have h1 : (k + 1) * ww ≤ N := by
          have := Nat.mul_le_of_le_div ww (k + 1) N hlt
          exact this
        rw [Nat.add_mul] at h1
        omega
      have g1 : decide ((i : Int) + (ww : Int) ≤ (N : Int)) = true := decide_eq_true (by omega)
      have g2 : (i : Int) + (ww : Int) ≤ (N : Int) := by omega
      have g3 : (0 : Int) ≤ (i : Int) := by omega
      have g4 : (i : Int) ≤ (i : Int) + (ww : Int) := by omega
      have hlim : i + ww ≤ 1000000 := by omega
      obtain ⟨fn, tmps, assign, body, hy, hR⟩ := HY.out k wr hlt HJ.out
      rw [← hi] at hy
      have HR := Lib.hid hR
      have HI := Aside0.mk hi
      clear hR hi
      gi_wp2
      refine HR.out.mono ?_
      rintro e W3 (⟨rfl, hJ3⟩ | ⟨rfl, hJx3⟩)
      · obtain ⟨c1', c2'⟩ := HJc.out _ _ hJ3
        gi_wp2
        go_roundw
        case rel => exact ⟨k + 1, i + ww, by omega, by rw [HI.out, Nat.add_mul]; omega, hfit, by go_num, ⟨hJ3⟩⟩
        case measure =>
          have e1 : msrG N (.int .i64 ((i : Int) + (ww : Int))) = N + 1 - ((i : Int) + (ww : Int)).toNat := rfl
          have e2 : msrG N (.int .i64 (i : Int)) = N + 1 - (i : Int).toNat := rfl
          first | (rw [e1, e2]; omega) | (show N + 1 - _ < N + 1 - _; omega)
      · gi_wp2
        refine bodyPost_ret (results_none rfl _ _ _) rfl ?_
        exact ⟨⟨_, rfl⟩, .inr hJx3⟩
    · have hkN : k = N / ww := by omega
      have hbig : N < i + ww := by
        have h1 := Nat.div_add_mod N ww
        have h2 := Nat.mod_lt N hw
        rw [← hkN, Nat.mul_comm] at h1
        omega
      have g1 : decide ((i : Int) + (ww : Int) ≤ (N : Int)) = false := decide_eq_false (by omega)
      have hlim : i + ww ≤ 1000010 := by omega
      clear hi
      gi_wp2
      go_end0
      exact ⟨⟨_, rfl⟩, .inl (by rw [← hkN]; exact HJ.out)⟩

theorem groups.calls (v : Value) (hv : ∃ A N c, v = .slice A N c) (ww : Int) (w : World) :
    Calls Tryz.prog 133 #[v, .int .i64 ww] w fun e w' => e = .returned (.func (.func 154) #[] #[.pointer (some ⟨w.heap.size + 1, 0, none⟩), .pointer (some ⟨w.heap.size, 0, none⟩)]) ∧ w' = (w.alloc (.cells #[v] 100)).alloc (.cells #[.int .i64 ww] 3) := by
  obtain ⟨A, N, c, rfl⟩ : ∃ A N c, v = .slice A N c := hv
  go_enter Tryz.func133, Tryz.ntmps133
  go_wp2
  go_ret
  exact ⟨rfl, rfl⟩
theorem groups_enters : ∀ args w, (callFunc 154 args).run Tryz.prog w = .ok (.enter 154 args) w := enters_of Tryz.func154 (by kernel_rfl) rfl
end Go.Proofs.YtkkpjonfaflkmaaGreatDoor.T

/- A slice of bytes that the call itself made, known by its cells (what a conversion of a string made, too), and append onto it. -/
namespace Go.Proofs.YtkkpjonfaflkmaaGreatDoor.T
set_option linter.unusedSimpArgs false
set_option linter.unusedVariables false
open Go.RowKit Go.Proofs.YtkkpjonfaflkmaaGreatDoorW.PrintWords Go.Proofs.YtkkpjonfaflkmaaGreatDoorW.PrintLast Go.Proofs.YtkkpjonfaflkmaaGreatDoorW.PrintMore

/-- v is a slice of the bytes xs in a block from base on all of whose cells up to the capacity can be written; or nil. -/
def OwnM (base : Nat) (v : Value) (xs : List Int) (W : World) : Prop :=
  (v = .slice none 0 0 ∧ xs = []) ∨ ∃ g cap, v = .slice (some ⟨g, 0, none⟩) xs.length cap ∧ base ≤ g ∧ g < W.heap.size ∧ xs.length ≤ cap ∧ cap ≤ 9223372036854775807 ∧
    (∀ j, j < xs.length → W.cell? ⟨g, j, none⟩ = some (.int .u8 (xs.getD j 0))) ∧ ∀ j, j < cap → (W.cell? ⟨g, j, none⟩).isSome = true ∧ W.frozen? ⟨g, j, none⟩ = false
theorem OwnM.nil (base : Nat) (W : World) : OwnM base (.slice none 0 0) [] W := .inl ⟨rfl, rfl⟩
theorem OwnM.slice {base : Nat} {v : Value} {xs : List Int} {W : World} (h : OwnM base v xs W) : ∃ A c, v = .slice A xs.length c ∧ xs.length ≤ c := by
  rcases h with ⟨rfl, rfl⟩ | ⟨g, cap, rfl, _, _, h, _⟩
  · exact ⟨_, _, rfl, Nat.le_refl _⟩
  · exact ⟨_, _, rfl, h⟩
theorem OwnM.C {base : Nat} {A : Option Addr} {c : Nat} {xs : List Int} {W : World} (h : OwnM base (.slice A xs.length c) xs W) : Kd.C (Kd.int .u8) W A xs.length xs := by
  refine Kd.C_of_reads (d := (0 : Int)) (h1 := fun _ => rfl) ?_
  rcases h with ⟨h1, rfl⟩ | ⟨g, cap, h1, _, _, h2, h3, h4, _⟩
  · simp at h1
    obtain ⟨rfl, _⟩ := h1
    exact ⟨rfl, by decide, fun h => absurd h (by simp)⟩
  · simp at h1
    obtain ⟨rfl, rfl⟩ := h1
    exact ⟨rfl, by omega, fun _ => ⟨_, rfl, fun j hj => by rw [add_plain]; exact h4 j hj⟩⟩
theorem OwnM.mono {base base' : Nat} {v : Value} {xs : List Int} {W : World} (h : OwnM base v xs W) (hb : base' ≤ base) : OwnM base' v xs W :=
  h.imp id fun ⟨g, cap, h1, h2, h3⟩ => ⟨g, cap, h1, Nat.le_trans hb h2, h3⟩
theorem OwnM.below {base B : Nat} {v : Value} {xs : List Int} {W W' : World} (h : OwnM base v xs W) (hB : W.heap.size ≤ B) (hb : Below B W W') : OwnM base v xs W' := by
  rcases h with h | ⟨g, cap, h1, h2, h3, h4, h5, h6, h7⟩
  · exact .inl h
  · refine .inr ⟨g, cap, h1, h2, by have := hb.size; omega, h4, h5, fun j hj => ?_, fun j hj => ?_⟩
    · exact (hb.cell (p := ⟨g, j, none⟩) (by show g < B; omega)).trans (h6 j hj)
    · rw [hb.cell (p := ⟨g, j, none⟩) (by show g < B; omega), hb.frozen (p := ⟨g, j, none⟩) (by show g < B; omega)]
      exact h7 j hj
theorem OwnM.alloc {base : Nat} {v : Value} {xs : List Int} {W : World} (h : OwnM base v xs W) (o : Obj) : OwnM base v xs (W.alloc o) := h.below (Nat.le_refl _) (below_alloc (Below.refl _ _) o)
theorem OwnM.drewN {base : Nat} {v : Value} {xs : List Int} {W : World} (h : OwnM base v xs W) (n : Nat) : OwnM base v xs (W.drewN n) := h
theorem OwnM.conv {base : Nat} (W : World) (s : ByteArray) (hb : base ≤ W.heap.size) (hs : s.size ≤ 100000) : OwnM base (.slice (some ⟨W.heap.size, 0, none⟩) s.size (grownCap W s.size 0 5)) (bytesOf s) (Lib.bytesWorld W 5 s) := by
  have hB := Buf.new W s
  have hg : s.size ≤ grownCap W s.size 0 5 := grownCap_ge W s.size 0 5
  have hm : grownCap W s.size 0 5 ≤ maxLen := grownCap_le_maxLen W s.size 0 5 (by unfold maxLen; omega)
  unfold maxLen at hm
  have hz : (Lib.bytesCells W 5 s).size = grownCap W s.size 0 5 := by
    simp only [Lib.bytesCells, Array.size_append, Array.size_map, Array.size_replicate]
    have : s.data.size = s.size := rfl
    omega
  refine .inr ⟨W.heap.size, _, by rw [bytesOf_length], hb, by rw [Lib.bytesWorld_size]; omega, by rw [bytesOf_length]; exact hg, by omega, fun j hj => hB.cell j hj, fun j hj => ?_⟩
  have hn := Lib.bytesWorld_at_new W 5 s
  rw [hz] at hn
  constructor
  · simp only [World.cell?, hn]
    rw [Array.getElem?_eq_getElem (by rw [hz]; exact hj)]
    rfl
  · simp only [World.frozen?, hn]
    have : ¬ grownCap W s.size 0 5 ≤ j := by omega
    simp [this]
theorem below_setCells {B b : Nat} (hB : B ≤ b) : ∀ (vs : List Value) (o : Nat) (W W' : World), Below B W W' → Below B W (W'.setCells b o vs)
  | [], _, _, _, h => h
  | v :: vs, o, W, W', h => below_setCells hB vs (o + 1) W _ (h.setCell (p := ⟨b, o, none⟩) hB v)
theorem encs_u8_get (xs : List Int) (j : Nat) (hj : j < xs.length) : (xs.map (Value.int .u8))[j]? = some (.int .u8 (xs.getD j 0)) := by
  simp [List.getD_eq_getElem?_getD, List.getElem?_eq_getElem hj]
theorem getD_app (xs ys : List Int) (j : Nat) : (xs ++ ys).getD j 0 = if j < xs.length then xs.getD j 0 else ys.getD (j - xs.length) 0 := by
  simp only [List.getD_eq_getElem?_getD]
  by_cases h : j < xs.length
  · rw [if_pos h, List.getElem?_append_left h]
  · rw [if_neg h, List.getElem?_append_right (by omega)]

theorem run_append_M {P : Program} (W : World) (t tx ty e : TypeId) (i : TypeInfo) (ht : P.underlying t = some (.slice e)) (hi : P.info? e = some i) (hz : i.zero = some (.int .u8 0)) (h1 : i.size = 1) (h2 : i.bytes = 1)
    (base : Nat) (v : Value) (xs : List Int) (h : OwnM base v xs W) (x : Value) (news : List Int) (hs : Src P 1 tx x news.length (news.map (Value.int .u8)) W) (hl : xs.length + news.length ≤ 1000000000) (hb : base ≤ W.heap.size) :
    ∃ v' w', (Builtin.append_ #[t, tx] ty #[v, x]).run P W = .ok v' w' ∧ OwnM base v' (xs ++ news) w' ∧ Below base W w' := by
  have grow : ∀ (ao : Option Addr) (cap : Nat), v = .slice ao xs.length cap → cap < xs.length + news.length → (Builtin.firstCells 1 xs.length (.slice ao xs.length cap)).run P W.drew = .ok (xs.map (Value.int .u8)).toArray W.drew →
      ∃ v' w', (Builtin.append_ #[t, tx] ty #[v, x]).run P W = .ok v' w' ∧ OwnM base v' (xs ++ news) w' ∧ Below base W w' := by
    intro ao cap hv hg hold
    have hge := grownCap_ge W (xs.length + news.length) cap e
    have hcm := grownCap_le_maxLen W (xs.length + news.length) cap e (by unfold maxLen; omega)
    unfold maxLen at hcm
    have hr := run_append_grow_src (P := P) W t tx ty e i (.int .u8 0) ht hi hz ao xs.length cap (xs.map (Value.int .u8)) (by rw [h1]; exact hold) x news.length (news.map (Value.int .u8)) (by rw [h1]; exact hs) hg (by omega) (by rw [h2]; exact growslice_fits hg (by omega))
    rw [hv]
    have hsz : (((xs.map (Value.int .u8)) ++ (news.map (Value.int .u8))).toArray ++ Builtin.zeroCells (Value.int .u8 0).cells (grownCap W (xs.length + news.length) cap e - (xs.length + news.length))).size = grownCap W (xs.length + news.length) cap e := by
      have hz1 : (Value.int IntKind.u8 0).cells.size = 1 := rfl
      simp only [Array.size_append, List.size_toArray, size_zeroCells, hz1, List.length_append, List.length_map]
      omega
    have hn := heap_alloc_new W.drew (.cells (((xs.map (Value.int .u8)) ++ (news.map (Value.int .u8))).toArray ++ Builtin.zeroCells (Value.int .u8 0).cells (grownCap W (xs.length + news.length) cap e - (xs.length + news.length))) e)
    refine ⟨_, _, hr, .inr ⟨W.heap.size, _, by rw [List.length_append], hb, ?_, by rw [List.length_append]; omega, by omega, fun j hj => ?_, fun j hj => ?_⟩, (below_drew (Below.refl base W)).alloc hb _⟩
    · rw [World.size_alloc]; exact Nat.lt_succ_self _
    · rw [List.length_append] at hj
      have hn' : (W.drew.alloc (.cells (((xs.map (Value.int .u8)) ++ (news.map (Value.int .u8))).toArray ++ Builtin.zeroCells (Value.int .u8 0).cells (grownCap W (xs.length + news.length) cap e - (xs.length + news.length))) e)).heap[W.heap.size]? = _ := hn
      simp only [World.cell?, hn']
      rw [Array.getElem?_append_left (by simp; omega), List.getElem?_toArray, ← List.map_append, encs_u8_get _ j (by rw [List.length_append]; exact hj)]
      rfl
    · have hn' : (W.drew.alloc (.cells (((xs.map (Value.int .u8)) ++ (news.map (Value.int .u8))).toArray ++ Builtin.zeroCells (Value.int .u8 0).cells (grownCap W (xs.length + news.length) cap e - (xs.length + news.length))) e)).heap[W.heap.size]? = _ := hn
      constructor
      · simp only [World.cell?, hn']
        rw [Array.getElem?_eq_getElem (by rw [hsz]; exact hj)]
        rfl
      · simp only [World.frozen?, hn']
        simp
  rcases h with ⟨rfl, rfl⟩ | ⟨g, cap, rfl, h3, h4, h5, h6, h7, h8⟩
  · by_cases h0 : news.length = 0
    · obtain rfl := List.length_eq_zero_iff.1 h0
      refine ⟨.slice none 0 0, W, ?_, .inl ⟨rfl, rfl⟩, Below.refl _ _⟩
      have hc := hs.cells
      have hl := hs.len
      simp only [List.length_nil, List.map_nil] at hc hl
      rcases hs.kind with ⟨e', hk⟩ | hk <;> simp [Builtin.append_, run_underlying ht, run_underlying hk, sizeOf, typeInfo, hi, h1, hl, hc]
    · exact grow none 0 rfl (by simp; omega) (by simpa using run_firstCells_none W.drew 1 0 0 0)
  · by_cases hroom : xs.length + news.length ≤ cap
    · have hr := run_append_room_src (P := P) W t tx ty e i ht hi g 0 xs.length cap x news.length (news.map (Value.int .u8)) (by rw [h1]; exact hs) hroom
        (fun j hj => by rw [h1]; exact (h8 _ (by simp at hj; omega)).1) (fun j hj => by rw [h1]; exact (h8 _ (by simp at hj; omega)).2)
      rw [h1] at hr
      simp only [Nat.zero_add, Nat.mul_one] at hr
      refine ⟨_, _, hr, .inr ⟨g, cap, by rw [List.length_append], h3, ?_, by rw [List.length_append]; exact hroom, h6, fun j hj => ?_, fun j hj => ?_⟩, below_setCells h3 _ _ _ _ (Below.refl _ _)⟩
      · exact Nat.lt_of_lt_of_le h4 (below_setCells (B := base) h3 (news.map (Value.int .u8)) xs.length W W (Below.refl _ _)).size
      · rw [List.length_append] at hj
        rw [getD_app]
        by_cases hjx : j < xs.length
        · rw [if_pos hjx, World.cell?_setCells_out g _ _ _ _ (fun _ _ => .inl hjx)]
          exact h7 j hjx
        · rw [if_neg hjx]
          have := World.cell?_setCells_in g (news.map (Value.int .u8)) xs.length W (fun j' hj' => (h8 _ (by simp at hj'; omega)).1) (j - xs.length) (by simp; omega)
          rw [show xs.length + (j - xs.length) = j by omega] at this
          rw [this]
          simp [List.getD_eq_getElem?_getD, List.getElem?_eq_getElem (show j - xs.length < news.length by omega)]
      · rw [World.frozen?_setCells]
        exact ⟨World.isSome_setCells g _ _ _ _ (h8 j hj).1, (h8 j hj).2⟩
    · refine grow (some ⟨g, 0, none⟩) cap rfl (by omega) ?_
      refine run_firstCells_some W.drew 1 xs.length ⟨g, 0, none⟩ xs.length cap (xs.map (Value.int .u8)) (by simp) (fun j u hu => ?_)
      have hj : j < xs.length := by have := (List.getElem?_eq_some_iff.1 hu).1; simpa using this
      rw [encs_u8_get xs j hj] at hu
      cases hu
      rw [add_plain]
      exact h7 j hj

/-- append onto such a slice, for the walk. -/
theorem wpList_append_M {P : Program} {w0 W : World} {ops : Array Oper} {rest : List Oper} {o : Oper} {a : Act} {Q : Exit → Act → World → Prop} (hgd : o.guard = none) (sl x : Operand) (t tx e : TypeId)
    (ho : o.op = .call { callee := .builtin .append, args := #[sl, x], argTypes := #[t, tx] })
    (ht : P.underlying t = some (.slice e)) (hinfo : (P.info? e).map (fun i => (i.zero, i.size, i.bytes)) = some (some (.int .u8 0), 1, 1))
    (base : Nat) (v : Value) (xs : List Int) (hs : a.eval sl = v) (h : OwnM base v xs W) (xv : Value) (hx : a.eval x = xv) (news : List Int) (hsrc : Src P 1 tx xv news.length (news.map (Value.int .u8)) W)
    (hl : xs.length + news.length ≤ 1000000000) (hb : base ≤ W.heap.size) (HB : Below base w0 W)
    (hK : ∀ v' w', OwnM base v' (xs ++ news) w' → Below base w0 w' → wpList P ops Q rest (a.put o.dst v') w') : wpList P ops Q (o :: rest) a W := by
  refine wpList_plain hgd fun K hK' => ?_
  obtain ⟨i, hi, hz, h1, h2⟩ := info_parts hinfo
  obtain ⟨v', w', hr, ho', hb'⟩ := run_append_M (P := P) W t tx o.type e i ht hi hz h1 h2 base v xs h xv news hsrc hl hb
  unfold Oper.wp execOp
  simp only [ho, resolve, invoke, builtin, Sem.run_bind, Sem.run_pure, Result.andThen_ok, List.map_toArray, List.map_cons, List.map_nil, hs, hx, hr]
  exact hK' _ _ (hK v' w' ho' (HB.trans hb'))
theorem src_bytes {P : Program} {tx : TypeId} (W : World) (hk : P.underlying tx = some .string) (s : ByteArray) : Src P 1 tx (.string s) (bytesOf s).length ((bytesOf s).map (Value.int .u8)) W := by
  have h := Src.ofString (P := P) W hk s
  have e : Go.byteCells s = (bytesOf s).map (Value.int .u8) := by simp [Go.byteCells, bytesOf, Function.comp_def]
  rw [e, ← bytesOf_length] at h
  exact h
theorem src_own {P : Program} {tx e : TypeId} {base : Nat} {v : Value} {xs : List Int} {W : World} (hk : P.underlying tx = some (.slice e)) (h : OwnM base v xs W) : Src P 1 tx v xs.length (xs.map (Value.int .u8)) W := by
  rcases h with ⟨rfl, rfl⟩ | ⟨g, cap, rfl, h3, h4, h5, h6, h7, h8⟩
  · exact Src.ofNil W hk 0
  · refine Src.ofSlice W hk _ _ _ _ (by simp) (fun j u hu => ?_) (fun u hu => ?_)
    · have hj : j < xs.length := by have := (List.getElem?_eq_some_iff.1 hu).1; simpa using this
      rw [encs_u8_get xs j hj] at hu
      cases hu
      rw [add_plain]
      exact h7 j hj
    · obtain ⟨z, _, rfl⟩ := List.mem_map.1 hu
      rfl
theorem src_one {P : Program} {tx e : TypeId} (W : World) (hk : P.underlying tx = some (.slice e)) (x : Int) (t : TypeId) : Src P 1 tx (.slice (some ⟨W.heap.size, 0, none⟩) 1 1) [x].length ([x].map (Value.int .u8)) (W.alloc (.cells #[.int .u8 x] t)) := by
  refine Src.ofSlice _ hk _ _ _ _ (by simp) (fun j u hu => ?_) (fun u hu => ?_)
  · have hj : j < 1 := by have := (List.getElem?_eq_some_iff.1 hu).1; simpa using this
    obtain rfl : j = 0 := by omega
    simp at hu
    subst hu
    rw [add_plain]
    exact (blk_cell (heap_alloc_new W _) 0).trans rfl
  · simp at hu; subst hu; rfl
end Go.Proofs.YtkkpjonfaflkmaaGreatDoor.T

/- scan.decode returns what S.litDec says. -/
namespace Go.Proofs.YtkkpjonfaflkmaaGreatDoor.T
set_option linter.unusedSimpArgs false
set_option linter.unusedVariables false
open Go.RowKit Go.Proofs.YtkkpjonfaflkmaaGreatDoorW.PrintWords Go.Proofs.YtkkpjonfaflkmaaGreatDoorW.PrintLast Go.Proofs.YtkkpjonfaflkmaaGreatDoorW.PrintMore
attribute [local go_sem] Oper.semAt_some

theorem results_cells2 {P : Program} {fn : Func} {p q : Tmp} {tp tq : TypeId} (h : fn.results = #[.cell p tp, .cell q tq]) (tmps : Array Value) (w : World) (a b : Addr) (u v : Value)
    (hp : tmps.getD p undef = .pointer (some a)) (hq : tmps.getD q undef = .pointer (some b)) (hu : (loadVar tp a).run P w = .ok u w) (hv : (loadVar tq b).run P w = .ok v w) : (results fn tmps).run P w = .ok (.tuple #[u, v]) w := by
  have hp' : tmps[p]?.getD undef = .pointer (some a) := by simpa using hp
  have hq' : tmps[q]?.getD undef = .pointer (some b) := by simpa using hq
  simp [results, h, hp', hq', asAddr, Sem.run_bind, hu, hv, Result.andThen]
def baseOf (sx : Nat) : Int := if sx = 4 then 16 else 2
/-- What stands when k parts are decoded. -/
structure DcI (w0 : World) (H N ww sx c : Nat) (L : List Int) (r : Option Loop) (k : Nat) (v : Value) (out : List Int) (W : World) : Prop where
  b0 : W.heap[H]? = some (.cells #[.int .i64 sx] 3 (0, 0))
  b1 : W.heap[H + 1]? = some (.cells #[.string ⟨#[]⟩] 9 (0, 0))
  b2 : W.heap[H + 1 + 1]? = some (.cells #[.bool false] 4 (0, 0))
  b3 : W.heap[H + 1 + 1 + 1]? = some (.cells #[v] 100 (0, 0))
  b5 : W.heap[H + 5]? = some (.cells #[.slice (some ⟨H + 1 + 1 + 1 + 1, 0, none⟩) N c] 100 (0, 0))
  b6 : W.heap[H + 6]? = some (.cells #[.int .i64 ww] 3 (0, 0))
  b7 : W.heap[H + 7]? = some (.deferred (some []))
  b8 : ∀ r', r = some r' → W.heap[H + 8]? = some (.loop r')
  buf : Buf (H + 1 + 1 + 1 + 1) L W
  own : W.ownsRow (H + 9) 5 1 v k (out.map (Value.int .u8))
  len : out.length = k
  below : Below H w0 W
  dec : S.decK (baseOf sx) ww (N / ww) L = (S.decK (baseOf sx) ww (N / ww - k) (L.drop (k * ww))).map (out ++ ·)
theorem DcI.put {w0 : World} {H N ww sx c k : Nat} {L : List Int} {r : Option Loop} {v : Value} {out : List Int} {W : World} (h : DcI w0 H N ww sx c L r k v out W) (hw0 : w0.heap.size = H) (hb : H + 8 < W.heap.size) (r' : Loop) : DcI w0 H N ww sx c L (some r') k v out (W.putObj (H + 8) (.loop r')) := by
  have ho : ∀ j, j ≠ H + 8 → (W.putObj (H + 8) (.loop r')).heap[j]? = W.heap[j]? := fun j hj => World.putObj_heap_other hj
  refine ⟨(ho _ (by omega)).trans h.b0, (ho _ (by omega)).trans h.b1, (ho _ (by omega)).trans h.b2, (ho _ (by omega)).trans h.b3, (ho _ (by omega)).trans h.b5, (ho _ (by omega)).trans h.b6, (ho _ (by omega)).trans h.b7, fun r2 e => ?_, h.buf.blk (ho _ (by omega)), ?_, h.len, ?_, h.dec⟩
  · cases e; exact World.putObj_heap_same hb
  · refine h.own.kept (grownBy_putObj' W (H + 8) _) ?_
    rcases hv : v.ownBlock with _ | g
    · exact .inl rfl
    · have := (h.own.lt g hv).1
      exact .inr (by intro e; cases e; omega)
  · exact h.below.grown (grownBy_putObj' W (H + 8) _) (by have := h.below.size; omega) (fun k e => by cases e; omega)
theorem DcI.drewN {w0 : World} {H N ww sx c k : Nat} {L : List Int} {r : Option Loop} {v : Value} {out : List Int} {W : World} (h : DcI w0 H N ww sx c L r k v out W) (q : Nat) : DcI w0 H N ww sx c L r k v out (W.drewN q) :=
  ⟨h.b0, h.b1, h.b2, h.b3, h.b5, h.b6, h.b7, h.b8, h.buf, h.own, h.len, pw_below_drewN h.below q, h.dec⟩
/-- The results' boxes say: none. -/
theorem DcI.bad {w0 : World} {H N ww sx c k : Nat} {L : List Int} {r : Loop} {v : Value} {out : List Int} {W : World} (h : DcI w0 H N ww sx c L (some r) k v out W) (hw0 : w0.heap.size = H) :
    ((W.setCell ⟨H + 1, 0, none⟩ (.string ⟨#[]⟩)).setCell ⟨H + 1 + 1, 0, none⟩ (.bool false)).heap[H + 8]? = some (.loop r) ∧
    ((W.setCell ⟨H + 1, 0, none⟩ (.string ⟨#[]⟩)).setCell ⟨H + 1 + 1, 0, none⟩ (.bool false)).heap[H + 1]? = some (.cells #[.string ⟨#[]⟩] 9 (0, 0)) ∧
    ((W.setCell ⟨H + 1, 0, none⟩ (.string ⟨#[]⟩)).setCell ⟨H + 1 + 1, 0, none⟩ (.bool false)).heap[H + 1 + 1]? = some (.cells #[.bool false] 4 (0, 0)) ∧
    ((W.setCell ⟨H + 1, 0, none⟩ (.string ⟨#[]⟩)).setCell ⟨H + 1 + 1, 0, none⟩ (.bool false)).heap[H + 7]? = some (.deferred (some [])) ∧
    Below H w0 ((W.setCell ⟨H + 1, 0, none⟩ (.string ⟨#[]⟩)).setCell ⟨H + 1 + 1, 0, none⟩ (.bool false)) := by
  have o1 : ∀ (A : World) (b k : Nat) (u : Value), k ≠ b → (A.setCell ⟨b, 0, none⟩ u).heap[k]? = A.heap[k]? := fun A b k u hk => Below.heap_setCell A ⟨b, 0, none⟩ u k hk
  refine ⟨(o1 _ _ _ _ (by omega)).trans ((o1 _ _ _ _ (by omega)).trans (h.b8 _ rfl)), (o1 _ _ _ _ (by omega)).trans (blk_put (cs := #[.string ⟨#[]⟩]) h.b1 0 _ rfl),
    blk_put (cs := #[.bool false]) ((o1 _ _ _ _ (by omega)).trans h.b2) 0 _ rfl, (o1 _ _ _ _ (by omega)).trans ((o1 _ _ _ _ (by omega)).trans h.b7),
    (h.below.setCell (p := ⟨H + 1, 0, none⟩) (by show H ≤ H + 1; omega) _).setCell (p := ⟨H + 1 + 1, 0, none⟩) (by show H ≤ H + 1 + 1; omega) _⟩
theorem DcI.badEnd {w0 : World} {H N ww sx c k : Nat} {L : List Int} {r rdone : Loop} {v : Value} {out : List Int} {W : World} {Jn : World → Prop} {p : Prop} (h : DcI w0 H N ww sx c L (some r) k v out W) (hw0 : w0.heap.size = H) (hp : p) (hr : ({ r with state := .done, pending := some .ret } : Loop) = rdone) :
    RoundEnd (H + 8) (fun e Z => (e = .returned (.bool true) ∧ Jn Z) ∨ (e = .returned (.bool false) ∧ Z.heap[H + 8]? = some (.loop rdone) ∧ p ∧ Z.heap[H + 1]? = some (.cells #[.string ⟨#[]⟩] 9 (0, 0)) ∧ Z.heap[H + 1 + 1]? = some (.cells #[.bool false] 4 (0, 0)) ∧ Z.heap[H + 7]? = some (.deferred (some [])) ∧ Below H w0 Z)) .ret
      ((W.setCell ⟨H + 1, 0, none⟩ (.string ⟨#[]⟩)).setCell ⟨H + 1 + 1, 0, none⟩ (.bool false)) := by
  obtain ⟨z1, z2, z3, z4, z5⟩ := h.bad hw0
  refine ⟨r, z1, .inr ⟨rfl, ?_⟩⟩
  have zl := (Array.getElem?_eq_some_iff.1 z1).1
  exact ⟨(World.putObj_heap_same zl).trans (by rw [hr]), hp, (World.putObj_heap_other (by omega)).trans z2, (World.putObj_heap_other (by omega)).trans z3, (World.putObj_heap_other (by omega)).trans z4,
    Below.grown (row := some (H + 8)) z5 (grownBy_putObj' _ (H + 8) _) (by have := z5.size; omega) (fun k e => by cases e; omega)⟩
theorem DcI.next {w0 : World} {H N ww sx c k : Nat} {L : List Int} {rb : Loop} {v v' : Value} {out : List Int} {W w1 : World} {x : Int} {o1 : Obj} (h : DcI w0 H N ww sx c L (some rb) k v out W) (hw0 : w0.heap.size = H) (h8 : H + 8 < W.heap.size)
    (hown : w1.ownsRow (H + 9) 5 1 v' (k + 1) (out.map (Value.int .u8) ++ [.int .u8 x])) (hg : (W.alloc o1).grownBy w1 v.ownBlock)
    (hdec : S.decK (baseOf sx) ww (N / ww) L = (S.decK (baseOf sx) ww (N / ww - (k + 1)) (L.drop ((k + 1) * ww))).map ((out ++ [x]) ++ ·)) (r' : Loop) :
    (w1.setCell ⟨H + 1 + 1 + 1, 0, none⟩ v').heap[H + 8]? = some (.loop rb) ∧ DcI w0 H N ww sx c L (some r') (k + 1) v' (out ++ [x]) ((w1.setCell ⟨H + 1 + 1 + 1, 0, none⟩ v').putObj (H + 8) (.loop r')) := by
  have hgb : ∀ j, j < H + 9 → w1.heap[j]? = W.heap[j]? := fun j hj => by
    refine (hg.block j (by rw [World.size_alloc]; omega) ?_).trans (Below.heap_alloc _ _ _ (by omega))
    intro e
    have := (h.own.lt j e.symm).1
    omega
  have o1 : ∀ (A : World) (b k : Nat) (u : Value), k ≠ b → (A.setCell ⟨b, 0, none⟩ u).heap[k]? = A.heap[k]? := fun A b k u hk => Below.heap_setCell A ⟨b, 0, none⟩ u k hk
  have hs1 : W.heap.size < w1.heap.size := by have := hg.size; rw [World.size_alloc] at this; omega
  have hb8 : (w1.setCell ⟨H + 1 + 1 + 1, 0, none⟩ v').heap[H + 8]? = some (.loop rb) := (o1 _ _ _ _ (by omega)).trans ((hgb _ (by omega)).trans (h.b8 _ rfl))
  have zl := (Array.getElem?_eq_some_iff.1 hb8).1
  refine ⟨hb8, ?_⟩
  have hk : ∀ j, j < H + 8 → j ≠ H + 1 + 1 + 1 → ((w1.setCell ⟨H + 1 + 1 + 1, 0, none⟩ v').putObj (H + 8) (.loop r')).heap[j]? = W.heap[j]? := fun j hj hn =>
    (World.putObj_heap_other (by omega)).trans ((o1 _ _ _ _ hn).trans (hgb j (by omega)))
  have hgs : w1.grownBy (w1.setCell ⟨H + 1 + 1 + 1, 0, none⟩ v') (some (H + 1 + 1 + 1)) := ⟨rfl, rfl, rfl, by simp [World.setCell], fun k _ hk => o1 _ _ _ _ (fun e => hk (by rw [e]))⟩
  have hne : ∀ b, b < H + 9 → v'.ownBlock = none ∨ v'.ownBlock ≠ some b := fun b hb => by
    rcases hv : v'.ownBlock with _ | g
    · exact .inl rfl
    · have := (hown.lt g hv).1
      exact .inr (by intro e; cases e; omega)
  have hB1 : Below H w0 w1 := (h.below.alloc (by have := h.below.size; omega) _).grown hg (by have := h.below.size; rw [World.size_alloc]; omega) (fun k e => by have := (h.own.lt k e).1; omega)
  refine ⟨(hk _ (by omega) (by omega)).trans h.b0, (hk _ (by omega) (by omega)).trans h.b1, (hk _ (by omega) (by omega)).trans h.b2, ?_, (hk _ (by omega) (by omega)).trans h.b5, (hk _ (by omega) (by omega)).trans h.b6, (hk _ (by omega) (by omega)).trans h.b7, fun r2 e => ?_, h.buf.blk (hk _ (by omega) (by omega)), ?_, ?_, ?_, hdec⟩
  · exact (World.putObj_heap_other (by omega)).trans (blk_put (cs := #[v]) ((hgb _ (by omega)).trans h.b3) 0 _ rfl)
  · cases e; exact World.putObj_heap_same zl
  · rw [List.map_append]
    exact (hown.kept hgs (hne _ (by omega))).kept (grownBy_putObj' _ (H + 8) _) (hne _ (by omega))
  · rw [List.length_append, h.len]; rfl
  · refine Below.grown (row := some (H + 8)) ?_ (grownBy_putObj' _ (H + 8) _) (by have := hB1.size; simp [World.setCell]; omega) (fun k e => by cases e; omega)
    exact hB1.setCell (p := ⟨H + 1 + 1 + 1, 0, none⟩) (by show H ≤ H + 1 + 1 + 1; omega) _
/-- The digit's table, as the program has it. -/
def dval (y : Int) : Int := Lib.indexByte [48, 49, 50, 51, 52, 53, 54, 55, 56, 57, 97, 98, 99, 100, 101, 102] (bits .or .u8 y 32).toNat.toUInt8
theorem dval_spec (y : Int) (h0 : 0 ≤ y) (h1 : y < 256) : -1 ≤ dval y ∧ dval y ≤ 15 ∧ (S.dig y = true → 0 ≤ dval y ∧ S.hexv y = dval y) ∧ (S.dig y = false → y < 65 → S.hexv y < 0) ∧ (S.dig y = false → ¬ y < 65 → (dval y < 0 → S.hexv y < 0) ∧ (0 ≤ dval y → S.hexv y = dval y)) :=
  byte_all (fun y => -1 ≤ dval y ∧ dval y ≤ 15 ∧ (S.dig y = true → 0 ≤ dval y ∧ S.hexv y = dval y) ∧ (S.dig y = false → y < 65 → S.hexv y < 0) ∧ (S.dig y = false → ¬ y < 65 → (dval y < 0 → S.hexv y < 0) ∧ (0 ≤ dval y → S.hexv y = dval y))) (by decide +kernel) y h0 h1
theorem dval_f (y : Int) : strings_IndexByte.f ⟨#[48, 49, 50, 51, 52, 53, 54, 55, 56, 57, 97, 98, 99, 100, 101, 102]⟩ (bits .or .u8 y 32) = some (dval y) := rfl
theorem litDec_eq (L : List Int) (sx ww : Nat) (hsx : (sx = 4 ∧ ww = 2) ∨ (sx = 1 ∧ ww = 8)) (hm : L.length % ww = 0) : S.litDec L sx = S.decK (baseOf sx) ww (L.length / ww) L := by
  rcases hsx with ⟨rfl, rfl⟩ | ⟨rfl, rfl⟩ <;> simp [S.litDec, S.decode, baseOf, hm]
theorem or_add (sx : Nat) (hsx : sx = 4 ∨ sx = 1) (na dv : Int) (h0 : 0 ≤ na) (h1 : na < 256) (hd0 : 0 ≤ dv) (hd1 : dv < baseOf sx) : bits .or .i64 (wrap64 (na * 2 ^ sx)) dv = na * baseOf sx + dv := by
  have hw : ∀ n : Int, 0 ≤ n → n < 2 ^ 62 → IntKind.i64.wrap n = n := fun n h0 h1 => w64 n (by omega) (by omega)
  rcases hsx with rfl | rfl
  · have e1 : wrap64 (na * 2 ^ 4) = na * 16 := by unfold wrap64; omega
    have e2 : baseOf 4 = 16 := rfl
    rw [e2] at hd1
    rw [e1, e2]
    exact bits_join .i64 62 (by decide) hw 4 (na * 16) dv (by omega) (by omega) (by omega) hd0 (by omega) (by omega)
  · have e1 : wrap64 (na * 2 ^ 1) = na * 2 := by unfold wrap64; omega
    have e2 : baseOf 1 = 2 := rfl
    rw [e2] at hd1
    rw [e1, e2]
    exact bits_join .i64 62 (by decide) hw 1 (na * 2) dv (by omega) (by omega) (by omega) hd0 (by omega) (by omega)

set_option maxRecDepth 100000 in
set_option maxHeartbeats 4000000 in
theorem scan_decode.calls (a0 : ByteArray) (sx ww : Nat) (hsx : (sx = 4 ∧ ww = 2) ∨ (sx = 1 ∧ ww = 8)) (ha : a0.size ≤ 100000) (w : World) :
    Calls Tryz.prog 109 #[.string a0, .int .i64 sx] w fun e w' => e = .returned (.tuple #[.string (strOfNums ((S.litDec (bytesOf a0) sx).getD [])), .bool (S.litDec (bytesOf a0) sx).isSome]) ∧ Below w.heap.size w w' := by
  obtain ⟨n, hn⟩ : ∃ n, a0.size = n := ⟨_, rfl⟩
  have hq : Int.tdiv 8 (sx : Int) = (ww : Int) := by rcases hsx with ⟨rfl, rfl⟩ | ⟨rfl, rfl⟩ <;> rfl
  have hs0 : ((sx : Int) == 0) = false := by rcases hsx with ⟨rfl, rfl⟩ | ⟨rfl, rfl⟩ <;> rfl
  have hm : Int.tmod (n : Int) (ww : Int) = ((n % ww : Nat) : Int) := rfl
  by_cases hmod : n % ww = 0
  · have g1 : (((n % ww : Nat) : Int) != 0) = false := by rw [hmod]; rfl
    have g2 : ((ww : Int) == 0) = false := by rcases hsx with ⟨rfl, rfl⟩ | ⟨rfl, rfl⟩ <;> rfl
    have kb := fun W => print_bytes (P := Tryz.prog) 9 100 5 Tryz.underlying9 Tryz.underlying100 Tryz.underlying5 a0 W
    rw [hn] at kb
    have HG := Lib.hid (fun v hv W => groups.calls v hv ww W)
    refine (callsIn_wide (n := 8)).1 ?_
    refine callsIn_of_wp_marks Tryz.func109 rfl trivial ?_ rfl
    simp only [Tryz.ntmps109, List.size_toArray, List.length_cons, List.length_nil, Nat.reduceAdd, Nat.reduceSub, Array.replicate_succ, Array.replicate_zero, List.push_toArray, List.append_toArray, List.nil_append, List.cons_append]
    have hf1 : Fence.wide.fn 133 := trivial
    gi_wp2_with (gi_at_call 133; refine (callsIn_wide.2 (HG.out _ ⟨_, _, _, rfl⟩ _)).mono ?_; rintro e w' ⟨rfl, rfl⟩)
    generalize hU : (((w.alloc _).alloc _).alloc _).alloc _ = U
    have hUs : U.heap.size = w.heap.size + 1 + 1 + 1 + 1 := by rw [← hU]; simp
    have hUb : Below w.heap.size w U := by rw [← hU]; exact below_alloc (below_alloc (below_alloc (below_alloc (Below.refl _ _) _) _) _) _
    have u0 : U.heap[w.heap.size]? = some (.cells #[.int .i64 sx] 3 (0, 0)) := by
      rw [← hU]; exact (Below.heap_alloc _ _ _ (by simp <;> omega)).trans ((Below.heap_alloc _ _ _ (by simp <;> omega)).trans ((Below.heap_alloc _ _ _ (by simp)).trans (heap_alloc_new w _)))
    have u1 : U.heap[w.heap.size + 1]? = some (.cells #[.string ⟨#[]⟩] 9 (0, 0)) := by
      rw [← hU]; refine (Below.heap_alloc _ _ _ (by simp <;> omega)).trans ((Below.heap_alloc _ _ _ (by simp)).trans ?_)
      have := heap_alloc_new (w.alloc (.cells #[.int .i64 sx] 3)) (.cells #[.string ⟨#[]⟩] 9)
      rwa [World.size_alloc] at this
    have u2 : U.heap[w.heap.size + 1 + 1]? = some (.cells #[.bool false] 4 (0, 0)) := by
      rw [← hU]; refine (Below.heap_alloc _ _ _ (by simp)).trans ?_
      have := heap_alloc_new ((w.alloc (.cells #[.int .i64 sx] 3)).alloc (.cells #[.string ⟨#[]⟩] 9)) (.cells #[.bool false] 4)
      rwa [World.size_alloc, World.size_alloc] at this
    have u3 : U.heap[w.heap.size + 1 + 1 + 1]? = some (.cells #[.slice none 0 0] 100 (0, 0)) := by
      rw [← hU]
      have := heap_alloc_new (((w.alloc (.cells #[.int .i64 sx] 3)).alloc (.cells #[.string ⟨#[]⟩] 9)).alloc (.cells #[.bool false] 4)) (.cells #[.slice none 0 0] 100)
      rwa [World.size_alloc, World.size_alloc, World.size_alloc] at this
    clear hU
    generalize hc : grownCap U n 0 5 = c
    have hcn : n ≤ c := by rw [← hc]; exact grownCap_ge U n 0 5
    have hcm : c ≤ 9223372036854775807 := by
      have hm := grownCap_le_maxLen U n 0 5 (by unfold maxLen; omega)
      unfold maxLen at hm
      omega
    have hbw : Below U.heap.size U (Lib.bytesWorld U 5 a0) := bytes_below (Below.refl _ _) (Nat.le_refl _) 5 a0
    have hbuf := Buf.new U a0
    have hbws : (Lib.bytesWorld U 5 a0).heap.size = w.heap.size + 5 := by rw [Lib.bytesWorld_size, hUs]
    rw [hUs] at hbuf
    rw [hbws]
    generalize Lib.bytesWorld U 5 a0 = BW at *
    obtain ⟨V, hV⟩ : ∃ V, (BW.alloc (.cells #[.slice (some ⟨w.heap.size + 1 + 1 + 1 + 1, 0, none⟩) n c] 100)).alloc (.cells #[.int .i64 ww] 3) = V := ⟨_, rfl⟩
    rw [hV]
    have hVs : V.heap.size = w.heap.size + 7 := by rw [← hV]; simp [hbws]
    have hVB : Below (w.heap.size + 5) BW V := by rw [← hV, ← hbws]; exact below_alloc (below_alloc (Below.refl _ _) _) _
    have v5 : V.heap[w.heap.size + 5]? = some (.cells #[.slice (some ⟨w.heap.size + 1 + 1 + 1 + 1, 0, none⟩) n c] 100 (0, 0)) := by
      rw [← hV, ← hbws]
      exact (Below.heap_alloc _ _ _ (by simp)).trans (heap_alloc_new BW _)
    have v6 : V.heap[w.heap.size + 6]? = some (.cells #[.int .i64 ww] 3 (0, 0)) := by
      rw [← hV]
      have := heap_alloc_new (BW.alloc (.cells #[.slice (some ⟨w.heap.size + 1 + 1 + 1 + 1, 0, none⟩) n c] 100)) (.cells #[.int .i64 ww] 3)
      rw [World.size_alloc, hbws] at this
      exact this
    clear hV
    generalize hH : w.heap.size = H at *
    obtain ⟨N, hN⟩ : ∃ N, n / ww = N := ⟨_, rfl⟩
    refine rf_enter (F := Fence.wide) (n := 8) (gf := 154) rfl (by omega) rfl trivial groups_enters
      (fun Z => ∃ v out, DcI w H n ww sx c (bytesOf a0) none (n / ww) v out Z) (fun Z => S.litDec (bytesOf a0) sx = none ∧ Z.heap[H + 1]? = some (.cells #[.string ⟨#[]⟩] 9 (0, 0)) ∧ Z.heap[H + 1 + 1]? = some (.cells #[.bool false] 4 (0, 0)) ∧ Z.heap[H + 7]? = some (.deferred (some [])) ∧ Below H w Z)
      ?hcall ?hready ?hdone
    case hcall =>
      intro fn rd X hfn hrd hXs hXB x7 x8
      rw [hVs] at *
      have hX0 : Below H w X := ((hUb.trans (hbw.mono (by omega))).trans (hVB.mono (by omega))).trans (hXB.mono (by omega))
      have hUX : Below (H + 4) U X := ((hbw.mono (by omega)).trans (hVB.mono (by omega))).trans (hXB.mono (by omega))
      have hI0 : DcI w H n ww sx c (bytesOf a0) (some rd) 0 (.slice none 0 0) [] X :=
        ⟨(hUX.block _ (by omega)).trans u0, (hUX.block _ (by omega)).trans u1, (hUX.block _ (by omega)).trans u2, (hUX.block _ (by omega)).trans u3,
          (hXB.block _ (by omega)).trans v5, (hXB.block _ (by omega)).trans v6, x7, fun r' e => by cases e; exact x8,
          (hbuf.blk (((hVB.mono (by omega : H + 5 ≤ H + 5)).trans (hXB.mono (by omega))).block (H + 1 + 1 + 1 + 1) (by omega))), World.ownsRow_nil _ _ _ _, rfl, hX0, by simp⟩
      have HW2 : 0 < ww ∧ ww ≤ 8 := by rcases hsx with ⟨_, rfl⟩ | ⟨_, rfl⟩ <;> omega
      have hgr := groups_in 7 (by omega) (H + 8) (H + 6) (H + 5) (H + 1 + 1 + 1 + 1) n c ww HW2.1 (by omega) HW2.2 hcn hcm
        (fun k W => ∃ v out, DcI w H n ww sx c (bytesOf a0) (some rd) k v out W)
        (fun Z => Z.heap[H + 8]? = some (.loop { rd with state := .done, pending := some .ret }) ∧ S.litDec (bytesOf a0) sx = none ∧ Z.heap[H + 1]? = some (.cells #[.string ⟨#[]⟩] 9 (0, 0)) ∧ Z.heap[H + 1 + 1]? = some (.cells #[.bool false] 4 (0, 0)) ∧ Z.heap[H + 7]? = some (.deferred (some [])) ∧ Below H w Z)
        (fun k A ⟨v, out, hd⟩ => ⟨(blk_cell hd.b6 0).trans rfl, (blk_cell hd.b5 0).trans rfl⟩) ?hY X ⟨_, _, hI0⟩
      case hY =>
        rintro k W hk ⟨v, out, hd⟩
        refine rf_round (l := H + 8) hrd trivial (hd.b8 _ rfl) rfl ?_
        have HRD := Aside0.mk hrd
        clear hrd
        gi_wp2
        refine ⟨hd.b8 _ rfl, ?_⟩
        have hlt8 : H + 8 < W.heap.size := (Array.getElem?_eq_some_iff.1 (hd.b8 _ rfl)).1
        have HRF : Aside0 (∀ r2 : Loop, r2 = { rd with state := LoopState.busy } → ({ r2 with state := .ready, pending := none } : Loop) = rd ∧ ({ r2 with state := .done, pending := some .ret } : Loop) = { rd with state := .done, pending := some .ret }) := ⟨fun r2 e => by rw [e, HRD.out]; exact ⟨rfl, rfl⟩⟩
        generalize hrb : ({ rd with state := LoopState.busy } : Loop) = rb
        have HRB := Aside0.mk (HRF.out rb hrb.symm)
        have hdB := Aside0.mk (hd.put hH hlt8 rb)
        generalize W.putObj (H + 8) (.loop rb) = WB at *
        clear hrb hd HRF HRD
        obtain ⟨o, ho⟩ : ∃ o, k * ww = o := ⟨_, rfl⟩
        have HO := Aside0.mk ho
        have hfit : o + ww ≤ n := by
          have := Nat.mul_le_of_le_div ww (k + 1) n hk
          rw [Nat.add_mul] at this
          omega
        rw [ho]
        clear ho
        have hc0 : WB.cell? ⟨H, 0, none⟩ = some (.int .i64 sx) := (blk_cell hdB.out.b0 0).trans rfl
        obtain ⟨grp, hgrp⟩ : ∃ grp, ((bytesOf a0).drop o).take ww = grp := ⟨_, rfl⟩
        have HG2 := Aside0.mk hgrp
        clear hgrp
        have HBAD : Aside0 (S.decG (baseOf sx) grp 0 = none → S.litDec (bytesOf a0) sx = none) := ⟨fun hnone => by
          rw [litDec_eq _ sx ww hsx (by rw [bytesOf_length, hn]; exact hmod), bytesOf_length, hn, hdB.out.dec]
          obtain ⟨m, hm⟩ : ∃ m, n / ww - k = m + 1 := ⟨n / ww - k - 1, by omega⟩
          rw [hm, HO.out]
          unfold S.decK
          rw [HG2.out, hnone]
          rfl⟩
        gi_wp2
        gi_loopg [9, 11, 12, 27] ww (fun gg s9 _ _ s27 wr => ∃ (j : Nat) (na : Int), j ≤ ww ∧ ww - j ≤ gg ∧ s27 = .int .i64 j ∧ s9 = .int .i64 na ∧ Aside0 (Drawn0 WB wr) ∧ Aside0 (0 ≤ na ∧ na < (baseOf sx) ^ j) ∧ Aside0 (S.decG (baseOf sx) (grp.drop j) na = S.decG (baseOf sx) grp 0))
        case atStart => exact ⟨0, 0, Nat.zero_le _, by omega, rfl, rfl, ⟨.refl _⟩, ⟨Int.le_refl _, by simp⟩, ⟨rfl⟩⟩
        case round =>
          obtain ⟨j, na, hj, hg, rfl, rfl, HW, HNA, HA⟩ := hrel
          obtain ⟨⟨q, hq2⟩⟩ := HW.out
          subst hq2
          have s1 : WB.cell? ⟨H + 1, 0, none⟩ = some (.string ⟨#[]⟩) := (blk_cell hdB.out.b1 0).trans rfl
          have s2 : WB.cell? ⟨H + 1 + 1, 0, none⟩ = some (.bool false) := (blk_cell hdB.out.b2 0).trans rfl
          have t1 : WB.frozen? ⟨H + 1, 0, none⟩ = false := blk_frozen hdB.out.b1 0
          have t2 : WB.frozen? ⟨H + 1 + 1, 0, none⟩ = false := blk_frozen hdB.out.b2 0
          by_cases hlt : j < ww
          · have hltz : (j : Int) < (ww : Int) := by omega
            obtain ⟨y, hy⟩ : ∃ y, (bytesOf a0).getD (o + j) 0 = y := ⟨_, rfl⟩
            have hcell : WB.cell? ⟨H + 1 + 1 + 1 + 1, o + j, none⟩ = some (.int .u8 y) := by
              rw [← hy]
              exact hdB.out.buf.cell (o + j) (by rw [bytesOf_length]; omega)
            have hyr : 0 ≤ y ∧ y < 256 := by rw [← hy]; exact bo_range a0 _ (getD_mem _ _ (by rw [bytesOf_length]; omega))
            have HD2 : Aside0 (grp.drop j = y :: grp.drop (j + 1)) := ⟨by
              have hl : j < grp.length := by rw [← HG2.out, List.length_take, List.length_drop, bytesOf_length]; omega
              rw [drop_at grp j hl]
              congr 1
              rw [← hy, ← HG2.out]
              simp only [List.getD_eq_getElem?_getD]
              rw [List.getElem?_take_of_lt hlt, List.getElem?_drop]⟩
            have HIX := Lib.hid (fun W => strings_IndexByte.calls ⟨#[48, 49, 50, 51, 52, 53, 54, 55, 56, 57, 97, 98, 99, 100, 101, 102]⟩ _ _ W (dval_f y))
            have hDG := fun W => scan_digit.calls y (S.dig y) W (dig_f y)
            obtain ⟨p1, p2, p3, p4, p5⟩ := dval_spec y hyr.1 hyr.2
            have HST : Aside0 (S.decG (baseOf sx) grp 0 = if S.hexv y < 0 ∨ baseOf sx ≤ S.hexv y then none else S.decG (baseOf sx) (grp.drop (j + 1)) (na * baseOf sx + S.hexv y)) := ⟨by rw [← HA.out, HD2.out]; rfl⟩
            have hbs : wrap64 (2 ^ sx) = baseOf sx := by rcases hsx with ⟨rfl, _⟩ | ⟨rfl, _⟩ <;> simp [wrap64, baseOf]
            have hsx' : sx = 4 ∨ sx = 1 := by rcases hsx with ⟨h, _⟩ | ⟨h, _⟩ <;> simp [h]
            have hna : na < 256 := by
              have h1 := HNA.out.2
              have : (baseOf sx) ^ j ≤ 256 := by
                rcases hsx with ⟨rfl, rfl⟩ | ⟨rfl, rfl⟩
                · have : j = 0 ∨ j = 1 := by omega
                  rcases this with rfl | rfl <;> decide
                · have : j = 0 ∨ j = 1 ∨ j = 2 ∨ j = 3 ∨ j = 4 ∨ j = 5 ∨ j = 6 ∨ j = 7 := by omega
                  rcases this with rfl | rfl | rfl | rfl | rfl | rfl | rfl | rfl <;> decide
              omega
            have HNX : Aside0 (∀ dv, 0 ≤ dv → dv < baseOf sx → bits .or .i64 (wrap64 (na * 2 ^ sx)) dv = na * baseOf sx + dv ∧ 0 ≤ na * baseOf sx + dv ∧ na * baseOf sx + dv < (baseOf sx) ^ (j + 1)) := ⟨fun dv h0 h1 => ⟨or_add sx hsx' na dv HNA.out.1 hna h0 h1, by
              have := HNA.out
              have hb0 : 0 ≤ baseOf sx := by rcases hsx' with rfl | rfl <;> decide
              have := Int.mul_nonneg HNA.out.1 hb0
              omega, by
              have h2 : na + 1 ≤ (baseOf sx) ^ j := HNA.out.2
              have hb0 : 0 ≤ baseOf sx := by rcases hsx' with rfl | rfl <;> decide
              have h3 := Int.mul_le_mul_of_nonneg_right h2 hb0
              rw [Int.add_mul, Int.one_mul] at h3
              rw [Int.pow_succ]
              omega⟩⟩
            clear hy hyr
            generalize baseOf sx = bs at *
            obtain ⟨dv, hdv⟩ : ∃ dv, dval y = dv := ⟨_, rfl⟩
            rw [hdv] at HIX p1 p2 p3 p5
            by_cases c1 : S.dig y = true
            · rw [c1] at hDG
              have HDG := Lib.hid hDG
              obtain ⟨k1, k2⟩ := p3 c1
              have g1 : decide (dv < 0) = false := decide_eq_false (by omega)
              by_cases c3 : bs ≤ dv
              · have g2 : decide (bs ≤ dv) = true := decide_eq_true c3
                clear hDG p1 p2 p3 p4 p5 hdv
                gi_wp2_with (first | (refine ⟨trivial, ?_⟩; gi_at_call 93; refine (CallsIn.inRound (H + 8) (callsIn_wide.2 (HIX.out _))).mono ?_; rintro e' w' ⟨rfl, ⟨⟨q1, rfl⟩⟩⟩) | (refine ⟨trivial, ?_⟩; gi_at_call 96; refine (CallsIn.inRound (H + 8) (callsIn_wide.2 (HDG.out _))).mono ?_; rintro e' w' ⟨rfl, ⟨⟨q2, rfl⟩⟩⟩))
                exact (hdB.out.drewN (q + q1 + q2)).badEnd hH (HBAD.out (by rw [HST.out, if_pos (.inr (by omega))])) HRB.out.2
              · have g2 : decide (bs ≤ dv) = false := decide_eq_false c3
                have HHX := Aside0.mk k2
                clear hDG p1 p2 p3 p4 p5 hdv
                gi_wp2_with (first | (refine ⟨trivial, ?_⟩; gi_at_call 93; refine (CallsIn.inRound (H + 8) (callsIn_wide.2 (HIX.out _))).mono ?_; rintro e' w' ⟨rfl, ⟨⟨q1, rfl⟩⟩⟩) | (refine ⟨trivial, ?_⟩; gi_at_call 96; refine (CallsIn.inRound (H + 8) (callsIn_wide.2 (HDG.out _))).mono ?_; rintro e' w' ⟨rfl, ⟨⟨q2, rfl⟩⟩⟩))
                gi_roundg (ww - (j + 1))
                case measure => omega
                case rel =>
                  obtain ⟨k3, k4, k5⟩ := HNX.out dv (by omega) (by omega)
                  refine ⟨j + 1, na * bs + dv, by omega, by omega, by go_num, by rw [k3], ⟨⟨⟨q + q1 + q2, rfl⟩⟩⟩, ⟨⟨k4, k5⟩⟩, ⟨?_⟩⟩
                  rw [HST.out, if_neg (by rw [HHX.out]; omega), HHX.out]
            · have c1' : S.dig y = false := by simpa using c1
              rw [c1'] at hDG
              have HDG := Lib.hid hDG
              by_cases c2 : y < 65
              · have k2 := p4 c1' c2
                have g1 : decide (y < 65) = true := decide_eq_true c2
                clear hDG p1 p2 p3 p4 p5 hdv
                gi_wp2_with (first | (refine ⟨trivial, ?_⟩; gi_at_call 93; refine (CallsIn.inRound (H + 8) (callsIn_wide.2 (HIX.out _))).mono ?_; rintro e' w' ⟨rfl, ⟨⟨q1, rfl⟩⟩⟩) | (refine ⟨trivial, ?_⟩; gi_at_call 96; refine (CallsIn.inRound (H + 8) (callsIn_wide.2 (HDG.out _))).mono ?_; rintro e' w' ⟨rfl, ⟨⟨q2, rfl⟩⟩⟩))
                exact (hdB.out.drewN (q + q1 + q2)).badEnd hH (HBAD.out (by rw [HST.out, if_pos (.inl k2)])) HRB.out.2
              · have g1 : decide (y < 65) = false := decide_eq_false c2
                obtain ⟨k2, k3⟩ := p5 c1' c2
                by_cases c4 : dv < 0
                · have g2 : decide (dv < 0) = true := decide_eq_true c4
                  have k2 := k2 c4
                  clear hDG p1 p2 p3 p4 p5 hdv
                  gi_wp2_with (first | (refine ⟨trivial, ?_⟩; gi_at_call 93; refine (CallsIn.inRound (H + 8) (callsIn_wide.2 (HIX.out _))).mono ?_; rintro e' w' ⟨rfl, ⟨⟨q1, rfl⟩⟩⟩) | (refine ⟨trivial, ?_⟩; gi_at_call 96; refine (CallsIn.inRound (H + 8) (callsIn_wide.2 (HDG.out _))).mono ?_; rintro e' w' ⟨rfl, ⟨⟨q2, rfl⟩⟩⟩))
                  exact (hdB.out.drewN (q + q1 + q2)).badEnd hH (HBAD.out (by rw [HST.out, if_pos (.inl k2)])) HRB.out.2
                · have g2 : decide (dv < 0) = false := decide_eq_false c4
                  have k2 := k3 (by omega)
                  have HHX := Aside0.mk k2
                  by_cases c3 : bs ≤ dv
                  · have g3 : decide (bs ≤ dv) = true := decide_eq_true c3
                    clear hDG p1 p2 p3 p4 p5 hdv
                    gi_wp2_with (first | (refine ⟨trivial, ?_⟩; gi_at_call 93; refine (CallsIn.inRound (H + 8) (callsIn_wide.2 (HIX.out _))).mono ?_; rintro e' w' ⟨rfl, ⟨⟨q1, rfl⟩⟩⟩) | (refine ⟨trivial, ?_⟩; gi_at_call 96; refine (CallsIn.inRound (H + 8) (callsIn_wide.2 (HDG.out _))).mono ?_; rintro e' w' ⟨rfl, ⟨⟨q2, rfl⟩⟩⟩))
                    exact (hdB.out.drewN (q + q1 + q2)).badEnd hH (HBAD.out (by rw [HST.out, if_pos (.inr (by omega))])) HRB.out.2
                  · have g3 : decide (bs ≤ dv) = false := decide_eq_false c3
                    clear hDG p1 p2 p3 p4 p5 hdv
                    gi_wp2_with (first | (refine ⟨trivial, ?_⟩; gi_at_call 93; refine (CallsIn.inRound (H + 8) (callsIn_wide.2 (HIX.out _))).mono ?_; rintro e' w' ⟨rfl, ⟨⟨q1, rfl⟩⟩⟩) | (refine ⟨trivial, ?_⟩; gi_at_call 96; refine (CallsIn.inRound (H + 8) (callsIn_wide.2 (HDG.out _))).mono ?_; rintro e' w' ⟨rfl, ⟨⟨q2, rfl⟩⟩⟩))
                    gi_roundg (ww - (j + 1))
                    case measure => omega
                    case rel =>
                      obtain ⟨k3, k4, k5⟩ := HNX.out dv (by omega) (by omega)
                      refine ⟨j + 1, na * bs + dv, by omega, by omega, by go_num, by rw [k3], ⟨⟨⟨q + q1 + q2, rfl⟩⟩⟩, ⟨⟨k4, k5⟩⟩, ⟨?_⟩⟩
                      rw [HST.out, if_neg (by rw [HHX.out]; omega), HHX.out]
          · have hjw : j = ww := by omega
            have hna : 0 ≤ na ∧ na < 256 := by
              have h1 := HNA.out
              have : (baseOf sx) ^ j = 256 := by
                rw [hjw]
                rcases hsx with ⟨rfl, rfl⟩ | ⟨rfl, rfl⟩ <;> decide
              omega
            have HRES : Aside0 (S.decG (baseOf sx) grp 0 = some na) := ⟨by
              rw [← HA.out, List.drop_eq_nil_of_le (by rw [← HG2.out, List.length_take]; omega)]
              rfl⟩
            have hcv : IntKind.u8.wrap na = na := wrapU8 na hna.1 hna.2
            have hltz : ¬ (j : Int) < (ww : Int) := by omega
            have hPR := fun W => scan_printable.calls na (S.prn na) W (prn_f na)
            have hdec1 : S.decK (baseOf sx) ww (n / ww - k) ((bytesOf a0).drop o) = if S.prn na = true then (S.decK (baseOf sx) ww (n / ww - (k + 1)) ((bytesOf a0).drop (o + ww))).map (na :: ·) else none := by
              obtain ⟨m, hm⟩ : ∃ m, n / ww - k = m + 1 := ⟨n / ww - k - 1, by omega⟩
              rw [hm, show n / ww - (k + 1) = m by omega]
              conv => { lhs; unfold S.decK }
              rw [HG2.out, HRES.out, List.drop_drop]
            by_cases hpr : S.prn na = true
            · rw [hpr] at hPR
              have HPR := Lib.hid hPR
              rw [if_pos hpr] at hdec1
              have HDEC : Aside0 (S.decK (baseOf sx) ww (n / ww) (bytesOf a0) = (S.decK (baseOf sx) ww (n / ww - (k + 1)) ((bytesOf a0).drop ((k + 1) * ww))).map ((out ++ [na]) ++ ·)) := ⟨by
                rw [hdB.out.dec, HO.out, hdec1, Nat.add_mul, HO.out, Nat.one_mul, Option.map_map]
                congr 1
                funext x
                simp⟩
              obtain ⟨i0, hi, hz0, hz1, hz2⟩ := info_parts (show (Tryz.prog.info? 5).map (fun i => (i.zero, i.size, i.bytes)) = some (some (.int .u8 0), 1, 1) by kernel_rfl)
              have s3 : WB.cell? ⟨H + 1 + 1 + 1, 0, none⟩ = some v := (blk_cell hdB.out.b3 0).trans rfl
              have hkn : k < 1000000 := by
                have := Nat.div_le_self n ww
                omega
              have hWs : H + 9 ≤ WB.heap.size := by
                have := hdB.out.b8 _ rfl
                have := (Array.getElem?_eq_some_iff.1 this).1
                omega
              clear hdec1 hPR
              gi_wp2_with (first | (refine ⟨trivial, ?_⟩; gi_at_call 65; refine (CallsIn.inRound (H + 8) (callsIn_wide.2 (HPR.out _))).mono ?_; rintro e' w' ⟨rfl, ⟨⟨q1, rfl⟩⟩⟩) | (gi_at_builtin; refine wpListIn_append_own _ rfl _ _ 100 rfl (H + 9) 5 i0 (.int .u8 0) 1 1 Tryz.underlying100 hi hz0 hz1 hz2 rfl (by decide) _ k _ rfl ((hdB.out.drewN _).own.alloc _) ⟨WB.heap.size, 0, none⟩ 1 1 [.int .u8 na] rfl rfl (cell_one_new _ _ _) (by simp [Value.oneCell']) (by unfold maxLen; omega) (by omega) (by simp; omega) ?_; intro v' w1 hown' hgrow _; obtain ⟨g', cap', rfl⟩ := ownsRow_succ hown'; have hcb : w1.heap[H + 1 + 1 + 1]? = WB.heap[H + 1 + 1 + 1]? := (hgrow.block _ (by simp; omega) (by intro e; have := (hdB.out.own.lt _ e.symm).1; omega)).trans (Below.heap_alloc _ _ _ (by simp; omega)); have c3 : w1.cell? ⟨H + 1 + 1 + 1, 0, none⟩ = some v := (blk_cell (hcb.trans hdB.out.b3) 0).trans rfl; have f3 := blk_frozen (hcb.trans hdB.out.b3) 0))
              obtain ⟨z1, z2⟩ := DcI.next (x := na) (hdB.out.drewN (q + q1)) hH (by show H + 8 < WB.heap.size; omega) hown' hgrow HDEC.out rd
              exact ⟨rb, z1, .inl ⟨rfl, _, out ++ [na], by rw [HRB.out.1]; exact z2⟩⟩
            · have hpr' : S.prn na = false := by simpa using hpr
              rw [hpr'] at hPR
              have HPR := Lib.hid hPR
              rw [if_neg hpr] at hdec1
              have HNO : Aside0 (S.litDec (bytesOf a0) sx = none) := ⟨by
                rw [litDec_eq _ sx ww hsx (by rw [bytesOf_length, hn]; exact hmod), bytesOf_length, hn, hdB.out.dec, HO.out, hdec1]
                rfl⟩
              clear hdec1 hPR
              gi_wp2_with (refine ⟨trivial, ?_⟩; gi_at_call 65; refine (CallsIn.inRound (H + 8) (callsIn_wide.2 (HPR.out _))).mono ?_; rintro e' w' ⟨rfl, ⟨⟨q1, rfl⟩⟩⟩)
              exact (hdB.out.drewN (q + q1)).badEnd hH HNO.out HRB.out.2
      refine hgr.mono ?_
      rintro e Z ⟨hv, ⟨v, out, hd⟩ | ⟨j1, j2, j3, j4, j5, j6⟩⟩
      · exact ⟨hv, .inl ⟨hd.b8 _ rfl, v, out, ⟨hd.b0, hd.b1, hd.b2, hd.b3, hd.b5, hd.b6, hd.b7, fun r' e => (by cases e), hd.buf, hd.own, hd.len, hd.below, hd.dec⟩⟩⟩
      · exact ⟨hv, .inr ⟨j1, j2, j3, j4, j5, j6⟩⟩
    case hready =>
      rintro Z r hlt ⟨v, out, hd⟩
      rw [hVs] at hlt ⊢
      have hl : S.litDec (bytesOf a0) sx = some out := by
        rw [litDec_eq _ sx ww hsx (by rw [bytesOf_length, hn]; exact hmod), bytesOf_length, hn, hd.dec, Nat.sub_self]
        simp [S.decK]
      have hk := hd.put hH hlt r
      generalize Z.putObj (H + 8) (.loop r) = Z1 at *
      have c3 : Z1.cell? ⟨H + 1 + 1 + 1, 0, none⟩ = some v := (blk_cell hk.b3 0).trans rfl
      have HK := Aside0.mk hk
      have hconv0 : (convert 100 9 v).run Tryz.prog Z1 = .ok (.string (strOfNums out)) Z1 := own_string (P := Tryz.prog) Tryz.underlying100 Tryz.underlying5 Tryz.underlying9 hk.own
      have s1 : Z1.cell? ⟨H + 1, 0, none⟩ = some (.string ⟨#[]⟩) := (blk_cell hk.b1 0).trans rfl
      have s2 : Z1.cell? ⟨H + 1 + 1, 0, none⟩ = some (.bool false) := (blk_cell hk.b2 0).trans rfl
      have t1 : Z1.frozen? ⟨H + 1, 0, none⟩ = false := blk_frozen hk.b1 0
      have t2 : Z1.frozen? ⟨H + 1 + 1, 0, none⟩ = false := blk_frozen hk.b2 0
      gi_wp2
      have o1 : ∀ (A : World) (b k : Nat) (u : Value), k ≠ b → (A.setCell ⟨b, 0, none⟩ u).heap[k]? = A.heap[k]? := fun A b k u hk => Below.heap_setCell A ⟨b, 0, none⟩ u k hk
      have f1 : ((Z1.setCell ⟨H + 1, 0, none⟩ (.string (strOfNums out))).setCell ⟨H + 1 + 1, 0, none⟩ (.bool true)).heap[H + 1]? = some (.cells #[.string (strOfNums out)] 9 (0, 0)) := (o1 _ _ _ _ (by omega)).trans (blk_put (cs := #[.string ⟨#[]⟩]) HK.out.b1 0 _ rfl)
      have f2 : ((Z1.setCell ⟨H + 1, 0, none⟩ (.string (strOfNums out))).setCell ⟨H + 1 + 1, 0, none⟩ (.bool true)).heap[H + 1 + 1]? = some (.cells #[.bool true] 4 (0, 0)) := blk_put (cs := #[.bool false]) ((o1 _ _ _ _ (by omega)).trans HK.out.b2) 0 _ rfl
      have f7 : ((Z1.setCell ⟨H + 1, 0, none⟩ (.string (strOfNums out))).setCell ⟨H + 1 + 1, 0, none⟩ (.bool true)).heap[H + 7]? = some (.deferred (some [])) := (o1 _ _ _ _ (by omega)).trans ((o1 _ _ _ _ (by omega)).trans HK.out.b7)
      have fb : Below H w ((Z1.setCell ⟨H + 1, 0, none⟩ (.string (strOfNums out))).setCell ⟨H + 1 + 1, 0, none⟩ (.bool true)) := (HK.out.below.setCell (p := ⟨H + 1, 0, none⟩) (by show H ≤ H + 1; omega) _).setCell (p := ⟨H + 1 + 1, 0, none⟩) (by show H ≤ H + 1 + 1; omega) _
      generalize (Z1.setCell ⟨H + 1, 0, none⟩ (.string (strOfNums out))).setCell ⟨H + 1 + 1, 0, none⟩ (.bool true) = Z2 at *
      refine ⟨by simp, .inl ⟨_, _, rfl, run_takeDeferred f7, ?_⟩⟩
      have g1 : (Z2.putObj (H + 7) (.deferred none)).cell? ⟨H + 1, 0, none⟩ = some (.string (strOfNums out)) := (blk_cell ((World.putObj_heap_other (by omega)).trans f1) 0).trans rfl
      have g2 : (Z2.putObj (H + 7) (.deferred none)).cell? ⟨H + 1 + 1, 0, none⟩ = some (.bool true) := (blk_cell ((World.putObj_heap_other (by omega)).trans f2) 0).trans rfl
      refine ⟨_, results_cells2 (fn := Tryz.f109) rfl _ _ _ _ (.string (strOfNums out)) (.bool true) rfl rfl (by simp [go_sem, g1]) (by simp [go_sem, g2]), ?_⟩
      rw [hl]
      exact ⟨rfl, by rw [hH]; exact Below.grown (row := some (H + 7)) fb (grownBy_putObj' _ (H + 7) _) (by have := fb.size; omega) (fun k e => by cases e; omega)⟩
    case hdone =>
      rintro Z r hlt ⟨hno, j1, j2, j3, j4⟩
      rw [hVs] at hlt ⊢
      have f1 : (Z.putObj (H + 8) (.loop r)).heap[H + 1]? = some (.cells #[.string ⟨#[]⟩] 9 (0, 0)) := (World.putObj_heap_other (by omega)).trans j1
      have f2 : (Z.putObj (H + 8) (.loop r)).heap[H + 1 + 1]? = some (.cells #[.bool false] 4 (0, 0)) := (World.putObj_heap_other (by omega)).trans j2
      have f7 : (Z.putObj (H + 8) (.loop r)).heap[H + 7]? = some (.deferred (some [])) := (World.putObj_heap_other (by omega)).trans j3
      have fb : Below H w (Z.putObj (H + 8) (.loop r)) := Below.grown (row := some (H + 8)) j4 (grownBy_putObj' _ (H + 8) _) (by have := j4.size; omega) (fun k e => by cases e; omega)
      generalize Z.putObj (H + 8) (.loop r) = Z2 at *
      gi_wp2
      refine ⟨by simp, .inl ⟨_, _, rfl, run_takeDeferred f7, ?_⟩⟩
      have g1 : (Z2.putObj (H + 7) (.deferred none)).cell? ⟨H + 1, 0, none⟩ = some (.string ⟨#[]⟩) := (blk_cell ((World.putObj_heap_other (by omega)).trans f1) 0).trans rfl
      have g2 : (Z2.putObj (H + 7) (.deferred none)).cell? ⟨H + 1 + 1, 0, none⟩ = some (.bool false) := (blk_cell ((World.putObj_heap_other (by omega)).trans f2) 0).trans rfl
      refine ⟨_, results_cells2 (fn := Tryz.f109) rfl _ _ _ _ (.string ⟨#[]⟩) (.bool false) rfl rfl (by simp [go_sem, g1]) (by simp [go_sem, g2]), ?_⟩
      rw [hno]
      exact ⟨rfl, by rw [hH]; exact Below.grown (row := some (H + 7)) fb (grownBy_putObj' _ (H + 7) _) (by have := fb.size; omega) (fun k e => by cases e; omega)⟩
  · have g1 : (((n % ww : Nat) : Int) != 0) = true := bne_iff_ne.2 (by omega)
    have g2 : ((ww : Int) == 0) = false := by rcases hsx with ⟨rfl, rfl⟩ | ⟨rfl, rfl⟩ <;> rfl
    have hl : S.litDec (bytesOf a0) sx = none := by
      have hln : (bytesOf a0).length = n := by rw [bytesOf_length]; exact hn
      rcases hsx with ⟨rfl, rfl⟩ | ⟨rfl, rfl⟩ <;> simp [S.litDec, S.decode, hln, hmod]
    rw [hl]
    refine (callsIn_wide (n := 8)).1 ?_
    refine callsIn_of_wp_marks Tryz.func109 rfl trivial ?_ rfl
    simp only [Tryz.ntmps109, List.size_toArray, List.length_cons, List.length_nil, Nat.reduceAdd, Nat.reduceSub, Array.replicate_succ, Array.replicate_zero, List.push_toArray, List.append_toArray, List.nil_append, List.cons_append]
    gi_wp2
    have q1 : (((w.alloc (.cells #[.int .i64 sx] 3)).alloc (.cells #[.string ⟨#[]⟩] 9)).alloc (.cells #[.bool false] 4)).heap[w.heap.size + 1]? = some (.cells #[.string ⟨#[]⟩] 9 (0, 0)) := by
      refine (Below.heap_alloc _ _ _ (by simp)).trans ?_
      have := heap_alloc_new (w.alloc (.cells #[.int .i64 sx] 3)) (.cells #[.string ⟨#[]⟩] 9)
      rwa [World.size_alloc] at this
    have q2 : (((w.alloc (.cells #[.int .i64 sx] 3)).alloc (.cells #[.string ⟨#[]⟩] 9)).alloc (.cells #[.bool false] 4)).heap[w.heap.size + 1 + 1]? = some (.cells #[.bool false] 4 (0, 0)) := by
      have := heap_alloc_new ((w.alloc (.cells #[.int .i64 sx] 3)).alloc (.cells #[.string ⟨#[]⟩] 9)) (.cells #[.bool false] 4)
      rwa [World.size_alloc, World.size_alloc] at this
    have qb : Below w.heap.size w (((w.alloc (.cells #[.int .i64 sx] 3)).alloc (.cells #[.string ⟨#[]⟩] 9)).alloc (.cells #[.bool false] 4)) := below_alloc (below_alloc (below_alloc (Below.refl _ _) _) _) _
    have g3 := (blk_cell q1 0)
    have g4 := (blk_cell q2 0)
    generalize ((w.alloc (.cells #[.int .i64 sx] 3)).alloc (.cells #[.string ⟨#[]⟩] 9)).alloc (.cells #[.bool false] 4) = Z at *
    refine ⟨_, results_cells2 (fn := Tryz.f109) rfl _ _ _ _ (.string ⟨#[]⟩) (.bool false) rfl rfl (by simp [go_sem, g3]) (by simp [go_sem, g4]), rfl, qb⟩
end Go.Proofs.YtkkpjonfaflkmaaGreatDoor.T

/- The scanner's literal returns what S.litTok says. -/
namespace Go.Proofs.YtkkpjonfaflkmaaGreatDoor.T
set_option linter.unusedSimpArgs false
set_option linter.unusedVariables false
open Go.RowKit Go.Proofs.YtkkpjonfaflkmaaGreatDoorW.PrintWords Go.Proofs.YtkkpjonfaflkmaaGreatDoorW.PrintLast Go.Proofs.YtkkpjonfaflkmaaGreatDoorW.PrintMore

theorem lit_shift (q : Int) (a : Nat) : ∀ (n : Nat) (xs : List Int) (i : Nat) (acc : List Int), xs.length ≤ n → S.lit q xs (i + a) acc = (S.lit q xs i acc).map fun p => (p.1, p.2 + a)
  | _, [], i, acc, _ => rfl
  | _, [c], i, acc, _ => by
    unfold S.lit
    by_cases h0 : c = 10 <;> by_cases h : c = q <;> simp [h, h0]
    all_goals (split <;> rfl)
  | 0, _ :: _ :: _, _, _, h => by simp at h
  | n + 1, c :: d :: t, i, acc, h => by
    simp only [List.length_cons] at h
    have h1 := lit_shift q a n t (i + 2) (acc ++ [q]) (by omega)
    have h2 := lit_shift q a n (d :: t) (i + 1) (acc ++ [c]) (by simp; omega)
    unfold S.lit
    by_cases e1 : c = 10
    · simp [e1]
    · by_cases e2 : c = q
      · by_cases e3 : d = q
        · rw [if_neg e1, if_pos e2, if_pos e3, if_neg e1, if_pos e2, if_pos e3, ← h1]
          congr 1; omega
        · rw [if_neg e1, if_pos e2, if_neg e3, if_neg e1, if_pos e2, if_neg e3]
          rfl
      · rw [if_neg e1, if_neg e2, if_neg e1, if_neg e2, ← h2]
        congr 1; omega

/-- What litTok comes to, by absolute offsets. -/
theorem litTok_none {L : List Int} {i : Nat} {q : Int} (hd : L.drop i = q :: L.drop (i + 1)) (hR : S.lit q (L.drop (i + 1)) (i + 1) [] = none) : S.litTok (L.drop i) = .err 6 := by
  have h1 := lit_shift q i _ (L.drop (i + 1)) 1 [] (Nat.le_refl _)
  rw [Nat.add_comm 1 i, hR] at h1
  rw [hd]
  unfold S.litTok
  cases h : S.lit q (L.drop (i + 1)) 1 [] with
  | none => simp only [h]
  | some p => rw [h] at h1; cases h1
theorem litTok_some {L : List Int} {i b : Nat} {q : Int} {v : List Int} (hd : L.drop i = q :: L.drop (i + 1)) (hR : S.lit q (L.drop (i + 1)) (i + 1) [] = some (v, b)) :
    S.litTok (L.drop i) = if v.all S.prn = true then (if S.sfx (L.drop (b + 1)) = 0 then S.litEnd v (b + 1 - i) else match S.litDec v (S.sfx (L.drop (b + 1))) with
      | none => .err 15
      | some u => S.litEnd u (b + 2 - i)) else .err 13 := by
  have h1 := lit_shift q i _ (L.drop (i + 1)) 1 [] (Nat.le_refl _)
  rw [Nat.add_comm 1 i, hR] at h1
  rw [hd]
  unfold S.litTok
  cases h : S.lit q (L.drop (i + 1)) 1 [] with
  | none => rw [h] at h1; cases h1
  | some p =>
    obtain ⟨v', j⟩ := p
    rw [h] at h1
    simp only [Option.map_some, Option.some.injEq, Prod.mk.injEq] at h1
    obtain ⟨rfl, rfl⟩ := h1
    have e1 : (q :: L.drop (i + 1)).drop (j + 1) = L.drop (j + i + 1) := by
      rw [← hd, List.drop_drop]
      congr 1; omega
    rw [show j + i + 1 - i = j + 1 by omega, show j + i + 2 - i = j + 2 by omega]
    simp only [h, e1]
    rfl
theorem any_prn (v : List Int) : (v.any fun x => !S.prn x) = !(v.all S.prn) := by
  rw [List.all_eq_not_any_not, Bool.not_not]
/-- ContainsFunc on a string's bytes: is there one that may not be printed? -/
theorem np_calls (vs : ByteArray) (W : World) (hs : vs.size ≤ 100000) (g : Nat) (eg : ∀ args w, (callFunc g args).run Tryz.prog w = .ok (.enter g args) w) (hp : ∀ w, Pays g #[] (fun x => Value.int .u8 x) (fun x => !S.prn x) (fun _ => True) w) :
    Calls Tryz.prog 63 #[.slice (some ⟨W.heap.size, 0, none⟩) vs.size (grownCap W vs.size 0 5), .func (.func g) #[] #[]] (Lib.bytesWorld W 5 vs) fun e W' => e = .returned (.bool (!((bytesOf vs).all S.prn))) ∧ Below W.heap.size W W' := by
  have hO := OwnM.conv (base := W.heap.size) W vs (Nat.le_refl _) hs
  have hc := contB.calls (some ⟨W.heap.size, 0, none⟩) (grownCap W vs.size 0 5) (bytesOf vs) g #[] (fun x => !S.prn x) (fun _ => True) (Lib.bytesWorld W 5 vs) eg (by
    have e : (bytesOf vs).length = vs.size := bytesOf_length vs
    rw [← e] at hO
    exact hO.C) (fun _ _ => trivial) (hp _)
  rw [bytesOf_length, any_prn] at hc
  refine hc.mono ?_
  rintro e W' ⟨rfl, hb⟩
  have h1 : Below W.heap.size W (Lib.bytesWorld W 5 vs) := bytes_below (Below.refl _ _) (Nat.le_refl _) 5 vs
  exact ⟨rfl, h1.trans (hb.mono (by have := h1.size; omega))⟩
def ixS (c : Int) : Int := Lib.indexByte [88, 120, 66, 98] c.toNat.toUInt8
def ixB (c : Int) : Int := Lib.indexByte [66, 98] c.toNat.toUInt8
theorem ixS_f (c : Int) : strings_IndexByte.f ⟨#[88, 120, 66, 98]⟩ c = some (ixS c) := rfl
theorem ixB_f (c : Int) : strings_IndexByte.f ⟨#[66, 98]⟩ c = some (ixB c) := rfl
theorem ixS_spec (c : Int) (h0 : 0 ≤ c) (h1 : c < 256) : decide (0 ≤ ixS c) = decide (S.sfxOf c ≠ 0) ∧ (S.sfxOf c = 0 ∨ (S.sfxOf c = 4 ∧ decide (0 ≤ ixB c) = false) ∨ (S.sfxOf c = 1 ∧ decide (0 ≤ ixB c) = true)) :=
  byte_all (fun c => decide (0 ≤ ixS c) = decide (S.sfxOf c ≠ 0) ∧ (S.sfxOf c = 0 ∨ (S.sfxOf c = 4 ∧ decide (0 ≤ ixB c) = false) ∨ (S.sfxOf c = 1 ∧ decide (0 ≤ ixB c) = true))) (by decide +kernel) c h0 h1
theorem sfx_cons (c : Int) (t : List Int) : S.sfx (c :: t) = match t with
  | [] => S.sfxOf c
  | d :: _ => if S.sym d = true then 0 else S.sfxOf c := by cases t <;> rfl

set_option maxRecDepth 100000 in
set_option maxHeartbeats 4000000 in
theorem scan_literal_m.calls (s : Nat) (src : ByteArray) (m : Value) (i line : Nat) (w : World) (hsz : src.size ≤ 100000) (hl : line ≤ 1000000000) (hi : i < src.size) (h : Sc s src i line m w) :
    Calls Tryz.prog 70 #[.pointer (some ⟨s, 0, none⟩)] w fun e w' => But (· = s) w w' ∧ SymPost s src m i line e w' (S.litTok ((bytesOf src).drop i)) := by
  have HS := Aside0.mk h
  obtain ⟨n, hn⟩ : ∃ n, src.size = n := ⟨_, rfl⟩
  obtain ⟨L, hL⟩ : ∃ L, bytesOf src = L := ⟨_, rfl⟩
  have HN : Aside0 (L.length = n) := ⟨by rw [← hL, bytesOf_length]; exact hn⟩
  have hbi := nth_byte src i hi
  rw [hL] at hbi ⊢
  have HDI := Aside0.mk (drop_at L i (by rw [HN.out]; omega))
  obtain ⟨q, hq⟩ : ∃ q, L.getD i 0 = q := ⟨_, rfl⟩
  rw [hq] at hbi HDI
  have HQ := Aside0.mk hq
  have HL := Aside0.mk hL
  have c0 := h.c0
  have c1 := h.c1
  have hz0 : (0 : Int) ≤ (i : Int) := by omega
  have hz1 : (i : Int) < (n : Int) := by omega
  have hslt := h.lt
  obtain ⟨R, hR⟩ : ∃ R, S.lit q (L.drop (i + 1)) (i + 1) [] = R := ⟨_, rfl⟩
  have HR := Aside0.mk hR
  clear hL h hq hR
  rw [hn] at hsz hi
  go_enter Tryz.func70, Tryz.ntmps70
  go_wp2
  go_region
  go_wp2
  obtain ⟨W0, hW0⟩ : ∃ W0, (w.alloc (.cells #[.pointer none, .slice none 0 0] 126)).drew = W0 := ⟨_, rfl⟩
  have hB0 : Aside0 (Bld w.heap.size w.heap.size [] W0) := ⟨by rw [← hW0]; exact Bld.new w⟩
  have hb0 : Aside0 (Below w.heap.size w W0) := ⟨by rw [← hW0]; exact below_drew1 (below_alloc (Below.refl _ _) _)⟩
  rw [hW0]
  clear hW0
  generalize hH : w.heap.size = H at *
  have HSL := Aside0.mk hslt
  have HH := Aside0.mk hH
  clear hH
  go_loopg [5] (n + 1) (fun gg s5 wr => ∃ (kk : Nat) (acc : List Int), i < kk ∧ kk ≤ n ∧ n + 1 - kk ≤ gg ∧ s5 = .int .i64 kk ∧ acc.length ≤ kk ∧ Aside0 (Bld H H acc wr) ∧ Aside0 (Below H w wr) ∧ Aside0 (∀ x ∈ acc, 0 ≤ x ∧ x < 256) ∧ Aside0 (S.lit q (L.drop kk) kk acc = R))
  case atStart => exact ⟨i + 1, [], by omega, by omega, by omega, by go_num, by simp, hB0, hb0, ⟨by simp⟩, HR⟩
  case round =>
    obtain ⟨kk, acc, hik, hkk, hg, rfl, hal, HB, HW, HAR, HA⟩ := hrel
    have HC : Aside0 (Sc s src i line m wr) := ⟨(HW.out.block s HSL.out).trans HS.out⟩
    have d0 := HC.out.c0
    have d1 := HC.out.c1
    have d2 := HC.out.c2
    have HF := Lib.hid (fun W => scan_fail.calls (.pointer (some ⟨s, 0, none⟩)) 6 line W)
    by_cases hkn : kk = n
    · have g1 : decide ((n : Int) ≤ (kk : Int)) = true := decide_eq_true (by omega)
      have g2 : decide (n ≤ kk) = true := decide_eq_true (by omega)
      have hR : Aside0 (S.litTok (L.drop i) = .err 6) := ⟨litTok_none HDI.out (by
        rw [HR.out, ← HA.out, List.drop_eq_nil_of_le (by rw [HN.out]; omega)]
        rfl)⟩
      clear hik
      go_wp2_with (go_at_call 97; refine (HF.out _).mono ?_; rintro e w' ⟨rfl, rfl⟩; unfold Fails)
      refine ⟨rfl, But.of_below (by rw [HH.out]; exact HW.out), ?_⟩
      rw [hR.out]
      exact ⟨rfl, _, HC.out⟩
    · have hlt : kk < n := by omega
      have g1 : decide ((n : Int) ≤ (kk : Int)) = false := decide_eq_false (by omega)
      have g2 : decide (n ≤ kk) = false := decide_eq_false (by omega)
      have hby := nth_byte src kk (by omega)
      rw [HL.out] at hby
      have HDK := Aside0.mk (drop_at L kk (by rw [HN.out]; omega))
      obtain ⟨y, hy⟩ : ∃ y, L.getD kk 0 = y := ⟨_, rfl⟩
      rw [hy] at hby HDK
      have hyr : 0 ≤ y ∧ y < 256 := by rw [← hy]; exact bo_range src _ (by rw [HL.out]; exact getD_mem _ _ (by rw [HN.out]; omega))
      have HYR := Aside0.mk hyr
      clear hy hyr
      have hkz : (kk : Int) < (n : Int) := by omega
      by_cases hy10 : y = 10
      · have g3 : (y == 10) = true := beq_iff_eq.2 hy10
        have hR : Aside0 (S.litTok (L.drop i) = .err 6) := ⟨litTok_none HDI.out (by
          rw [HR.out, ← HA.out, HDK.out]
          rcases L.drop (kk + 1) with _ | ⟨d, t⟩
          · unfold S.lit
            rw [if_pos hy10]
          · unfold S.lit
            rw [if_pos hy10])⟩
        clear hik
        go_wp2_with (go_at_call 97; refine (HF.out _).mono ?_; rintro e w' ⟨rfl, rfl⟩; unfold Fails)
        refine ⟨rfl, But.of_below (by rw [HH.out]; exact HW.out), ?_⟩
        rw [hR.out]
        exact ⟨rfl, _, HC.out⟩
      · have g3 : (y == 10) = false := beq_eq_false_iff_ne.2 hy10
        have HWB := Lib.hid (fun x => bld_WriteByte H H acc x wr HB.out (by omega) (by have := HW.out.size; have := HH.out; omega))
        by_cases hyq : y = q
        · have g4 : (y == q) = true := beq_iff_eq.2 hyq
          obtain ⟨brk, hbrk⟩ : ∃ brk : Bool, (decide (n ≤ kk + 1) || !decide (L.getD (kk + 1) 0 = q)) = brk := ⟨_, rfl⟩
          have HBR := Aside0.mk hbrk
          clear hbrk
          go_upto_region 8 with (fail)
          go_cut [74] from 24 to 83 (fun s74 wc => s74 = .bool brk ∧ wc = wr)
          case first =>
            by_cases hk1 : kk + 1 < n
            · have e1 : decide ((n : Int) ≤ (kk : Int) + 1) = false := decide_eq_false (by omega)
              have e2 : decide (n ≤ kk + 1) = false := decide_eq_false (by omega)
              have hbz := nth_byte src (kk + 1) (by omega)
              rw [HL.out] at hbz
              have hk1z : (kk : Int) + 1 < (n : Int) := by omega
              have hk0 : (0 : Int) ≤ (kk : Int) + 1 := by omega
              have HBR2 := HBR.out
              rw [e2, Bool.false_or] at HBR2
              generalize L.getD (kk + 1) 0 = z at *
              by_cases hzq : z = q
              · have e3 : (z != q) = false := bne_eq_false_iff_eq.2 hzq
                go_wp2_with fail
                go_meet
                exact ⟨by rw [← HBR2, hzq]; simp, rfl⟩
              · have e3 : (z != q) = true := bne_iff_ne.2 hzq
                go_wp2_with fail
                go_meet
                exact ⟨by rw [← HBR2]; simp [hzq], rfl⟩
            · have e1 : decide ((n : Int) ≤ (kk : Int) + 1) = true := decide_eq_true (by omega)
              have e2 : decide (n ≤ kk + 1) = true := decide_eq_true (by omega)
              go_wp2_with fail
              go_meet
              exact ⟨by rw [← HBR.out, e2]; rfl, rfl⟩
          case rest =>
            obtain ⟨rfl, rfl⟩ := hcut
            cases brk with
            | false =>
              have hb := HBR.out
              rw [Bool.or_eq_false_iff] at hb
              have hk1 : kk + 1 < n := by have := of_decide_eq_false hb.1; omega
              have hzq : L.getD (kk + 1) 0 = q := by
                have := hb.2
                rw [Bool.not_eq_false'] at this
                exact of_decide_eq_true this
              have hbz := nth_byte src (kk + 1) (by omega)
              rw [HL.out, hzq] at hbz
              have hk1z : (kk : Int) + 1 < (n : Int) := by omega
              have hk0 : (0 : Int) ≤ (kk : Int) + 1 := by omega
              have hA2 : Aside0 (S.lit q (L.drop (kk + 2)) (kk + 2) (acc ++ [q]) = R) := ⟨by
                rw [← HA.out, HDK.out, drop_at L (kk + 1) (by rw [HN.out]; omega), hzq]
                conv => { rhs; unfold S.lit }
                rw [if_neg hy10, if_pos hyq, if_pos rfl]⟩
              clear hb hzq
              go_wp2_with (go_at_call 106; refine (HWB.out _).mono ?_; rintro e w' ⟨rfl, hb1, hb2⟩)
              go_roundg (n + 1 - (kk + 2))
              case measure => omega
              case rel =>
                refine ⟨kk + 2, acc ++ [q], by omega, by omega, by omega, by go_num, by simp; omega, ⟨hb1⟩, ⟨HW.out.trans hb2⟩, ⟨fun x hx => ?_⟩, hA2⟩
                rcases List.mem_append.1 hx with hx | hx
                · exact HAR.out x hx
                · simp at hx; subst hx; rw [← hyq]; exact HYR.out
            | true =>
              have hRR : R = some (acc, kk) := by
                rw [← HA.out, HDK.out]
                rcases hd : L.drop (kk + 1) with _ | ⟨d, t⟩
                · unfold S.lit
                  rw [if_neg hy10, if_pos hyq]
                · conv => { lhs; unfold S.lit }
                  have hk1 : kk + 1 < n := by
                    have := congrArg List.length hd
                    rw [List.length_drop, HN.out] at this
                    simp at this
                    omega
                  have hdz : L.getD (kk + 1) 0 = d := by
                    have := drop_at L (kk + 1) (by rw [HN.out]; omega)
                    rw [hd] at this
                    exact (List.cons.inj this).1.symm
                  have hb := HBR.out
                  rw [decide_eq_false (show ¬ n ≤ kk + 1 by omega), Bool.false_or, hdz] at hb
                  have : ¬ d = q := by
                    intro e
                    rw [e] at hb
                    simp at hb
                  rw [if_neg hy10, if_pos hyq, if_neg this]
              have HTOK := Aside0.mk (litTok_some HDI.out (HR.out.trans hRR))
              obtain ⟨vs, hvs⟩ : ∃ vs, strOfNums acc = vs := ⟨_, rfl⟩
              have HVB : Aside0 (bytesOf vs = acc) := ⟨by rw [← hvs]; exact bytesOf_str acc HAR.out⟩
              obtain ⟨kv, hkv⟩ : ∃ kv, vs.size = kv := ⟨_, rfl⟩
              have hkv2 : acc.length = kv := by rw [← HVB.out, bytesOf_length]; exact hkv
              have hst := bld_String H H acc wc HB.out HAR.out (by have := HW.out.size; have := HH.out; omega)
              rw [hvs] at hst
              have HST := Lib.hid hst
              have kb := fun W => print_bytes (P := Tryz.prog) 9 100 5 Tryz.underlying9 Tryz.underlying100 Tryz.underlying5 vs W
              have hnp := fun W => np_calls vs W (by omega) 108 litNP_enters litNP.pays
              rw [hkv] at kb hnp
              rw [HVB.out] at hnp
              obtain ⟨ap, hap⟩ : ∃ ap, acc.all S.prn = ap := ⟨_, rfl⟩
              rw [hap] at hnp
              have HNP := Lib.hid hnp
              have HAP := Aside0.mk hap
              have HF13 := Lib.hid (fun W => scan_fail.calls (.pointer (some ⟨s, 0, none⟩)) 13 line W)
              have HVS := Aside0.mk hvs
              clear hst hnp hap hRR hvs HF HWB
              have HW1 : Aside0 (∀ W : World, Below H wc W → But (· = s) w W) := ⟨fun W hb => But.of_below (by rw [HH.out]; exact HW.out.trans hb)⟩
              cases ap with
              | false =>
                go_wp2_with (first | (go_at_call 107; refine HST.out.mono ?_; rintro e w1 ⟨rfl, hs1, hs2⟩) | (go_at_call 63; refine (HNP.out _).mono ?_; rintro e w2 ⟨rfl, hs3⟩; have hsc : Sc s src i line m w2 := (hs3.block s (by have := hs2.size; have := HC.out.lt; omega)).trans ((hs2.block s HSL.out).trans HC.out); have HSC := Aside0.mk hsc; have e2 := hsc.c2; have f1 := hsc.fr 1; have e1 := hsc.c1; have HBU : Aside0 (But (· = s) w w2) := ⟨(HW1.out _ hs2).then hs3⟩; clear hsc) | (go_at_call 97; refine (HF13.out _).mono ?_; rintro e w3 ⟨rfl, rfl⟩; unfold Fails))
                refine ⟨rfl, HBU.out, ?_⟩
                rw [HTOK.out, if_neg (by rw [HAP.out]; simp)]
                exact ⟨rfl, _, HSC.out⟩
              | true =>
                rw [if_pos HAP.out] at HTOK
                go_upto_region 15 with (first | (go_at_call 107; refine HST.out.mono ?_; rintro e w1 ⟨rfl, hs1, hs2⟩) | (go_at_call 63; refine (HNP.out _).mono ?_; rintro e w2 ⟨rfl, hs3⟩; have hsc : Sc s src i line m w2 := (hs3.block s (by have := hs2.size; have := HC.out.lt; omega)).trans ((hs2.block s HSL.out).trans HC.out); have HSC := Aside0.mk hsc; have e2 := hsc.c2; have f1 := hsc.fr 1; have e1 := hsc.c1; have HBU : Aside0 (But (· = s) w w2) := ⟨(HW1.out _ hs2).then hs3⟩; clear hsc))
                obtain ⟨x, hx⟩ : ∃ x, kk + 1 = x := ⟨_, rfl⟩
                have HS3 : Aside0 (Sc s src x line m (w2.setCell ⟨s, 1, none⟩ (.int .i64 ((kk : Int) + 1)))) := ⟨by
                  have := HSC.out.set1 ((kk : Int) + 1)
                  rw [show ((kk : Int) + 1) = (x : Int) by omega] at this ⊢
                  exact this⟩
                have HB3 : Aside0 (But (· = s) w (w2.setCell ⟨s, 1, none⟩ (.int .i64 ((kk : Int) + 1)))) := ⟨HBU.out.set _ _ rfl⟩
                generalize w2.setCell ⟨s, 1, none⟩ (.int .i64 ((kk : Int) + 1)) = w3 at *
                obtain ⟨K, hK⟩ : ∃ K, S.sfx (L.drop x) = K := ⟨_, rfl⟩
                rw [hx, hK] at HTOK
                have HKK := Aside0.mk hK
                have hxn : x ≤ n := by omega
                have hx0 : (0 : Int) ≤ (x : Int) := by omega
                clear hK HST HNP HF13 kb HA HAR HDK HB hs2 hs3 HSC HBU HC HW HW1
                go_cut [148] from 10 (fun s148 w4 => s148 = .bool (decide (K ≠ 0)) ∧ Aside0 (Sc s src x line m w4) ∧ Aside0 (But (· = s) w w4))
                case first =>
                  have cc0 : ∀ y : ScC s src x line m w, y.world.cell? ⟨s, 0, none⟩ = some (.string src) := ScC.c0
                  have cc1 : ∀ y : ScC s src x line m w, y.world.cell? ⟨s, 1, none⟩ = some (.int .i64 x) := ScC.c1
                  have hne : Nonempty (ScC s src x line m w) := ⟨⟨w3.drew, HS3.out, HB3.out.drew⟩⟩
                  by_cases hxl : x < n
                  · have e1 : decide ((x : Int) < (n : Int)) = true := decide_eq_true (by omega)
                    have e2 : decide (x < n) = true := decide_eq_true hxl
                    have hbx := nth_byte src x (by omega)
                    rw [HL.out] at hbx
                    have hdx := drop_at L x (by rw [HN.out]; omega)
                    obtain ⟨c, hcc⟩ : ∃ c, L.getD x 0 = c := ⟨_, rfl⟩
                    rw [hcc] at hbx hdx
                    have hcr : 0 ≤ c ∧ c < 256 := by rw [← hcc]; exact bo_range src _ (by rw [HL.out]; exact getD_mem _ _ (by rw [HN.out]; omega))
                    obtain ⟨p1, p2⟩ := ixS_spec c hcr.1 hcr.2
                    have HK2 : Aside0 (K = match L.drop (x + 1) with | [] => S.sfxOf c | d :: _ => if S.sym d = true then 0 else S.sfxOf c) := ⟨by rw [← HKK.out, hdx, sfx_cons]⟩
                    have HIS := Lib.hid (fun W => strings_IndexByte.calls ⟨#[88, 120, 66, 98]⟩ c (ixS c) W (ixS_f c))
                    have hxz : (x : Int) < (n : Int) := by omega
                    clear hcc hdx p2
                    generalize ixS c = iv at *
                    by_cases hs0 : S.sfxOf c = 0
                    · have e3 : decide (0 ≤ iv) = false := by rw [p1, hs0]; rfl
                      obtain rfl : K = 0 := by
                        rw [HK2.out]
                        rcases L.drop (x + 1) with _ | ⟨d, t⟩
                        · exact hs0
                        · simp [hs0]
                      clear p1 hs0
                      refine wp_region_cls (fun W => ∃ y : ScC s src x line m w, W = y.world) (by kernel_rfl) (by kernel_rfl) ⟨⟨w3.drew, HS3.out, HB3.out.drew⟩, rfl⟩ ?_
                      repeat (go_big_quiet_step ((rename_i y; (go_at_call 93; refine (HIS.out _).mono ?_; rintro e w' ⟨rfl, hb⟩; exact ⟨rfl, y.ret hb.below⟩))))
                      refine wpQuiet_nil ?_
                      rintro W ⟨y, rfl⟩
                      go_wp2_with fail
                      go_meet
                      exact ⟨rfl, ⟨y.sc⟩, ⟨y.but⟩⟩
                    · have e3 : decide (0 ≤ iv) = true := by rw [p1]; exact decide_eq_true hs0
                      by_cases hx1 : x + 1 < n
                      · have e4 : decide ((n : Int) ≤ (x : Int) + 1) = false := decide_eq_false (by omega)
                        have e5 : decide (n ≤ x + 1) = false := decide_eq_false (by omega)
                        have hbx1 := nth_byte src (x + 1) (by omega)
                        rw [HL.out] at hbx1
                        have hx1z : (x : Int) + 1 < (n : Int) := by omega
                        have hx10 : (0 : Int) ≤ (x : Int) + 1 := by omega
                        have hdx := drop_at L (x + 1) (by rw [HN.out]; omega)
                        obtain ⟨d, hdd⟩ : ∃ d, L.getD (x + 1) 0 = d := ⟨_, rfl⟩
                        rw [hdd] at hbx1 hdx
                        have hdr : 0 ≤ d ∧ d < 256 := by rw [← hdd]; exact bo_range src _ (by rw [HL.out]; exact getD_mem _ _ (by rw [HN.out]; omega))
                        have hsy := fun W => scan_symbolic.calls d (S.sym d) W (sym_f d hdr.1 hdr.2)
                        obtain ⟨sd, hsd⟩ : ∃ sd, S.sym d = sd := ⟨_, rfl⟩
                        rw [hsd] at hsy
                        have HSY := Lib.hid hsy
                        have HKV : Aside0 (decide (K ≠ 0) = !sd) := ⟨by
                          rw [HK2.out, hdx]
                          simp only [hsd]
                          cases sd
                          · simp [hs0]
                          · rfl⟩
                        clear p1 hs0 hsy hdx hdd hsd hdr
                        refine wp_region_cls (fun W => ∃ y : ScC s src x line m w, W = y.world) (by kernel_rfl) (by kernel_rfl) ⟨⟨w3.drew, HS3.out, HB3.out.drew⟩, rfl⟩ ?_
                        repeat (go_big_quiet_step ((rename_i y; first | (go_at_call 93; refine (HIS.out _).mono ?_; rintro e w' ⟨rfl, hb⟩; exact ⟨rfl, y.ret hb.below⟩) | (go_at_call 55; refine (HSY.out _).mono ?_; rintro e w' ⟨rfl, hb⟩; exact ⟨rfl, y.ret hb.below⟩))))
                        refine wpQuiet_nil ?_
                        rintro W ⟨y, rfl⟩
                        go_wp2_with fail
                        go_meet
                        exact ⟨by rw [HKV.out], ⟨y.sc⟩, ⟨y.but⟩⟩
                      · have e4 : decide ((n : Int) ≤ (x : Int) + 1) = true := decide_eq_true (by omega)
                        have e5 : decide (n ≤ x + 1) = true := decide_eq_true (by omega)
                        have HKV : Aside0 (decide (K ≠ 0) = true) := ⟨by
                          rw [HK2.out, List.drop_eq_nil_of_le (by rw [HN.out]; omega)]
                          exact decide_eq_true hs0⟩
                        clear p1 hs0
                        refine wp_region_cls (fun W => ∃ y : ScC s src x line m w, W = y.world) (by kernel_rfl) (by kernel_rfl) ⟨⟨w3.drew, HS3.out, HB3.out.drew⟩, rfl⟩ ?_
                        repeat (go_big_quiet_step ((rename_i y; (go_at_call 93; refine (HIS.out _).mono ?_; rintro e w' ⟨rfl, hb⟩; exact ⟨rfl, y.ret hb.below⟩))))
                        refine wpQuiet_nil ?_
                        rintro W ⟨y, rfl⟩
                        go_wp2_with fail
                        go_meet
                        exact ⟨by rw [HKV.out], ⟨y.sc⟩, ⟨y.but⟩⟩
                  · have e1 : decide ((x : Int) < (n : Int)) = false := decide_eq_false (by omega)
                    have e2 : decide (x < n) = false := decide_eq_false hxl
                    obtain rfl : K = 0 := by
                      rw [← HKK.out, List.drop_eq_nil_of_le (by rw [HN.out]; omega)]
                      rfl
                    refine wp_region_cls (fun W => ∃ y : ScC s src x line m w, W = y.world) (by kernel_rfl) (by kernel_rfl) ⟨⟨w3.drew, HS3.out, HB3.out.drew⟩, rfl⟩ ?_
                    repeat (go_big_quiet_step (fail))
                    refine wpQuiet_nil ?_
                    rintro W ⟨y, rfl⟩
                    go_wp2_with fail
                    go_meet
                    exact ⟨rfl, ⟨y.sc⟩, ⟨y.but⟩⟩
                case rest =>
                  obtain ⟨rfl, HS4, HB4⟩ := hcut
                  go_upto_if 148 with (fail)
                  go_cut [6] from 10 (fun s6 w5 => ∃ (vv : List Int) (pp : Nat), s6 = .string (strOfNums vv) ∧ Aside0 (Sc s src pp line m w5) ∧ Aside0 (But (· = s) w w5) ∧ Aside0 (S.litTok (L.drop i) = S.litEnd vv (pp - i)) ∧ Aside0 (i ≤ pp))
                  case first =>
                    by_cases hK0 : K = 0
                    · subst hK0
                      rw [if_pos rfl] at HTOK
                      go_wp2_with fail
                      go_meet
                      exact ⟨acc, x, by rw [HVS.out], HS4, HB4, HTOK, ⟨by omega⟩⟩
                    · have hxl : x < n := by
                        rcases Nat.lt_or_ge x n with h | h
                        · exact h
                        · exfalso
                          apply hK0
                          rw [← HKK.out, List.drop_eq_nil_of_le (by rw [HN.out]; omega)]
                          rfl
                      have hbx := nth_byte src x (by omega)
                      rw [HL.out] at hbx
                      have hdx := drop_at L x (by rw [HN.out]; omega)
                      obtain ⟨c, hcc⟩ : ∃ c, L.getD x 0 = c := ⟨_, rfl⟩
                      rw [hcc] at hbx hdx
                      have hcr : 0 ≤ c ∧ c < 256 := by rw [← hcc]; exact bo_range src _ (by rw [HL.out]; exact getD_mem _ _ (by rw [HN.out]; omega))
                      obtain ⟨p1, p2⟩ := ixS_spec c hcr.1 hcr.2
                      have hKc : K = S.sfxOf c := by
                        have h1 := HKK.out
                        rw [hdx, sfx_cons] at h1
                        rcases hd2 : L.drop (x + 1) with _ | ⟨d, t⟩
                        · rw [hd2] at h1; exact h1.symm
                        · rw [hd2] at h1
                          simp only at h1
                          by_cases hsd : S.sym d = true
                          · rw [if_pos hsd] at h1; exact absurd h1.symm hK0
                          · rw [if_neg hsd] at h1; exact h1.symm
                      have HIB := Lib.hid (fun W => strings_IndexByte.calls ⟨#[66, 98]⟩ c (ixB c) W (ixB_f c))
                      have hxz : (x : Int) < (n : Int) := by omega
                      rw [← hKc] at p2
                      have d0 := HS4.out.c0
                      have d1 := HS4.out.c1
                      have d2 := HS4.out.c2
                      have cc0 : ∀ y : ScC s src x line m w, y.world.cell? ⟨s, 0, none⟩ = some (.string src) := ScC.c0
                      have cc1 : ∀ y : ScC s src x line m w, y.world.cell? ⟨s, 1, none⟩ = some (.int .i64 x) := ScC.c1
                      have hne : Nonempty (ScC s src x line m w) := ⟨⟨wc.drew, HS4.out, HB4.out.drew⟩⟩
                      clear p1 hKc hdx hcc hcr
                      generalize ixB c = ib at *
                      rcases p2 with p2 | ⟨rfl, e3⟩ | ⟨rfl, e3⟩
                      · exact absurd p2 hK0
                      · clear hK0
                        have hdc : ∀ W, Calls Tryz.prog 109 #[.string vs, .int .i64 4] W fun e w' => e = .returned (.tuple #[.string (strOfNums ((S.litDec (bytesOf vs) 4).getD [])), .bool (S.litDec (bytesOf vs) 4).isSome]) ∧ Below W.heap.size W w' := fun W => scan_decode.calls vs 4 2 (.inl ⟨rfl, rfl⟩) (by omega) W
                        have HF15 := Lib.hid (fun W => scan_fail.calls (.pointer (some ⟨s, 0, none⟩)) 15 line W)
                        rw [HVB.out] at hdc
                        rw [if_neg (by decide)] at HTOK
                        cases hld : S.litDec acc 4 with
                        | none =>
                          rw [hld] at hdc
                          have HTK : Aside0 (S.litTok (L.drop i) = .err 15) := ⟨by rw [HTOK.out, hld]⟩
                          have HDC := Lib.hid hdc
                          clear hdc hld
                          go_upto_region 17 with (fail)
                          refine wp_region_cls (fun W => ∃ y : ScC s src x line m w, W = y.world) (by kernel_rfl) (by kernel_rfl) ⟨⟨wc.drew, HS4.out, HB4.out.drew⟩, rfl⟩ ?_
                          repeat (go_big_quiet_step ((rename_i y; (go_at_call 93; refine (HIB.out _).mono ?_; rintro e w' ⟨rfl, hb⟩; exact ⟨rfl, y.ret hb.below⟩))))
                          refine wpQuiet_nil ?_
                          rintro W ⟨⟨w5, hs5, hb5⟩, rfl⟩
                          go_wp2_with (first | (go_at_call 109; refine (HDC.out _).mono ?_; rintro e w6 ⟨rfl, hb6⟩; have hs6 := hs5.below hb6; have hb7 := hb5.then hb6; have e2 := hs6.c2) | (go_at_call 97; refine (HF15.out _).mono ?_; rintro e w7 ⟨rfl, rfl⟩; unfold Fails))
                          refine ⟨rfl, hb7, ?_⟩
                          rw [HTK.out]
                          exact ⟨rfl, _, hs6⟩
                        | some u =>
                          rw [hld] at hdc
                          have HTK : Aside0 (S.litTok (L.drop i) = S.litEnd u (x + 1 - i)) := ⟨by rw [HTOK.out, hld]; simp only []; rw [show kk + 2 - i = x + 1 - i by omega]⟩
                          have HDC := Lib.hid hdc
                          clear hdc hld
                          go_upto_region 17 with (fail)
                          refine wp_region_cls (fun W => ∃ y : ScC s src x line m w, W = y.world) (by kernel_rfl) (by kernel_rfl) ⟨⟨wc.drew, HS4.out, HB4.out.drew⟩, rfl⟩ ?_
                          repeat (go_big_quiet_step ((rename_i y; (go_at_call 93; refine (HIB.out _).mono ?_; rintro e w' ⟨rfl, hb⟩; exact ⟨rfl, y.ret hb.below⟩))))
                          refine wpQuiet_nil ?_
                          rintro W ⟨⟨w5, hs5, hb5⟩, rfl⟩
                          go_wp2_with (go_at_call 109; refine (HDC.out _).mono ?_; rintro e w6 ⟨rfl, hb6⟩; have hs6 := hs5.below hb6; have hb7 := hb5.then hb6; have e1 := hs6.c1; have f1 := hs6.fr 1)
                          go_meet
                          exact ⟨u, x + 1, rfl, ⟨hs6.set1 _⟩, ⟨hb7.set _ _ rfl⟩, HTK, ⟨by omega⟩⟩
                      · clear hK0
                        have hdc : ∀ W, Calls Tryz.prog 109 #[.string vs, .int .i64 1] W fun e w' => e = .returned (.tuple #[.string (strOfNums ((S.litDec (bytesOf vs) 1).getD [])), .bool (S.litDec (bytesOf vs) 1).isSome]) ∧ Below W.heap.size W w' := fun W => scan_decode.calls vs 1 8 (.inr ⟨rfl, rfl⟩) (by omega) W
                        have HF15 := Lib.hid (fun W => scan_fail.calls (.pointer (some ⟨s, 0, none⟩)) 15 line W)
                        rw [HVB.out] at hdc
                        rw [if_neg (by decide)] at HTOK
                        cases hld : S.litDec acc 1 with
                        | none =>
                          rw [hld] at hdc
                          have HTK : Aside0 (S.litTok (L.drop i) = .err 15) := ⟨by rw [HTOK.out, hld]⟩
                          have HDC := Lib.hid hdc
                          clear hdc hld
                          go_upto_region 17 with (fail)
                          refine wp_region_cls (fun W => ∃ y : ScC s src x line m w, W = y.world) (by kernel_rfl) (by kernel_rfl) ⟨⟨wc.drew, HS4.out, HB4.out.drew⟩, rfl⟩ ?_
                          repeat (go_big_quiet_step ((rename_i y; (go_at_call 93; refine (HIB.out _).mono ?_; rintro e w' ⟨rfl, hb⟩; exact ⟨rfl, y.ret hb.below⟩))))
                          refine wpQuiet_nil ?_
                          rintro W ⟨⟨w5, hs5, hb5⟩, rfl⟩
                          go_wp2_with (first | (go_at_call 109; refine (HDC.out _).mono ?_; rintro e w6 ⟨rfl, hb6⟩; have hs6 := hs5.below hb6; have hb7 := hb5.then hb6; have e2 := hs6.c2) | (go_at_call 97; refine (HF15.out _).mono ?_; rintro e w7 ⟨rfl, rfl⟩; unfold Fails))
                          refine ⟨rfl, hb7, ?_⟩
                          rw [HTK.out]
                          exact ⟨rfl, _, hs6⟩
                        | some u =>
                          rw [hld] at hdc
                          have HTK : Aside0 (S.litTok (L.drop i) = S.litEnd u (x + 1 - i)) := ⟨by rw [HTOK.out, hld]; simp only []; rw [show kk + 2 - i = x + 1 - i by omega]⟩
                          have HDC := Lib.hid hdc
                          clear hdc hld
                          go_upto_region 17 with (fail)
                          refine wp_region_cls (fun W => ∃ y : ScC s src x line m w, W = y.world) (by kernel_rfl) (by kernel_rfl) ⟨⟨wc.drew, HS4.out, HB4.out.drew⟩, rfl⟩ ?_
                          repeat (go_big_quiet_step ((rename_i y; (go_at_call 93; refine (HIB.out _).mono ?_; rintro e w' ⟨rfl, hb⟩; exact ⟨rfl, y.ret hb.below⟩))))
                          refine wpQuiet_nil ?_
                          rintro W ⟨⟨w5, hs5, hb5⟩, rfl⟩
                          go_wp2_with (go_at_call 109; refine (HDC.out _).mono ?_; rintro e w6 ⟨rfl, hb6⟩; have hs6 := hs5.below hb6; have hb7 := hb5.then hb6; have e1 := hs6.c1; have f1 := hs6.fr 1)
                          go_meet
                          exact ⟨u, x + 1, rfl, ⟨hs6.set1 _⟩, ⟨hb7.set _ _ rfl⟩, HTK, ⟨by omega⟩⟩
                  case rest =>
                    obtain ⟨vv, pp, rfl, HS5, HB5, HTK, hip⟩ := hcut
                    have d2 := HS5.out.c2
                    obtain ⟨vz, hvz⟩ : ∃ vz, strOfNums vv = vz := ⟨_, rfl⟩
                    obtain ⟨lv, hlv⟩ : ∃ lv, vz.size = lv := ⟨_, rfl⟩
                    have hlv2 : vv.length = lv := by rw [← hlv, ← hvz]; simp [strOfNums, ByteArray.size]
                    have HVZ := Aside0.mk hvz
                    have HTK2 := HTK
                    unfold S.litEnd at HTK2
                    rw [hlv2] at HTK2
                    rw [hvz]
                    have HF30 := Lib.hid (scan_fail.calls (.pointer (some ⟨s, 0, none⟩)) 30 line wc)
                    by_cases hlong : 1000 < lv
                    · have e1 : decide (1000 < lv) = true := decide_eq_true hlong
                      have e2 : decide ((1000 : Int) < (lv : Int)) = true := decide_eq_true (by omega)
                      rw [if_pos hlong] at HTK2
                      clear hvz hlv2 hlong
                      go_wp2_with (go_at_call 97; refine HF30.out.mono ?_; rintro e w7 ⟨rfl, rfl⟩; unfold Fails)
                      refine ⟨rfl, HB5.out, ?_⟩
                      rw [HTK2.out]
                      exact ⟨rfl, _, HS5.out⟩
                    · have e1 : decide (1000 < lv) = false := decide_eq_false hlong
                      have e2 : decide ((1000 : Int) < (lv : Int)) = false := decide_eq_false (by omega)
                      rw [if_neg hlong] at HTK2
                      clear hvz hlv2 hlong
                      go_wp2_with fail
                      go_ret
                      refine ⟨HB5.out, ?_⟩
                      rw [HTK2.out]
                      exact ⟨by rw [HVZ.out]; rfl, by rw [show ((i + (pp - i) : Nat) : Int) = (pp : Int) by have := hip.out; omega]; exact HS5.out⟩
        · have g4 : (y == q) = false := beq_eq_false_iff_ne.2 hyq
          have hA2 : Aside0 (S.lit q (L.drop (kk + 1)) (kk + 1) (acc ++ [y]) = R) := ⟨by
            rw [← HA.out, HDK.out]
            rcases L.drop (kk + 1) with _ | ⟨d, t⟩
            · unfold S.lit
              rw [if_neg hy10, if_neg hyq]
            · conv => { rhs; unfold S.lit }
              rw [if_neg hy10, if_neg hyq]⟩
          go_wp2_with (go_at_call 106; refine (HWB.out _).mono ?_; rintro e w' ⟨rfl, hb1, hb2⟩)
          go_roundg (n + 1 - (kk + 1))
          case measure => omega
          case rel =>
            refine ⟨kk + 1, acc ++ [y], by omega, by omega, by omega, by go_num, by simp; omega, ⟨hb1⟩, ⟨HW.out.trans hb2⟩, ⟨fun x hx => ?_⟩, hA2⟩
            rcases List.mem_append.1 hx with hx | hx
            · exact HAR.out x hx
            · simp at hx; subst hx; exact HYR.out
end Go.Proofs.YtkkpjonfaflkmaaGreatDoor.T

/- What a step consumes, and that its text is made of bytes. -/
namespace Go.Proofs.YtkkpjonfaflkmaaGreatDoor.S
set_option linter.unusedSimpArgs false
set_option linter.unusedVariables false

theorem cmt_bounds : ∀ (xs : List Int) (i d l b i' l' b' : Nat), cmt xs i d l b = .done i' l' b' → i < i' ∧ i' ≤ i + xs.length ∧ l ≤ l' ∧ l' + i ≤ l + i'
  | [], _, _, _, _, _, _, _ => fun h => by cases h
  | [_], _, _, _, _, _, _, _ => fun h => by cases h
  | c :: e :: t, i, d, l, b, i', l', b' => fun h => by
    rw [cmt] at h
    by_cases h1 : c = 47 ∧ e = 42
    · rw [if_pos h1] at h
      have := cmt_bounds t _ _ _ _ _ _ _ h
      simp only [List.length_cons]; omega
    · rw [if_neg h1] at h
      by_cases h2 : c = 42 ∧ e = 47
      · rw [if_pos h2] at h
        by_cases h3 : d = 1
        · rw [if_pos h3] at h; cases h; simp only [List.length_cons]; omega
        · rw [if_neg h3] at h
          have := cmt_bounds t _ _ _ _ _ _ _ h
          simp only [List.length_cons]; omega
      · rw [if_neg h2] at h
        have := cmt_bounds (e :: t) _ _ _ _ _ _ _ h
        simp only [List.length_cons] at this ⊢
        by_cases hc : c = 10
        · simp only [hc, if_true] at this; omega
        · simp only [hc, if_false] at this; omega
  termination_by xs => xs.length
theorem lit_bounds (q : Int) (P : Int → Prop) (hq : P q) : ∀ (xs : List Int) (i : Nat) (acc v : List Int) (j : Nat), lit q xs i acc = some (v, j) → (∀ x ∈ acc, P x) → (∀ x ∈ xs, P x) → i ≤ j ∧ j < i + xs.length ∧ ∀ x ∈ v, P x
  | [], i, acc, v, j => fun h _ _ => by cases h
  | [c], i, acc, v, j => fun h ha _ => by
    rw [lit] at h
    by_cases h1 : c = 10
    · rw [if_pos h1] at h; cases h
    · rw [if_neg h1] at h
      by_cases h2 : c = q
      · rw [if_pos h2] at h; cases h; exact ⟨Nat.le_refl _, by simp, ha⟩
      · rw [if_neg h2] at h; cases h
  | c :: d :: t, i, acc, v, j => fun h ha hx => by
    rw [lit] at h
    by_cases h1 : c = 10
    · rw [if_pos h1] at h; cases h
    · rw [if_neg h1] at h
      by_cases h2 : c = q
      · rw [if_pos h2] at h
        by_cases h3 : d = q
        · rw [if_pos h3] at h
          have := lit_bounds q P hq t (i + 2) (acc ++ [q]) v j h (fun x hx' => by
            rcases List.mem_append.1 hx' with e | e
            · exact ha x e
            · rw [List.mem_singleton.1 e]; exact hq) (fun x e => hx x (by simp [e]))
          simp only [List.length_cons]
          exact ⟨by omega, by omega, this.2.2⟩
        · rw [if_neg h3] at h; cases h; exact ⟨Nat.le_refl _, by simp only [List.length_cons]; omega, ha⟩
      · rw [if_neg h2] at h
        have := lit_bounds q P hq (d :: t) (i + 1) (acc ++ [c]) v j h (fun x hx' => by
          rcases List.mem_append.1 hx' with e | e
          · exact ha x e
          · rw [List.mem_singleton.1 e]; exact hx c (by simp)) (fun x e => hx x (by simp only [List.mem_cons] at e ⊢; exact .inr e))
        simp only [List.length_cons] at this ⊢
        exact ⟨by omega, by omega, this.2.2⟩
  termination_by xs => xs.length
theorem decK_prn (base : Int) (w : Nat) : ∀ (k : Nat) (xs v : List Int), decK base w k xs = some v → ∀ x ∈ v, prn x = true
  | 0, xs, v, h => by cases h; simp
  | k + 1, xs, v, h => by
    rw [decK] at h
    cases hg : decG base (xs.take w) 0 with
    | none => rw [hg] at h; cases h
    | some n =>
      rw [hg] at h
      simp only at h
      by_cases hp : prn n = true
      · rw [if_pos hp] at h
        cases hr : decK base w k (xs.drop w) with
        | none => rw [hr] at h; cases h
        | some u =>
          rw [hr] at h
          simp only [Option.map_some, Option.some.injEq] at h
          subst h
          intro x hx
          rcases List.mem_cons.1 hx with rfl | hx
          · exact hp
          · exact decK_prn base w k _ u hr x hx
      · rw [if_neg hp] at h; cases h
theorem prn_byte {x : Int} (h : prn x = true) : 0 ≤ x ∧ x < 256 := by
  simp only [prn, Bool.and_eq_true, decide_eq_true_eq] at h
  omega
theorem litDec_bytes {v u : List Int} {sx : Nat} (h : litDec v sx = some u) : ∀ x ∈ u, 0 ≤ x ∧ x < 256 := by
  have key : ∀ (b : Int) (w : Nat), decode b w v = some u → ∀ x ∈ u, 0 ≤ x ∧ x < 256 := by
    intro b w h x hx
    unfold decode at h
    by_cases hm : v.length % w ≠ 0
    · rw [if_pos hm] at h; cases h
    · rw [if_neg hm] at h; exact prn_byte (decK_prn _ _ _ _ _ h x hx)
  unfold litDec at h
  by_cases hs : sx = 4
  · rw [if_pos hs] at h; exact key _ _ h
  · rw [if_neg hs] at h; exact key _ _ h
theorem litEnd_ok {v t : List Int} {n m : Nat} (h : litEnd v n = .ok t m) : t = v ∧ m = n := by
  unfold litEnd at h
  by_cases hv : 1000 < v.length
  · rw [if_pos hv] at h; cases h
  · rw [if_neg hv] at h; cases h; exact ⟨rfl, rfl⟩
theorem litTok_ok {xs t : List Int} {n : Nat} (hb : ∀ x ∈ xs, 0 ≤ x ∧ x < 256) (h : litTok xs = .ok t n) : 1 ≤ n ∧ n ≤ xs.length ∧ ∀ x ∈ t, 0 ≤ x ∧ x < 256 := by
  rcases xs with _ | ⟨q, r⟩
  · cases h
  simp only [litTok] at h
  cases hl : lit q r 1 [] with
  | none => rw [hl] at h; cases h
  | some p =>
    obtain ⟨v, i⟩ := p
    rw [hl] at h
    simp only at h
    obtain ⟨b1, b2, b3⟩ := lit_bounds q (fun x => 0 ≤ x ∧ x < 256) (hb q (by simp)) r 1 [] v i hl (by simp) (fun x e => hb x (by simp [e]))
    by_cases hp : v.all prn = true
    · rw [if_pos hp] at h
      by_cases hs : sfx ((q :: r).drop (i + 1)) = 0
      · rw [if_pos hs] at h
        obtain ⟨rfl, rfl⟩ := litEnd_ok h
        exact ⟨by omega, by simp only [List.length_cons]; omega, b3⟩
      · rw [if_neg hs] at h
        have hlen : i + 2 ≤ (q :: r).length := by
          have : 0 < ((q :: r).drop (i + 1)).length := by
            rcases hd : (q :: r).drop (i + 1) with _ | ⟨a, b⟩
            · rw [hd] at hs; exact absurd rfl hs
            · simp
          rw [List.length_drop] at this
          omega
        cases hd : litDec v (sfx ((q :: r).drop (i + 1))) with
        | none => rw [hd] at h; cases h
        | some u =>
          rw [hd] at h
          obtain ⟨rfl, rfl⟩ := litEnd_ok h
          exact ⟨by omega, hlen, litDec_bytes hd⟩
    · rw [if_neg hp] at h; cases h
theorem run_le' (p : Int → Bool) : ∀ l : List Int, run p l ≤ l.length
  | [] => Nat.le_refl _
  | c :: t => by
    unfold run
    by_cases h : p c = true
    · rw [if_pos h]; simpa using run_le' p t
    · rw [if_neg h]; exact Nat.zero_le _
theorem up_byte {x : Int} (h : 0 ≤ x ∧ x < 256) : 0 ≤ up x ∧ up x < 256 := by
  unfold up
  by_cases hc : 97 ≤ x ∧ x ≤ 122
  · rw [if_pos hc]; omega
  · rw [if_neg hc]; exact h
theorem symTok_ok {c : Int} {r t : List Int} {n : Nat} (hb : ∀ x ∈ c :: r, 0 ≤ x ∧ x < 256) (hc : sym c = true) (h : symTok (c :: r) = .ok t n) : 1 ≤ n ∧ n ≤ (c :: r).length ∧ ∀ x ∈ t, 0 ≤ x ∧ x < 256 := by
  unfold symTok at h
  by_cases h4 : 40 < symLen (c :: r)
  · rw [if_pos h4] at h; cases h
  · rw [if_neg h4] at h
    cases h
    have hr := run_le' sym (c :: r)
    have h1 : 1 ≤ run sym (c :: r) := by unfold run; rw [if_pos hc]; omega
    refine ⟨?_, ?_, fun x hx => ?_⟩
    · unfold symLen
      split <;> omega
    · unfold symLen
      split
      · rename_i hm
        have hd := run_le' dig ((c :: r).drop (run sym (c :: r) + 1))
        rw [List.length_drop] at hd
        have hx : run sym (c :: r) + 1 ≤ (c :: r).length := by
          rcases hq : (c :: r).drop (run sym (c :: r)) with _ | ⟨a, b⟩
          · rw [hq] at hm; exact absurd hm.2 (by simp [expo])
          · have : ((c :: r).drop (run sym (c :: r))).length = (a :: b).length := by rw [hq]
            rw [List.length_drop] at this
            have h2 : 0 < (a :: b).length := by simp
            omega
        omega
      · exact hr
    · obtain ⟨y, hy, rfl⟩ := List.mem_map.1 hx
      exact up_byte (hb y (List.mem_of_mem_take hy))
theorem signs_ok : ∀ l ∈ signs, 1 ≤ l.length ∧ ∀ x ∈ l, 0 ≤ x ∧ x < 256 := by decide
theorem prefix_len : ∀ (a b : List Int), a.isPrefixOf b = true → a.length ≤ b.length
  | [], b, _ => Nat.zero_le _
  | _ :: _, [], h => by cases h
  | x :: a, y :: b, h => by
    simp only [List.isPrefixOf, Bool.and_eq_true] at h
    have := prefix_len a b h.2
    simp only [List.length_cons]; omega
theorem signTok_ok {xs t : List Int} {n : Nat} (h : signTok xs = .ok t n) : 1 ≤ n ∧ n ≤ xs.length ∧ ∀ x ∈ t, 0 ≤ x ∧ x < 256 := by
  unfold signTok at h
  cases hf : signs.find? (fun x => x.isPrefixOf xs) with
  | none => rw [hf] at h; cases h
  | some l =>
    rw [hf] at h
    simp only [TR.ok.injEq] at h
    obtain ⟨rfl, rfl⟩ := h
    obtain ⟨h1, h2⟩ := signs_ok l (List.mem_of_find?_eq_some hf)
    exact ⟨h1, prefix_len _ _ (by simpa using List.find?_some hf), h2⟩
theorem tokStep_tok {k k' n : Nat} {t : List Int} {r : TR} (h : tokStep k r = .tok k' t n) : k' = k ∧ r = .ok t n := by
  cases r with
  | err c => cases h
  | ok t' n' => cases h; exact ⟨rfl, rfl⟩
theorem cmtStep_ne {r : CR} {k n : Nat} {t : List Int} (h : cmtStep r = .tok k t n) : False := by
  cases r with
  | eof => cases h
  | done i l b => unfold cmtStep at h; by_cases hb : b = 0 <;> simp [hb] at h
theorem step_tok {xs t : List Int} {k n : Nat} (hb : ∀ x ∈ xs, 0 ≤ x ∧ x < 256) (h : step xs = .tok k t n) : 1 ≤ n ∧ n ≤ xs.length ∧ (∀ x ∈ t, 0 ≤ x ∧ x < 256) ∧ 1 ≤ k ∧ k ≤ 3 := by
  rcases xs with _ | ⟨c, r⟩
  · cases h
  simp only [step] at h
  by_cases h1 : c = 10
  · rw [if_pos h1] at h; cases h
  rw [if_neg h1] at h
  by_cases h2 : c = 32
  · rw [if_pos h2] at h; cases h
  rw [if_neg h2] at h
  by_cases h3 : starts2 (c :: r) = true
  · rw [if_pos h3] at h; exact (cmtStep_ne h).elim
  rw [if_neg h3] at h
  by_cases h4 : c = 39 ∨ c = 34
  · rw [if_pos h4] at h
    obtain ⟨rfl, hr⟩ := tokStep_tok h
    obtain ⟨a, b, d⟩ := litTok_ok hb hr
    exact ⟨a, b, d, by omega, by omega⟩
  rw [if_neg h4] at h
  by_cases h5 : sym c = true
  · rw [if_pos h5] at h
    obtain ⟨rfl, hr⟩ := tokStep_tok h
    obtain ⟨a, b, d⟩ := symTok_ok hb h5 hr
    exact ⟨a, b, d, by omega, by omega⟩
  rw [if_neg h5] at h
  obtain ⟨rfl, hr⟩ := tokStep_tok h
  obtain ⟨a, b, d⟩ := signTok_ok hr
  exact ⟨a, b, d, by omega, by omega⟩
theorem step_cmt {xs : List Int} {n dl : Nat} (h : step xs = .cmt n dl) : 1 ≤ n ∧ n ≤ xs.length ∧ dl ≤ n := by
  rcases xs with _ | ⟨c, r⟩
  · cases h
  simp only [step] at h
  have key : ∀ k R, tokStep k R ≠ .cmt n dl := fun k R e => by cases R <;> cases e
  by_cases h1 : c = 10
  · rw [if_pos h1] at h; cases h
  rw [if_neg h1] at h
  by_cases h2 : c = 32
  · rw [if_pos h2] at h; cases h
  rw [if_neg h2] at h
  by_cases h3 : starts2 (c :: r) = true
  · rw [if_pos h3] at h
    cases hR : cmt (c :: r) 0 0 1 0 with
    | eof => rw [hR] at h; cases h
    | done i l b =>
      rw [hR] at h
      simp only [cmtStep] at h
      by_cases hb : b = 0
      · rw [if_pos hb] at h
        cases h
        have := cmt_bounds _ _ _ _ _ _ _ _ hR
        omega
      · rw [if_neg hb] at h; cases h
  rw [if_neg h3] at h
  by_cases h4 : c = 39 ∨ c = 34
  · rw [if_pos h4] at h; exact (key _ _ h).elim
  rw [if_neg h4] at h
  by_cases h5 : sym c = true
  · rw [if_pos h5] at h; exact (key _ _ h).elim
  rw [if_neg h5] at h; exact (key _ _ h).elim
theorem step_some {xs : List Int} (h : step xs ≠ .fin) : 1 ≤ xs.length := by
  rcases xs with _ | ⟨c, r⟩
  · exact absurd rfl h
  · simp
end Go.Proofs.YtkkpjonfaflkmaaGreatDoor.S

/- A literal as it is written. -/
namespace Go.Proofs.YtkkpjonfaflkmaaGreatDoor.S
set_option linter.unusedSimpArgs false
set_option linter.unusedVariables false

/-- A text with its quotes doubled. -/
def dbl (q : Int) (l : List Int) : List Int := l.flatMap fun c => if c = q then [q, q] else [c]
def qOf (l : List Int) : Int := if l.count 34 < l.count 39 then 34 else 39
def quote (l : List Int) : List Int := qOf l :: (dbl (qOf l) l ++ [qOf l])
theorem qOf_or (l : List Int) : qOf l = 34 ∨ qOf l = 39 := by unfold qOf; split; exact .inl rfl; exact .inr rfl
theorem dbl_cons (q c : Int) (l : List Int) : dbl q (c :: l) = (if c = q then [q, q] else [c]) ++ dbl q l := rfl
theorem dbl_mem {q : Int} {P : Int → Prop} (hq : P q) {l : List Int} (h : ∀ x ∈ l, P x) : ∀ x ∈ dbl q l, P x := by
  intro x hx
  obtain ⟨c, hc, hx⟩ := List.mem_flatMap.1 hx
  by_cases e : c = q
  · rw [if_pos e] at hx
    simp only [List.mem_cons, List.not_mem_nil, or_false, or_self] at hx
    rw [hx]; exact hq
  · rw [if_neg e] at hx
    rw [List.mem_singleton.1 hx]; exact h c hc
theorem dbl_length (q : Int) : ∀ l : List Int, (dbl q l).length = l.length + l.count q
  | [] => rfl
  | c :: l => by
    rw [dbl_cons, List.length_append, dbl_length q l, List.length_cons, List.count_cons]
    by_cases e : c = q
    · rw [if_pos e, if_pos (by simpa using e)]; simp; omega
    · rw [if_neg e, if_neg (by simpa using e)]; simp; omega
theorem quote_length (l : List Int) : (quote l).length = l.length + l.count (qOf l) + 2 := by
  unfold quote
  rw [List.length_cons, List.length_append, dbl_length]; simp
theorem quote_bytes {l : List Int} (h : ∀ x ∈ l, 0 ≤ x ∧ x < 256) : ∀ x ∈ quote l, 0 ≤ x ∧ x < 256 := by
  have hq : 0 ≤ qOf l ∧ qOf l < 256 := by rcases qOf_or l with e | e <;> rw [e] <;> omega
  intro x hx
  unfold quote at hx
  rcases List.mem_cons.1 hx with e | e
  · rw [e]; exact hq
  · rcases List.mem_append.1 e with e | e
    · exact dbl_mem hq h x e
    · rw [List.mem_singleton.1 e]; exact hq
end Go.Proofs.YtkkpjonfaflkmaaGreatDoor.S

/- scan's literal: a text as a literal. -/
namespace Go.Proofs.YtkkpjonfaflkmaaGreatDoor.T
set_option linter.unusedSimpArgs false
set_option linter.unusedVariables false
open Go.RowKit Go.Proofs.YtkkpjonfaflkmaaGreatDoorW.PrintWords Go.Proofs.YtkkpjonfaflkmaaGreatDoorW.PrintLast Go.Proofs.YtkkpjonfaflkmaaGreatDoorW.PrintMore

theorem ixq_self (q : UInt8) (t : List UInt8) : Lib.index (q :: t) [q] = 0 := by simp [Lib.index]
theorem ixq_other (q b : UInt8) (t : List UInt8) (h : b ≠ q) : Lib.index (b :: t) [q] = if Lib.index t [q] == -1 then -1 else Lib.index t [q] + 1 := by
  rw [Lib.index, if_neg]
  simp
  exact fun e => h e.symm
theorem rkq_other (q : UInt8) (v : List UInt8) (b : UInt8) (t : List UInt8) (h : b ≠ q) : ∀ k, Lib.replaceK [q] v k (b :: t) = b :: Lib.replaceK [q] v k t
  | 0 => rfl
  | k + 1 => by
    have hg := Lib.index_ge t [q]
    rw [Lib.replaceK, Lib.replaceK, ixq_other q b t h]
    by_cases e : Lib.index t [q] = -1
    · rw [e]; rfl
    · obtain ⟨i, hi⟩ : ∃ i : Nat, Lib.index t [q] = i := ⟨(Lib.index t [q]).toNat, by omega⟩
      have c1 : ((i : Int) == -1) = false := beq_eq_false_iff_ne.mpr (by omega)
      have c2 : ((i : Int) + 1 == -1) = false := beq_eq_false_iff_ne.mpr (by omega)
      rw [hi]
      simp only [c1, Bool.false_eq_true, if_false, c2]
      rw [show ((i : Int) + 1).toNat = i + 1 by omega, Int.toNat_natCast, show i + 1 + [q].length = (i + [q].length) + 1 by simp]
      rfl
theorem rkq_all (q : UInt8) : ∀ l : List UInt8, Lib.replaceK [q] [q, q] (l.count q) l = l.flatMap fun c => if c = q then [q, q] else [c]
  | [] => rfl
  | b :: t => by
    by_cases h : b = q
    · subst h
      rw [List.count_cons_self, Lib.replaceK_hit [b] [b, b] (t.count b) (b :: t) 0 (ixq_self b t)]
      simp only [List.take_zero, List.nil_append, List.length_cons, List.length_nil, List.drop_succ_cons, List.drop_zero, List.flatMap_cons, if_true]
      rw [rkq_all b t]
    · rw [List.count_cons_of_ne (fun e => h e), rkq_other q _ b t h, rkq_all q t, List.flatMap_cons, if_neg h]; rfl
theorem replaceAll_q (q : UInt8) (l : List UInt8) : Lib.replaceAll l [q] [q, q] = l.flatMap fun c => if c = q then [q, q] else [c] := by
  rw [Lib.replaceAll, Lib.replace, if_neg (by simp), Lib.replaceNum, if_pos (.inl (by decide)), Lib.count_one]
  exact rkq_all q l
theorem nums_dbl (q : UInt8) (l : List UInt8) : nums (l.flatMap fun c => if c = q then [q, q] else [c]) = S.dbl (q.toNat : Int) (nums l) := by
  induction l with
  | nil => rfl
  | cons b t ih =>
    rw [List.flatMap_cons]
    have : nums (b :: t) = (b.toNat : Int) :: nums t := rfl
    rw [this, S.dbl_cons, ← ih]
    by_cases h : b = q
    · subst h; rw [if_pos rfl, if_pos rfl]; rfl
    · rw [if_neg h, if_neg (fun e => h (u8_inj e))]; rfl
/-- The text of a literal. -/
def scan_literal.f (a0 : ByteArray) : Option ByteArray := if a0.size ≤ 20000 then some (strOfNums (S.quote (bytesOf a0))) else none
theorem countB_one (a0 : ByteArray) (c : UInt8) : Lib.countB a0 ⟨#[c]⟩ = a0.data.toList.count c := by
  unfold Lib.countB
  exact Lib.count_one c _
theorem quote_q {a0 : ByteArray} {q : UInt8} (hq : (q.toNat : Int) = S.qOf (bytesOf a0)) :
    ((⟨#[q]⟩ : ByteArray) ++ (⟨(Lib.replaceAll a0.data.toList [q] [q, q]).toArray⟩ : ByteArray)) ++ (⟨#[q]⟩ : ByteArray) = strOfNums (S.quote (bytesOf a0)) := by
  apply bytesOf_inj
  rw [bytesOf_str _ (S.quote_bytes (bo_range a0)), bytesOf_append, bytesOf_append, replaceAll_q]
  unfold S.quote
  rw [← hq]
  have e1 : bytesOf (⟨#[q]⟩ : ByteArray) = [(q.toNat : Int)] := rfl
  have e2 : bytesOf (⟨(a0.data.toList.flatMap fun c => if c = q then [q, q] else [c]).toArray⟩ : ByteArray) = S.dbl (q.toNat : Int) (bytesOf a0) := by
    rw [bytesOf_nums, bytesOf_nums, ← nums_dbl]
  rw [e1, e2]
  rfl
set_option maxRecDepth 100000 in
set_option maxHeartbeats 4000000 in
theorem scan_literal.calls (a0 : ByteArray) (r : ByteArray) (w : World) (hT : TabOK w) (h : scan_literal.f a0 = some r) :
    Calls Tryz.prog 66 #[.string a0] w fun e w' => e = .returned (.string r) ∧ Below w.heap.size w w' := by
  unfold scan_literal.f at h
  by_cases hs : a0.size ≤ 20000
  · rw [if_pos hs] at h
    obtain rfl := Option.some.inj h
    have hcl : ∀ c : UInt8, a0.data.toList.count c ≤ a0.size := fun c => by rw [← data_length]; exact List.count_le_length
    have HC1 := strings_Count.calls a0 ⟨#[34]⟩ _ w rfl
    have HC2 := fun q => strings_Count.calls a0 ⟨#[39]⟩ _ (World.drewN w q) rfl
    have hq1 : (bytesOf a0).count 34 = a0.data.toList.count 34 := by rw [bytesOf_nums]; exact nums_count _ 34
    have hq2 : (bytesOf a0).count 39 = a0.data.toList.count 39 := by rw [bytesOf_nums]; exact nums_count _ 39
    have cb1 : Lib.countByte a0.data.toList 34 = ((bytesOf a0).count 34 : Int) := by rw [hq1]; rfl
    have cb2 : Lib.countByte a0.data.toList 39 = ((bytesOf a0).count 39 : Int) := by rw [hq2]; rfl
    rw [cb1] at HC1
    rw [cb2] at HC2
    obtain ⟨x, hx⟩ : ∃ x, (bytesOf a0).count 34 = x := ⟨_, rfl⟩
    obtain ⟨y, hy⟩ : ∃ y, (bytesOf a0).count 39 = y := ⟨_, rfl⟩
    rw [hx] at HC1
    rw [hy] at HC2
    have HD1 := Lib.hid HC1
    have HD2 := Lib.hid HC2
    have HT := Aside0.mk hT
    have hcb : ∀ c : UInt8, Lib.countB a0 ⟨#[c]⟩ ≤ 20000 := fun c => by rw [countB_one]; have := hcl c; omega
    have key : ∀ q : UInt8, (q.toNat : Int) = S.qOf (bytesOf a0) → ∃ R : ByteArray, R.size ≤ 100000 ∧ ((⟨#[q]⟩ : ByteArray) ++ R) ++ (⟨#[q]⟩ : ByteArray) = strOfNums (S.quote (bytesOf a0)) ∧ ∀ W, TabOK W → Calls Tryz.prog 105 #[.string a0, .string ⟨#[q]⟩, .string ((⟨#[q]⟩ : ByteArray) ++ (⟨#[q]⟩ : ByteArray))] W fun e w' => e = .returned (.string R) ∧ Below W.heap.size W w' := fun q hq => by
      refine ⟨⟨(Lib.replaceAll a0.data.toList [q] [q, q]).toArray⟩, ?_, quote_q hq, fun W hW => strings_ReplaceAll.calls _ _ _ _ W hW ?_⟩
      · rw [replaceAll_q]
        have e : (a0.data.toList.flatMap fun c => if c = q then [q, q] else [c]).length = (nums (a0.data.toList.flatMap fun c => if c = q then [q, q] else [c])).length := by simp [nums]
        show (List.toArray _).size ≤ _
        rw [List.size_toArray, e, nums_dbl, S.dbl_length]
        have h1 : (nums a0.data.toList).count (q.toNat : Int) ≤ (nums a0.data.toList).length := List.count_le_length
        have h2 : (nums a0.data.toList).length = a0.size := by simp only [nums, List.length_map]; exact data_length a0
        omega
      · have e : ((⟨#[q]⟩ : ByteArray) ++ (⟨#[q]⟩ : ByteArray)) = ⟨#[q, q]⟩ := by apply bytesOf_inj; rw [bytesOf_append]; rfl
        rw [e]
        unfold strings_ReplaceAll.f
        have h1 : (⟨#[q, q]⟩ : ByteArray).size = 2 := rfl
        have h2 : (⟨#[q]⟩ : ByteArray).size = 1 := rfl
        have := hcb q
        rw [if_pos ⟨by omega, by rw [h2]; exact Nat.le_refl _, by rw [h1]; omega⟩]
    clear hT HC1 HC2 hcl hq1 hq2 cb1 cb2 hcb hs
    have HX : Aside0 (S.qOf (bytesOf a0) = if x < y then 34 else 39) := ⟨by unfold S.qOf; rw [hx, hy]⟩
    clear hx hy
    generalize strOfNums (S.quote (bytesOf a0)) = res at *
    by_cases hlt : x < y
    · have g1 : decide ((x : Int) < (y : Int)) = true := decide_eq_true (by omega)
      have g2 : decide (x < y) = true := decide_eq_true hlt
      obtain ⟨R, hR, hRe, hRc⟩ := key 34 (by rw [HX.out, if_pos hlt]; rfl)
      have HR := Lib.hid hRc
      have HRE := Aside0.mk hRe
      clear key hRc hRe hlt HX
      have z1 : (9223372036854775807 < 1 + R.size) = False := eq_false (by omega)
      have z2 : (1 + R.size ≤ 9223372036854775807) = True := eq_true (by omega)
      have hsz : ((⟨#[34]⟩ : ByteArray) ++ R).size = 1 + R.size := by rw [ByteArray.size_append]; rfl
      have z3 : (9223372036854775807 < ((⟨#[34]⟩ : ByteArray) ++ R).size + 1) = False := eq_false (by omega)
      have z4 : (((⟨#[34]⟩ : ByteArray) ++ R).size + 1 ≤ 9223372036854775807) = True := eq_true (by omega)
      clear hsz
      go_enter Tryz.func66, Tryz.ntmps66
      go_wp2_with (first | (go_at_call 77; with_reducible refine HD1.out.mono ?_; rintro e w' ⟨rfl, ⟨⟨q, rfl⟩⟩⟩) | (go_at_call 77; with_reducible refine (HD2.out _).mono ?_; rintro e w' ⟨rfl, ⟨⟨q2, rfl⟩⟩⟩) | (go_at_call 105; refine (HR.out _ (HT.out.of_below (pw_below_drewN (Below.refl _ _) _))).mono ?_; rintro e w3 ⟨rfl, hb3⟩))
      rw [HRE.out]
      go_ret
      have hb4 : Below w.heap.size w (w.drewN (q + q2)) := pw_below_drewN (Below.refl _ _) _
      exact ⟨rfl, hb4.trans hb3⟩
    · have g1 : decide ((x : Int) < (y : Int)) = false := decide_eq_false (by omega)
      have g2 : decide (x < y) = false := decide_eq_false hlt
      obtain ⟨R, hR, hRe, hRc⟩ := key 39 (by rw [HX.out, if_neg hlt]; rfl)
      have HR := Lib.hid hRc
      have HRE := Aside0.mk hRe
      clear key hRc hRe hlt HX
      have z1 : (9223372036854775807 < 1 + R.size) = False := eq_false (by omega)
      have z2 : (1 + R.size ≤ 9223372036854775807) = True := eq_true (by omega)
      have hsz : ((⟨#[39]⟩ : ByteArray) ++ R).size = 1 + R.size := by rw [ByteArray.size_append]; rfl
      have z3 : (9223372036854775807 < ((⟨#[39]⟩ : ByteArray) ++ R).size + 1) = False := eq_false (by omega)
      have z4 : (((⟨#[39]⟩ : ByteArray) ++ R).size + 1 ≤ 9223372036854775807) = True := eq_true (by omega)
      clear hsz
      go_enter Tryz.func66, Tryz.ntmps66
      go_wp2_with (first | (go_at_call 77; with_reducible refine HD1.out.mono ?_; rintro e w' ⟨rfl, ⟨⟨q, rfl⟩⟩⟩) | (go_at_call 77; with_reducible refine (HD2.out _).mono ?_; rintro e w' ⟨rfl, ⟨⟨q2, rfl⟩⟩⟩) | (go_at_call 105; refine (HR.out _ (HT.out.of_below (pw_below_drewN (Below.refl _ _) _))).mono ?_; rintro e w3 ⟨rfl, hb3⟩))
      rw [HRE.out]
      go_ret
      have hb4 : Below w.heap.size w (w.drewN (q + q2)) := pw_below_drewN (Below.refl _ _) _
      exact ⟨rfl, hb4.trans hb3⟩
  · rw [if_neg hs] at h; cases h
end Go.Proofs.YtkkpjonfaflkmaaGreatDoor.T

-- Written by a program of this session (mp.py over the kit's print.py), out of the translation.
namespace Go.Proofs.YtkkpjonfaflkmaaGreatDoor.T
set_option linter.unusedSimpArgs false
open Go.RowKit Go.Proofs.YtkkpjonfaflkmaaGreatDoorW.PrintWords Go.Proofs.YtkkpjonfaflkmaaGreatDoorW.PrintLast Go.Proofs.YtkkpjonfaflkmaaGreatDoorW.PrintMore
attribute [local go_sem] max2_int min2_int max_two min_two max_three min_three max_four min_four   -- for this text's walks alone
set_option linter.unusedVariables false
set_option linter.unusedSimpArgs false

/-! ### scan_kind: function 57 -/
def scan_kind.j0 : Nat → ByteArray → Int → Bool → Option (Int)
  | 0, _, _, _ => none
  | k + 1, x0, x3, x6 => if x6 = true then (some 1) else (if x3 = 0 then (some 2) else (if x3 = 1 then (if 0 ≤ (wrap64 ((x0.size : Int) - 1)) then (if (wrap64 ((x0.size : Int) - 1)) < (x0.size : Int) then (if (bt x0 (wrap64 ((x0.size : Int) - 1))) = 46 then (some 3) else (some 4)) else (none)) else (none)) else (some 4)))
def scan_kind.f (k : Nat) (a0 : ByteArray) : Option (Int) := (strings_Count.f a0 (⟨#[46]⟩ : ByteArray)).bind fun t134 => (if 0 < (a0.size : Int) then ((scan_digit.f (bt a0 0)).bind fun t135 => (if t135 = true then (scan_kind.j0 k a0 t134 true) else (scan_kind.j0 k a0 t134 ((bt a0 0) == 46)))) else (none))
theorem scan_kind.mono_l : ∀ k, (∀ y0 y1 y2, LeO (scan_kind.j0 k y0 y1 y2) (scan_kind.j0 (k + 1) y0 y1 y2))
  | 0 => fun _ _ _ r h => by simp [scan_kind.j0] at h
  | k + 1 => by
    have ih0 := scan_kind.mono_l k
    · intro y0 y1 y2
      unfold scan_kind.j0
      repeat' first
      | (with_reducible exact ih0 _ _ _)
      | (with_reducible exact LeO.refl _)
      | (with_reducible exact LeO.none _)
      | (with_reducible refine LeO.ite ?_ ?_)
      | (with_reducible refine LeO.bind ?_ (fun _ => ?_))
      | exact ih0 _ _ _
      | exact LeO.none _
      | refine LeO.ite ?_ ?_
      | refine LeO.bind ?_ (fun _ => ?_)
theorem scan_kind.mono : ∀ a0 k, LeO (scan_kind.f k a0) (scan_kind.f (k + 1) a0) := by
  intro a0 k
  have ih0 := scan_kind.mono_l k
  unfold scan_kind.f
  repeat' first
      | (with_reducible exact ih0 _ _ _)
      | (with_reducible exact LeO.refl _)
      | (with_reducible exact LeO.none _)
      | (with_reducible refine LeO.ite ?_ ?_)
      | (with_reducible refine LeO.bind ?_ (fun _ => ?_))
      | exact ih0 _ _ _
      | exact LeO.none _
      | refine LeO.ite ?_ ?_
      | refine LeO.bind ?_ (fun _ => ?_)
set_option maxHeartbeats 8000000 in
set_option maxRecDepth 100000 in
theorem scan_kind.calls (k : Nat) (a0 : ByteArray) (r : Int) (w : World) (h : scan_kind.f k a0 = some r) :
    Calls Tryz.prog 57 #[.string a0] w fun e w' => e = .returned (.int .i64 r) ∧ Drawn0 w w' := by
  have H : ((strings_Count.f a0 (⟨#[46]⟩ : ByteArray)).bind fun t134 => (if 0 < (a0.size : Int) then ((scan_digit.f (bt a0 0)).bind fun t135 => (if t135 = true then (scan_kind.j0 k a0 t134 true) else (scan_kind.j0 k a0 t134 ((bt a0 0) == 46)))) else (none))) = some r := h
  clear h
  replace H := Option.bind_eq_some_iff.mp H
  obtain ⟨t134, A20, H⟩ := H
  replace H : (if 0 < (a0.size : Int) then ((scan_digit.f (bt a0 0)).bind fun t135 => (if t135 = true then (scan_kind.j0 k a0 t134 true) else (scan_kind.j0 k a0 t134 ((bt a0 0) == 46)))) else (none)) = some r := H
  have A2 := Aside0.mk A20
  clear A20
  have HC3 := Aside0.mk H
  clear H
  go_enter Tryz.func57, Tryz.ntmps57
  go_upto_region 2 with (first | ((with_reducible refine gate_callee (f := 77) rfl ?_); refine goesL_ (some 5) rfl rfl Tryz.func77 (by kernel_rfl) rfl #[.string a0, .string (⟨#[46]⟩ : ByteArray)] rfl (by (try simp only [List.map_toArray, List.map_cons, List.map_nil]); first | done | rfl | (simp only [List.length_drop, List.length_take]; rfl)) ?_; (with_reducible refine (strings_Count.calls a0 (⟨#[46]⟩ : ByteArray) t134 _ A2.out).mono ?_); rintro e w' ⟨rfl, ⟨nd, rfl⟩⟩; refine ⟨_, rfl, ?_⟩))
  (try simp only [Act.put, List.setIfInBounds_toArray, List.set_cons_zero, List.set_cons_succ])
  go_cut [6] (fun v6 wc => ∃ (kq : Nat) (x6_2 : Bool), v6 = .bool x6_2 ∧ Aside0 (scan_kind.j0 kq a0 t134 x6_2 = some r) ∧ Aside0 (kq ≤ k) ∧ Drawn0 w wc)
  case first =>
    have H := HC3.out
    clear HC3
    by_cases c4 : 0 < (a0.size : Int)
    · rw [if_pos c4] at H
      have c4b0 : decide (0 < (a0.size : Int)) = true := decide_eq_true c4
      have c4b1 : decide (0 < a0.size) = true := decide_eq_true (by omega)
      clear c4
      (first | rw [c4b0] | (simp only [i64_w, i32_w]; rw [c4b0]) | skip)
      replace H := Option.bind_eq_some_iff.mp H
      obtain ⟨t135, A60, H⟩ := H
      replace H : (if t135 = true then (scan_kind.j0 k a0 t134 true) else (scan_kind.j0 k a0 t134 ((bt a0 0) == 46))) = some r := H
      have A6 := Aside0.mk A60
      clear A60
      by_cases c7 : t135 = true
      · subst c7
        have H1 : (scan_kind.j0 k a0 t134 true) = some r := by rw [if_pos rfl] at H; exact H
        clear H
        have H := H1
        clear H1
        have H' := Aside0.mk H
        clear H
        have p5 : 0 ≤ (0 : Int) := (by omega)
        have q5 : 0 < a0.size := (by have : (0 : Int) < (a0.size : Int) := of_decide_eq_true (by first | (with_reducible assumption) | assumption); omega)
        have hx5 : ∀ h : 0 < a0.size, ((a0[0]'h).toNat : Int) = bt a0 0 := bt_at a0 0
        clear p5
        have qi5 : (0 < (a0.size : Int)) = True := eq_true (of_decide_eq_true (by first | (with_reducible assumption) | assumption))
        replace q5 := eq_true q5
        go_wp2_with (first | ((with_reducible refine gate_callee (f := 96) rfl ?_); refine goesL_ (some 9) rfl rfl Tryz.func96 (by kernel_rfl) rfl #[.int .u8 (bt a0 0)] rfl (by (try simp only [List.map_toArray, List.map_cons, List.map_nil]); first | done | rfl | (simp only [List.length_drop, List.length_take]; rfl)) ?_; (with_reducible refine (scan_digit.calls (bt a0 0) true _ A6.out).mono ?_); rintro e w' ⟨rfl, ⟨nd, rfl⟩⟩; refine ⟨_, rfl, ?_⟩))
        go_meet
        case rel => exact ⟨_, (true), (by first | rfl | (simp; done) | (simp [*]; done)), H', ⟨by first | omega | exact Nat.le_refl _⟩, by repeat (first | exact Drawn0.refl _ | apply Drawn0.step)⟩
      · replace c7 := Bool.eq_false_iff.mpr c7
        subst c7
        have H1 : (scan_kind.j0 k a0 t134 ((bt a0 0) == 46)) = some r := by rw [if_neg (show ¬ (false = true) by decide)] at H; exact H
        clear H
        have H := H1
        clear H1
        have H' := Aside0.mk H
        clear H
        have p5 : 0 ≤ (0 : Int) := (by omega)
        have q5 : 0 < a0.size := (by have : (0 : Int) < (a0.size : Int) := of_decide_eq_true (by first | (with_reducible assumption) | assumption); omega)
        have hx5 : ∀ h : 0 < a0.size, ((a0[0]'h).toNat : Int) = bt a0 0 := bt_at a0 0
        clear p5
        have qi5 : (0 < (a0.size : Int)) = True := eq_true (of_decide_eq_true (by first | (with_reducible assumption) | assumption))
        replace q5 := eq_true q5
        go_wp2_with (first | ((with_reducible refine gate_callee (f := 96) rfl ?_); refine goesL_ (some 9) rfl rfl Tryz.func96 (by kernel_rfl) rfl #[.int .u8 (bt a0 0)] rfl (by (try simp only [List.map_toArray, List.map_cons, List.map_nil]); first | done | rfl | (simp only [List.length_drop, List.length_take]; rfl)) ?_; (with_reducible refine (scan_digit.calls (bt a0 0) false _ A6.out).mono ?_); rintro e w' ⟨rfl, ⟨nd, rfl⟩⟩; refine ⟨_, rfl, ?_⟩; have p8 : 0 ≤ (0 : Int) := (by omega); have q8 : 0 < a0.size := (by have : (0 : Int) < (a0.size : Int) := of_decide_eq_true (by first | (with_reducible assumption) | assumption); omega); have hx8 : ∀ h : 0 < a0.size, ((a0[0]'h).toNat : Int) = bt a0 0 := bt_at a0 0; clear p8; have qi8 : (0 < (a0.size : Int)) = True := eq_true (of_decide_eq_true (by first | (with_reducible assumption) | assumption)); replace q8 := eq_true q8))
        go_meet
        case rel => exact ⟨_, (((bt a0 0) == 46)), (by first | rfl | (simp; done) | (simp [*]; done)), H', ⟨by first | omega | exact Nat.le_refl _⟩, by repeat (first | exact Drawn0.refl _ | apply Drawn0.step)⟩
    · rw [if_neg c4] at H
      exact absurd H (by simp)
  case rest =>
    clear HC3
    try clear p2
    try clear c4
    try clear c4b0
    try clear c4b1
    try clear c5
    try clear p5
    try clear q5
    try clear hx5
    try clear qi5
    try clear c7
    try clear p8
    try clear q8
    try clear hx8
    try clear qi8
    try clear p5
    try clear p8
    try clear q5
    try clear q8
    obtain ⟨kq, x6_2, rfl, HA, HJ2, ⟨mc2, rfl⟩⟩ := hcut
    cases kq with
    | zero => exact absurd HA.out (by simp [scan_kind.j0])
    | succ kj2 =>
      have H := HA.out
      clear HA
      simp only [scan_kind.j0] at H
      by_cases c9 : x6_2 = true
      · subst c9
        have H1 : (some 1) = some r := by rw [if_pos rfl] at H; exact H
        clear H
        have H := H1
        clear H1
        obtain rfl := Option.some.inj H
        go_wp2
        go_ret
        exact ⟨by first | rfl | (simp; done) | (simp [*]; done), by repeat (first | exact Drawn0.refl _ | apply Drawn0.step)⟩
      · replace c9 := Bool.eq_false_iff.mpr c9
        subst c9
        have H1 : (if t134 = 0 then (some 2) else (if t134 = 1 then (if 0 ≤ (wrap64 ((a0.size : Int) - 1)) then (if (wrap64 ((a0.size : Int) - 1)) < (a0.size : Int) then (if (bt a0 (wrap64 ((a0.size : Int) - 1))) = 46 then (some 3) else (some 4)) else (none)) else (none)) else (some 4))) = some r := by rw [if_neg (show ¬ (false = true) by decide)] at H; exact H
        clear H
        have H := H1
        clear H1
        by_cases c10 : t134 = 0
        · rw [if_pos c10] at H
          have c10b0 : (t134 == 0) = true := beq_iff_eq.mpr c10
          have c10b1 : (t134 != 0) = false := bne_eq_false_iff_eq.mpr c10
          clear c10
          obtain rfl := Option.some.inj H
          go_wp2
          go_ret
          exact ⟨by first | rfl | (simp; done) | (simp [*]; done), by repeat (first | exact Drawn0.refl _ | apply Drawn0.step)⟩
        · rw [if_neg c10] at H
          have c10b0 : (t134 == 0) = false := beq_eq_false_iff_ne.mpr c10
          have c10b1 : (t134 != 0) = true := bne_iff_ne.mpr c10
          by_cases c11 : t134 = 1
          · rw [if_pos c11] at H
            have c11b0 : (t134 == 1) = true := beq_iff_eq.mpr c11
            have c11b1 : (t134 != 1) = false := bne_eq_false_iff_eq.mpr c11
            clear c11
            obtain ⟨ji12, hji12⟩ : ∃ j_ : Int, (wrap64 ((a0.size : Int) - 1)) = j_ := ⟨_, rfl⟩
            replace H : (if 0 ≤ (ji12) then (if (ji12) < (a0.size : Int) then (if (bt a0 (ji12)) = 46 then (some 3) else (some 4)) else (none)) else (none)) = some r := by first | (rw [hji12] at H; exact H) | (simp only [hji12] at H ⊢; exact H)
            have hji12w : (IntKind.i64.wrap ((a0.size : Int) - 1)) = ji12 := (i64_w _).trans hji12
            by_cases c13 : 0 ≤ (ji12)
            · rw [if_pos c13] at H
              have c13b0 : decide (0 ≤ (ji12)) = true := decide_eq_true c13
              clear c13
              by_cases c14 : (ji12) < (a0.size : Int)
              · rw [if_pos c14] at H
                have c14b0 : decide ((ji12) < (a0.size : Int)) = true := decide_eq_true c14
                clear c14
                by_cases c16 : (bt a0 (ji12)) = 46
                · rw [if_pos c16] at H
                  have c16b0 : ((bt a0 (ji12)) == 46) = true := beq_iff_eq.mpr c16
                  have c16b1 : ((bt a0 (ji12)) != 46) = false := bne_eq_false_iff_eq.mpr c16
                  clear c16
                  obtain rfl := Option.some.inj H
                  have p15 : 0 ≤ ((ji12) : Int) := of_decide_eq_true (by first | (with_reducible assumption) | assumption)
                  have q15 : (ji12) < (a0.size : Int) := of_decide_eq_true (by first | (with_reducible assumption) | assumption)
                  have hx15 := bt_at a0 (ji12)
                  replace p15 := eq_true p15
                  replace q15 := eq_true q15
                  go_wp2
                  go_ret
                  exact ⟨by first | rfl | (simp; done) | (simp only [← hji12] <;> (first | rfl | simp)) | (simp [*]; done), by repeat (first | exact Drawn0.refl _ | apply Drawn0.step)⟩
                · rw [if_neg c16] at H
                  have c16b0 : ((bt a0 (ji12)) == 46) = false := beq_eq_false_iff_ne.mpr c16
                  have c16b1 : ((bt a0 (ji12)) != 46) = true := bne_iff_ne.mpr c16
                  obtain rfl := Option.some.inj H
                  have p15 : 0 ≤ ((ji12) : Int) := of_decide_eq_true (by first | (with_reducible assumption) | assumption)
                  have q15 : (ji12) < (a0.size : Int) := of_decide_eq_true (by first | (with_reducible assumption) | assumption)
                  have hx15 := bt_at a0 (ji12)
                  replace p15 := eq_true p15
                  replace q15 := eq_true q15
                  go_wp2
                  go_ret
                  exact ⟨by first | rfl | (simp; done) | (simp only [← hji12] <;> (first | rfl | simp)) | (simp [*]; done), by repeat (first | exact Drawn0.refl _ | apply Drawn0.step)⟩
              · rw [if_neg c14] at H
                exact absurd H (by simp)
            · rw [if_neg c13] at H
              exact absurd H (by simp)
          · rw [if_neg c11] at H
            have c11b0 : (t134 == 1) = false := beq_eq_false_iff_ne.mpr c11
            have c11b1 : (t134 != 1) = true := bne_iff_ne.mpr c11
            obtain rfl := Option.some.inj H
            go_wp2
            go_ret
            exact ⟨by first | rfl | (simp; done) | (simp [*]; done), by repeat (first | exact Drawn0.refl _ | apply Drawn0.step)⟩

end Go.Proofs.YtkkpjonfaflkmaaGreatDoor.T

/- scan.Symbol and scan.Literal. -/

namespace Go.Proofs.YtkkpjonfaflkmaaGreatDoor.T
set_option linter.unusedSimpArgs false
set_option linter.unusedVariables false
open Go.RowKit Go.Proofs.YtkkpjonfaflkmaaGreatDoorW.PrintWords Go.Proofs.YtkkpjonfaflkmaaGreatDoorW.PrintLast Go.Proofs.YtkkpjonfaflkmaaGreatDoorW.PrintMore

def symRes (a0 : ByteArray) : S.TR → Option (ByteArray × Int × Int)
  | .err _ => none
  | .ok t n => if n < a0.size then some (⟨#[]⟩, 0, 4) else (scan_kind.f 2 (strOfNums t)).map fun k => (strOfNums t, k, 0)
def scan_Symbol.f (a0 : ByteArray) : Option (ByteArray × Int × Int) :=
  if a0.size = 0 ∨ 40 < a0.size ∨ S.sym (bt a0 0) = false then some (⟨#[]⟩, 0, 4) else symRes a0 (S.symTok (bytesOf a0))
set_option maxRecDepth 100000 in
set_option maxHeartbeats 4000000 in
theorem scan_Symbol.calls (a0 : ByteArray) (r1 : ByteArray) (r2 r3 : Int) (w : World) (h : scan_Symbol.f a0 = some (r1, r2, r3)) :
    Calls Tryz.prog 25 #[.string a0] w fun e w' => e = .returned (.tuple #[.string r1, .int .i64 r2, .int .i64 r3]) ∧ Below w.heap.size w w' := by
  unfold scan_Symbol.f at h
  have HSE := Aside0.mk (str_empty a0)
  obtain ⟨n, hn⟩ : ∃ n, a0.size = n := ⟨_, rfl⟩
  have hlb : (bytesOf a0).length = n := by rw [bytesOf_length]; exact hn
  by_cases h0 : n = 0
  · rw [if_pos (.inl (hn.trans h0))] at h
    simp only [Option.some.injEq, Prod.mk.injEq] at h
    obtain ⟨rfl, rfl, rfl⟩ := h
    have he : (a0.toList == ([] : List UInt8)) = true := by rw [HSE.out]; exact decide_eq_true (List.length_eq_zero_iff.1 (hlb.trans h0))
    clear HSE hlb hn
    go_enter Tryz.func25, Tryz.ntmps25
    go_wp2_with fail
    refine bodyPost_ret (results_tmp3 rfl _ _ _) rfl ?_
    exact ⟨rfl, Below.refl _ _⟩
  · have he : (a0.toList == ([] : List UInt8)) = false := by rw [HSE.out]; exact decide_eq_false (fun e => h0 (by rw [← hlb, e]; rfl))
    by_cases h1 : 40 < n
    · rw [if_pos (.inr (.inl (by omega)))] at h
      simp only [Option.some.injEq, Prod.mk.injEq] at h
      obtain ⟨rfl, rfl, rfl⟩ := h
      have g1 : decide ((40 : Int) < (n : Int)) = true := decide_eq_true (by omega)
      have g2 : decide (40 < n) = true := decide_eq_true h1
      clear HSE hlb h0 h1
      go_enter Tryz.func25, Tryz.ntmps25
      go_wp2_with fail
      refine bodyPost_ret (results_tmp3 rfl _ _ _) rfl ?_
      exact ⟨rfl, Below.refl _ _⟩
    · have g1 : decide ((40 : Int) < (n : Int)) = false := decide_eq_false (by omega)
      have g2 : decide (40 < n) = false := decide_eq_false h1
      have hl : 0 < a0.size := by omega
      have hx : ((a0[0]'hl).toNat : Int) = bt a0 0 := by simp [bt, hl]
      have hr := bt_range a0 0
      have HSY := Lib.hid (fun W => scan_symbolic.calls (bt a0 0) (S.sym (bt a0 0)) W (sym_f _ hr.1 (by omega)))
      cases hs : S.sym (bt a0 0) with
      | false =>
        rw [if_pos (.inr (.inr hs))] at h
        rw [hs] at HSY
        simp only [Option.some.injEq, Prod.mk.injEq] at h
        obtain ⟨rfl, rfl, rfl⟩ := h
        generalize bt a0 0 = y at hx HSY
        clear HSE hlb h1 hs hr
        go_enter Tryz.func25, Tryz.ntmps25
        go_wp2_with (go_at_call 55; refine (HSY.out _).mono ?_; rintro e w' ⟨rfl, ⟨⟨q, rfl⟩⟩⟩)
        refine bodyPost_ret (results_tmp3 rfl _ _ _) rfl ?_
        exact ⟨rfl, pw_below_drewN (Below.refl _ _) _⟩
      | true =>
        rw [if_neg (by rw [hs]; rintro (e | e | e); omega; omega; cases e)] at h
        rw [hs] at HSY
        have HSM := Lib.hid (fun W m hW => scan_symbol.calls w.heap.size a0 m 0 1 W (by omega) (by omega) (by omega) hW)
        rw [List.drop_zero] at HSM
        generalize bt a0 0 = y at hx HSY
        cases hst : S.symTok (bytesOf a0) with
        | err c => rw [hst] at h; cases h
        | ok t m =>
          rw [hst] at h HSM
          have H := Aside0.mk h
          clear HSE hlb h1 hs hr hst h
          go_enter Tryz.func25, Tryz.ntmps25
          have HSY2 : Aside0 (∀ q, Sc w.heap.size a0 ((0 : Nat) : Int) ((1 : Nat) : Int) (.map none) ((w.drewN q).alloc (.cells #[.string a0, .int .i64 0, .int .i64 1, .map none] 93))) := ⟨fun q => heap_alloc_new (w.drewN q) _⟩
          have HBB : Aside0 (∀ q, Below w.heap.size w ((w.drewN q).alloc (.cells #[.string a0, .int .i64 0, .int .i64 1, .map none] 93))) := ⟨fun q => below_alloc (pw_below_drewN (Below.refl _ _) q) _⟩
          by_cases hm : m < n
          · have g3 : decide ((m : Int) < (n : Int)) = true := decide_eq_true (by omega)
            have g4 : decide (m < n) = true := decide_eq_true hm
            have H := H.out
            simp only [symRes] at H
            rw [if_pos (by omega)] at H
            simp only [Option.some.injEq, Prod.mk.injEq] at H
            obtain ⟨rfl, rfl, rfl⟩ := H
            go_upto_region 5 with (first | (go_at_call 55; refine (HSY.out _).mono ?_; rintro e w' ⟨rfl, ⟨⟨q, rfl⟩⟩⟩) | (go_at_call 56; refine (HSM.out _ _ (HSY2.out q)).mono ?_; rintro e w3 ⟨hb3, hp3⟩; obtain ⟨rfl, hs3⟩ := (show _ ∧ _ from hp3)))
            rw [Nat.zero_add] at hs3
            have hs1 := hs3.c1
            clear hp3
            have HBC : Below w.heap.size w w3 := (HBB.out q).trans (hb3.belowB (by have := (HBB.out q).size; exact this) (fun k hk e => by have := show k = w.heap.size from e; omega))
            replace HBC := Aside0.mk HBC
            clear hb3 HSY2 HBB hs3 HSM HSY h0 he g1 g2 hl hx
            go_wp2
            refine bodyPost_ret (results_tmp3 rfl _ _ _) rfl ?_
            exact ⟨rfl, HBC.out⟩
          · have g3 : decide ((m : Int) < (n : Int)) = false := decide_eq_false (by omega)
            have g4 : decide (m < n) = false := decide_eq_false hm
            have H := H.out
            simp only [symRes] at H
            rw [if_neg (by omega)] at H
            obtain ⟨kd, hk, H⟩ := Option.map_eq_some_iff.1 H
            simp only [Prod.mk.injEq] at H
            obtain ⟨rfl, rfl, rfl⟩ := H
            have HK := Lib.hid (fun W => scan_kind.calls 2 (strOfNums t) kd W hk)
            clear hk
            go_upto_region 5 with (first | (go_at_call 55; refine (HSY.out _).mono ?_; rintro e w' ⟨rfl, ⟨⟨q, rfl⟩⟩⟩) | (go_at_call 56; refine (HSM.out _ _ (HSY2.out q)).mono ?_; rintro e w3 ⟨hb3, hp3⟩; obtain ⟨rfl, hs3⟩ := (show _ ∧ _ from hp3)))
            rw [Nat.zero_add] at hs3
            have hs1 := hs3.c1
            clear hp3
            have HBC : Below w.heap.size w w3 := (HBB.out q).trans (hb3.belowB (by have := (HBB.out q).size; exact this) (fun k hk e => by have := show k = w.heap.size from e; omega))
            replace HBC := Aside0.mk HBC
            clear hb3 HSY2 HBB hs3 HSM HSY h0 he g1 g2 hl hx
            generalize hst2 : strOfNums t = st at *
            have HST2 := Aside0.mk hst2
            clear hst2
            go_wp2_with (go_at_call 57; refine (HK.out _).mono ?_; rintro e w' ⟨rfl, ⟨⟨q2, rfl⟩⟩⟩)
            refine bodyPost_ret (results_tmp3 rfl _ _ _) rfl ?_
            rw [HST2.out]
            exact ⟨rfl, HBC.out.trans (pw_below_drewN (Below.refl _ _) _)⟩

/-- What Literal returns. -/
def scan_Literal.f (a0 : ByteArray) : Option (ByteArray × Int) :=
  if 1000 < a0.size ∨ (bytesOf a0).all S.prn = false then some (⟨#[]⟩, 1) else some (strOfNums (S.quote (bytesOf a0)), 0)
set_option maxRecDepth 100000 in
set_option maxHeartbeats 4000000 in
theorem scan_Literal.calls (a0 : ByteArray) (r1 : ByteArray) (r2 : Int) (w : World) (hT : TabOK w) (h : scan_Literal.f a0 = some (r1, r2)) :
    Calls Tryz.prog 30 #[.string a0] w fun e w' => e = .returned (.tuple #[.string r1, .int .i64 r2]) ∧ Below w.heap.size w w' := by
  unfold scan_Literal.f at h
  obtain ⟨n, hn⟩ : ∃ n, a0.size = n := ⟨_, rfl⟩
  by_cases h1 : 1000 < n
  · rw [if_pos (.inl (by omega))] at h
    simp only [Option.some.injEq, Prod.mk.injEq] at h
    obtain ⟨rfl, rfl⟩ := h
    have g1 : decide ((1000 : Int) < (n : Int)) = true := decide_eq_true (by omega)
    have g2 : decide (1000 < n) = true := decide_eq_true h1
    clear hT
    go_enter Tryz.func30, Tryz.ntmps30
    go_wp2_with fail
    refine bodyPost_ret (results_tmp2 rfl _ _ _) rfl ?_
    exact ⟨rfl, Below.refl _ _⟩
  · have g1 : decide ((1000 : Int) < (n : Int)) = false := decide_eq_false (by omega)
    have g2 : decide (1000 < n) = false := decide_eq_false h1
    have HNP := fun W => np_calls a0 W (by omega) 64 LitNP_enters LitNP.pays
    have kb := fun W => print_bytes (P := Tryz.prog) 9 100 5 Tryz.underlying9 Tryz.underlying100 Tryz.underlying5 a0 W
    rw [hn] at HNP kb
    cases hp : (bytesOf a0).all S.prn with
    | false =>
      rw [if_pos (.inr hp)] at h
      simp only [Option.some.injEq, Prod.mk.injEq] at h
      obtain ⟨rfl, rfl⟩ := h
      rw [hp] at HNP
      have HC := Lib.hid HNP
      clear HNP hp hT
      go_enter Tryz.func30, Tryz.ntmps30
      go_wp2_with (go_at_call 63; refine (HC.out _).mono ?_; rintro e w' ⟨rfl, hb⟩)
      refine bodyPost_ret (results_tmp2 rfl _ _ _) rfl ?_
      exact ⟨rfl, hb⟩
    | true =>
      rw [if_neg (by rw [hp]; rintro (e | e); omega; cases e)] at h
      simp only [Option.some.injEq, Prod.mk.injEq] at h
      obtain ⟨rfl, rfl⟩ := h
      rw [hp] at HNP
      have HC := Lib.hid HNP
      have HLT := Lib.hid (fun W hW => scan_literal.calls a0 (strOfNums (S.quote (bytesOf a0))) W hW (by unfold scan_literal.f; rw [if_pos (by omega)]))
      have HT := Aside0.mk hT
      clear HNP hp hT
      generalize strOfNums (S.quote (bytesOf a0)) = res at *
      go_enter Tryz.func30, Tryz.ntmps30
      go_wp2_with (first | (go_at_call 63; refine (HC.out _).mono ?_; rintro e w3 ⟨rfl, hb3⟩) | (go_at_call 66; refine (HLT.out _ (HT.out.of_below hb3)).mono ?_; rintro e w4 ⟨rfl, hb4⟩))
      refine bodyPost_ret (results_tmp2 rfl _ _ _) rfl ?_
      exact ⟨rfl, hb3.trans (hb4.mono hb3.size)⟩
end Go.Proofs.YtkkpjonfaflkmaaGreatDoor.T

-- Written by a program of this session (mp.py over the kit's print.py), out of the translation.
namespace Go.Proofs.YtkkpjonfaflkmaaGreatDoor.T
set_option linter.unusedSimpArgs false
open Go.RowKit Go.Proofs.YtkkpjonfaflkmaaGreatDoorW.PrintWords Go.Proofs.YtkkpjonfaflkmaaGreatDoorW.PrintLast Go.Proofs.YtkkpjonfaflkmaaGreatDoorW.PrintMore
attribute [local go_sem] max2_int min2_int max_two min_two max_three min_three max_four min_four   -- for this text's walks alone
set_option linter.unusedVariables false
set_option linter.unusedSimpArgs false

/-! ### scan_like: function 76 -/
def scan_like.f (a0_0 : Int) (a0_1 : ByteArray) (a0_2 : Bool) (a0_3 : Int) (a0_4 : Int) (a0_5 : Int) (a1_0 : Int) (a1_1 : ByteArray) (a1_2 : Bool) (a1_3 : Int) (a1_4 : Int) (a1_5 : Int) : Option (Bool) := if a0_0 = a1_0 then (some (a0_1.toList == a1_1.toList)) else (some false)
set_option maxHeartbeats 8000000 in
set_option maxRecDepth 100000 in
theorem scan_like.calls (a0_0 : Int) (a0_1 : ByteArray) (a0_2 : Bool) (a0_3 : Int) (a0_4 : Int) (a0_5 : Int) (a1_0 : Int) (a1_1 : ByteArray) (a1_2 : Bool) (a1_3 : Int) (a1_4 : Int) (a1_5 : Int) (r : Bool) (w : World) (h : scan_like.f a0_0 a0_1 a0_2 a0_3 a0_4 a0_5 a1_0 a1_1 a1_2 a1_3 a1_4 a1_5 = some r) :
    Calls Tryz.prog 76 #[.agg #[.int .i64 a0_0, .string a0_1, .bool a0_2, .int .i64 a0_3, .int .i64 a0_4, .int .i64 a0_5], .agg #[.int .i64 a1_0, .string a1_1, .bool a1_2, .int .i64 a1_3, .int .i64 a1_4, .int .i64 a1_5]] w fun e w' => e = .returned (.bool r) ∧ Below w.heap.size w w' := by
  have hu53 := Tryz.underlying53
  have HB := Aside0.mk (Below.refl w.heap.size w)
  have H : (if a0_0 = a1_0 then (some (a0_1.toList == a1_1.toList)) else (some false)) = some r := h
  clear h
  by_cases c3 : a0_0 = a1_0
  · rw [if_pos c3] at H
    have c3b0 : (a0_0 == a1_0) = true := beq_iff_eq.mpr c3
    have c3b1 : (a0_0 != a1_0) = false := bne_eq_false_iff_eq.mpr c3
    clear c3
    obtain rfl := Option.some.inj H
    go_enter Tryz.func76, Tryz.ntmps76
    go_wp2_with (first | ((with_reducible refine gate_dst (N := 2) rfl ?_); refine box_event ?hg (N := 2) ?hd (cs := #[.int .i64 a0_0, .string a0_1, .bool a0_2, .int .i64 a0_3, .int .i64 a0_4, .int .i64 a0_5]) (t := 53) ?hr ?_; (case hd => rfl); (case hg => rfl); (case hr => first | (go_simp; done) | (go_simp; rfl)); intro gb148 hg w4 hbox hb; have n0_ := Aside0.mk (below_step (by repeat (first | (with_reducible first | exact HB.out | apply below_alloc | apply pw_below_drewN | apply below_drew1) | exact HB.out)) hb); have n1_ := Aside0.mk (hbox); have n2_ := Aside0.mk ((by rw [hg]; exact (below_size (by repeat (first | (with_reducible first | exact HB.out | apply below_alloc | apply pw_below_drewN | apply below_drew1) | exact HB.out))) : w.heap.size ≤ gb148)); have n3_ := Aside0.mk ((by rw [hg]; exact (below_size (by repeat (first | (with_reducible first | exact HB.out | apply below_alloc | apply pw_below_drewN | apply below_drew1) | exact HB.out))) : w.heap.size ≤ gb148)); clear HB; have HB := n0_; have BK148 := n1_; have GW148 := n2_; have GE148 := n3_; clear n0_ n1_ n2_ n3_; clear hb hbox hg) | ((with_reducible refine gate_dst (N := 3) rfl ?_); refine box_event ?hg (N := 3) ?hd (cs := #[.int .i64 a1_0, .string a1_1, .bool a1_2, .int .i64 a1_3, .int .i64 a1_4, .int .i64 a1_5]) (t := 53) ?hr ?_; (case hd => rfl); (case hg => rfl); (case hr => first | (go_simp; done) | (go_simp; rfl)); intro gb149 hg w5 hbox hb; have n0_ := Aside0.mk (blk_below (g := gb148) (o := .cells #[.int .i64 a0_0, .string a0_1, .bool a0_2, .int .i64 a0_3, .int .i64 a0_4, .int .i64 a0_5] 53 (0, 0)) (by (with_reducible repeat (first | refine blk_drewN ?_ _ | refine blk_drew ?_ | refine blk_alloc ?_ _)); exact BK148.out) hb); have n1_ := Aside0.mk (below_step (by repeat (first | (with_reducible first | exact HB.out | apply below_alloc | apply pw_below_drewN | apply below_drew1 | refine below_set ?_ GE148.out) | exact HB.out)) hb); have n2_ := Aside0.mk (hbox); have n3_ := Aside0.mk ((by rw [hg]; exact (below_size (by repeat (first | (with_reducible first | exact HB.out | apply below_alloc | apply pw_below_drewN | apply below_drew1 | refine below_set ?_ GE148.out) | exact HB.out))) : w.heap.size ≤ gb149)); have n4_ := Aside0.mk ((by rw [hg]; exact (below_size (by repeat (first | (with_reducible first | exact HB.out | apply below_alloc | apply pw_below_drewN | apply below_drew1 | refine below_set ?_ GE148.out) | exact HB.out))) : w.heap.size ≤ gb149)); have n5_ := Aside0.mk ((by rw [hg]; exact Nat.ne_of_lt (blk_lt (g := gb148) (o := .cells #[.int .i64 a0_0, .string a0_1, .bool a0_2, .int .i64 a0_3, .int .i64 a0_4, .int .i64 a0_5] 53 (0, 0)) (by (with_reducible repeat (first | refine blk_drewN ?_ _ | refine blk_drew ?_ | refine blk_alloc ?_ _)); exact BK148.out)) : gb148 ≠ gb149)); have n6_ := Aside0.mk ((by rw [hg]; exact Nat.ne_of_gt (blk_lt (g := gb148) (o := .cells #[.int .i64 a0_0, .string a0_1, .bool a0_2, .int .i64 a0_3, .int .i64 a0_4, .int .i64 a0_5] 53 (0, 0)) (by (with_reducible repeat (first | refine blk_drewN ?_ _ | refine blk_drew ?_ | refine blk_alloc ?_ _)); exact BK148.out)) : gb149 ≠ gb148)); clear BK148; clear HB; have BK148 := n0_; have HB := n1_; have BK149 := n2_; have GW149 := n3_; have GE149 := n4_; have NB148_149 := n5_; have NB149_148 := n6_; clear n0_ n1_ n2_ n3_ n4_ n5_ n6_; clear hb hbox hg; have hnb6 := NB148_149.out; have hnc6 := NB149_148.out; have hcz7_0 : w5.cell? ⟨gb148, 0, none⟩ = some (.int .i64 a0_0) := (blk_cell BK148.out 0).trans rfl; have hcz7_1 : w5.cell? ⟨gb148, 1, none⟩ = some (.string a0_1) := (blk_cell BK148.out 1).trans rfl; have hcz7_2 : w5.cell? ⟨gb148, 2, none⟩ = some (.bool a0_2) := (blk_cell BK148.out 2).trans rfl; have hcz7_3 : w5.cell? ⟨gb148, 3, none⟩ = some (.int .i64 a0_3) := (blk_cell BK148.out 3).trans rfl; have hcz7_4 : w5.cell? ⟨gb148, 4, none⟩ = some (.int .i64 a0_4) := (blk_cell BK148.out 4).trans rfl; have hcz7_5 : w5.cell? ⟨gb148, 5, none⟩ = some (.int .i64 a0_5) := (blk_cell BK148.out 5).trans rfl; have hfz7_0 := blk_frozen BK148.out 0; have hfz7_1 := blk_frozen BK148.out 1; have hfz7_2 := blk_frozen BK148.out 2; have hfz7_3 := blk_frozen BK148.out 3; have hfz7_4 := blk_frozen BK148.out 4; have hfz7_5 := blk_frozen BK148.out 5; have hcz8_0 : w5.cell? ⟨gb149, 0, none⟩ = some (.int .i64 a1_0) := (blk_cell BK149.out 0).trans rfl; have hcz8_1 : w5.cell? ⟨gb149, 1, none⟩ = some (.string a1_1) := (blk_cell BK149.out 1).trans rfl; have hcz8_2 : w5.cell? ⟨gb149, 2, none⟩ = some (.bool a1_2) := (blk_cell BK149.out 2).trans rfl; have hcz8_3 : w5.cell? ⟨gb149, 3, none⟩ = some (.int .i64 a1_3) := (blk_cell BK149.out 3).trans rfl; have hcz8_4 : w5.cell? ⟨gb149, 4, none⟩ = some (.int .i64 a1_4) := (blk_cell BK149.out 4).trans rfl; have hcz8_5 : w5.cell? ⟨gb149, 5, none⟩ = some (.int .i64 a1_5) := (blk_cell BK149.out 5).trans rfl; have hfz8_0 := blk_frozen BK149.out 0; have hfz8_1 := blk_frozen BK149.out 1; have hfz8_2 := blk_frozen BK149.out 2; have hfz8_3 := blk_frozen BK149.out 3; have hfz8_4 := blk_frozen BK149.out 4; have hfz8_5 := blk_frozen BK149.out 5))
    go_ret
    exact ⟨by first | rfl | (simp [errW_none, errW_some] <;> rfl) | (simp [*, errW_none, errW_some] <;> rfl), by repeat (first | (with_reducible first | exact HB.out | apply below_alloc | apply pw_below_drewN | apply below_drew1 | refine below_set ?_ GE148.out | refine below_set ?_ GE149.out) | exact HB.out)⟩
  · rw [if_neg c3] at H
    have c3b0 : (a0_0 == a1_0) = false := beq_eq_false_iff_ne.mpr c3
    have c3b1 : (a0_0 != a1_0) = true := bne_iff_ne.mpr c3
    obtain rfl := Option.some.inj H
    go_enter Tryz.func76, Tryz.ntmps76
    go_wp2_with (first | ((with_reducible refine gate_dst (N := 2) rfl ?_); refine box_event ?hg (N := 2) ?hd (cs := #[.int .i64 a0_0, .string a0_1, .bool a0_2, .int .i64 a0_3, .int .i64 a0_4, .int .i64 a0_5]) (t := 53) ?hr ?_; (case hd => rfl); (case hg => rfl); (case hr => first | (go_simp; done) | (go_simp; rfl)); intro gb148 hg w9 hbox hb; have n0_ := Aside0.mk (below_step (by repeat (first | (with_reducible first | exact HB.out | apply below_alloc | apply pw_below_drewN | apply below_drew1) | exact HB.out)) hb); have n1_ := Aside0.mk (hbox); have n2_ := Aside0.mk ((by rw [hg]; exact (below_size (by repeat (first | (with_reducible first | exact HB.out | apply below_alloc | apply pw_below_drewN | apply below_drew1) | exact HB.out))) : w.heap.size ≤ gb148)); have n3_ := Aside0.mk ((by rw [hg]; exact (below_size (by repeat (first | (with_reducible first | exact HB.out | apply below_alloc | apply pw_below_drewN | apply below_drew1) | exact HB.out))) : w.heap.size ≤ gb148)); clear HB; have HB := n0_; have BK148 := n1_; have GW148 := n2_; have GE148 := n3_; clear n0_ n1_ n2_ n3_; clear hb hbox hg) | ((with_reducible refine gate_dst (N := 3) rfl ?_); refine box_event ?hg (N := 3) ?hd (cs := #[.int .i64 a1_0, .string a1_1, .bool a1_2, .int .i64 a1_3, .int .i64 a1_4, .int .i64 a1_5]) (t := 53) ?hr ?_; (case hd => rfl); (case hg => rfl); (case hr => first | (go_simp; done) | (go_simp; rfl)); intro gb149 hg w10 hbox hb; have n0_ := Aside0.mk (blk_below (g := gb148) (o := .cells #[.int .i64 a0_0, .string a0_1, .bool a0_2, .int .i64 a0_3, .int .i64 a0_4, .int .i64 a0_5] 53 (0, 0)) (by (with_reducible repeat (first | refine blk_drewN ?_ _ | refine blk_drew ?_ | refine blk_alloc ?_ _)); exact BK148.out) hb); have n1_ := Aside0.mk (below_step (by repeat (first | (with_reducible first | exact HB.out | apply below_alloc | apply pw_below_drewN | apply below_drew1 | refine below_set ?_ GE148.out) | exact HB.out)) hb); have n2_ := Aside0.mk (hbox); have n3_ := Aside0.mk ((by rw [hg]; exact (below_size (by repeat (first | (with_reducible first | exact HB.out | apply below_alloc | apply pw_below_drewN | apply below_drew1 | refine below_set ?_ GE148.out) | exact HB.out))) : w.heap.size ≤ gb149)); have n4_ := Aside0.mk ((by rw [hg]; exact (below_size (by repeat (first | (with_reducible first | exact HB.out | apply below_alloc | apply pw_below_drewN | apply below_drew1 | refine below_set ?_ GE148.out) | exact HB.out))) : w.heap.size ≤ gb149)); have n5_ := Aside0.mk ((by rw [hg]; exact Nat.ne_of_lt (blk_lt (g := gb148) (o := .cells #[.int .i64 a0_0, .string a0_1, .bool a0_2, .int .i64 a0_3, .int .i64 a0_4, .int .i64 a0_5] 53 (0, 0)) (by (with_reducible repeat (first | refine blk_drewN ?_ _ | refine blk_drew ?_ | refine blk_alloc ?_ _)); exact BK148.out)) : gb148 ≠ gb149)); have n6_ := Aside0.mk ((by rw [hg]; exact Nat.ne_of_gt (blk_lt (g := gb148) (o := .cells #[.int .i64 a0_0, .string a0_1, .bool a0_2, .int .i64 a0_3, .int .i64 a0_4, .int .i64 a0_5] 53 (0, 0)) (by (with_reducible repeat (first | refine blk_drewN ?_ _ | refine blk_drew ?_ | refine blk_alloc ?_ _)); exact BK148.out)) : gb149 ≠ gb148)); clear BK148; clear HB; have BK148 := n0_; have HB := n1_; have BK149 := n2_; have GW149 := n3_; have GE149 := n4_; have NB148_149 := n5_; have NB149_148 := n6_; clear n0_ n1_ n2_ n3_ n4_ n5_ n6_; clear hb hbox hg; have hnb11 := NB148_149.out; have hnc11 := NB149_148.out; have hcz12_0 : w10.cell? ⟨gb148, 0, none⟩ = some (.int .i64 a0_0) := (blk_cell BK148.out 0).trans rfl; have hcz12_1 : w10.cell? ⟨gb148, 1, none⟩ = some (.string a0_1) := (blk_cell BK148.out 1).trans rfl; have hcz12_2 : w10.cell? ⟨gb148, 2, none⟩ = some (.bool a0_2) := (blk_cell BK148.out 2).trans rfl; have hcz12_3 : w10.cell? ⟨gb148, 3, none⟩ = some (.int .i64 a0_3) := (blk_cell BK148.out 3).trans rfl; have hcz12_4 : w10.cell? ⟨gb148, 4, none⟩ = some (.int .i64 a0_4) := (blk_cell BK148.out 4).trans rfl; have hcz12_5 : w10.cell? ⟨gb148, 5, none⟩ = some (.int .i64 a0_5) := (blk_cell BK148.out 5).trans rfl; have hfz12_0 := blk_frozen BK148.out 0; have hfz12_1 := blk_frozen BK148.out 1; have hfz12_2 := blk_frozen BK148.out 2; have hfz12_3 := blk_frozen BK148.out 3; have hfz12_4 := blk_frozen BK148.out 4; have hfz12_5 := blk_frozen BK148.out 5; have hcz13_0 : w10.cell? ⟨gb149, 0, none⟩ = some (.int .i64 a1_0) := (blk_cell BK149.out 0).trans rfl; have hcz13_1 : w10.cell? ⟨gb149, 1, none⟩ = some (.string a1_1) := (blk_cell BK149.out 1).trans rfl; have hcz13_2 : w10.cell? ⟨gb149, 2, none⟩ = some (.bool a1_2) := (blk_cell BK149.out 2).trans rfl; have hcz13_3 : w10.cell? ⟨gb149, 3, none⟩ = some (.int .i64 a1_3) := (blk_cell BK149.out 3).trans rfl; have hcz13_4 : w10.cell? ⟨gb149, 4, none⟩ = some (.int .i64 a1_4) := (blk_cell BK149.out 4).trans rfl; have hcz13_5 : w10.cell? ⟨gb149, 5, none⟩ = some (.int .i64 a1_5) := (blk_cell BK149.out 5).trans rfl; have hfz13_0 := blk_frozen BK149.out 0; have hfz13_1 := blk_frozen BK149.out 1; have hfz13_2 := blk_frozen BK149.out 2; have hfz13_3 := blk_frozen BK149.out 3; have hfz13_4 := blk_frozen BK149.out 4; have hfz13_5 := blk_frozen BK149.out 5))
    go_ret
    exact ⟨by first | rfl | (simp [errW_none, errW_some] <;> rfl) | (simp [*, errW_none, errW_some] <;> rfl), by repeat (first | (with_reducible first | exact HB.out | apply below_alloc | apply pw_below_drewN | apply below_drew1 | refine below_set ?_ GE148.out | refine below_set ?_ GE149.out) | exact HB.out)⟩

end Go.Proofs.YtkkpjonfaflkmaaGreatDoor.T

/- slices.EqualFunc on rows of tokens, and scan.Same. -/
namespace Go.Proofs.YtkkpjonfaflkmaaGreatDoor.T
set_option linter.unusedSimpArgs false
set_option linter.unusedVariables false
open Go.RowKit Go.Proofs.YtkkpjonfaflkmaaGreatDoorW.PrintWords Go.Proofs.YtkkpjonfaflkmaaGreatDoorW.PrintLast Go.Proofs.YtkkpjonfaflkmaaGreatDoorW.PrintMore
attribute [local go_sem] Oper.semAt_some

def encTk (x : S53) : Value := .agg #[.int .i64 x.f0, .string x.f1, .bool x.f2, .int .i64 x.f3, .int .i64 x.f4, .int .i64 x.f5]
def eqF {α : Type} (p : α → α → Bool) : List α → List α → Bool
  | [], [] => true
  | x :: l, y :: m => p x y && eqF p l m
  | _, _ => false
theorem eqF_len {α : Type} (p : α → α → Bool) : ∀ l m : List α, l.length ≠ m.length → eqF p l m = false
  | [], [], h => absurd rfl h
  | [], _ :: _, _ => rfl
  | _ :: _, [], _ => rfl
  | x :: l, y :: m, h => by rw [eqF, eqF_len p l m (fun e => h (by simp [e])), Bool.and_false]
def likeB (x y : S53) : Bool := decide (x.f0 = y.f0) && (x.f1.toList == y.f1.toList)
def sameB (x y : S53) : Bool := likeB x y && (x.f2 == y.f2)
/-- What a function value is asked for, at two tokens. -/
def Tells2 (g : Nat) (p : S53 → S53 → Bool) : Prop := ∀ (W : World) (x y : S53), Calls Tryz.prog g #[encTk x, encTk y] W fun e W' => e = .returned (.bool (p x y)) ∧ Below W.heap.size W W'
theorem like_tells : Tells2 76 likeB := fun W x y => by
  refine scan_like.calls _ _ _ _ _ _ _ _ _ _ _ _ _ W ?_
  unfold scan_like.f likeB
  by_cases h : x.f0 = y.f0
  · rw [if_pos h, decide_eq_true h, Bool.true_and]
  · rw [if_neg h, decide_eq_false h, Bool.false_and]
theorem like_enters : ∀ args w, (callFunc 76 args).run Tryz.prog w = .ok (.enter 76 args) w := enters_of Tryz.func76 (by kernel_rfl) rfl
theorem same1_enters : ∀ args w, (callFunc 75 args).run Tryz.prog w = .ok (.enter 75 args) w := enters_of Tryz.func75 (by kernel_rfl) rfl
theorem drop_rd {l : List S53} {k : Nat} (h : k < l.length) : l.drop k = rd_T53 l (k : Int) :: l.drop (k + 1) := by
  rw [List.drop_eq_getElem_cons h]
  congr 1
  unfold rd_T53
  rw [Int.toNat_natCast, List.getD_eq_getElem?_getD, List.getElem?_eq_getElem h]
  rfl
set_option maxRecDepth 100000 in
set_option maxHeartbeats 4000000 in
theorem eqf.calls (A0 : Option Addr) (c0 : Nat) (l0 : List S53) (A1 : Option Addr) (c1 : Nat) (l1 : List S53) (g : Nat) (p : S53 → S53 → Bool) (w : World)
    (eg : ∀ args w, (callFunc g args).run Tryz.prog w = .ok (.enter g args) w) (hp : Tells2 g p) (hr0 : Kd.C k53 w A0 l0.length l0) (hc0 : l0.length ≤ c0) (hr1 : Kd.C k53 w A1 l1.length l1) (hc1 : l1.length ≤ c1) (hsm : l0.length ≤ 1000000) :
    Calls Tryz.prog 74 #[.slice A0 l0.length c0, .slice A1 l1.length c1, .func (.func g) #[] #[]] w fun e w' => e = .returned (.bool (eqF p l0 l1)) ∧ Below w.heap.size w w' := by
  have hu53 := Tryz.underlying53
  have HP := Aside0.mk hp
  have HR0 := Aside0.mk hr0
  have HR1 := Aside0.mk hr1
  clear hp hr0 hr1
  by_cases hl : l0.length = l1.length
  · obtain ⟨n, hn⟩ : ∃ n, l0.length = n := ⟨_, rfl⟩
    have hn1 : l1.length = n := by omega
    obtain ⟨R, hR⟩ : ∃ R, eqF p l0 l1 = R := ⟨_, rfl⟩
    rw [hR]
    have HR := Aside0.mk hR
    have HL0 := Aside0.mk hn
    have HL1 := Aside0.mk hn1
    rw [hn] at HR0 hc0 hsm ⊢
    rw [hn1] at HR1 hc1 ⊢
    clear hl hn hn1 hR
    go_enter Tryz.func74, Tryz.ntmps74
    go_wp2
    go_loopg [17] n (fun gg s17 wr => ∃ kk : Nat, kk ≤ n ∧ n - kk ≤ gg ∧ s17 = .int .i64 kk ∧ Aside0 (Below w.heap.size w wr) ∧ Aside0 (eqF p (l0.drop kk) (l1.drop kk) = R))
    case atStart => exact ⟨0, by omega, by omega, rfl, ⟨Below.refl _ _⟩, HR⟩
    case round =>
      obtain ⟨kk, hkk, hg, rfl, HB, HA⟩ := hrel
      by_cases hlt : kk < n
      · have hltz : (kk : Int) < (n : Int) := by omega
        have hz0 : (0 : Int) ≤ (kk : Int) := by omega
        have hw1 : IntKind.i64.wrap ((kk : Int) + 1) = ((kk + 1 : Nat) : Int) := by rw [w64 _ (by omega) (by omega)]; omega
        have HA2 := HA.out
        rw [drop_rd (l := l0) (k := kk) (by rw [HL0.out]; exact hlt), drop_rd (l := l1) (k := kk) (by rw [HL1.out]; exact hlt), eqF] at HA2
        obtain ⟨ad, rfl, x0, x1, x2, x3, x4, x5⟩ := at_T53 (Kd.C_below HR0.out HB.out) (kk : Int) hz0 hltz
        simp only [Int.toNat_natCast] at x0 x1 x2 x3 x4 x5
        have hcl := HP.out
        generalize rd_T53 l0 (kk : Int) = tx at *
        go_upto_region 6 with (fail)
        have hn1 := heap_alloc_new wr (.cells #[.int .i64 tx.f0, .string tx.f1, .bool tx.f2, .int .i64 tx.f3, .int .i64 tx.f4, .int .i64 tx.f5] 53)
        have hB1 := below_alloc HB.out (.cells #[.int .i64 tx.f0, .string tx.f1, .bool tx.f2, .int .i64 tx.f3, .int .i64 tx.f4, .int .i64 tx.f5] 53)
        obtain ⟨h1, hh1⟩ : ∃ h1, wr.heap.size = h1 := ⟨_, rfl⟩
        rw [hh1] at hn1 ⊢
        clear x0 x1 x2 x3 x4 x5 hh1 HB
        generalize wr.alloc (.cells #[.int .i64 tx.f0, .string tx.f1, .bool tx.f2, .int .i64 tx.f3, .int .i64 tx.f4, .int .i64 tx.f5] 53) = W1 at *
        obtain ⟨be, rfl, y0, y1, y2, y3, y4, y5⟩ := at_T53 (Kd.C_below HR1.out hB1) (kk : Int) hz0 hltz
        simp only [Int.toNat_natCast] at y0 y1 y2 y3 y4 y5
        generalize rd_T53 l1 (kk : Int) = ty at *
        go_upto_region 7 with (fail)
        have hn2 := heap_alloc_new W1 (.cells #[.int .i64 ty.f0, .string ty.f1, .bool ty.f2, .int .i64 ty.f3, .int .i64 ty.f4, .int .i64 ty.f5] 53)
        have hB2 := below_alloc hB1 (.cells #[.int .i64 ty.f0, .string ty.f1, .bool ty.f2, .int .i64 ty.f3, .int .i64 ty.f4, .int .i64 ty.f5] 53)
        have hn3 := (((But.refl (fun _ => False) W1).alloc (.cells #[.int .i64 ty.f0, .string ty.f1, .bool ty.f2, .int .i64 ty.f3, .int .i64 ty.f4, .int .i64 ty.f5] 53)).block h1 (Array.getElem?_eq_some_iff.1 hn1).1 (fun e => e)).trans hn1
        obtain ⟨h2, hh2⟩ : ∃ h2, W1.heap.size = h2 := ⟨_, rfl⟩
        rw [hh2] at hn2 ⊢
        clear y0 y1 y2 y3 y4 y5 hh2 hB1 hn1
        generalize W1.alloc (.cells #[.int .i64 ty.f0, .string ty.f1, .bool ty.f2, .int .i64 ty.f3, .int .i64 ty.f4, .int .i64 ty.f5] 53) = W2 at *
        have HC := Lib.hid (hcl W2 tx ty)
        have HB2 := Aside0.mk hB2
        have a0 : W2.cell? ⟨h1, 0, none⟩ = some (.int .i64 tx.f0) := (blk_cell hn3 0).trans rfl
        have a1 : W2.cell? ⟨h1, 1, none⟩ = some (.string tx.f1) := (blk_cell hn3 1).trans rfl
        have a2 : W2.cell? ⟨h1, 2, none⟩ = some (.bool tx.f2) := (blk_cell hn3 2).trans rfl
        have a3 : W2.cell? ⟨h1, 3, none⟩ = some (.int .i64 tx.f3) := (blk_cell hn3 3).trans rfl
        have a4 : W2.cell? ⟨h1, 4, none⟩ = some (.int .i64 tx.f4) := (blk_cell hn3 4).trans rfl
        have a5 : W2.cell? ⟨h1, 5, none⟩ = some (.int .i64 tx.f5) := (blk_cell hn3 5).trans rfl
        have b0 : W2.cell? ⟨h2, 0, none⟩ = some (.int .i64 ty.f0) := (blk_cell hn2 0).trans rfl
        have b1 : W2.cell? ⟨h2, 1, none⟩ = some (.string ty.f1) := (blk_cell hn2 1).trans rfl
        have b2 : W2.cell? ⟨h2, 2, none⟩ = some (.bool ty.f2) := (blk_cell hn2 2).trans rfl
        have b3 : W2.cell? ⟨h2, 3, none⟩ = some (.int .i64 ty.f3) := (blk_cell hn2 3).trans rfl
        have b4 : W2.cell? ⟨h2, 4, none⟩ = some (.int .i64 ty.f4) := (blk_cell hn2 4).trans rfl
        have b5 : W2.cell? ⟨h2, 5, none⟩ = some (.int .i64 ty.f5) := (blk_cell hn2 5).trans rfl
        clear hcl hB2 hn2 hn3
        cases hq : p tx ty with
        | true =>
          rw [hq] at HC HA2
          rw [Bool.true_and] at HA2
          replace HA2 := Aside0.mk HA2
          clear hq
          go_wp2_with (go_at_fn g; refine HC.out.mono ?_; rintro e w' ⟨rfl, hb3⟩)
          go_roundg (n - (kk + 1))
          case measure => omega
          case rel => exact ⟨kk + 1, by omega, by omega, by go_num, ⟨HB2.out.trans (hb3.mono HB2.out.size)⟩, HA2⟩
        | false =>
          rw [hq] at HC HA2
          rw [Bool.false_and] at HA2
          replace HA2 := Aside0.mk HA2
          clear hq
          go_wp2_with (go_at_fn g; refine HC.out.mono ?_; rintro e w' ⟨rfl, hb3⟩)
          go_ret
          exact ⟨by rw [← HA2.out]; rfl, HB2.out.trans (hb3.mono HB2.out.size)⟩
      · have hltz : ¬ (kk : Int) < (n : Int) := by omega
        have HA2 := HA.out
        rw [List.drop_eq_nil_of_le (by rw [HL0.out]; omega), List.drop_eq_nil_of_le (by rw [HL1.out]; omega)] at HA2
        replace HA2 := Aside0.mk HA2
        go_wp2
        go_ret
        exact ⟨by rw [← HA2.out]; rfl, HB.out⟩
  · rw [eqF_len p l0 l1 hl]
    obtain ⟨n, hn⟩ : ∃ n, l0.length = n := ⟨_, rfl⟩
    obtain ⟨m, hm⟩ : ∃ m, l1.length = m := ⟨_, rfl⟩
    rw [hn, hm] at hl
    rw [hn, hm]
    have g1 : ((n : Int) == (m : Int)) = false := beq_eq_false_iff_ne.2 (by omega)
    have g2 : ((n : Int) != (m : Int)) = true := bne_iff_ne.2 (by omega)
    have g3 : (n == m) = false := beq_eq_false_iff_ne.2 (by omega)
    clear hn hm hl HR0 HR1
    go_enter Tryz.func74, Tryz.ntmps74
    go_wp2
    go_ret
    exact ⟨rfl, Below.refl _ _⟩
set_option maxRecDepth 100000 in
set_option maxHeartbeats 4000000 in
theorem same1_tells : Tells2 75 sameB := fun W x y => by
  have hcl := like_tells
  unfold encTk
  have hu53 := Tryz.underlying53
  go_enter Tryz.func75, Tryz.ntmps75
  go_upto_region 1 with (fail)
  have hn1 := heap_alloc_new W (.cells #[.int .i64 x.f0, .string x.f1, .bool x.f2, .int .i64 x.f3, .int .i64 x.f4, .int .i64 x.f5] 53)
  have hs1 := World.size_alloc W (.cells #[.int .i64 x.f0, .string x.f1, .bool x.f2, .int .i64 x.f3, .int .i64 x.f4, .int .i64 x.f5] 53)
  have hn2 := heap_alloc_new (W.alloc (.cells #[.int .i64 x.f0, .string x.f1, .bool x.f2, .int .i64 x.f3, .int .i64 x.f4, .int .i64 x.f5] 53)) (.cells #[.int .i64 y.f0, .string y.f1, .bool y.f2, .int .i64 y.f3, .int .i64 y.f4, .int .i64 y.f5] 53)
  have hn3 := (((But.refl (fun _ => False) (W.alloc (.cells #[.int .i64 x.f0, .string x.f1, .bool x.f2, .int .i64 x.f3, .int .i64 x.f4, .int .i64 x.f5] 53))).alloc (.cells #[.int .i64 y.f0, .string y.f1, .bool y.f2, .int .i64 y.f3, .int .i64 y.f4, .int .i64 y.f5] 53)).block W.heap.size (by omega) (fun e => e)).trans hn1
  have hB2 := below_alloc (below_alloc (Below.refl W.heap.size W) (.cells #[.int .i64 x.f0, .string x.f1, .bool x.f2, .int .i64 x.f3, .int .i64 x.f4, .int .i64 x.f5] 53)) (.cells #[.int .i64 y.f0, .string y.f1, .bool y.f2, .int .i64 y.f3, .int .i64 y.f4, .int .i64 y.f5] 53)
  rw [hs1] at hn2
  obtain ⟨H, hH⟩ : ∃ H, W.heap.size = H := ⟨_, rfl⟩
  rw [hH] at hn2 hn3 hB2 ⊢
  clear hn1 hs1
  generalize (W.alloc (.cells #[.int .i64 x.f0, .string x.f1, .bool x.f2, .int .i64 x.f3, .int .i64 x.f4, .int .i64 x.f5] 53)).alloc (.cells #[.int .i64 y.f0, .string y.f1, .bool y.f2, .int .i64 y.f3, .int .i64 y.f4, .int .i64 y.f5] 53) = W2 at *
  have hc := hcl W2 x y
  have hfin : Aside0 (∀ w3, Below W2.heap.size W2 w3 → Below H W w3) := ⟨fun w3 hb => hB2.trans (hb.mono (by have := hB2.size; omega))⟩
  have hcf : Aside0 (∀ w3, Below W2.heap.size W2 w3 → w3.cell? ⟨H, 2, none⟩ = some (.bool x.f2) ∧ w3.cell? ⟨H + 1, 2, none⟩ = some (.bool y.f2)) := ⟨fun w3 hb => ⟨(blk_cell ((hb.block H (Array.getElem?_eq_some_iff.1 hn3).1).trans hn3) 2).trans rfl, (blk_cell ((hb.block (H + 1) (Array.getElem?_eq_some_iff.1 hn2).1).trans hn2) 2).trans rfl⟩⟩
  have a0 : W2.cell? ⟨H, 0, none⟩ = some (.int .i64 x.f0) := (blk_cell hn3 0).trans rfl
  have a1 : W2.cell? ⟨H, 1, none⟩ = some (.string x.f1) := (blk_cell hn3 1).trans rfl
  have a2 : W2.cell? ⟨H, 2, none⟩ = some (.bool x.f2) := (blk_cell hn3 2).trans rfl
  have a3 : W2.cell? ⟨H, 3, none⟩ = some (.int .i64 x.f3) := (blk_cell hn3 3).trans rfl
  have a4 : W2.cell? ⟨H, 4, none⟩ = some (.int .i64 x.f4) := (blk_cell hn3 4).trans rfl
  have a5 : W2.cell? ⟨H, 5, none⟩ = some (.int .i64 x.f5) := (blk_cell hn3 5).trans rfl
  have b0 : W2.cell? ⟨H + 1, 0, none⟩ = some (.int .i64 y.f0) := (blk_cell hn2 0).trans rfl
  have b1 : W2.cell? ⟨H + 1, 1, none⟩ = some (.string y.f1) := (blk_cell hn2 1).trans rfl
  have b2 : W2.cell? ⟨H + 1, 2, none⟩ = some (.bool y.f2) := (blk_cell hn2 2).trans rfl
  have b3 : W2.cell? ⟨H + 1, 3, none⟩ = some (.int .i64 y.f3) := (blk_cell hn2 3).trans rfl
  have b4 : W2.cell? ⟨H + 1, 4, none⟩ = some (.int .i64 y.f4) := (blk_cell hn2 4).trans rfl
  have b5 : W2.cell? ⟨H + 1, 5, none⟩ = some (.int .i64 y.f5) := (blk_cell hn2 5).trans rfl
  unfold encTk at hc
  have HH := Aside0.mk hH
  clear hcl hn2 hn3 hB2 hH
  cases hq : likeB x y with
  | false =>
    rw [hq] at hc
    have HC := Lib.hid hc
    have HSB : Aside0 (sameB x y = false) := ⟨by unfold sameB; rw [hq]; rfl⟩
    clear hc hq
    go_wp2_with (go_at_call 76; refine HC.out.mono ?_; rintro e w3 ⟨rfl, hb3⟩)
    go_ret
    exact ⟨by rw [HSB.out]; rfl, by rw [HH.out]; exact hfin.out _ hb3⟩
  | true =>
    rw [hq] at hc
    have HC := Lib.hid hc
    have HSB : Aside0 (sameB x y = (x.f2 == y.f2)) := ⟨by unfold sameB; rw [hq]; rfl⟩
    clear hc hq
    go_wp2_with (go_at_call 76; refine HC.out.mono ?_; rintro e w3 ⟨rfl, hb3⟩; obtain ⟨k1, k2⟩ := hcf.out _ hb3)
    go_ret
    exact ⟨by rw [HSB.out]; first | rfl | simp, by rw [HH.out]; exact hfin.out _ hb3⟩
def scan_Same.f (l0 l1 : List S53) : Option Bool := if l0.length ≤ 1000000 then some (eqF sameB l0 l1) else none
set_option maxRecDepth 100000 in
set_option maxHeartbeats 4000000 in
theorem scan_Same.calls (A0 : Option Addr) (c0 : Nat) (l0 : List S53) (A1 : Option Addr) (c1 : Nat) (l1 : List S53) (r : Bool) (w : World) (hr0 : Kd.C k53 w A0 l0.length l0) (hc0 : l0.length ≤ c0) (hr1 : Kd.C k53 w A1 l1.length l1) (hc1 : l1.length ≤ c1) (h : scan_Same.f l0 l1 = some r) :
    Calls Tryz.prog 37 #[.slice A0 l0.length c0, .slice A1 l1.length c1] w fun e w' => e = .returned (.bool r) ∧ Below w.heap.size w w' := by
  unfold scan_Same.f at h
  by_cases hs : l0.length ≤ 1000000
  · rw [if_pos hs] at h
    obtain rfl := Option.some.inj h
    have hc := Lib.hid (eqf.calls A0 c0 l0 A1 c1 l1 75 sameB w same1_enters same1_tells hr0 hc0 hr1 hc1 hs)
    clear hr0 hr1 hc0 hc1 hs
    generalize eqF sameB l0 l1 = R at *
    generalize l0.length = n at *
    generalize l1.length = m at *
    go_enter Tryz.func37, Tryz.ntmps37
    go_wp2_with (go_at_call 74; refine hc.out.mono ?_; rintro e w' ⟨rfl, hb⟩)
    go_ret
    exact ⟨rfl, hb⟩
  · rw [if_neg hs] at h; cases h
end Go.Proofs.YtkkpjonfaflkmaaGreatDoor.T

/- scan.signs returns a map that has, at each byte, the operators that begin with it. -/
namespace Go.Proofs.YtkkpjonfaflkmaaGreatDoor.T
set_option linter.unusedSimpArgs false
set_option linter.unusedVariables false
open Go.RowKit Go.Maps Go.Proofs.YtkkpjonfaflkmaaGreatDoorW.PrintWords Go.Proofs.YtkkpjonfaflkmaaGreatDoorW.PrintLast Go.Proofs.YtkkpjonfaflkmaaGreatDoorW.PrintMore

/-- A slice's own words, as a datum: so a map of slices is a map of plain things. -/
def encS (v : Value) : Option (DataW Unit × List MemPlace) :=
  match v with
  | .slice none n c => some (.agg [.lit (.int .i64 n), .lit (.int .i64 c)], [])
  | .slice (some ⟨g, o, none⟩) n c => some (.agg [.lit (.int .i64 g), .lit (.int .i64 o), .lit (.int .i64 n), .lit (.int .i64 c)], [])
  | _ => none
theorem encS_inj {v v' : Value} {d : DataW Unit} {p p' : List MemPlace} (h : encS v = some (d, p)) (h' : encS v' = some (d, p')) : v = v' := by
  unfold encS at h h'
  split at h
  · split at h'
    · simp at h h'
      obtain ⟨rfl, _⟩ := h
      obtain ⟨h', _⟩ := h'
      simp at h'
      obtain ⟨h1, h2⟩ := h'
      cases Int.ofNat_inj.1 h1; cases Int.ofNat_inj.1 h2; rfl
    · simp at h h'
      obtain ⟨rfl, _⟩ := h
      obtain ⟨h', _⟩ := h'
      simp at h'
    · cases h'
  · split at h'
    · simp at h h'
      obtain ⟨rfl, _⟩ := h
      obtain ⟨h', _⟩ := h'
      simp at h'
    · simp at h h'
      obtain ⟨rfl, _⟩ := h
      obtain ⟨h', _⟩ := h'
      simp at h'
      obtain ⟨h1, h2, h3, h4⟩ := h'
      cases Int.ofNat_inj.1 h1; cases Int.ofNat_inj.1 h2; cases Int.ofNat_inj.1 h3; cases Int.ofNat_inj.1 h4; rfl
    · cases h'
  · cases h

/-- The texts behind a byte. -/
def grp (ps : List (Int × ByteArray)) (c : Int) : List ByteArray := (ps.filter fun p => decide (p.1 = c)).map (·.2)
/-- Block b is the map of these texts; it and its rows lie from lo on, and rows from base on. -/
structure SgI (W : World) (b base : Nat) (ps : List (Int × ByteArray)) (hd : Int → Value) (D : DataW Unit) : Prop where
  map : W.ownsMap Tryz.prog 5 encS b ps.length D
  at_ : ∀ c, 0 ≤ c → c < 256 → ∃ d, encS (hd c) = some (d, []) ∧ D.atKey (.int .u8 c) (.agg [.lit (.int .i64 0), .lit (.int .i64 0)]) = d
  row : ∀ c, W.ownsRow base 9 1 (hd c) (grp ps c).length ((grp ps c).map Value.string)
  apart : ∀ c c', c ≠ c' → (hd c).ownBlock = none ∨ (hd c).ownBlock ≠ (hd c').ownBlock
  lt : b < base
theorem ownsRow_enc {W : World} {base n : Nat} {v : Value} {xs : List Value} (h : W.ownsRow base 9 1 v n xs) : ∃ d, encS v = some (d, []) := by
  rcases h.2 with ⟨rfl, _⟩ | ⟨g, cap, cur, rfl, _⟩
  · exact ⟨_, rfl⟩
  · exact ⟨_, rfl⟩
theorem SgI.made (w : World) : SgI (w.alloc (.map #[] 0)) w.heap.size (w.heap.size + 1) [] (fun _ => .slice none 0 0) (.map []) := by
  refine ⟨World.ownsMap_made _ _ _ _, fun c _ _ => ⟨_, rfl, rfl⟩, fun c => World.ownsRow_nil _ _ _ _, fun c c' _ => .inl rfl, Nat.lt_succ_self _⟩
theorem zero43 (w : World) : (zeroValue 43).run Tryz.prog w = .ok (.slice none 0 0) w := by kernel_rfl
theorem keyed5 : Keyed Tryz.prog 5 := int_keyed Tryz.underlying5
theorem key_u8 {x : Int} (h0 : 0 ≤ x) (h1 : x < 256) : keyOf Tryz.prog 5 (.int .u8 x) = some (.int .u8 x) := keyOf_int_mk Tryz.underlying5 (WalkArith.wf_u8 ⟨h0, by omega⟩)
theorem SgI.look {W : World} {b base : Nat} {ps : List (Int × ByteArray)} {hd : Int → Value} {D : DataW Unit} (h : SgI W b base ps hd D) (c : Int) (h0 : 0 ≤ c) (h1 : c < 256) :
    (Instr.lookup 91 (.map (some b)) (.int .u8 c) false).run Tryz.prog W = .ok (hd c) W := by
  obtain ⟨v, p, hrun, hv⟩ := h.map.lookup keyed5 Tryz.underlying91 (zero43 W) (zd := .agg [.lit (.int .i64 0), .lit (.int .i64 0)]) (zp := []) rfl (key_u8 h0 h1)
  obtain ⟨d, h2, h3⟩ := h.at_ c h0 h1
  rw [h3] at hv
  rw [hrun, encS_inj hv h2]
theorem SgI.blk {W W' : World} {b base : Nat} {ps : List (Int × ByteArray)} {hd : Int → Value} {D : DataW Unit} (h : SgI W b base ps hd D) (he : W'.heap[b]? = W.heap[b]?) (hr : ∀ c g, (hd c).ownBlock = some g → W'.heap[g]? = W.heap[g]?) : SgI W' b base ps hd D := by
  refine ⟨?_, h.at_, fun c => ?_, h.apart, h.lt⟩
  · obtain ⟨es, clock, hb, rest⟩ := h.map
    exact ⟨es, clock, he.trans hb, rest⟩
  · obtain ⟨h1, h2⟩ := h.row c
    refine ⟨h1, h2.imp id ?_⟩
    rintro ⟨g, cap, cur, hv, hbg, hg, rest⟩
    exact ⟨g, cap, cur, hv, hbg, (hr c g (by rw [hv]; rfl)).trans hg, rest⟩
theorem SgI.kept {W W' : World} {b base : Nat} {ps : List (Int × ByteArray)} {hd : Int → Value} {D : DataW Unit} (h : SgI W b base ps hd D) (hb : Below W.heap.size W W') : SgI W' b base ps hd D :=
  h.blk (hb.block _ h.map.lt) (fun c g hg => hb.block _ ((h.row c).lt g hg).2)
/-- One text more. -/
theorem SgI.step {W W1 w' : World} {b base : Nat} {ps : List (Int × ByteArray)} {hd : Int → Value} {D : DataW Unit} (h : SgI W b base ps hd D) (hw1 : Below W.heap.size W W1) (c : Int) (h0 : 0 ≤ c) (h1 : c < 256) (x : ByteArray) (g cap : Nat) (hps : ps.length ≤ 1000)
    (hown : w'.ownsRow base 9 1 (.slice (some ⟨g, 0, none⟩) ((grp ps c).length + 1) cap) ((grp ps c).length + 1) ((grp ps c).map Value.string ++ [.string x])) (hg : W1.grownBy w' (hd c).ownBlock) (hloc : (hd c).ownBlock = some g ∨ W.heap.size ≤ g) (hbw : b < W.heap.size) :
    ∃ w2 D' hd', (Instr.mapUpdate 91 (.map (some b)) (.int .u8 c) (.slice (some ⟨g, 0, none⟩) ((grp ps c).length + 1) cap)).run Tryz.prog w' = .ok () w2 ∧ SgI w2 b base (ps ++ [(c, x)]) hd' D' ∧ w'.grownBy w2 (some b) := by
  have hne : ∀ c', c' ≠ c → ∀ g', (hd c').ownBlock = some g' → w'.heap[g']? = W.heap[g']? := by
    intro c' hc' g' hg'
    have hl := ((h.row c').lt g' hg').2
    refine (hg.block g' (by have := hw1.size; omega) ?_).trans (hw1.block _ hl)
    intro e
    rcases h.apart c' c hc' with e1 | e1
    · rw [e1] at hg'; cases hg'
    · exact e1 (by rw [hg', e])
  have hbb : w'.heap[b]? = W.heap[b]? := by
    refine (hg.block b (by have := hw1.size; omega) ?_).trans (hw1.block _ hbw)
    intro e
    have := ((h.row c).lt b e.symm).1
    have := h.lt
    omega
  have hmap : w'.ownsMap Tryz.prog 5 encS b ps.length D := by
    obtain ⟨es, clock, hb, rest⟩ := h.map
    exact ⟨es, clock, hbb.trans hb, rest⟩
  obtain ⟨w2, hrun, hm2, hg2⟩ := hmap.update keyed5 Tryz.underlying91 (by unfold maxLen; omega) (key_u8 h0 h1) (val := .slice (some ⟨g, 0, none⟩) ((grp ps c).length + 1) cap) (d := _) (ps := []) rfl
  have hgb : g ≠ b := by have := (hown.lt g rfl).1; have := h.lt; omega
  have hlist : ∀ c', grp (ps ++ [(c, x)]) c' = if c' = c then grp ps c' ++ [x] else grp ps c' := fun c' => by
    unfold grp
    rw [List.filter_append, List.map_append]
    by_cases e : c' = c
    · rw [if_pos e]; simp [e]
    · rw [if_neg e]
      have : ¬ c = c' := fun q => e q.symm
      simp [this]
  refine ⟨w2, _, fun c' => if c' = c then .slice (some ⟨g, 0, none⟩) ((grp ps c).length + 1) cap else hd c', hrun, ⟨by rw [List.length_append]; exact hm2, fun c' h0' h1' => ?_, fun c' => ?_, fun c' c'' hcc => ?_, h.lt⟩, hg2⟩
  · by_cases e : c' = c
    · subst e
      simp only [if_true]
      exact ⟨_, rfl, atKey_put_same hmap.isMap (show WideAt.IsKeyLit (.int .u8 c') from trivial) _ _⟩
    · simp only [e, if_false]
      obtain ⟨d, h2, h3⟩ := h.at_ c' h0' h1'
      refine ⟨d, h2, ?_⟩
      rw [atKey_put_other (by simpa using e)]
      exact h3
  · rw [hlist]
    by_cases e : c' = c
    · subst e
      simp only [if_true]
      rw [List.length_append, List.map_append]
      have := hown.kept hg2 (.inr (by simp [Value.ownBlock]; exact hgb))
      exact this
    · simp only [e, if_false]
      obtain ⟨r1, r2⟩ := h.row c'
      refine ⟨r1, r2.imp id ?_⟩
      rintro ⟨g', cap', cur', hv, hbg, hg', rest⟩
      have hob : (hd c').ownBlock = some g' := by rw [hv]; rfl
      have hlt' : g' < w'.heap.size := by have := ((h.row c').lt g' hob).2; have := hw1.size; have := hg.size; omega
      exact ⟨g', cap', cur', hv, hbg, (hg2.block g' hlt' (by intro e1; cases e1; have := h.lt; omega)).trans ((hne c' e g' hob).trans hg'), rest⟩
  · have new_old : ∀ c', c' ≠ c → (hd c').ownBlock = none ∨ (hd c').ownBlock ≠ some g := by
      intro c' e
      rcases hloc with hl | hl
      · rw [← hl]; exact h.apart c' c e
      · cases hv : (hd c').ownBlock with
        | none => exact .inl rfl
        | some g' =>
          have := ((h.row c').lt g' hv).2
          exact .inr (by intro e1; cases e1; omega)
    by_cases e : c' = c
    · have e2 : c'' ≠ c := fun q => hcc (by rw [e, q])
      simp only [e, e2, if_true, if_false]
      refine .inr ?_
      rcases new_old c'' e2 with q | q
      · rw [q]; simp [Value.ownBlock]
      · exact fun q2 => q q2.symm
    · by_cases e2 : c'' = c
      · simp only [e, e2, if_true, if_false]
        exact new_old c' e
      · simp only [e, e2, if_false]
        exact h.apart c' c'' hcc

/-- The operators, each with its first byte. -/
def sgPs : List (Int × ByteArray) := S.signs.map fun l => (l.headD 0, strOfNums l)
theorem sgPs_len : sgPs.length = 35 := by decide
def sgSrc : ByteArray := ⟨(([92, 61, 61, 32, 92, 62, 62, 32, 92, 60, 60, 32, 62, 62, 61, 32, 60, 60, 61, 32, 42, 42, 32, 47, 47, 32, 124, 124, 32, 38, 38, 32, 61, 61, 32, 92, 61, 32, 92, 62, 32, 92, 60, 32, 62, 61] : List UInt8).append [32, 60, 61, 32, 62, 62, 32, 60, 60, 32, 62, 60, 32, 60, 62, 32, 43, 32, 45, 32, 42, 32, 47, 32, 37, 32, 124, 32, 38, 32, 61, 32, 62, 32, 60, 32, 92, 32, 40, 32, 41, 32, 44, 32, 58, 32, 59]).toArray⟩
theorem sg_fields : (Lib.fields sgSrc.data.toList).map (fun l => Value.string ⟨l.toArray⟩) = sgPs.map fun p => Value.string p.2 := by
  have h : (Lib.fields sgSrc.data.toList).map (fun l => (⟨l.toArray⟩ : ByteArray)) = sgPs.map (·.2) := by decide +kernel
  have h2 := congrArg (List.map Value.string) h
  rw [List.map_map, List.map_map] at h2
  exact h2
theorem sg_flen : (Lib.fields sgSrc.data.toList).length = 35 := by decide +kernel
theorem sg_ascii : ∀ (j : Nat) b, sgSrc.data.toList[j]? = some b → b.toNat < 128 := fun j b hb =>
  of_decide_eq_true (List.all_eq_true.1 (show sgSrc.data.toList.all (fun b => decide (b.toNat < 128)) = true by decide +kernel) b (List.mem_of_getElem? hb))
theorem sg_each : ∀ k : Fin 35, (bytesOf (sgPs.getD k.val (0, ⟨#[]⟩)).2).headD 0 = (sgPs.getD k.val (0, ⟨#[]⟩)).1 ∧ (bytesOf (sgPs.getD k.val (0, ⟨#[]⟩)).2) ≠ [] ∧ 0 ≤ (sgPs.getD k.val (0, ⟨#[]⟩)).1 ∧ (sgPs.getD k.val (0, ⟨#[]⟩)).1 < 256 := by decide +kernel

theorem SgI.made2 (w : World) (o : Obj) : SgI ((w.alloc (.map #[] 0)).alloc o) w.heap.size (w.heap.size + 2) [] (fun _ => .slice none 0 0) (.map []) :=
  ⟨(World.ownsMap_made _ _ _ _).alloc o, fun c _ _ => ⟨_, rfl, rfl⟩, fun c => World.ownsRow_nil _ _ _ _, fun c c' _ => .inl rfl, by omega⟩

set_option maxRecDepth 100000 in
set_option maxHeartbeats 4000000 in
theorem scan_signs.calls (w : World) (hT : Lib.TabIs Tryz.prog (w.alloc (.map #[] 0)) "strings.asciiSpace" .u8 Lib.asciiSpaceTab) :
    Calls Tryz.prog 88 #[] w fun e w' => e = .returned (.map (some w.heap.size)) ∧ Below w.heap.size w w' ∧ ∃ hd D, SgI w' w.heap.size (w.heap.size + 2) sgPs hd D := by
  have hmm := @run_makeMap Tryz.prog
  have hfi := Tryz.strings_Fields_laid sgSrc (w.alloc (.map #[] 0)) (by decide) sg_ascii hT
  rw [sg_flen, sg_fields] at hfi
  have HFI := Lib.hid hfi
  have HI0 := Aside0.mk (SgI.made2 w (.cells (sgPs.map fun p => Value.string p.2).toArray 9))
  have HR0 : Aside0 (((w.alloc (.map #[] 0)).alloc (.cells (sgPs.map fun p => Value.string p.2).toArray 9)).heap[w.heap.size + 1]? = some (.cells (sgPs.map fun p => Value.string p.2).toArray 9 (0, 0))) := ⟨by
    have := heap_alloc_new (w.alloc (.map #[] 0)) (.cells (sgPs.map fun p => Value.string p.2).toArray 9)
    rwa [World.size_alloc] at this⟩
  have HB0 : Aside0 (Below w.heap.size w ((w.alloc (.map #[] 0)).alloc (.cells (sgPs.map fun p => Value.string p.2).toArray 9))) := ⟨below_alloc (below_alloc (Below.refl _ _) _) _⟩
  have HS0 : Aside0 (w.heap.size + 2 ≤ ((w.alloc (.map #[] 0)).alloc (.cells (sgPs.map fun p => Value.string p.2).toArray 9)).heap.size) := ⟨by simp⟩
  clear hfi hT
  go_enter Tryz.func88, Tryz.ntmps88
  go_wp2_with (go_at_call 122; refine HFI.out.mono ?_; rintro e w1 ⟨rfl, rfl⟩)
  obtain ⟨W0, hW0⟩ : ∃ W0, (w.alloc (.map #[] 0)).alloc (.cells (sgPs.map fun p => Value.string p.2).toArray 9) = W0 := ⟨_, rfl⟩
  rw [hW0] at HI0 HR0 HB0 HS0 ⊢
  clear hW0 HFI
  generalize hH : w.heap.size = H at *
  obtain ⟨i0, hi, hz0, hz1, hz2⟩ := info_parts (show (Tryz.prog.info? 9).map (fun i => (i.zero, i.size, i.bytes)) = some (some (.string ⟨#[]⟩), 1, 16) by kernel_rfl)
  go_loopg [3, 7] 35 (fun gg _ s7 wr => ∃ (kk : Nat) (hd : Int → Value) (D : DataW Unit), kk ≤ 35 ∧ 35 - kk ≤ gg ∧ s7 = .int .i64 kk ∧ Aside0 (SgI wr H (H + 2) (sgPs.take kk) hd D) ∧ Aside0 (wr.heap[H + 1]? = some (.cells (sgPs.map fun p => Value.string p.2).toArray 9 (0, 0))) ∧ Aside0 (Below H w wr) ∧ Aside0 (H + 2 ≤ wr.heap.size))
  case atStart => exact ⟨0, _, _, by omega, by omega, rfl, HI0, HR0, HB0, HS0⟩
  case round =>
    obtain ⟨kk, hd, D, hkk, hg, rfl, HI, HR, HB, HS⟩ := hrel
    by_cases hlt : kk < 35
    · have hltz : (kk : Int) < 35 := by omega
      obtain ⟨q1, q2, q3, q4⟩ := sg_each ⟨kk, hlt⟩
      simp only at q1 q2 q3 q4
      have hget : sgPs[kk]? = some (sgPs.getD kk (0, ⟨#[]⟩)) := by
        rw [List.getD_eq_getElem?_getD, List.getElem?_eq_getElem (by rw [sgPs_len]; exact hlt)]
        rfl
      have htake : sgPs.take (kk + 1) = sgPs.take kk ++ [sgPs.getD kk (0, ⟨#[]⟩)] := by
        rw [List.take_add_one, hget]
        rfl
      have hcell : wr.cell? ⟨H + 1, kk, none⟩ = some (.string (sgPs.getD kk (0, ⟨#[]⟩)).2) := by
        refine (blk_cell HR.out kk).trans ?_
        rw [List.getElem?_toArray, List.getElem?_map, hget]
        rfl
      obtain ⟨p, hp⟩ : ∃ p, sgPs.getD kk (0, ⟨#[]⟩) = p := ⟨_, rfl⟩
      rw [hp] at q1 q2 q3 q4 htake hcell
      obtain ⟨c, x⟩ := p
      simp only at q1 q2 q3 q4 hcell
      obtain ⟨y, M, hyM⟩ : ∃ y M, bytesOf x = y :: M := by
        rcases hb : bytesOf x with _ | ⟨y, M⟩
        · exact absurd hb q2
        · exact ⟨y, M, rfl⟩
      obtain ⟨hz, hby⟩ := first_byte x y M hyM
      rw [hyM] at q1
      obtain rfl : y = c := q1
      have hzi : (0 : Int) < (x.size : Int) := by omega
      have HI1 : Aside0 (SgI wr.drew H (H + 2) (sgPs.take kk) hd D) := ⟨⟨HI.out.map, HI.out.at_, HI.out.row, HI.out.apart, HI.out.lt⟩⟩
      have HI2 : Aside0 (SgI (wr.alloc (.cells #[.string x] 9)).drew H (H + 2) (sgPs.take kk) hd D) := ⟨HI.out.kept (below_drew1 (below_alloc (Below.refl _ _) _))⟩
      have hlk1 := HI1.out.look y q3 q4
      have hlk2 := HI2.out.look y q3 q4
      have HT := Aside0.mk htake
      have hplen : (sgPs.take kk).length ≤ 1000 := by rw [List.length_take]; omega
      have HPL := Aside0.mk hplen
      have hgl : (grp (sgPs.take kk) y).length ≤ 1000 := by
        unfold grp
        rw [List.length_map]
        exact Nat.le_trans (List.length_filter_le _ _) hplen
      obtain ⟨gn, hgn⟩ : ∃ gn, (grp (sgPs.take kk) y).length = gn := ⟨_, rfl⟩
      have HGN := Aside0.mk hgn
      rw [hgn] at hgl
      clear q2 hyM hget htake hplen hgn
      go_wp2
      go_region_law ((refine step_append_lies _ rfl (.tmp 17) (.tmp 19) 43 rfl (H + 2) 9 i0 (.string ⟨#[]⟩) 1 16 Tryz.underlying43 hi hz0 hz1 hz2 rfl (by decide) (hd y) gn ((grp (sgPs.take kk) y).map Value.string) rfl (by rw [← HGN.out]; exact HI2.out.row y) ⟨wr.heap.size, 0, none⟩ 1 1 [.string x] rfl rfl (cell_one_new _ _ _) (by simp [Value.oneCell']) (by decide) (by unfold maxLen; omega) (by omega) (by have := HS.out; simp; omega) (wr.heap.size + 1) (by simp) ?_; intro g cap w' hown' hgr hl hlt'; obtain ⟨w2, D2, hd2, hrun, hI2, hg2⟩ := HI.out.step (W1 := (wr.alloc (.cells #[.string x] 9)).drew) (below_drew1 (below_alloc (Below.refl _ _) _)) y q3 q4 x g cap HPL.out (by rw [HGN.out]; exact hown') hgr (hl.imp id (fun e => by omega)) HI.out.map.lt; rw [HGN.out] at hrun; have HI3 := Aside0.mk hI2; have HG3 := Aside0.mk (And.intro hgr hg2); clear hI2 hg2 hgr hown' hl))
      all_goals
        go_wp2
        go_roundg (35 - (kk + 1))
        case measure => omega
        case rel =>
          obtain ⟨k1, k2⟩ := HG3.out
          have hobl : ∀ k, (hd y).ownBlock = some k → H + 2 ≤ k := fun k e => ((HI.out.row y).lt k e).1
          have hs1 := k1.size
          have hs2 := k2.size
          have hs0 := HS.out
          have hs3 : ((wr.alloc (.cells #[.string x] 9)).drew).heap.size = wr.heap.size + 1 := World.size_alloc _ _
          refine ⟨kk + 1, hd2, D2, by omega, by omega, by go_num, ⟨by rw [HT.out]; exact HI3.out⟩, ⟨?_⟩, ⟨?_⟩, ⟨by omega⟩⟩
          · refine (k2.block _ (by omega) (by simp)).trans ((k1.block _ (by omega) (by intro e; have := hobl _ e.symm; omega)).trans ?_)
            exact (Below.heap_alloc _ _ _ (by omega)).trans HR.out
          · have b0 : Below H w (wr.alloc (.cells #[.string x] 9)) := HB.out.alloc (by omega) _
            have b1 : Below H w (wr.alloc (.cells #[.string x] 9)).drew := ⟨b0.os, b0.tape, b0.output, b0.size, b0.block⟩
            exact (b1.grown k1 (by omega) (fun k e => by have := hobl k e; omega)).grown k2 (by omega) (fun k e => by cases e; omega)
    · obtain rfl : kk = 35 := by omega
      go_wp2
      go_ret
      rw [hH]
      refine ⟨rfl, HB.out, hd, D, ?_⟩
      have := HI.out
      rw [List.take_of_length_le (by rw [sgPs_len]; omega)] at this
      exact this
end Go.Proofs.YtkkpjonfaflkmaaGreatDoor.T

/- The scanner's sign returns what S.signTok says. -/
namespace Go.Proofs.YtkkpjonfaflkmaaGreatDoor.T
set_option linter.unusedSimpArgs false
set_option linter.unusedVariables false
open Go.RowKit Go.Maps Go.Proofs.YtkkpjonfaflkmaaGreatDoorW.PrintWords Go.Proofs.YtkkpjonfaflkmaaGreatDoorW.PrintLast Go.Proofs.YtkkpjonfaflkmaaGreatDoorW.PrintMore

theorem grp_signs (c : Int) : grp sgPs c = (S.signs.filter fun l => decide (l.headD 0 = c)).map strOfNums := by
  unfold grp sgPs
  rw [List.filter_map, List.map_map]
  rfl
theorem signs_good : ∀ l ∈ S.signs, l ≠ [] ∧ l.length ≤ 3 ∧ ∀ x ∈ l, 0 ≤ x ∧ x < 256 := by decide
theorem find_sign (c : Int) (t : List Int) : (grp sgPs c).find? (fun x => (bytesOf x).isPrefixOf (c :: t)) = (S.signs.find? (fun x => x.isPrefixOf (c :: t))).map strOfNums := by
  rw [grp_signs, List.find?_map, List.find?_filter]
  congr 1
  have key : ∀ ls : List (List Int), (∀ l ∈ ls, l ≠ [] ∧ l.length ≤ 3 ∧ ∀ x ∈ l, 0 ≤ x ∧ x < 256) →
      ls.find? (fun a => decide ((decide (a.headD 0 = c)) = true ∧ ((fun x => (bytesOf x).isPrefixOf (c :: t)) ∘ strOfNums) a = true)) = ls.find? (fun x => x.isPrefixOf (c :: t)) := by
    intro ls
    induction ls with
    | nil => intro _; rfl
    | cons l ls ih =>
      intro h
      obtain ⟨h1, _, h2⟩ := h l (by simp)
      have e : decide ((decide (l.headD 0 = c)) = true ∧ ((fun x => (bytesOf x).isPrefixOf (c :: t)) ∘ strOfNums) l = true) = l.isPrefixOf (c :: t) := by
        simp only [Function.comp_apply]
        simp only [bytesOf_str l h2]
        rcases l with _ | ⟨a, l'⟩
        · exact absurd rfl h1
        · by_cases ha : a = c
          · subst ha; simp only [List.headD_cons, decide_true, true_and, Bool.decide_eq_true]
          · simp [List.isPrefixOf, ha]
      rw [List.find?_cons, List.find?_cons, e, ih (fun l' hl' => h l' (by simp [hl']))]
  exact key S.signs signs_good

/-- The scanner and its map of operators. -/
structure ScM (s : Nat) (src : ByteArray) (i line : Int) (mb base : Nat) (hd : Int → Value) (D : DataW Unit) (w : World) : Prop where
  sc : Sc s src i line (.map (some mb)) w
  sg : SgI w mb base sgPs hd D
  nm : mb ≠ s
  nr : ∀ c g, (hd c).ownBlock = some g → g ≠ s
theorem SgI.but {s : Nat} {w w' : World} {mb base : Nat} {hd : Int → Value} {D : DataW Unit} (h : SgI w mb base sgPs hd D) (nm : mb ≠ s) (nr : ∀ c g, (hd c).ownBlock = some g → g ≠ s) (hb : But (· = s) w w') : SgI w' mb base sgPs hd D :=
  h.blk (hb.block _ h.map.lt nm) (fun c g hg => hb.block _ ((h.row c).lt g hg).2 (nr c g hg))

set_option maxRecDepth 100000 in
set_option maxHeartbeats 4000000 in
theorem scan_sign.calls (s : Nat) (src : ByteArray) (i line mb base : Nat) (hd : Int → Value) (D : DataW Unit) (w : World) (hsz : src.size ≤ 100000) (hl : line ≤ 1000000000) (hi : i < src.size) (h : ScM s src i line mb base hd D w) :
    Calls Tryz.prog 125 #[.pointer (some ⟨s, 0, none⟩)] w fun e w' => But (· = s) w w' ∧ SymPost s src (.map (some mb)) i line e w' (S.signTok ((bytesOf src).drop i)) := by
  have HM := Aside0.mk h
  obtain ⟨n, hn⟩ : ∃ n, src.size = n := ⟨_, rfl⟩
  obtain ⟨L, hL⟩ : ∃ L, bytesOf src = L := ⟨_, rfl⟩
  have HN : Aside0 (L.length = n) := ⟨by rw [← hL, bytesOf_length]; exact hn⟩
  have hbi := nth_byte src i hi
  rw [hL] at hbi ⊢
  have hdi := drop_at L i (by rw [HN.out]; omega)
  obtain ⟨c, hc⟩ : ∃ c, L.getD i 0 = c := ⟨_, rfl⟩
  have hcr : 0 ≤ c ∧ c < 256 := by rw [← hc]; exact bo_range src _ (by rw [hL]; exact getD_mem _ _ (by rw [HN.out]; omega))
  rw [hc] at hbi hdi
  have HDI := Aside0.mk hdi
  have HL := Aside0.mk hL
  have HX : Aside0 (bytesOf (src.extract i n) = L.drop i) := ⟨by rw [← hn, bytesOf_rest, hL]⟩
  have hz0 : (0 : Int) ≤ (i : Int) := by omega
  have hz1 : (i : Int) < (n : Int) := by omega
  have hz2 : (i : Int) ≤ (n : Int) := by omega
  obtain ⟨G, hG⟩ : ∃ G, grp sgPs c = G := ⟨_, rfl⟩
  have hrow := h.sg.row c
  rw [hG] at hrow
  obtain ⟨k, hk⟩ : ∃ k, G.length = k := ⟨_, rfl⟩
  rw [hk] at hrow
  obtain ⟨A, cap, hv⟩ : ∃ A cap, hd c = .slice A k cap := by
    rcases hrow.2 with ⟨e, e2⟩ | ⟨g, cap, cur, e, _⟩
    · exact ⟨_, _, by rw [e, e2]⟩
    · exact ⟨_, _, e⟩
  have hlk : ∀ y : ScC s src i line (.map (some mb)) w, (Instr.lookup 91 (.map (some mb)) (.int .u8 c) false).run Tryz.prog y.world = .ok (.slice A k cap) y.world := fun y => by
    rw [← hv]
    exact (h.sg.but h.nm h.nr y.but).look c hcr.1 hcr.2
  have hkb : k ≤ 35 := by
    rw [← hk, ← hG]
    unfold grp
    rw [List.length_map]
    have := List.length_filter_le (fun p : Int × ByteArray => decide (p.1 = c)) sgPs
    rw [sgPs_len] at this
    exact this
  have hfind := find_sign c (L.drop (i + 1))
  rw [hG, ← hdi] at hfind
  have hgr : ∀ x ∈ G, x.size ≤ 3 ∧ ∃ l, x = strOfNums l := by
    intro x hx
    rw [← hG, grp_signs] at hx
    obtain ⟨l, hl, rfl⟩ := List.mem_map.1 hx
    obtain ⟨_, h1, h2⟩ := signs_good l (List.mem_filter.1 hl).1
    refine ⟨?_, l, rfl⟩
    rw [← bytesOf_length, bytesOf_str l h2]
    exact h1
  have HGR := Aside0.mk hgr
  clear hgr
  have HF := Aside0.mk hfind
  have HROW := Aside0.mk hrow
  have HG := Aside0.mk hG
  have HV := Aside0.mk hv
  have HK := Aside0.mk hk
  have HW0 : Aside0 (Sc s src i line (.map (some mb)) w.drew ∧ But (· = s) w w.drew) := ⟨h.sc, (But.refl _ w).drew⟩
  have cc0 : ∀ y : ScC s src i line (.map (some mb)) w, y.world.cell? ⟨s, 0, none⟩ = some (.string src) := ScC.c0
  have cc1 : ∀ y : ScC s src i line (.map (some mb)) w, y.world.cell? ⟨s, 1, none⟩ = some (.int .i64 i) := ScC.c1
  have cc3 : ∀ y : ScC s src i line (.map (some mb)) w, y.world.cell? ⟨s, 3, none⟩ = some (.map (some mb)) := ScC.c3
  have hne : Nonempty (ScC s src i line (.map (some mb)) w) := ⟨⟨w.drew, HW0.out.1, HW0.out.2⟩⟩
  clear hfind hrow hG hv hk hL hc hdi hcr
  rw [hn] at hsz hi
  go_enter Tryz.func125, Tryz.ntmps125
  go_upto_region 1 with (fail)
  refine wp_region_cls (fun W => ∃ y : ScC s src i line (.map (some mb)) w, W = y.world) (by kernel_rfl) (by kernel_rfl) ⟨⟨w.drew, HW0.out.1, HW0.out.2⟩, rfl⟩ ?_
  repeat (go_big_quiet_step (fail))
  refine wpQuiet_nil ?_
  rintro W ⟨y, rfl⟩
  go_wp2
  have HY0 : Aside0 (∃ y2 : ScC s src i line (.map (some mb)) w, y.world = y2.world) := ⟨⟨y, rfl⟩⟩
  generalize y.world = W0 at *
  go_loopg [4, 20] (k + 1) (fun gg _ s20 wr => ∃ j : Nat, j ≤ k ∧ k + 1 - j ≤ gg ∧ s20 = .int .i64 j ∧ Aside0 (∃ y2 : ScC s src i line (.map (some mb)) w, wr = y2.world) ∧ Aside0 ((G.drop j).find? (fun x => (bytesOf x).isPrefixOf (L.drop i)) = G.find? (fun x => (bytesOf x).isPrefixOf (L.drop i))))
  case atStart => exact ⟨0, Nat.zero_le _, by omega, rfl, HY0, ⟨rfl⟩⟩
  case round =>
    obtain ⟨j, hj, hg, rfl, HY, HA⟩ := hrel
    obtain ⟨y2, hy2⟩ := HY.out
    have hs2 := y2.sc
    have hb2 := y2.but
    rw [← hy2] at hs2 hb2
    have HS2 := Aside0.mk hs2
    have HB2 := Aside0.mk hb2
    have d1 := hs2.c1
    have d2 := hs2.c2
    have f1 := hs2.fr 1
    clear hs2 hb2 hy2
    by_cases hlt : j < k
    · have hltz : (j : Int) < (k : Int) := by omega
      have hGl : j < G.length := by rw [HK.out]; exact hlt
      have hdj : G.drop j = G[j] :: G.drop (j + 1) := List.drop_eq_getElem_cons hGl
      have hxm : G[j] ∈ G := List.getElem_mem hGl
      have hgj : (G.map Value.string)[j]? = some (.string G[j]) := by rw [List.getElem?_map, List.getElem?_eq_getElem hGl]; rfl
      obtain ⟨x, hx⟩ : ∃ x, G[j] = x := ⟨_, rfl⟩
      rw [hx] at hdj hxm hgj
      have hr2 := (HM.out.sg.but HM.out.nm HM.out.nr HB2.out).row c
      rw [HG.out, HK.out, HV.out] at hr2
      rcases hr2.2 with ⟨_, e2⟩ | ⟨g, cap', cur, e, _⟩
      · omega
      simp only [Value.slice.injEq] at e
      obtain ⟨rfl, _, rfl⟩ := e
      have hcell : wr.cell? ⟨g, j, none⟩ = some (.string x) := by rw [hr2.cellAt j (by omega), hgj]
      obtain ⟨b, hb⟩ : ∃ b, (bytesOf x).isPrefixOf (L.drop i) = b := ⟨_, rfl⟩
      have hcall : ∀ W, Calls Tryz.prog 123 #[.string (src.extract i n), .string x] W fun e W' => e = .returned (.bool b) ∧ W' = W := fun W => by
        have h := Tryz.strings_HasPrefix (src.extract i n) x W
        rw [hasPrefix_nums, HX.out, hb] at h
        exact h
      have hxs := (HGR.out x hxm).1
      have HXL := Aside0.mk (HGR.out x hxm).2
      have HC := Lib.hid hcall
      have HDJ := Aside0.mk hdj
      have HB := Aside0.mk hb
      clear hr2 hcall hdj hgj hx hxm hb
      have hne2 : Nonempty (ScC s src i line (.map (some mb)) w) := hne
      go_upto_region 4 with (fail)
      refine wp_region_cls (fun W => ∃ y : ScC s src i line (.map (some mb)) w, W = y.world) (by kernel_rfl) (by kernel_rfl) ⟨⟨wr.drew, HS2.out, HB2.out.drew⟩, rfl⟩ ?_
      repeat (go_big_quiet_step ((rename_i y; (go_at_call 123; refine (HC.out _).mono ?_; rintro e w' ⟨rfl, rfl⟩; exact ⟨rfl, y, rfl⟩))))
      refine wpQuiet_nil ?_
      rintro W ⟨y3, rfl⟩
      have HS3 := Aside0.mk y3.sc
      have HB3 := Aside0.mk y3.but
      have c1 := y3.sc.c1
      have fr1 := y3.sc.fr 1
      generalize y3.world = W3 at *
      cases b with
      | true =>
        have hfs : ∃ l, S.signs.find? (fun x => x.isPrefixOf (L.drop i)) = some l ∧ x = strOfNums l ∧ x.size = l.length := by
          have h1 := HF.out
          rw [← HA.out, HDJ.out, List.find?_cons] at h1
          simp only [HB.out] at h1
          cases h2 : S.signs.find? (fun x => x.isPrefixOf (L.drop i)) with
          | none => rw [h2] at h1; cases h1
          | some v =>
            rw [h2] at h1
            simp only [Option.map_some, Option.some.injEq] at h1
            obtain ⟨_, _, h4⟩ := signs_good v (List.mem_of_find?_eq_some h2)
            refine ⟨v, rfl, h1, ?_⟩
            rw [h1, ← bytesOf_length, bytesOf_str v h4]
        obtain ⟨l, hl1, hl2, hl3⟩ := hfs
        have HT : Aside0 (S.signTok (L.drop i) = .ok l l.length) := ⟨by unfold S.signTok; rw [hl1]⟩
        have HL2 := Aside0.mk hl2
        have HL3 := Aside0.mk hl3
        clear hl1 hl2 hl3
        obtain ⟨xn, hxn⟩ : ∃ xn, x.size = xn := ⟨_, rfl⟩
        rw [hxn] at hxs
        rw [hxn] at HL3
        have hw : IntKind.i64.wrap ((i : Int) + (xn : Int)) = (i : Int) + (xn : Int) := w64 _ (by omega) (by omega)
        go_wp2_with fail
        go_ret
        refine ⟨HB3.out.set _ _ rfl, ?_⟩
        rw [HT.out]
        refine ⟨by rw [HL2.out]; rfl, ?_⟩
        rw [← HL3.out]
        exact HS3.out.set1 _
      | false =>
        go_wp2_with fail
        go_roundg (k + 1 - (j + 1))
        case measure => omega
        case rel =>
          refine ⟨j + 1, by omega, by omega, by go_num, ⟨⟨_, HS3.out, HB3.out⟩, rfl⟩, ⟨?_⟩⟩
          rw [← HA.out, HDJ.out, List.find?_cons]
          simp only [HB.out]
    · obtain rfl : j = k := by omega
      have hnone : S.signs.find? (fun x => x.isPrefixOf (L.drop i)) = none := by
        have h1 := HF.out
        have hG0 : G.drop j = [] := List.drop_eq_nil_of_le (by rw [HK.out]; omega)
        rw [← HA.out, hG0] at h1
        cases h2 : S.signs.find? (fun x => x.isPrefixOf (L.drop i)) with
        | none => rfl
        | some v => rw [h2] at h1; cases h1
      have HT : Aside0 (S.signTok (L.drop i) = .err 13) := ⟨by unfold S.signTok; rw [hnone]⟩
      have HFL := Lib.hid (scan_fail.calls (.pointer (some ⟨s, 0, none⟩)) 13 line wr)
      clear hnone
      go_wp2_with (go_at_call 97; refine HFL.out.mono ?_; rintro e w3 ⟨rfl, rfl⟩; unfold Fails)
      refine ⟨rfl, HB2.out, ?_⟩
      rw [HT.out]
      exact ⟨rfl, _, HS2.out⟩
end Go.Proofs.YtkkpjonfaflkmaaGreatDoor.T

/- The scanner's comment returns what S.cmt says. -/
namespace Go.Proofs.YtkkpjonfaflkmaaGreatDoor.T
set_option linter.unusedSimpArgs false
set_option linter.unusedVariables false
open Go.RowKit Go.Proofs.YtkkpjonfaflkmaaGreatDoorW.PrintWords Go.Proofs.YtkkpjonfaflkmaaGreatDoorW.PrintLast Go.Proofs.YtkkpjonfaflkmaaGreatDoorW.PrintMore

/-- What comment comes to. -/
def CmtPost (s : Nat) (src : ByteArray) (m : Value) (line : Nat) (e : Ending) (w' : World) : S.CR → Prop
  | .eof => e = Fails 6 line ∧ ∃ i' l' : Nat, Sc s src i' l' m w'
  | .done i' l' bad => if bad = 0 then e = .returned (.tuple #[]) ∧ Sc s src i' l' m w' else e = Fails 13 bad ∧ ∃ i' l' : Nat, Sc s src i' l' m w'
theorem CmtPost.ret {s : Nat} {src : ByteArray} {m : Value} {line i' l' bad : Nat} {w' : World} (hb : bad = 0) (h : Sc s src i' l' m w') : CmtPost s src m line (.returned (.tuple #[])) w' (.done i' l' bad) := by
  show if bad = 0 then _ else _
  rw [if_pos hb]
  exact ⟨rfl, h⟩
theorem CmtPost.fail {s : Nat} {src : ByteArray} {m : Value} {line i' l' bad j k : Nat} {w' : World} (hb : ¬ bad = 0) (h : Sc s src j k m w') : CmtPost s src m line (Fails 13 bad) w' (.done i' l' bad) := by
  show if bad = 0 then _ else _
  rw [if_neg hb]
  exact ⟨rfl, _, _, h⟩

set_option maxRecDepth 100000 in
set_option maxHeartbeats 4000000 in
theorem scan_comment.calls (s : Nat) (src : ByteArray) (m : Value) (i line : Nat) (w : World) (hsz : src.size ≤ 1000000) (hl : line ≤ 1000000000) (hi : i ≤ src.size) (hst : S.starts2 ((bytesOf src).drop i) = true) (h : Sc s src i line m w) :
    Calls Tryz.prog 124 #[.pointer (some ⟨s, 0, none⟩)] w fun e w' => But (· = s) w w' ∧ CmtPost s src m line e w' (S.cmt ((bytesOf src).drop i) i 0 line 0) := by
  have HS := Aside0.mk h
  obtain ⟨n, hn⟩ : ∃ n, src.size = n := ⟨_, rfl⟩
  obtain ⟨L, hL⟩ : ∃ L, bytesOf src = L := ⟨_, rfl⟩
  have HN : Aside0 (L.length = n) := ⟨by rw [← hL, bytesOf_length]; exact hn⟩
  rw [hL] at hst ⊢
  obtain ⟨R, hR⟩ : ∃ R, S.cmt (L.drop i) i 0 line 0 = R := ⟨_, rfl⟩
  rw [hR]
  have HR := Aside0.mk hR
  have HL := Aside0.mk hL
  have HST := Aside0.mk hst
  have h2 := h.c2
  clear hR hL hst h
  rw [hn] at hsz hi
  go_enter Tryz.func124, Tryz.ntmps124
  go_step3
  go_wp2
  go_step3
  go_wp2
  go_loopg [3, 4, 5] (n + 1) (fun gg s3 s4 _ wr => ∃ kk dp ln bd : Nat, kk ≤ n ∧ n + 1 - kk ≤ gg ∧ s3 = .int .i64 dp ∧ s4 = .int .i64 bd ∧ Aside0 (Sc s src kk ln m wr) ∧ Aside0 (But (· = s) w wr) ∧ dp ≤ kk ∧ ln ≤ line + kk ∧ bd ≤ line + kk ∧ Aside0 (1 ≤ dp ∨ S.starts2 (L.drop kk) = true) ∧ Aside0 (S.cmt (L.drop kk) kk dp ln bd = R))
  case atStart => exact ⟨i, 0, line, 0, hi, by omega, rfl, rfl, HS, ⟨.refl _ _⟩, by omega, by omega, by omega, ⟨.inr HST.out⟩, HR⟩
  case round =>
    obtain ⟨kk, dp, ln, bd, hkk, hg, rfl, rfl, HC, HB, hdp, hln, hbd, HD, HA⟩ := hrel
    have c0 := HC.out.c0
    have c1 := HC.out.c1
    have hkz : (kk : Int) ≤ (n : Int) := by omega
    have hk0 : (0 : Int) ≤ (kk : Int) := by omega
    go_wp2
    go_region
    have HC1 : Aside0 (Sc s src kk ln m wr.drew) := HC
    have HB1 : Aside0 (But (· = s) w wr.drew) := ⟨HB.out.drew⟩
    have c0' : wr.drew.cell? ⟨s, 0, none⟩ = some (.string src) := c0
    have c1' : wr.drew.cell? ⟨s, 1, none⟩ = some (.int .i64 kk) := c1
    have c2' : wr.drew.cell? ⟨s, 2, none⟩ = some (.int .i64 ln) := HC1.out.c2
    have f1 := HC1.out.fr 1
    have f2 := HC1.out.fr 2
    clear HC HB c0 c1
    generalize wr.drew = w1 at *
    have HM : Aside0 (bytesOf (src.extract kk n) = L.drop kk) := ⟨by rw [← hn, bytesOf_rest, HL.out]⟩
    generalize src.extract kk n = rs at *
    have HE : Aside0 ((bytesOf rs).length = n - kk) := ⟨by rw [HM.out, List.length_drop, HN.out]⟩
    have HDR : Aside0 (∀ j, L.drop (kk + j) = (L.drop kk).drop j) := ⟨fun j => by rw [List.drop_drop]⟩
    rcases hM : L.drop kk with _ | ⟨y, M⟩
    · rw [hM] at HM HA HD
      have hkn : kk = n := by
        have := HE.out
        rw [HM.out] at this
        simp at this
        omega
      have e0 : (rs.toList == ([] : List UInt8)) = true := by rw [str_empty, HM.out]; rfl
      have HF := Lib.hid (scan_fail.calls (.pointer (some ⟨s, 0, none⟩)) 6 line w1)
      clear hM
      go_wp2_with (go_at_call 97; refine HF.out.mono ?_; rintro e w' ⟨rfl, rfl⟩; unfold Fails)
      have hR : R = .eof := HA.out.symm
      rw [hR]
      exact ⟨rfl, HB1.out, rfl, _, _, HC1.out⟩
    · have HMM := Aside0.mk hM
      rw [hM] at HM HA HD HDR
      have hlt : kk < n := by
        have := HE.out
        rw [HM.out] at this
        simp at this
        omega
      have e0 : (rs.toList == ([] : List UInt8)) = false := by rw [str_empty, HM.out]; rfl
      obtain ⟨hz, hy⟩ := first_byte rs y M HM.out
      have hzi : (0 : Int) < (rs.size : Int) := by omega
      have hw1 : IntKind.i64.wrap ((kk : Int) + 1) = ((kk + 1 : Nat) : Int) := by rw [w64 _ (by omega) (by omega)]; omega
      have hw2 : IntKind.i64.wrap ((kk : Int) + 2) = ((kk + 2 : Nat) : Int) := by rw [w64 _ (by omega) (by omega)]; omega
      have hw3 : IntKind.i64.wrap ((dp : Int) + 1) = ((dp + 1 : Nat) : Int) := by rw [w64 _ (by omega) (by omega)]; omega
      have hw4 : IntKind.i64.wrap ((ln : Int) + 1) = ((ln + 1 : Nat) : Int) := by rw [w64 _ (by omega) (by omega)]; omega
      have HCA := Aside0.mk (fun (x : Nat) => HC1.out.set1 (x : Int))
      have HBA := Aside0.mk (fun (v : Value) => HB1.out.set ⟨s, 1, none⟩ v rfl)
      clear hM
      by_cases hp1 : S.st2 47 42 (y :: M) = true
      · -- a comment opens
        obtain ⟨z, t, rfl, rfl, rfl⟩ : ∃ z t, M = z :: t ∧ y = 47 ∧ z = 42 := by
          rcases M with _ | ⟨z, t⟩
          · cases hp1
          · simp [S.st2] at hp1
            exact ⟨z, t, rfl, hp1⟩
        have hk2 : kk + 2 ≤ n := by
          have := HE.out
          rw [HM.out] at this
          simp at this
          omega
        have H1 := Lib.hid (prefix2.calls rs 47 42 true (by rw [HM.out]; exact hp1) w1)
        have HA2 : Aside0 (S.cmt (L.drop (kk + 2)) (kk + 2) (dp + 1) ln bd = R) := ⟨by
          rw [HDR.out 2, ← HA.out]
          simp [S.cmt]⟩
        clear hp1
        go_wp2_with (go_at_call 123; refine H1.out.mono ?_; rintro e w' ⟨rfl, rfl⟩)
        go_roundg (n + 1 - (kk + 2))
        case measure => omega
        case rel =>
          refine ⟨kk + 2, dp + 1, ln, bd, by omega, by omega, by go_num, rfl, ⟨?_⟩, ⟨?_⟩, by omega, by omega, by omega, ⟨.inl (by omega)⟩, HA2⟩
          · exact HCA.out (kk + 2)
          · exact HBA.out _
      · have hp1' : S.st2 47 42 (y :: M) = false := by simpa using hp1
        have hd1 : 1 ≤ dp := by
          rcases HD.out with h | h
          · exact h
          · rw [S.starts2_eq, hp1'] at h; cases h
        have hw5 : IntKind.i64.wrap ((dp : Int) - 1) = ((dp - 1 : Nat) : Int) := by rw [w64 _ (by omega) (by omega)]; omega
        have H1 := Lib.hid (prefix2.calls rs 47 42 false (by rw [HM.out]; exact hp1') w1)
        by_cases hp2 : S.st2 42 47 (y :: M) = true
        · -- a comment closes
          obtain ⟨z, t, rfl, rfl, rfl⟩ : ∃ z t, M = z :: t ∧ y = 42 ∧ z = 47 := by
            rcases M with _ | ⟨z, t⟩
            · cases hp2
            · simp [S.st2] at hp2
              exact ⟨z, t, rfl, hp2⟩
          have hk2 : kk + 2 ≤ n := by
            have := HE.out
            rw [HM.out] at this
            simp at this
            omega
          have H2 := Lib.hid (prefix2.calls rs 42 47 true (by rw [HM.out]; exact hp2) w1)
          clear hp1 hp1' hp2
          by_cases hd : dp = 1
          · have hR : R = .done (kk + 2) ln bd := by
              rw [← HA.out]
              simp [S.cmt, hd]
            have e5 : (((dp - 1 : Nat) : Int) == 0) = true := by rw [hd]; rfl
            by_cases hb : bd = 0
            · have b1 : decide (0 < bd) = false := decide_eq_false (by omega)
              have b2 : decide ((0 : Int) < (bd : Int)) = false := decide_eq_false (by omega)
              have HCF := HCA.out (kk + 2)
              have HF := Aside0.mk HCF
              clear HCF
              go_wp2_with (go_at_call 123; (first | (with_reducible refine H1.out.mono ?_) | (with_reducible refine H2.out.mono ?_)); rintro e w' ⟨rfl, rfl⟩)
              try rw [Exit.noGoto_normal]
              go_end0
              rw [hR]
              exact ⟨HBA.out _, CmtPost.ret hb HF.out⟩
            · have b1 : decide (0 < bd) = true := decide_eq_true (by omega)
              have b2 : decide ((0 : Int) < (bd : Int)) = true := decide_eq_true (by omega)
              have HF := Lib.hid (fun W => scan_fail.calls (.pointer (some ⟨s, 0, none⟩)) 13 bd W)
              go_wp2_with (first | (go_at_call 123; (first | (with_reducible refine H1.out.mono ?_) | (with_reducible refine H2.out.mono ?_)); rintro e w' ⟨rfl, rfl⟩) | (go_at_call 97; refine (HF.out _).mono ?_; rintro e w' ⟨rfl, rfl⟩; unfold Fails))
              rw [hR]
              exact ⟨rfl, HBA.out _, CmtPost.fail hb (HCA.out (kk + 2))⟩
          · have e5 : (((dp - 1 : Nat) : Int) == 0) = false := beq_eq_false_iff_ne.2 (by omega)
            have HA2 : Aside0 (S.cmt (L.drop (kk + 2)) (kk + 2) (dp - 1) ln bd = R) := ⟨by
              rw [HDR.out 2, ← HA.out]
              simp [S.cmt, hd]⟩
            go_wp2_with (go_at_call 123; (first | (with_reducible refine H1.out.mono ?_) | (with_reducible refine H2.out.mono ?_)); rintro e w' ⟨rfl, rfl⟩)
            go_roundg (n + 1 - (kk + 2))
            case measure => omega
            case rel =>
              refine ⟨kk + 2, dp - 1, ln, bd, by omega, by omega, by go_num, rfl, ⟨?_⟩, ⟨?_⟩, by omega, by omega, by omega, ⟨.inl (by omega)⟩, HA2⟩
              · exact HCA.out (kk + 2)
              · exact HBA.out _
        · have hp2' : S.st2 42 47 (y :: M) = false := by simpa using hp2
          have H2 := Lib.hid (prefix2.calls rs 42 47 false (by rw [HM.out]; exact hp2') w1)
          have hstep : S.cmt (y :: M) kk dp ln bd = S.cmt M (kk + 1) dp (if y = 10 then ln + 1 else ln) (if y ≠ 10 ∧ S.prn y = false ∧ bd = 0 then ln else bd) := by
            rcases M with _ | ⟨z, t⟩
            · rfl
            · simp only [S.st2, Bool.and_eq_false_iff, decide_eq_false_iff_not] at hp1' hp2'
              conv => { lhs; unfold S.cmt }
              rw [if_neg (by omega), if_neg (by omega)]
          rw [hstep] at HA
          have hD1 : L.drop (kk + 1) = M := HDR.out 1
          clear hp1 hp1' hp2 hp2' hstep
          by_cases hy10 : y = 10
          · have e6 : (y == 10) = true := beq_iff_eq.2 hy10
            rw [if_pos hy10, if_neg (fun q => q.1 hy10)] at HA
            have HCA2 := Aside0.mk (fun (l x : Nat) => (HC1.out.set2 (l : Int)).set1 (x : Int))
            have HBA2 := Aside0.mk (fun (u v : Value) => (HB1.out.set ⟨s, 2, none⟩ u rfl).set ⟨s, 1, none⟩ v rfl)
            go_wp2_with (go_at_call 123; (first | (with_reducible refine H1.out.mono ?_) | (with_reducible refine H2.out.mono ?_)); rintro e w' ⟨rfl, rfl⟩)
            go_roundg (n + 1 - (kk + 1))
            case measure => omega
            case rel =>
              refine ⟨kk + 1, dp, ln + 1, bd, by omega, by omega, rfl, rfl, ⟨?_⟩, ⟨?_⟩, by omega, by omega, by omega, ⟨.inl (by omega)⟩, ⟨by rw [hD1]; exact HA.out⟩⟩
              · exact HCA2.out (ln + 1) (kk + 1)
              · exact HBA2.out _ _
          · have e6 : (y == 10) = false := beq_eq_false_iff_ne.2 hy10
            rw [if_neg hy10] at HA
            have HP := Lib.hid (fun W => scan_printable.calls y (S.prn y) W (prn_f y))
            by_cases hpr : S.prn y = true
            · rw [if_neg (by rw [hpr]; simp)] at HA
              rw [hpr] at HP
              go_wp2_with (first | (go_at_call 123; (first | (with_reducible refine H1.out.mono ?_) | (with_reducible refine H2.out.mono ?_)); rintro e w' ⟨rfl, rfl⟩) | (go_at_call 65; refine (HP.out _).mono ?_; rintro e w' ⟨rfl, ⟨⟨q, rfl⟩⟩⟩))
              go_roundg (n + 1 - (kk + 1))
              case measure => omega
              case rel =>
                refine ⟨kk + 1, dp, ln, bd, by omega, by omega, rfl, rfl, ⟨?_⟩, ⟨?_⟩, by omega, by omega, by omega, ⟨.inl (by omega)⟩, ⟨by rw [hD1]; exact HA.out⟩⟩
                · exact HCA.out (kk + 1)
                · exact (HBA.out _).drewN q
            · have hpr' : S.prn y = false := by simpa using hpr
              rw [hpr'] at HP
              by_cases hb : bd = 0
              · have b1 : ((bd : Int) == 0) = true := beq_iff_eq.2 (by omega)
                rw [if_pos ⟨hy10, hpr', hb⟩] at HA
                go_wp2_with (first | (go_at_call 123; (first | (with_reducible refine H1.out.mono ?_) | (with_reducible refine H2.out.mono ?_)); rintro e w' ⟨rfl, rfl⟩) | (go_at_call 65; refine (HP.out _).mono ?_; rintro e w' ⟨rfl, ⟨⟨q, rfl⟩⟩⟩))
                go_roundg (n + 1 - (kk + 1))
                case measure => omega
                case rel =>
                  refine ⟨kk + 1, dp, ln, ln, by omega, by omega, rfl, rfl, ⟨?_⟩, ⟨?_⟩, by omega, by omega, by omega, ⟨.inl (by omega)⟩, ⟨by rw [hD1]; exact HA.out⟩⟩
                  · exact HCA.out (kk + 1)
                  · exact (HBA.out _).drewN q
              · have b1 : ((bd : Int) == 0) = false := beq_eq_false_iff_ne.2 (by omega)
                rw [if_neg (fun q => hb q.2.2)] at HA
                go_wp2_with (first | (go_at_call 123; (first | (with_reducible refine H1.out.mono ?_) | (with_reducible refine H2.out.mono ?_)); rintro e w' ⟨rfl, rfl⟩) | (go_at_call 65; refine (HP.out _).mono ?_; rintro e w' ⟨rfl, ⟨⟨q, rfl⟩⟩⟩))
                go_roundg (n + 1 - (kk + 1))
                case measure => omega
                case rel =>
                  refine ⟨kk + 1, dp, ln, bd, by omega, by omega, rfl, rfl, ⟨?_⟩, ⟨?_⟩, by omega, by omega, by omega, ⟨.inl (by omega)⟩, ⟨by rw [hD1]; exact HA.out⟩⟩
                  · exact HCA.out (kk + 1)
                  · exact (HBA.out _).drewN q
end Go.Proofs.YtkkpjonfaflkmaaGreatDoor.T
