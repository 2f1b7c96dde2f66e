/- Part 7 of the proof of ScanLocal: the functions that it calls return what their plain descriptions say. -/
import Derived.Test.YtkkpjonfaflkmaaGreatDoorCScanLocal6
import Derived.Test.YtkkpjonfaflkmaaGreatDoorCScanLocal5
import Derived.Sort.LoopGhostIn

namespace Go.Proofs.YtkkpjonfaflkmaaGreatDoor.T
set_option linter.unusedSimpArgs false
set_option linter.unusedVariables false
open Go.RowKit Go.Proofs.YtkkpjonfaflkmaaGreatDoorW.PrintWords Go.Proofs.YtkkpjonfaflkmaaGreatDoorW.PrintLast Go.Proofs.YtkkpjonfaflkmaaGreatDoorW.PrintMore
attribute [local go_sem] Oper.semAt_some
theorem results_cells2 {P : Program} {fn : Func} {p q : Tmp} {tp tq : TypeId} (h : fn.results = #[.cell p tp, .cell q tq]) (tmps : Array Value) (w : World) (a b : Addr) (u v : Value)
    (hp : tmps.getD p undef = .pointer (some a)) (hq : tmps.getD q undef = .pointer (some b)) (hu : (loadVar tp a).run P w = .ok u w) (hv : (loadVar tq b).run P w = .ok v w) : (results fn tmps).run P w = .ok (.tuple #[u, v]) w := by
  have hp' : tmps[p]?.getD undef = .pointer (some a) := by simpa using hp
  have hq' : tmps[q]?.getD undef = .pointer (some b) := by simpa using hq
  simp [results, h, hp', hq', asAddr, Sem.run_bind, hu, hv, Result.andThen]
def baseOf (sx : Nat) : Int := if sx = 4 then 16 else 2
structure DcI (w0 : World) (H N ww sx c : Nat) (L : List Int) (r : Option Loop) (k : Nat) (v : Value) (out : List Int) (W : World) : Prop where
  b0 : W.heap[H]? = some (.cells #[.int .i64 sx] 3 (0, 0))
  b1 : W.heap[H + 1]? = some (.cells #[.string ⟨#[]⟩] 9 (0, 0))
  b2 : W.heap[H + 1 + 1]? = some (.cells #[.bool false] 4 (0, 0))
  b3 : W.heap[H + 1 + 1 + 1]? = some (.cells #[v] 100 (0, 0))
  b5 : W.heap[H + 5]? = some (.cells #[.slice (some ⟨H + 1 + 1 + 1 + 1, 0, none⟩) N c] 100 (0, 0))
  b6 : W.heap[H + 6]? = some (.cells #[.int .i64 ww] 3 (0, 0))
  b7 : W.heap[H + 7]? = some (.deferred (some []))
  b8 : ∀ r', r = some r' → W.heap[H + 8]? = some (.loop r')
  buf : Buf (H + 1 + 1 + 1 + 1) L W
  own : W.ownsRow (H + 9) 5 1 v k (out.map (Value.int .u8))
  len : out.length = k
  below : Below H w0 W
  dec : S.decK (baseOf sx) ww (N / ww) L = (S.decK (baseOf sx) ww (N / ww - k) (L.drop (k * ww))).map (out ++ ·)
theorem DcI.put {w0 : World} {H N ww sx c k : Nat} {L : List Int} {r : Option Loop} {v : Value} {out : List Int} {W : World} (h : DcI w0 H N ww sx c L r k v out W) (hw0 : w0.heap.size = H) (hb : H + 8 < W.heap.size) (r' : Loop) : DcI w0 H N ww sx c L (some r') k v out (W.putObj (H + 8) (.loop r')) := by
  have ho : ∀ j, j ≠ H + 8 → (W.putObj (H + 8) (.loop r')).heap[j]? = W.heap[j]? := fun j hj => World.putObj_heap_other hj
  refine ⟨(ho _ (by omega)).trans h.b0, (ho _ (by omega)).trans h.b1, (ho _ (by omega)).trans h.b2, (ho _ (by omega)).trans h.b3, (ho _ (by omega)).trans h.b5, (ho _ (by omega)).trans h.b6, (ho _ (by omega)).trans h.b7, fun r2 e => ?_, h.buf.blk (ho _ (by omega)), ?_, h.len, ?_, h.dec⟩
  · cases e; exact World.putObj_heap_same hb
  · refine h.own.kept (grownBy_putObj' W (H + 8) _) ?_
    rcases hv : v.ownBlock with _ | g
    · exact .inl rfl
    · have := (h.own.lt g hv).1
      exact .inr (by intro e; cases e; omega)
  · exact h.below.grown (grownBy_putObj' W (H + 8) _) (by have := h.below.size; omega) (fun k e => by cases e; omega)
theorem DcI.drewN {w0 : World} {H N ww sx c k : Nat} {L : List Int} {r : Option Loop} {v : Value} {out : List Int} {W : World} (h : DcI w0 H N ww sx c L r k v out W) (q : Nat) : DcI w0 H N ww sx c L r k v out (W.drewN q) :=
  ⟨h.b0, h.b1, h.b2, h.b3, h.b5, h.b6, h.b7, h.b8, h.buf, h.own, h.len, pw_below_drewN h.below q, h.dec⟩
theorem DcI.bad {w0 : World} {H N ww sx c k : Nat} {L : List Int} {r : Loop} {v : Value} {out : List Int} {W : World} (h : DcI w0 H N ww sx c L (some r) k v out W) (hw0 : w0.heap.size = H) :
    ((W.setCell ⟨H + 1, 0, none⟩ (.string ⟨#[]⟩)).setCell ⟨H + 1 + 1, 0, none⟩ (.bool false)).heap[H + 8]? = some (.loop r) ∧
    ((W.setCell ⟨H + 1, 0, none⟩ (.string ⟨#[]⟩)).setCell ⟨H + 1 + 1, 0, none⟩ (.bool false)).heap[H + 1]? = some (.cells #[.string ⟨#[]⟩] 9 (0, 0)) ∧
    ((W.setCell ⟨H + 1, 0, none⟩ (.string ⟨#[]⟩)).setCell ⟨H + 1 + 1, 0, none⟩ (.bool false)).heap[H + 1 + 1]? = some (.cells #[.bool false] 4 (0, 0)) ∧
    ((W.setCell ⟨H + 1, 0, none⟩ (.string ⟨#[]⟩)).setCell ⟨H + 1 + 1, 0, none⟩ (.bool false)).heap[H + 7]? = some (.deferred (some [])) ∧
    Below H w0 ((W.setCell ⟨H + 1, 0, none⟩ (.string ⟨#[]⟩)).setCell ⟨H + 1 + 1, 0, none⟩ (.bool false)) := by
  have o1 : ∀ (A : World) (b k : Nat) (u : Value), k ≠ b → (A.setCell ⟨b, 0, none⟩ u).heap[k]? = A.heap[k]? := fun A b k u hk => Below.heap_setCell A ⟨b, 0, none⟩ u k hk
  refine ⟨(o1 _ _ _ _ (by omega)).trans ((o1 _ _ _ _ (by omega)).trans (h.b8 _ rfl)), (o1 _ _ _ _ (by omega)).trans (blk_put (cs := #[.string ⟨#[]⟩]) h.b1 0 _ rfl),
    blk_put (cs := #[.bool false]) ((o1 _ _ _ _ (by omega)).trans h.b2) 0 _ rfl, (o1 _ _ _ _ (by omega)).trans ((o1 _ _ _ _ (by omega)).trans h.b7),
    (h.below.setCell (p := ⟨H + 1, 0, none⟩) (by show H ≤ H + 1; omega) _).setCell (p := ⟨H + 1 + 1, 0, none⟩) (by show H ≤ H + 1 + 1; omega) _⟩
theorem DcI.badEnd {w0 : World} {H N ww sx c k : Nat} {L : List Int} {r rdone : Loop} {v : Value} {out : List Int} {W : World} {Jn : World → Prop} {p : Prop} (h : DcI w0 H N ww sx c L (some r) k v out W) (hw0 : w0.heap.size = H) (hp : p) (hr : ({ r with state := .done, pending := some .ret } : Loop) = rdone) :
    RoundEnd (H + 8) (fun e Z => (e = .returned (.bool true) ∧ Jn Z) ∨ (e = .returned (.bool false) ∧ Z.heap[H + 8]? = some (.loop rdone) ∧ p ∧ Z.heap[H + 1]? = some (.cells #[.string ⟨#[]⟩] 9 (0, 0)) ∧ Z.heap[H + 1 + 1]? = some (.cells #[.bool false] 4 (0, 0)) ∧ Z.heap[H + 7]? = some (.deferred (some [])) ∧ Below H w0 Z)) .ret
      ((W.setCell ⟨H + 1, 0, none⟩ (.string ⟨#[]⟩)).setCell ⟨H + 1 + 1, 0, none⟩ (.bool false)) := by
  obtain ⟨z1, z2, z3, z4, z5⟩ := h.bad hw0
  refine ⟨r, z1, .inr ⟨rfl, ?_⟩⟩
  have zl := (Array.getElem?_eq_some_iff.1 z1).1
  exact ⟨(World.putObj_heap_same zl).trans (by rw [hr]), hp, (World.putObj_heap_other (by omega)).trans z2, (World.putObj_heap_other (by omega)).trans z3, (World.putObj_heap_other (by omega)).trans z4,
    Below.grown (row := some (H + 8)) z5 (grownBy_putObj' _ (H + 8) _) (by have := z5.size; omega) (fun k e => by cases e; omega)⟩
theorem DcI.next {w0 : World} {H N ww sx c k : Nat} {L : List Int} {rb : Loop} {v v' : Value} {out : List Int} {W w1 : World} {x : Int} {o1 : Obj} (h : DcI w0 H N ww sx c L (some rb) k v out W) (hw0 : w0.heap.size = H) (h8 : H + 8 < W.heap.size)
    (hown : w1.ownsRow (H + 9) 5 1 v' (k + 1) (out.map (Value.int .u8) ++ [.int .u8 x])) (hg : (W.alloc o1).grownBy w1 v.ownBlock)
    (hdec : S.decK (baseOf sx) ww (N / ww) L = (S.decK (baseOf sx) ww (N / ww - (k + 1)) (L.drop ((k + 1) * ww))).map ((out ++ [x]) ++ ·)) (r' : Loop) :
    (w1.setCell ⟨H + 1 + 1 + 1, 0, none⟩ v').heap[H + 8]? = some (.loop rb) ∧ DcI w0 H N ww sx c L (some r') (k + 1) v' (out ++ [x]) ((w1.setCell ⟨H + 1 + 1 + 1, 0, none⟩ v').putObj (H + 8) (.loop r')) := by
  have hgb : ∀ j, j < H + 9 → w1.heap[j]? = W.heap[j]? := fun j hj => by
    refine (hg.block j (by rw [World.size_alloc]; omega) ?_).trans (Below.heap_alloc _ _ _ (by omega))
    intro e
    have := (h.own.lt j e.symm).1
    omega
  have o1 : ∀ (A : World) (b k : Nat) (u : Value), k ≠ b → (A.setCell ⟨b, 0, none⟩ u).heap[k]? = A.heap[k]? := fun A b k u hk => Below.heap_setCell A ⟨b, 0, none⟩ u k hk
  have hs1 : W.heap.size < w1.heap.size := by have := hg.size; rw [World.size_alloc] at this; omega
  have hb8 : (w1.setCell ⟨H + 1 + 1 + 1, 0, none⟩ v').heap[H + 8]? = some (.loop rb) := (o1 _ _ _ _ (by omega)).trans ((hgb _ (by omega)).trans (h.b8 _ rfl))
  have zl := (Array.getElem?_eq_some_iff.1 hb8).1
  refine ⟨hb8, ?_⟩
  have hk : ∀ j, j < H + 8 → j ≠ H + 1 + 1 + 1 → ((w1.setCell ⟨H + 1 + 1 + 1, 0, none⟩ v').putObj (H + 8) (.loop r')).heap[j]? = W.heap[j]? := fun j hj hn =>
    (World.putObj_heap_other (by omega)).trans ((o1 _ _ _ _ hn).trans (hgb j (by omega)))
  have hgs : w1.grownBy (w1.setCell ⟨H + 1 + 1 + 1, 0, none⟩ v') (some (H + 1 + 1 + 1)) := ⟨rfl, rfl, rfl, by simp [World.setCell], fun k _ hk => o1 _ _ _ _ (fun e => hk (by rw [e]))⟩
  have hne : ∀ b, b < H + 9 → v'.ownBlock = none ∨ v'.ownBlock ≠ some b := fun b hb => by
    rcases hv : v'.ownBlock with _ | g
    · exact .inl rfl
    · have := (hown.lt g hv).1
      exact .inr (by intro e; cases e; omega)
  have hB1 : Below H w0 w1 := (h.below.alloc (by have := h.below.size; omega) _).grown hg (by have := h.below.size; rw [World.size_alloc]; omega) (fun k e => by have := (h.own.lt k e).1; omega)
  refine ⟨(hk _ (by omega) (by omega)).trans h.b0, (hk _ (by omega) (by omega)).trans h.b1, (hk _ (by omega) (by omega)).trans h.b2, ?_, (hk _ (by omega) (by omega)).trans h.b5, (hk _ (by omega) (by omega)).trans h.b6, (hk _ (by omega) (by omega)).trans h.b7, fun r2 e => ?_, h.buf.blk (hk _ (by omega) (by omega)), ?_, ?_, ?_, hdec⟩
  · exact (World.putObj_heap_other (by omega)).trans (blk_put (cs := #[v]) ((hgb _ (by omega)).trans h.b3) 0 _ rfl)
  · cases e; exact World.putObj_heap_same zl
  · rw [List.map_append]
    exact (hown.kept hgs (hne _ (by omega))).kept (grownBy_putObj' _ (H + 8) _) (hne _ (by omega))
  · rw [List.length_append, h.len]; rfl
  · refine Below.grown (row := some (H + 8)) ?_ (grownBy_putObj' _ (H + 8) _) (by have := hB1.size; simp [World.setCell]; omega) (fun k e => by cases e; omega)
    exact hB1.setCell (p := ⟨H + 1 + 1 + 1, 0, none⟩) (by show H ≤ H + 1 + 1 + 1; omega) _
def dval (y : Int) : Int := Lib.indexByte [48, 49, 50, 51, 52, 53, 54, 55, 56, 57, 97, 98, 99, 100, 101, 102] (bits .or .u8 y 32).toNat.toUInt8
theorem dval_spec (y : Int) (h0 : 0 ≤ y) (h1 : y < 256) : -1 ≤ dval y ∧ dval y ≤ 15 ∧ (S.dig y = true → 0 ≤ dval y ∧ S.hexv y = dval y) ∧ (S.dig y = false → y < 65 → S.hexv y < 0) ∧ (S.dig y = false → ¬ y < 65 → (dval y < 0 → S.hexv y < 0) ∧ (0 ≤ dval y → S.hexv y = dval y)) :=
  byte_all (fun y => -1 ≤ dval y ∧ dval y ≤ 15 ∧ (S.dig y = true → 0 ≤ dval y ∧ S.hexv y = dval y) ∧ (S.dig y = false → y < 65 → S.hexv y < 0) ∧ (S.dig y = false → ¬ y < 65 → (dval y < 0 → S.hexv y < 0) ∧ (0 ≤ dval y → S.hexv y = dval y))) (by decide +kernel) y h0 h1
theorem dval_f (y : Int) : strings_IndexByte.f ⟨#[48, 49, 50, 51, 52, 53, 54, 55, 56, 57, 97, 98, 99, 100, 101, 102]⟩ (bits .or .u8 y 32) = some (dval y) := rfl
theorem litDec_eq (L : List Int) (sx ww : Nat) (hsx : (sx = 4 ∧ ww = 2) ∨ (sx = 1 ∧ ww = 8)) (hm : L.length % ww = 0) : S.litDec L sx = S.decK (baseOf sx) ww (L.length / ww) L := by
  rcases hsx with ⟨rfl, rfl⟩ | ⟨rfl, rfl⟩ <;> simp [S.litDec, S.decode, baseOf, hm]
theorem or_add (sx : Nat) (hsx : sx = 4 ∨ sx = 1) (na dv : Int) (h0 : 0 ≤ na) (h1 : na < 256) (hd0 : 0 ≤ dv) (hd1 : dv < baseOf sx) : bits .or .i64 (wrap64 (na * 2 ^ sx)) dv = na * baseOf sx + dv := by
  have hw : ∀ n : Int, 0 ≤ n → n < 2 ^ 62 → IntKind.i64.wrap n = n := fun n h0 h1 => w64 n (by omega) (by omega)
  rcases hsx with rfl | rfl
  · have e1 : wrap64 (na * 2 ^ 4) = na * 16 := by unfold wrap64; omega
    have e2 : baseOf 4 = 16 := rfl
    rw [e2] at hd1
    rw [e1, e2]
    exact bits_join .i64 62 (by decide) hw 4 (na * 16) dv (by omega) (by omega) (by omega) hd0 (by omega) (by omega)
  · have e1 : wrap64 (na * 2 ^ 1) = na * 2 := by unfold wrap64; omega
    have e2 : baseOf 1 = 2 := rfl
    rw [e2] at hd1
    rw [e1, e2]
    exact bits_join .i64 62 (by decide) hw 1 (na * 2) dv (by omega) (by omega) (by omega) hd0 (by omega) (by omega)
set_option maxRecDepth 100000 in
set_option maxHeartbeats 4000000 in
theorem scan_decode.calls (a0 : ByteArray) (sx ww : Nat) (hsx : (sx = 4 ∧ ww = 2) ∨ (sx = 1 ∧ ww = 8)) (ha : a0.size ≤ 100000) (w : World) :
    Calls Tryz.prog 109 #[.string a0, .int .i64 sx] w fun e w' => e = .returned (.tuple #[.string (strOfNums ((S.litDec (bytesOf a0) sx).getD [])), .bool (S.litDec (bytesOf a0) sx).isSome]) ∧ Below w.heap.size w w' := by
  obtain ⟨n, hn⟩ : ∃ n, a0.size = n := ⟨_, rfl⟩
  have hq : Int.tdiv 8 (sx : Int) = (ww : Int) := by rcases hsx with ⟨rfl, rfl⟩ | ⟨rfl, rfl⟩ <;> rfl
  have hs0 : ((sx : Int) == 0) = false := by rcases hsx with ⟨rfl, rfl⟩ | ⟨rfl, rfl⟩ <;> rfl
  have hm : Int.tmod (n : Int) (ww : Int) = ((n % ww : Nat) : Int) := rfl
  by_cases hmod : n % ww = 0
  · have g1 : (((n % ww : Nat) : Int) != 0) = false := by rw [hmod]; rfl
    have g2 : ((ww : Int) == 0) = false := by rcases hsx with ⟨rfl, rfl⟩ | ⟨rfl, rfl⟩ <;> rfl
    have kb := fun W => print_bytes (P := Tryz.prog) 9 100 5 Tryz.underlying9 Tryz.underlying100 Tryz.underlying5 a0 W
    rw [hn] at kb
    have HG := Lib.hid (fun v hv W => groups.calls v hv ww W)
    refine (callsIn_wide (n := 8)).1 ?_
    refine callsIn_of_wp_marks Tryz.func109 rfl trivial ?_ rfl
    simp only [Tryz.ntmps109, List.size_toArray, List.length_cons, List.length_nil, Nat.reduceAdd, Nat.reduceSub, Array.replicate_succ, Array.replicate_zero, List.push_toArray, List.append_toArray, List.nil_append, List.cons_append]
    have hf1 : Fence.wide.fn 133 := trivial
    gi_wp2_with (gi_at_call 133; refine (callsIn_wide.2 (HG.out _ ⟨_, _, _, rfl⟩ _)).mono ?_; rintro e w' ⟨rfl, rfl⟩)
    generalize hU : (((w.alloc _).alloc _).alloc _).alloc _ = U
    have hUs : U.heap.size = w.heap.size + 1 + 1 + 1 + 1 := by rw [← hU]; simp
    have hUb : Below w.heap.size w U := by rw [← hU]; exact below_alloc (below_alloc (below_alloc (below_alloc (Below.refl _ _) _) _) _) _
    have u0 : U.heap[w.heap.size]? = some (.cells #[.int .i64 sx] 3 (0, 0)) := by
      rw [← hU]; exact (Below.heap_alloc _ _ _ (by simp <;> omega)).trans ((Below.heap_alloc _ _ _ (by simp <;> omega)).trans ((Below.heap_alloc _ _ _ (by simp)).trans (heap_alloc_new w _)))
    have u1 : U.heap[w.heap.size + 1]? = some (.cells #[.string ⟨#[]⟩] 9 (0, 0)) := by
      rw [← hU]; refine (Below.heap_alloc _ _ _ (by simp <;> omega)).trans ((Below.heap_alloc _ _ _ (by simp)).trans ?_)
      have := heap_alloc_new (w.alloc (.cells #[.int .i64 sx] 3)) (.cells #[.string ⟨#[]⟩] 9)
      rwa [World.size_alloc] at this
    have u2 : U.heap[w.heap.size + 1 + 1]? = some (.cells #[.bool false] 4 (0, 0)) := by
      rw [← hU]; refine (Below.heap_alloc _ _ _ (by simp)).trans ?_
      have := heap_alloc_new ((w.alloc (.cells #[.int .i64 sx] 3)).alloc (.cells #[.string ⟨#[]⟩] 9)) (.cells #[.bool false] 4)
      rwa [World.size_alloc, World.size_alloc] at this
    have u3 : U.heap[w.heap.size + 1 + 1 + 1]? = some (.cells #[.slice none 0 0] 100 (0, 0)) := by
      rw [← hU]
      have := heap_alloc_new (((w.alloc (.cells #[.int .i64 sx] 3)).alloc (.cells #[.string ⟨#[]⟩] 9)).alloc (.cells #[.bool false] 4)) (.cells #[.slice none 0 0] 100)
      rwa [World.size_alloc, World.size_alloc, World.size_alloc] at this
    clear hU
    generalize hc : grownCap U n 0 5 = c
    have hcn : n ≤ c := by rw [← hc]; exact grownCap_ge U n 0 5
    have hcm : c ≤ 9223372036854775807 := by
      have hm := grownCap_le_maxLen U n 0 5 (by unfold maxLen; omega)
      unfold maxLen at hm
      omega
    have hbw : Below U.heap.size U (Lib.bytesWorld U 5 a0) := bytes_below (Below.refl _ _) (Nat.le_refl _) 5 a0
    have hbuf := Buf.new U a0
    have hbws : (Lib.bytesWorld U 5 a0).heap.size = w.heap.size + 5 := by rw [Lib.bytesWorld_size, hUs]
    rw [hUs] at hbuf
    rw [hbws]
    generalize Lib.bytesWorld U 5 a0 = BW at *
    obtain ⟨V, hV⟩ : ∃ V, (BW.alloc (.cells #[.slice (some ⟨w.heap.size + 1 + 1 + 1 + 1, 0, none⟩) n c] 100)).alloc (.cells #[.int .i64 ww] 3) = V := ⟨_, rfl⟩
    rw [hV]
    have hVs : V.heap.size = w.heap.size + 7 := by rw [← hV]; simp [hbws]
    have hVB : Below (w.heap.size + 5) BW V := by rw [← hV, ← hbws]; exact below_alloc (below_alloc (Below.refl _ _) _) _
    have v5 : V.heap[w.heap.size + 5]? = some (.cells #[.slice (some ⟨w.heap.size + 1 + 1 + 1 + 1, 0, none⟩) n c] 100 (0, 0)) := by
      rw [← hV, ← hbws]
      exact (Below.heap_alloc _ _ _ (by simp)).trans (heap_alloc_new BW _)
    have v6 : V.heap[w.heap.size + 6]? = some (.cells #[.int .i64 ww] 3 (0, 0)) := by
      rw [← hV]
      have := heap_alloc_new (BW.alloc (.cells #[.slice (some ⟨w.heap.size + 1 + 1 + 1 + 1, 0, none⟩) n c] 100)) (.cells #[.int .i64 ww] 3)
      rw [World.size_alloc, hbws] at this
      exact this
    clear hV
    generalize hH : w.heap.size = H at *
    obtain ⟨N, hN⟩ : ∃ N, n / ww = N := ⟨_, rfl⟩
    refine rf_enter (F := Fence.wide) (n := 8) (gf := 154) rfl (by omega) rfl trivial groups_enters
      (fun Z => ∃ v out, DcI w H n ww sx c (bytesOf a0) none (n / ww) v out Z) (fun Z => S.litDec (bytesOf a0) sx = none ∧ Z.heap[H + 1]? = some (.cells #[.string ⟨#[]⟩] 9 (0, 0)) ∧ Z.heap[H + 1 + 1]? = some (.cells #[.bool false] 4 (0, 0)) ∧ Z.heap[H + 7]? = some (.deferred (some [])) ∧ Below H w Z)
      ?hcall ?hready ?hdone
    case hcall =>
      intro fn rd X hfn hrd hXs hXB x7 x8
      rw [hVs] at *
      have hX0 : Below H w X := ((hUb.trans (hbw.mono (by omega))).trans (hVB.mono (by omega))).trans (hXB.mono (by omega))
      have hUX : Below (H + 4) U X := ((hbw.mono (by omega)).trans (hVB.mono (by omega))).trans (hXB.mono (by omega))
      have hI0 : DcI w H n ww sx c (bytesOf a0) (some rd) 0 (.slice none 0 0) [] X :=
        ⟨(hUX.block _ (by omega)).trans u0, (hUX.block _ (by omega)).trans u1, (hUX.block _ (by omega)).trans u2, (hUX.block _ (by omega)).trans u3,
          (hXB.block _ (by omega)).trans v5, (hXB.block _ (by omega)).trans v6, x7, fun r' e => by cases e; exact x8,
          (hbuf.blk (((hVB.mono (by omega : H + 5 ≤ H + 5)).trans (hXB.mono (by omega))).block (H + 1 + 1 + 1 + 1) (by omega))), World.ownsRow_nil _ _ _ _, rfl, hX0, by simp⟩
      have HW2 : 0 < ww ∧ ww ≤ 8 := by rcases hsx with ⟨_, rfl⟩ | ⟨_, rfl⟩ <;> omega
      have hgr := groups_in 7 (by omega) (H + 8) (H + 6) (H + 5) (H + 1 + 1 + 1 + 1) n c ww HW2.1 (by omega) HW2.2 hcn hcm
        (fun k W => ∃ v out, DcI w H n ww sx c (bytesOf a0) (some rd) k v out W)
        (fun Z => Z.heap[H + 8]? = some (.loop { rd with state := .done, pending := some .ret }) ∧ S.litDec (bytesOf a0) sx = none ∧ Z.heap[H + 1]? = some (.cells #[.string ⟨#[]⟩] 9 (0, 0)) ∧ Z.heap[H + 1 + 1]? = some (.cells #[.bool false] 4 (0, 0)) ∧ Z.heap[H + 7]? = some (.deferred (some [])) ∧ Below H w Z)
        (fun k A ⟨v, out, hd⟩ => ⟨(blk_cell hd.b6 0).trans rfl, (blk_cell hd.b5 0).trans rfl⟩) ?hY X ⟨_, _, hI0⟩
      case hY =>
        rintro k W hk ⟨v, out, hd⟩
        refine rf_round (l := H + 8) hrd trivial (hd.b8 _ rfl) rfl ?_
        have HRD := Aside0.mk hrd
        clear hrd
        gi_wp2
        refine ⟨hd.b8 _ rfl, ?_⟩
        have hlt8 : H + 8 < W.heap.size := (Array.getElem?_eq_some_iff.1 (hd.b8 _ rfl)).1
        have HRF : Aside0 (∀ r2 : Loop, r2 = { rd with state := LoopState.busy } → ({ r2 with state := .ready, pending := none } : Loop) = rd ∧ ({ r2 with state := .done, pending := some .ret } : Loop) = { rd with state := .done, pending := some .ret }) := ⟨fun r2 e => by rw [e, HRD.out]; exact ⟨rfl, rfl⟩⟩
        generalize hrb : ({ rd with state := LoopState.busy } : Loop) = rb
        have HRB := Aside0.mk (HRF.out rb hrb.symm)
        have hdB := Aside0.mk (hd.put hH hlt8 rb)
        generalize W.putObj (H + 8) (.loop rb) = WB at *
        clear hrb hd HRF HRD
        obtain ⟨o, ho⟩ : ∃ o, k * ww = o := ⟨_, rfl⟩
        have HO := Aside0.mk ho
        have hfit : o + ww ≤ n := by
          have := Nat.mul_le_of_le_div ww (k + 1) n hk
          rw [Nat.add_mul] at this
          omega
        rw [ho]
        clear ho
        have hc0 : WB.cell? ⟨H, 0, none⟩ = some (.int .i64 sx) := (blk_cell hdB.out.b0 0).trans rfl
        obtain ⟨grp, hgrp⟩ : ∃ grp, ((bytesOf a0).drop o).take ww = grp := ⟨_, rfl⟩
        have HG2 := Aside0.mk hgrp
        clear hgrp
        have HBAD : Aside0 (S.decG (baseOf sx) grp 0 = none → S.litDec (bytesOf a0) sx = none) := ⟨fun hnone => by
          rw [litDec_eq _ sx ww hsx (by rw [bytesOf_length, hn]; exact hmod), bytesOf_length, hn, hdB.out.dec]
          obtain ⟨m, hm⟩ : ∃ m, n / ww - k = m + 1 := ⟨n / ww - k - 1, by omega⟩
          rw [hm, HO.out]
          unfold S.decK
          rw [HG2.out, hnone]
          rfl⟩
        gi_wp2
        gi_loopg [9, 11, 12, 27] ww (fun gg s9 _ _ s27 wr => ∃ (j : Nat) (na : Int), j ≤ ww ∧ ww - j ≤ gg ∧ s27 = .int .i64 j ∧ s9 = .int .i64 na ∧ Aside0 (Drawn0 WB wr) ∧ Aside0 (0 ≤ na ∧ na < (baseOf sx) ^ j) ∧ Aside0 (S.decG (baseOf sx) (grp.drop j) na = S.decG (baseOf sx) grp 0))
        case atStart => exact ⟨0, 0, Nat.zero_le _, by omega, rfl, rfl, ⟨.refl _⟩, ⟨Int.le_refl _, by simp⟩, ⟨rfl⟩⟩
        case round =>
          obtain ⟨j, na, hj, hg, rfl, rfl, HW, HNA, HA⟩ := hrel
          obtain ⟨⟨q, hq2⟩⟩ := HW.out
          subst hq2
          have s1 : WB.cell? ⟨H + 1, 0, none⟩ = some (.string ⟨#[]⟩) := (blk_cell hdB.out.b1 0).trans rfl
          have s2 : WB.cell? ⟨H + 1 + 1, 0, none⟩ = some (.bool false) := (blk_cell hdB.out.b2 0).trans rfl
          have t1 : WB.frozen? ⟨H + 1, 0, none⟩ = false := blk_frozen hdB.out.b1 0
          have t2 : WB.frozen? ⟨H + 1 + 1, 0, none⟩ = false := blk_frozen hdB.out.b2 0
          by_cases hlt : j < ww
          · have hltz : (j : Int) < (ww : Int) := by omega
            obtain ⟨y, hy⟩ : ∃ y, (bytesOf a0).getD (o + j) 0 = y := ⟨_, rfl⟩
            have hcell : WB.cell? ⟨H + 1 + 1 + 1 + 1, o + j, none⟩ = some (.int .u8 y) := by
              rw [← hy]
              exact hdB.out.buf.cell (o + j) (by rw [bytesOf_length]; omega)
            have hyr : 0 ≤ y ∧ y < 256 := by rw [← hy]; exact bo_range a0 _ (getD_mem _ _ (by rw [bytesOf_length]; omega))
            have HD2 : Aside0 (grp.drop j = y :: grp.drop (j + 1)) := ⟨by
              have hl : j < grp.length := by rw [← HG2.out, List.length_take, List.length_drop, bytesOf_length]; omega
              rw [drop_at grp j hl]
              congr 1
              rw [← hy, ← HG2.out]
              simp only [List.getD_eq_getElem?_getD]
              rw [List.getElem?_take_of_lt hlt, List.getElem?_drop]⟩
            have HIX := Lib.hid (fun W => strings_IndexByte.calls ⟨#[48, 49, 50, 51, 52, 53, 54, 55, 56, 57, 97, 98, 99, 100, 101, 102]⟩ _ _ W (dval_f y))
            have hDG := fun W => scan_digit.calls y (S.dig y) W (dig_f y)
            obtain ⟨p1, p2, p3, p4, p5⟩ := dval_spec y hyr.1 hyr.2
            have HST : Aside0 (S.decG (baseOf sx) grp 0 = if S.hexv y < 0 ∨ baseOf sx ≤ S.hexv y then none else S.decG (baseOf sx) (grp.drop (j + 1)) (na * baseOf sx + S.hexv y)) := ⟨by rw [← HA.out, HD2.out]; rfl⟩
            have hbs : wrap64 (2 ^ sx) = baseOf sx := by rcases hsx with ⟨rfl, _⟩ | ⟨rfl, _⟩ <;> simp [wrap64, baseOf]
            have hsx' : sx = 4 ∨ sx = 1 := by rcases hsx with ⟨h, _⟩ | ⟨h, _⟩ <;> simp [h]
            have hna : na < 256 := by
              have h1 := HNA.out.2
              have : (baseOf sx) ^ j ≤ 256 := by
                rcases hsx with ⟨rfl, rfl⟩ | ⟨rfl, rfl⟩
                · have : j = 0 ∨ j = 1 := by omega
                  rcases this with rfl | rfl <;> decide
                · have : j = 0 ∨ j = 1 ∨ j = 2 ∨ j = 3 ∨ j = 4 ∨ j = 5 ∨ j = 6 ∨ j = 7 := by omega
                  rcases this with rfl | rfl | rfl | rfl | rfl | rfl | rfl | rfl <;> decide
              omega
            have HNX : Aside0 (∀ dv, 0 ≤ dv → dv < baseOf sx → bits .or .i64 (wrap64 (na * 2 ^ sx)) dv = na * baseOf sx + dv ∧ 0 ≤ na * baseOf sx + dv ∧ na * baseOf sx + dv < (baseOf sx) ^ (j + 1)) := ⟨fun dv h0 h1 => ⟨or_add sx hsx' na dv HNA.out.1 hna h0 h1, by
              have := HNA.out
              have hb0 : 0 ≤ baseOf sx := by rcases hsx' with rfl | rfl <;> decide
              have := Int.mul_nonneg HNA.out.1 hb0
              omega, by
              have h2 : na + 1 ≤ (baseOf sx) ^ j := HNA.out.2
              have hb0 : 0 ≤ baseOf sx := by rcases hsx' with rfl | rfl <;> decide
              have h3 := Int.mul_le_mul_of_nonneg_right h2 hb0
              rw [Int.add_mul, Int.one_mul] at h3
              rw [Int.pow_succ]
              omega⟩⟩
            clear hy hyr
            generalize baseOf sx = bs at *
            obtain ⟨dv, hdv⟩ : ∃ dv, dval y = dv := ⟨_, rfl⟩
            rw [hdv] at HIX p1 p2 p3 p5
            by_cases c1 : S.dig y = true
            · rw [c1] at hDG
              have HDG := Lib.hid hDG
              obtain ⟨k1, k2⟩ := p3 c1
              have g1 : decide (dv < 0) = false := decide_eq_false (by omega)
              by_cases c3 : bs ≤ dv
              · have g2 : decide (bs ≤ dv) = true := decide_eq_true c3
                clear hDG p1 p2 p3 p4 p5 hdv
                gi_wp2_with (first | (refine ⟨trivial, ?_⟩; gi_at_call 93; refine (CallsIn.inRound (H + 8) (callsIn_wide.2 (HIX.out _))).mono ?_; rintro e' w' ⟨rfl, ⟨⟨q1, rfl⟩⟩⟩) | (refine ⟨trivial, ?_⟩; gi_at_call 96; refine (CallsIn.inRound (H + 8) (callsIn_wide.2 (HDG.out _))).mono ?_; rintro e' w' ⟨rfl, ⟨⟨q2, rfl⟩⟩⟩))
                exact (hdB.out.drewN (q + q1 + q2)).badEnd hH (HBAD.out (by rw [HST.out, if_pos (.inr (by omega))])) HRB.out.2
              · have g2 : decide (bs ≤ dv) = false := decide_eq_false c3
                have HHX := Aside0.mk k2
                clear hDG p1 p2 p3 p4 p5 hdv
                gi_wp2_with (first | (refine ⟨trivial, ?_⟩; gi_at_call 93; refine (CallsIn.inRound (H + 8) (callsIn_wide.2 (HIX.out _))).mono ?_; rintro e' w' ⟨rfl, ⟨⟨q1, rfl⟩⟩⟩) | (refine ⟨trivial, ?_⟩; gi_at_call 96; refine (CallsIn.inRound (H + 8) (callsIn_wide.2 (HDG.out _))).mono ?_; rintro e' w' ⟨rfl, ⟨⟨q2, rfl⟩⟩⟩))
                gi_roundg (ww - (j + 1))
                case measure => omega
                case rel =>
                  obtain ⟨k3, k4, k5⟩ := HNX.out dv (by omega) (by omega)
                  refine ⟨j + 1, na * bs + dv, by omega, by omega, by go_num, by rw [k3], ⟨⟨⟨q + q1 + q2, rfl⟩⟩⟩, ⟨⟨k4, k5⟩⟩, ⟨?_⟩⟩
                  rw [HST.out, if_neg (by rw [HHX.out]; omega), HHX.out]
            · have c1' : S.dig y = false := by simpa using c1
              rw [c1'] at hDG
              have HDG := Lib.hid hDG
              by_cases c2 : y < 65
              · have k2 := p4 c1' c2
                have g1 : decide (y < 65) = true := decide_eq_true c2
                clear hDG p1 p2 p3 p4 p5 hdv
                gi_wp2_with (first | (refine ⟨trivial, ?_⟩; gi_at_call 93; refine (CallsIn.inRound (H + 8) (callsIn_wide.2 (HIX.out _))).mono ?_; rintro e' w' ⟨rfl, ⟨⟨q1, rfl⟩⟩⟩) | (refine ⟨trivial, ?_⟩; gi_at_call 96; refine (CallsIn.inRound (H + 8) (callsIn_wide.2 (HDG.out _))).mono ?_; rintro e' w' ⟨rfl, ⟨⟨q2, rfl⟩⟩⟩))
                exact (hdB.out.drewN (q + q1 + q2)).badEnd hH (HBAD.out (by rw [HST.out, if_pos (.inl k2)])) HRB.out.2
              · have g1 : decide (y < 65) = false := decide_eq_false c2
                obtain ⟨k2, k3⟩ := p5 c1' c2
                by_cases c4 : dv < 0
                · have g2 : decide (dv < 0) = true := decide_eq_true c4
                  have k2 := k2 c4
                  clear hDG p1 p2 p3 p4 p5 hdv
                  gi_wp2_with (first | (refine ⟨trivial, ?_⟩; gi_at_call 93; refine (CallsIn.inRound (H + 8) (callsIn_wide.2 (HIX.out _))).mono ?_; rintro e' w' ⟨rfl, ⟨⟨q1, rfl⟩⟩⟩) | (refine ⟨trivial, ?_⟩; gi_at_call 96; refine (CallsIn.inRound (H + 8) (callsIn_wide.2 (HDG.out _))).mono ?_; rintro e' w' ⟨rfl, ⟨⟨q2, rfl⟩⟩⟩))
                  exact (hdB.out.drewN (q + q1 + q2)).badEnd hH (HBAD.out (by rw [HST.out, if_pos (.inl k2)])) HRB.out.2
                · have g2 : decide (dv < 0) = false := decide_eq_false c4
                  have k2 := k3 (by omega)
                  have HHX := Aside0.mk k2
                  by_cases c3 : bs ≤ dv
                  · have g3 : decide (bs ≤ dv) = true := decide_eq_true c3
                    clear hDG p1 p2 p3 p4 p5 hdv
                    gi_wp2_with (first | (refine ⟨trivial, ?_⟩; gi_at_call 93; refine (CallsIn.inRound (H + 8) (callsIn_wide.2 (HIX.out _))).mono ?_; rintro e' w' ⟨rfl, ⟨⟨q1, rfl⟩⟩⟩) | (refine ⟨trivial, ?_⟩; gi_at_call 96; refine (CallsIn.inRound (H + 8) (callsIn_wide.2 (HDG.out _))).mono ?_; rintro e' w' ⟨rfl, ⟨⟨q2, rfl⟩⟩⟩))
                    exact (hdB.out.drewN (q + q1 + q2)).badEnd hH (HBAD.out (by rw [HST.out, if_pos (.inr (by omega))])) HRB.out.2
                  · have g3 : decide (bs ≤ dv) = false := decide_eq_false c3
                    clear hDG p1 p2 p3 p4 p5 hdv
                    gi_wp2_with (first | (refine ⟨trivial, ?_⟩; gi_at_call 93; refine (CallsIn.inRound (H + 8) (callsIn_wide.2 (HIX.out _))).mono ?_; rintro e' w' ⟨rfl, ⟨⟨q1, rfl⟩⟩⟩) | (refine ⟨trivial, ?_⟩; gi_at_call 96; refine (CallsIn.inRound (H + 8) (callsIn_wide.2 (HDG.out _))).mono ?_; rintro e' w' ⟨rfl, ⟨⟨q2, rfl⟩⟩⟩))
                    gi_roundg (ww - (j + 1))
                    case measure => omega
                    case rel =>
                      obtain ⟨k3, k4, k5⟩ := HNX.out dv (by omega) (by omega)
                      refine ⟨j + 1, na * bs + dv, by omega, by omega, by go_num, by rw [k3], ⟨⟨⟨q + q1 + q2, rfl⟩⟩⟩, ⟨⟨k4, k5⟩⟩, ⟨?_⟩⟩
                      rw [HST.out, if_neg (by rw [HHX.out]; omega), HHX.out]
          · have hjw : j = ww := by omega
            have hna : 0 ≤ na ∧ na < 256 := by
              have h1 := HNA.out
              have : (baseOf sx) ^ j = 256 := by
                rw [hjw]
                rcases hsx with ⟨rfl, rfl⟩ | ⟨rfl, rfl⟩ <;> decide
              omega
            have HRES : Aside0 (S.decG (baseOf sx) grp 0 = some na) := ⟨by
              rw [← HA.out, List.drop_eq_nil_of_le (by rw [← HG2.out, List.length_take]; omega)]
              rfl⟩
            have hcv : IntKind.u8.wrap na = na := wrapU8 na hna.1 hna.2
            have hltz : ¬ (j : Int) < (ww : Int) := by omega
            have hPR := fun W => scan_printable.calls na (S.prn na) W (prn_f na)
            have hdec1 : S.decK (baseOf sx) ww (n / ww - k) ((bytesOf a0).drop o) = if S.prn na = true then (S.decK (baseOf sx) ww (n / ww - (k + 1)) ((bytesOf a0).drop (o + ww))).map (na :: ·) else none := by
              obtain ⟨m, hm⟩ : ∃ m, n / ww - k = m + 1 := ⟨n / ww - k - 1, by omega⟩
              rw [hm, show n / ww - (k + 1) = m by omega]
              conv => { lhs; unfold S.decK }
              rw [HG2.out, HRES.out, List.drop_drop]
            by_cases hpr : S.prn na = true
            · rw [hpr] at hPR
              have HPR := Lib.hid hPR
              rw [if_pos hpr] at hdec1
              have HDEC : Aside0 (S.decK (baseOf sx) ww (n / ww) (bytesOf a0) = (S.decK (baseOf sx) ww (n / ww - (k + 1)) ((bytesOf a0).drop ((k + 1) * ww))).map ((out ++ [na]) ++ ·)) := ⟨by
                rw [hdB.out.dec, HO.out, hdec1, Nat.add_mul, HO.out, Nat.one_mul, Option.map_map]
                congr 1
                funext x
                simp⟩
              obtain ⟨i0, hi, hz0, hz1, hz2⟩ := info_parts (show (Tryz.prog.info? 5).map (fun i => (i.zero, i.size, i.bytes)) = some (some (.int .u8 0), 1, 1) by kernel_rfl)
              have s3 : WB.cell? ⟨H + 1 + 1 + 1, 0, none⟩ = some v := (blk_cell hdB.out.b3 0).trans rfl
              have hkn : k < 1000000 := by
                have := Nat.div_le_self n ww
                omega
              have hWs : H + 9 ≤ WB.heap.size := by
                have := hdB.out.b8 _ rfl
                have := (Array.getElem?_eq_some_iff.1 this).1
                omega
              clear hdec1 hPR
              gi_wp2_with (first | (refine ⟨trivial, ?_⟩; gi_at_call 65; refine (CallsIn.inRound (H + 8) (callsIn_wide.2 (HPR.out _))).mono ?_; rintro e' w' ⟨rfl, ⟨⟨q1, rfl⟩⟩⟩) | (gi_at_builtin; refine wpListIn_append_own _ rfl _ _ 100 rfl (H + 9) 5 i0 (.int .u8 0) 1 1 Tryz.underlying100 hi hz0 hz1 hz2 rfl (by decide) _ k _ rfl ((hdB.out.drewN _).own.alloc _) ⟨WB.heap.size, 0, none⟩ 1 1 [.int .u8 na] rfl rfl (cell_one_new _ _ _) (by simp [Value.oneCell']) (by unfold maxLen; omega) (by omega) (by simp; omega) ?_; intro v' w1 hown' hgrow _; obtain ⟨g', cap', rfl⟩ := ownsRow_succ hown'; have hcb : w1.heap[H + 1 + 1 + 1]? = WB.heap[H + 1 + 1 + 1]? := (hgrow.block _ (by simp; omega) (by intro e; have := (hdB.out.own.lt _ e.symm).1; omega)).trans (Below.heap_alloc _ _ _ (by simp; omega)); have c3 : w1.cell? ⟨H + 1 + 1 + 1, 0, none⟩ = some v := (blk_cell (hcb.trans hdB.out.b3) 0).trans rfl; have f3 := blk_frozen (hcb.trans hdB.out.b3) 0))
              obtain ⟨z1, z2⟩ := DcI.next (x := na) (hdB.out.drewN (q + q1)) hH (by show H + 8 < WB.heap.size; omega) hown' hgrow HDEC.out rd
              exact ⟨rb, z1, .inl ⟨rfl, _, out ++ [na], by rw [HRB.out.1]; exact z2⟩⟩
            · have hpr' : S.prn na = false := by simpa using hpr
              rw [hpr'] at hPR
              have HPR := Lib.hid hPR
              rw [if_neg hpr] at hdec1
              have HNO : Aside0 (S.litDec (bytesOf a0) sx = none) := ⟨by
                rw [litDec_eq _ sx ww hsx (by rw [bytesOf_length, hn]; exact hmod), bytesOf_length, hn, hdB.out.dec, HO.out, hdec1]
                rfl⟩
              clear hdec1 hPR
              gi_wp2_with (refine ⟨trivial, ?_⟩; gi_at_call 65; refine (CallsIn.inRound (H + 8) (callsIn_wide.2 (HPR.out _))).mono ?_; rintro e' w' ⟨rfl, ⟨⟨q1, rfl⟩⟩⟩)
              exact (hdB.out.drewN (q + q1)).badEnd hH HNO.out HRB.out.2
      refine hgr.mono ?_
      rintro e Z ⟨hv, ⟨v, out, hd⟩ | ⟨j1, j2, j3, j4, j5, j6⟩⟩
      · exact ⟨hv, .inl ⟨hd.b8 _ rfl, v, out, ⟨hd.b0, hd.b1, hd.b2, hd.b3, hd.b5, hd.b6, hd.b7, fun r' e => (by cases e), hd.buf, hd.own, hd.len, hd.below, hd.dec⟩⟩⟩
      · exact ⟨hv, .inr ⟨j1, j2, j3, j4, j5, j6⟩⟩
    case hready =>
      rintro Z r hlt ⟨v, out, hd⟩
      rw [hVs] at hlt ⊢
      have hl : S.litDec (bytesOf a0) sx = some out := by
        rw [litDec_eq _ sx ww hsx (by rw [bytesOf_length, hn]; exact hmod), bytesOf_length, hn, hd.dec, Nat.sub_self]
        simp [S.decK]
      have hk := hd.put hH hlt r
      generalize Z.putObj (H + 8) (.loop r) = Z1 at *
      have c3 : Z1.cell? ⟨H + 1 + 1 + 1, 0, none⟩ = some v := (blk_cell hk.b3 0).trans rfl
      have HK := Aside0.mk hk
      have hconv0 : (convert 100 9 v).run Tryz.prog Z1 = .ok (.string (strOfNums out)) Z1 := own_string (P := Tryz.prog) Tryz.underlying100 Tryz.underlying5 Tryz.underlying9 hk.own
      have s1 : Z1.cell? ⟨H + 1, 0, none⟩ = some (.string ⟨#[]⟩) := (blk_cell hk.b1 0).trans rfl
      have s2 : Z1.cell? ⟨H + 1 + 1, 0, none⟩ = some (.bool false) := (blk_cell hk.b2 0).trans rfl
      have t1 : Z1.frozen? ⟨H + 1, 0, none⟩ = false := blk_frozen hk.b1 0
      have t2 : Z1.frozen? ⟨H + 1 + 1, 0, none⟩ = false := blk_frozen hk.b2 0
      gi_wp2
      have o1 : ∀ (A : World) (b k : Nat) (u : Value), k ≠ b → (A.setCell ⟨b, 0, none⟩ u).heap[k]? = A.heap[k]? := fun A b k u hk => Below.heap_setCell A ⟨b, 0, none⟩ u k hk
      have f1 : ((Z1.setCell ⟨H + 1, 0, none⟩ (.string (strOfNums out))).setCell ⟨H + 1 + 1, 0, none⟩ (.bool true)).heap[H + 1]? = some (.cells #[.string (strOfNums out)] 9 (0, 0)) := (o1 _ _ _ _ (by omega)).trans (blk_put (cs := #[.string ⟨#[]⟩]) HK.out.b1 0 _ rfl)
      have f2 : ((Z1.setCell ⟨H + 1, 0, none⟩ (.string (strOfNums out))).setCell ⟨H + 1 + 1, 0, none⟩ (.bool true)).heap[H + 1 + 1]? = some (.cells #[.bool true] 4 (0, 0)) := blk_put (cs := #[.bool false]) ((o1 _ _ _ _ (by omega)).trans HK.out.b2) 0 _ rfl
      have f7 : ((Z1.setCell ⟨H + 1, 0, none⟩ (.string (strOfNums out))).setCell ⟨H + 1 + 1, 0, none⟩ (.bool true)).heap[H + 7]? = some (.deferred (some [])) := (o1 _ _ _ _ (by omega)).trans ((o1 _ _ _ _ (by omega)).trans HK.out.b7)
      have fb : Below H w ((Z1.setCell ⟨H + 1, 0, none⟩ (.string (strOfNums out))).setCell ⟨H + 1 + 1, 0, none⟩ (.bool true)) := (HK.out.below.setCell (p := ⟨H + 1, 0, none⟩) (by show H ≤ H + 1; omega) _).setCell (p := ⟨H + 1 + 1, 0, none⟩) (by show H ≤ H + 1 + 1; omega) _
      generalize (Z1.setCell ⟨H + 1, 0, none⟩ (.string (strOfNums out))).setCell ⟨H + 1 + 1, 0, none⟩ (.bool true) = Z2 at *
      refine ⟨by simp, .inl ⟨_, _, rfl, run_takeDeferred f7, ?_⟩⟩
      have g1 : (Z2.putObj (H + 7) (.deferred none)).cell? ⟨H + 1, 0, none⟩ = some (.string (strOfNums out)) := (blk_cell ((World.putObj_heap_other (by omega)).trans f1) 0).trans rfl
      have g2 : (Z2.putObj (H + 7) (.deferred none)).cell? ⟨H + 1 + 1, 0, none⟩ = some (.bool true) := (blk_cell ((World.putObj_heap_other (by omega)).trans f2) 0).trans rfl
      refine ⟨_, results_cells2 (fn := Tryz.f109) rfl _ _ _ _ (.string (strOfNums out)) (.bool true) rfl rfl (by simp [go_sem, g1]) (by simp [go_sem, g2]), ?_⟩
      rw [hl]
      exact ⟨rfl, by rw [hH]; exact Below.grown (row := some (H + 7)) fb (grownBy_putObj' _ (H + 7) _) (by have := fb.size; omega) (fun k e => by cases e; omega)⟩
    case hdone =>
      rintro Z r hlt ⟨hno, j1, j2, j3, j4⟩
      rw [hVs] at hlt ⊢
      have f1 : (Z.putObj (H + 8) (.loop r)).heap[H + 1]? = some (.cells #[.string ⟨#[]⟩] 9 (0, 0)) := (World.putObj_heap_other (by omega)).trans j1
      have f2 : (Z.putObj (H + 8) (.loop r)).heap[H + 1 + 1]? = some (.cells #[.bool false] 4 (0, 0)) := (World.putObj_heap_other (by omega)).trans j2
      have f7 : (Z.putObj (H + 8) (.loop r)).heap[H + 7]? = some (.deferred (some [])) := (World.putObj_heap_other (by omega)).trans j3
      have fb : Below H w (Z.putObj (H + 8) (.loop r)) := Below.grown (row := some (H + 8)) j4 (grownBy_putObj' _ (H + 8) _) (by have := j4.size; omega) (fun k e => by cases e; omega)
      generalize Z.putObj (H + 8) (.loop r) = Z2 at *
      gi_wp2
      refine ⟨by simp, .inl ⟨_, _, rfl, run_takeDeferred f7, ?_⟩⟩
      have g1 : (Z2.putObj (H + 7) (.deferred none)).cell? ⟨H + 1, 0, none⟩ = some (.string ⟨#[]⟩) := (blk_cell ((World.putObj_heap_other (by omega)).trans f1) 0).trans rfl
      have g2 : (Z2.putObj (H + 7) (.deferred none)).cell? ⟨H + 1 + 1, 0, none⟩ = some (.bool false) := (blk_cell ((World.putObj_heap_other (by omega)).trans f2) 0).trans rfl
      refine ⟨_, results_cells2 (fn := Tryz.f109) rfl _ _ _ _ (.string ⟨#[]⟩) (.bool false) rfl rfl (by simp [go_sem, g1]) (by simp [go_sem, g2]), ?_⟩
      rw [hno]
      exact ⟨rfl, by rw [hH]; exact Below.grown (row := some (H + 7)) fb (grownBy_putObj' _ (H + 7) _) (by have := fb.size; omega) (fun k e => by cases e; omega)⟩
  · have g1 : (((n % ww : Nat) : Int) != 0) = true := bne_iff_ne.2 (by omega)
    have g2 : ((ww : Int) == 0) = false := by rcases hsx with ⟨rfl, rfl⟩ | ⟨rfl, rfl⟩ <;> rfl
    have hl : S.litDec (bytesOf a0) sx = none := by
      have hln : (bytesOf a0).length = n := by rw [bytesOf_length]; exact hn
      rcases hsx with ⟨rfl, rfl⟩ | ⟨rfl, rfl⟩ <;> simp [S.litDec, S.decode, hln, hmod]
    rw [hl]
    refine (callsIn_wide (n := 8)).1 ?_
    refine callsIn_of_wp_marks Tryz.func109 rfl trivial ?_ rfl
    simp only [Tryz.ntmps109, List.size_toArray, List.length_cons, List.length_nil, Nat.reduceAdd, Nat.reduceSub, Array.replicate_succ, Array.replicate_zero, List.push_toArray, List.append_toArray, List.nil_append, List.cons_append]
    gi_wp2
    have q1 : (((w.alloc (.cells #[.int .i64 sx] 3)).alloc (.cells #[.string ⟨#[]⟩] 9)).alloc (.cells #[.bool false] 4)).heap[w.heap.size + 1]? = some (.cells #[.string ⟨#[]⟩] 9 (0, 0)) := by
      refine (Below.heap_alloc _ _ _ (by simp)).trans ?_
      have := heap_alloc_new (w.alloc (.cells #[.int .i64 sx] 3)) (.cells #[.string ⟨#[]⟩] 9)
      rwa [World.size_alloc] at this
    have q2 : (((w.alloc (.cells #[.int .i64 sx] 3)).alloc (.cells #[.string ⟨#[]⟩] 9)).alloc (.cells #[.bool false] 4)).heap[w.heap.size + 1 + 1]? = some (.cells #[.bool false] 4 (0, 0)) := by
      have := heap_alloc_new ((w.alloc (.cells #[.int .i64 sx] 3)).alloc (.cells #[.string ⟨#[]⟩] 9)) (.cells #[.bool false] 4)
      rwa [World.size_alloc, World.size_alloc] at this
    have qb : Below w.heap.size w (((w.alloc (.cells #[.int .i64 sx] 3)).alloc (.cells #[.string ⟨#[]⟩] 9)).alloc (.cells #[.bool false] 4)) := below_alloc (below_alloc (below_alloc (Below.refl _ _) _) _) _
    have g3 := (blk_cell q1 0)
    have g4 := (blk_cell q2 0)
    generalize ((w.alloc (.cells #[.int .i64 sx] 3)).alloc (.cells #[.string ⟨#[]⟩] 9)).alloc (.cells #[.bool false] 4) = Z at *
    refine ⟨_, results_cells2 (fn := Tryz.f109) rfl _ _ _ _ (.string ⟨#[]⟩) (.bool false) rfl rfl (by simp [go_sem, g3]) (by simp [go_sem, g4]), rfl, qb⟩
end Go.Proofs.YtkkpjonfaflkmaaGreatDoor.T
