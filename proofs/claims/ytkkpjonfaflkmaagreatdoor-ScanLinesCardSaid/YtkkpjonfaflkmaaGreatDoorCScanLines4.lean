/- Part 4 of the proof of ScanLines: the functions that it calls return what their plain descriptions say. -/
import Derived.Test.YtkkpjonfaflkmaaGreatDoorCScanLines3
import Derived.RegionTactic
import Derived.ChangeAlike
import Derived.BigRegion
import Derived.Test.YtkkpjonfaflkmaaGreatDoorCScanLines2
import Derived.StillTail
import Derived.StillTactics
import Derived.OrdersIn
import Derived.TacticsIn
import Derived.RegionIn
import Derived.OwnWalkIn
import Derived.LoopIn
import Derived.TacticsInMore
import Derived.Deep.AppendLies
import Derived.Sort.CutIn
import Derived.RecoverIn
import Derived.Maps.OwnIn

/- The scanner's step returns what S.step says. -/
namespace Go.Proofs.YtkkpjonfaflkmaaGreatDoor.T
set_option linter.unusedSimpArgs false
set_option linter.unusedVariables false
open Go.RowKit Go.Maps Go.Proofs.YtkkpjonfaflkmaaGreatDoorW.PrintWords Go.Proofs.YtkkpjonfaflkmaaGreatDoorW.PrintLast Go.Proofs.YtkkpjonfaflkmaaGreatDoorW.PrintMore

def shC (p q : Nat) : S.CR → S.CR
  | .eof => .eof
  | .done i l b => .done (p + i) (q + l) (if b = 0 then 0 else q + b)
theorem cmt_shift (p q : Nat) : ∀ (xs : List Int) (i d l b : Nat), 0 < l → S.cmt xs (p + i) d (q + l) (if b = 0 then 0 else q + b) = shC p q (S.cmt xs i d l b)
  | [], _, _, _, _, _ => rfl
  | [_], _, _, _, _, _ => rfl
  | c :: e :: t, i, d, l, b, hl => by
    rw [S.cmt, S.cmt]
    by_cases h1 : c = 47 ∧ e = 42
    · rw [if_pos h1, if_pos h1]
      exact cmt_shift p q t (i + 2) (d + 1) l b hl
    · rw [if_neg h1, if_neg h1]
      by_cases h2 : c = 42 ∧ e = 47
      · rw [if_pos h2, if_pos h2]
        by_cases h3 : d = 1
        · rw [if_pos h3, if_pos h3]; rfl
        · rw [if_neg h3, if_neg h3]
          exact cmt_shift p q t (i + 2) (d - 1) l b hl
      · rw [if_neg h2, if_neg h2]
        have e1 : (if c = 10 then q + l + 1 else q + l) = q + (if c = 10 then l + 1 else l) := by split <;> omega
        have e2 : (if c ≠ 10 ∧ S.prn c = false ∧ (if b = 0 then 0 else q + b) = 0 then q + l else if b = 0 then 0 else q + b) = if (if c ≠ 10 ∧ S.prn c = false ∧ b = 0 then l else b) = 0 then 0 else q + (if c ≠ 10 ∧ S.prn c = false ∧ b = 0 then l else b) := by
          by_cases hb : b = 0
          · by_cases hc : c ≠ 10 ∧ S.prn c = false
            · simp only [hb, hc, if_true, true_and, and_self, ne_eq, not_false_eq_true]
              rw [if_neg (by omega)]
            · have hc' : ¬ (c ≠ 10 ∧ S.prn c = false ∧ True) := fun h => hc ⟨h.1, h.2.1⟩
              simp only [hb, if_true]
              rw [if_neg hc', if_neg hc']
              simp
          · have hq : ¬ q + b = 0 := by omega
            simp only [hb, if_false, hq, and_false]
        rw [e1, e2]
        exact cmt_shift p q (e :: t) (i + 1) d _ _ (by split <;> omega)
  termination_by xs => xs.length
/-- The line never falls, and no bad byte stands ahead. -/
theorem cmt_lines : ∀ (xs : List Int) (i d l b : Nat), 0 < l → (b = 0 ∨ 0 < b) → ∀ i' l' b', S.cmt xs i d l b = .done i' l' b' → 0 < l'
  | [], _, _, _, _, _, _ => fun _ _ _ h => by cases h
  | [_], _, _, _, _, _, _ => fun _ _ _ h => by cases h
  | c :: e :: t, i, d, l, b, hl, hb => fun i' l' b' h => by
    rw [S.cmt] at h
    by_cases h1 : c = 47 ∧ e = 42
    · rw [if_pos h1] at h; exact cmt_lines t _ _ l b hl hb _ _ _ h
    · rw [if_neg h1] at h
      by_cases h2 : c = 42 ∧ e = 47
      · rw [if_pos h2] at h
        by_cases h3 : d = 1
        · rw [if_pos h3] at h; cases h; exact hl
        · rw [if_neg h3] at h; exact cmt_lines t _ _ l b hl hb _ _ _ h
      · rw [if_neg h2] at h
        exact cmt_lines (e :: t) _ _ _ _ (by split <;> omega) (by omega) _ _ _ h
  termination_by xs => xs.length
/-- A token as it lies. -/
def tkV (k : Int) (t : ByteArray) (g : Bool) (l a e : Int) : Value := .agg #[.int .i64 k, .string t, .bool g, .int .i64 l, .int .i64 a, .int .i64 e]
def zTk : Array Value := #[.int .i64 0, .string ⟨#[]⟩, .bool false, .int .i64 0, .int .i64 0, .int .i64 0]
def rTk (k : Int) (t : ByteArray) (g : Bool) (l a e : Int) : Array Value := #[.int .i64 k, .string t, .bool g, .int .i64 l, .int .i64 a, .int .i64 e]
/-- Scanner, the result's variable and the token's. -/
structure St (s H : Nat) (src : ByteArray) (i line : Int) (m : Value) (row : Array Value) (w0 W : World) : Prop where
  sc : Sc s src i line m W
  but : But (· = s) w0 W
  res : W.heap[H]? = some (.cells zTk 53 (0, 0))
  tok : W.heap[H + 1]? = some (.cells row 53 (0, 0))
  lt : s < H
  new : w0.heap.size = H
theorem St.zs {s H : Nat} {src : ByteArray} {i line : Int} {m : Value} {row : Array Value} {w0 W : World} (h : St s H src i line m row w0 W) :
    W.cell? ⟨H, 0, none⟩ = some (.int .i64 0) ∧ W.cell? ⟨H, 1, none⟩ = some (.string ⟨#[]⟩) ∧ W.cell? ⟨H, 2, none⟩ = some (.bool false) ∧ W.cell? ⟨H, 3, none⟩ = some (.int .i64 0) ∧ W.cell? ⟨H, 4, none⟩ = some (.int .i64 0) ∧ W.cell? ⟨H, 5, none⟩ = some (.int .i64 0) ∧
    W.frozen? ⟨H, 0, none⟩ = false ∧ W.frozen? ⟨H, 1, none⟩ = false ∧ W.frozen? ⟨H, 2, none⟩ = false ∧ W.frozen? ⟨H, 3, none⟩ = false ∧ W.frozen? ⟨H, 4, none⟩ = false ∧ W.frozen? ⟨H, 5, none⟩ = false :=
  ⟨blk_cell h.res 0, blk_cell h.res 1, blk_cell h.res 2, blk_cell h.res 3, blk_cell h.res 4, blk_cell h.res 5, blk_frozen h.res 0, blk_frozen h.res 1, blk_frozen h.res 2, blk_frozen h.res 3, blk_frozen h.res 4, blk_frozen h.res 5⟩
theorem St.ts {s H : Nat} {src : ByteArray} {i line : Int} {m : Value} {k l a e : Int} {t : ByteArray} {g : Bool} {w0 W : World} (h : St s H src i line m (rTk k t g l a e) w0 W) :
    W.cell? ⟨H + 1, 0, none⟩ = some (.int .i64 k) ∧ W.cell? ⟨H + 1, 1, none⟩ = some (.string t) ∧ W.cell? ⟨H + 1, 2, none⟩ = some (.bool g) ∧ W.cell? ⟨H + 1, 3, none⟩ = some (.int .i64 l) ∧ W.cell? ⟨H + 1, 4, none⟩ = some (.int .i64 a) ∧ W.cell? ⟨H + 1, 5, none⟩ = some (.int .i64 e) ∧
    W.frozen? ⟨H + 1, 0, none⟩ = false ∧ W.frozen? ⟨H + 1, 1, none⟩ = false ∧ W.frozen? ⟨H + 1, 5, none⟩ = false :=
  ⟨blk_cell h.tok 0, blk_cell h.tok 1, blk_cell h.tok 2, blk_cell h.tok 3, blk_cell h.tok 4, blk_cell h.tok 5, blk_frozen h.tok 0, blk_frozen h.tok 1, blk_frozen h.tok 5⟩
theorem St.at1 {s H : Nat} {src : ByteArray} {i line : Int} {m : Value} {row : Array Value} {w0 W : World} (h : St s H src i line m row w0 W) (x : Int) : St s H src x line m row w0 (W.setCell ⟨s, 1, none⟩ (.int .i64 x)) :=
  ⟨h.sc.set1 x, h.but.set _ _ rfl, (Below.heap_setCell W ⟨s, 1, none⟩ _ H (by have := h.lt; show H ≠ s; omega)).trans h.res, (Below.heap_setCell W ⟨s, 1, none⟩ _ (H + 1) (by have := h.lt; show H + 1 ≠ s; omega)).trans h.tok, h.lt, h.new⟩
theorem St.at2 {s H : Nat} {src : ByteArray} {i line : Int} {m : Value} {row : Array Value} {w0 W : World} (h : St s H src i line m row w0 W) (x : Int) : St s H src i x m row w0 (W.setCell ⟨s, 2, none⟩ (.int .i64 x)) :=
  ⟨h.sc.set2 x, h.but.set _ _ rfl, (Below.heap_setCell W ⟨s, 2, none⟩ _ H (by have := h.lt; show H ≠ s; omega)).trans h.res, (Below.heap_setCell W ⟨s, 2, none⟩ _ (H + 1) (by have := h.lt; show H + 1 ≠ s; omega)).trans h.tok, h.lt, h.new⟩
theorem But.set_new {A : Nat → Prop} {w w' : World} (h : But A w w') (a : Addr) (v : Value) (ha : w.heap.size ≤ a.block) : But A w (w'.setCell a v) := by
  have hg : w'.grownBy (w'.setCell a v) (some a.block) := ⟨rfl, rfl, rfl, by simp [World.setCell], fun k _ hk => Below.heap_setCell w' a v k (fun e => hk (by rw [e]))⟩
  exact ⟨hg.os.trans h.os, hg.tape.trans h.tape, hg.output.trans h.output, Nat.le_trans h.size hg.size, fun k hk hn => (hg.block k (Nat.lt_of_lt_of_le hk h.size) (fun e => by cases e; omega)).trans (h.block k hk hn)⟩
theorem St.tk {s H : Nat} {src : ByteArray} {i line : Int} {m : Value} {row row' : Array Value} {w0 W : World} (h : St s H src i line m row w0 W) (j : Nat) (v : Value) (e : row.setIfInBounds j v = row') : St s H src i line m row' w0 (W.setCell ⟨H + 1, j, none⟩ v) :=
  ⟨(Below.heap_setCell W ⟨H + 1, j, none⟩ v s (by have := h.lt; show s ≠ H + 1; omega)).trans h.sc, h.but.set_new _ _ (by have := h.new; show _ ≤ H + 1; omega), (Below.heap_setCell W ⟨H + 1, j, none⟩ v H (by show H ≠ H + 1; omega)).trans h.res, blk_put h.tok j v e, h.lt, h.new⟩
theorem St.drewN {s H : Nat} {src : ByteArray} {i line : Int} {m : Value} {row : Array Value} {w0 W : World} (h : St s H src i line m row w0 W) (q : Nat) : St s H src i line m row w0 (W.drewN q) := ⟨h.sc, h.but.drewN q, h.res, h.tok, h.lt, h.new⟩
theorem St.call {s H : Nat} {src : ByteArray} {i line i' line' : Int} {m : Value} {row : Array Value} {w0 W W' : World} (h : St s H src i line m row w0 W) (hb : But (· = s) W W') (hs : Sc s src i' line' m W') : St s H src i' line' m row w0 W' :=
  ⟨hs, h.but.trans' hb, (hb.block H (blk_lt h.res) (by have := h.lt; show ¬ H = s; omega)).trans h.res, (hb.block (H + 1) (blk_lt h.tok) (by have := h.lt; show ¬ H + 1 = s; omega)).trans h.tok, h.lt, h.new⟩
theorem results_tc {P : Program} {fn : Func} {p q : Tmp} {ty : TypeId} (h : fn.results = #[.tmp p, .cell q ty]) (tmps : Array Value) (w : World) (g : Nat) (t : TypeId) (cs : Array Value) (fr : Nat × Nat) (d : TypeDesc) (u : Value)
    (hp : tmps.getD p undef = u) (hq : tmps.getD q undef = .pointer (some ⟨g, 0, none⟩)) (hg : w.heap[g]? = some (.cells cs t fr))
    (hu : P.underlying ty = some d) (hd : (match d with | .struct _ | .array _ _ => true | _ => false) = true) (hi : (P.info? ty).map (·.size) = some cs.size) :
    (results fn tmps).run P w = .ok (.tuple #[u, .agg cs]) w := by
  have hp' : tmps[p]?.getD undef = u := by simpa using hp
  have hq' : tmps[q]?.getD undef = .pointer (some ⟨g, 0, none⟩) := by simpa using hq
  simp [results, h, hp', hq', asAddr, Sem.run_bind, run_loadVar_row w g t ty cs fr d hg hu hd hi, Result.andThen]
/-- What step leaves. -/
def StepPost (s : Nat) (src : ByteArray) (m : Value) (i line : Nat) (e : Ending) (w' : World) : S.Step → Prop
  | .fin => e = .returned (.tuple #[.int .i64 0, .agg zTk]) ∧ Sc s src i line m w'
  | .line => e = .returned (.tuple #[.int .i64 1, .agg (rTk 0 ⟨#[]⟩ false line i 0)]) ∧ Sc s src ((i + 1 : Nat) : Int) ((line + 1 : Nat) : Int) m w'
  | .blank => e = .returned (.tuple #[.int .i64 2, .agg (rTk 0 ⟨#[]⟩ false line i 0)]) ∧ Sc s src ((i + 1 : Nat) : Int) line m w'
  | .cmt n dl => e = .returned (.tuple #[.int .i64 3, .agg (rTk 0 ⟨#[]⟩ false line i 0)]) ∧ Sc s src ((i + n : Nat) : Int) ((line + dl : Nat) : Int) m w'
  | .tok k t n => e = .returned (.tuple #[.int .i64 4, .agg (rTk k (strOfNums t) false line i ((i + n : Nat) : Int))]) ∧ Sc s src ((i + n : Nat) : Int) line m w'
  | .err c dl => e = Fails c ((line + dl : Nat) : Int) ∧ ∃ i' l' : Nat, Sc s src i' l' m w'
/-- The token's row goes into the result's variable. -/
theorem end_of {s H : Nat} {src : ByteArray} {i line : Int} {m : Value} {w0 W : World} (hsc : Sc s src i line m W) (hbut : But (· = s) w0 W) (hres : W.heap[H]? = some (.cells zTk 53 (0, 0))) (hlt : s < H) (hnew : w0.heap.size = H) (k l a e : Int) (t : ByteArray) (g : Bool) :
    (((((((World.setCell W ⟨H, 0, none⟩ (.int .i64 k)).setCell ⟨H, 1, none⟩ (.string t)).setCell ⟨H, 2, none⟩ (.bool g)).setCell ⟨H, 3, none⟩ (.int .i64 l)).setCell ⟨H, 4, none⟩ (.int .i64 a)).setCell ⟨H, 5, none⟩ (.int .i64 e))).heap[H]? = some (.cells (rTk k t g l a e) 53 (0, 0)) ∧ Sc s src i line m (((((((World.setCell W ⟨H, 0, none⟩ (.int .i64 k)).setCell ⟨H, 1, none⟩ (.string t)).setCell ⟨H, 2, none⟩ (.bool g)).setCell ⟨H, 3, none⟩ (.int .i64 l)).setCell ⟨H, 4, none⟩ (.int .i64 a)).setCell ⟨H, 5, none⟩ (.int .i64 e))) ∧ But (· = s) w0 (((((((World.setCell W ⟨H, 0, none⟩ (.int .i64 k)).setCell ⟨H, 1, none⟩ (.string t)).setCell ⟨H, 2, none⟩ (.bool g)).setCell ⟨H, 3, none⟩ (.int .i64 l)).setCell ⟨H, 4, none⟩ (.int .i64 a)).setCell ⟨H, 5, none⟩ (.int .i64 e))) := by
  have hn : ∀ j, w0.heap.size ≤ (⟨H, j, none⟩ : Addr).block := fun j => by have := hnew; show _ ≤ H; omega
  have ho : ∀ (A : World) (j : Nat) (u : Value), (A.setCell ⟨H, j, none⟩ u).heap[s]? = A.heap[s]? := fun A j u => Below.heap_setCell A ⟨H, j, none⟩ u s (by have := hlt; show s ≠ H; omega)
  refine ⟨?_, ?_, (((((hbut.set_new _ _ (hn 0)).set_new _ _ (hn 1)).set_new _ _ (hn 2)).set_new _ _ (hn 3)).set_new _ _ (hn 4)).set_new _ _ (hn 5)⟩
  · exact blk_put (blk_put (blk_put (blk_put (blk_put (blk_put hres 0 _ rfl) 1 _ rfl) 2 _ rfl) 3 _ rfl) 4 _ rfl) 5 _ rfl
  · unfold Sc
    rw [ho, ho, ho, ho, ho, ho]
    exact hsc
theorem St.end_ {s H : Nat} {src : ByteArray} {i line : Int} {m : Value} {row : Array Value} {w0 W : World} (h : St s H src i line m row w0 W) (k l a e : Int) (t : ByteArray) (g : Bool) :
    (((((((World.setCell W ⟨H, 0, none⟩ (.int .i64 k)).setCell ⟨H, 1, none⟩ (.string t)).setCell ⟨H, 2, none⟩ (.bool g)).setCell ⟨H, 3, none⟩ (.int .i64 l)).setCell ⟨H, 4, none⟩ (.int .i64 a)).setCell ⟨H, 5, none⟩ (.int .i64 e))).heap[H]? = some (.cells (rTk k t g l a e) 53 (0, 0)) ∧ Sc s src i line m (((((((World.setCell W ⟨H, 0, none⟩ (.int .i64 k)).setCell ⟨H, 1, none⟩ (.string t)).setCell ⟨H, 2, none⟩ (.bool g)).setCell ⟨H, 3, none⟩ (.int .i64 l)).setCell ⟨H, 4, none⟩ (.int .i64 a)).setCell ⟨H, 5, none⟩ (.int .i64 e))) ∧ But (· = s) w0 (((((((World.setCell W ⟨H, 0, none⟩ (.int .i64 k)).setCell ⟨H, 1, none⟩ (.string t)).setCell ⟨H, 2, none⟩ (.bool g)).setCell ⟨H, 3, none⟩ (.int .i64 l)).setCell ⟨H, 4, none⟩ (.int .i64 a)).setCell ⟨H, 5, none⟩ (.int .i64 e))) := end_of h.sc h.but h.res h.lt h.new k l a e t g
set_option maxRecDepth 100000 in
set_option maxHeartbeats 4000000 in
theorem scan_step.calls (s : Nat) (src : ByteArray) (i line mb base : Nat) (hd : Int → Value) (D : DataW Unit) (w : World) (hsz : src.size ≤ 100000) (hl : line ≤ 1000000) (hl1 : 0 < line) (hi : i ≤ src.size) (h : ScM s src i line mb base hd D w) :
    Calls Tryz.prog 91 #[.pointer (some ⟨s, 0, none⟩)] w fun e w' => But (· = s) w w' ∧ StepPost s src (.map (some mb)) i line e w' (S.step ((bytesOf src).drop i)) := by
  have HM := Aside0.mk h
  obtain ⟨n, hn⟩ : ∃ n, src.size = n := ⟨_, rfl⟩
  obtain ⟨L, hL⟩ : ∃ L, bytesOf src = L := ⟨_, rfl⟩
  have HN : Aside0 (L.length = n) := ⟨by rw [← hL, bytesOf_length]; exact hn⟩
  obtain ⟨H, hH⟩ : ∃ H, w.heap.size = H := ⟨_, rfl⟩
  have HH := Aside0.mk hH
  have hs : s < H := by rw [← hH]; exact h.sc.lt
  have hu53 := Tryz.underlying53
  rw [hn] at hsz hi
  rw [hL]
  have hs1 := HM.out.sc.below (below_alloc (Below.refl _ _) (.cells #[.int .i64 0, .string ⟨#[]⟩, .bool false, .int .i64 0, .int .i64 0, .int .i64 0] 53))
  have hb1 := (But.refl (· = s) w).alloc (.cells #[.int .i64 0, .string ⟨#[]⟩, .bool false, .int .i64 0, .int .i64 0, .int .i64 0] 53)
  have hr1 := heap_alloc_new w (.cells #[.int .i64 0, .string ⟨#[]⟩, .bool false, .int .i64 0, .int .i64 0, .int .i64 0] 53)
  have hz1 := World.size_alloc w (.cells #[.int .i64 0, .string ⟨#[]⟩, .bool false, .int .i64 0, .int .i64 0, .int .i64 0] 53)
  rw [hH] at hr1 hz1
  have HS1 := Aside0.mk hs1
  have HB1 := Aside0.mk hb1
  have HR1 := Aside0.mk hr1
  have c0 := hs1.c0
  have c1 := hs1.c1
  have c2 := hs1.c2
  clear hs1 hb1 hr1
  go_enter Tryz.func91, Tryz.ntmps91
  go_upto_region 1 with (fail)
  try rw [hH]
  generalize (w.alloc (.cells #[.int .i64 0, .string ⟨#[]⟩, .bool false, .int .i64 0, .int .i64 0, .int .i64 0] 53)) = W1 at *
  by_cases hlt : i < n
  · have h1 : ¬ (n : Int) ≤ (i : Int) := by omega
    have h2 : (i : Int) < (n : Int) := by omega
    have h3 : (0 : Int) ≤ (i : Int) := by omega
    have hbi := nth_byte src i (by omega)
    rw [hL] at hbi
    have hdi := drop_at L i (by rw [HN.out]; omega)
    have hcr : 0 ≤ L.getD i 0 ∧ L.getD i 0 < 256 := bo_range src _ (by rw [hL]; exact getD_mem _ _ (by rw [HN.out]; omega))
    obtain ⟨c, hc⟩ : ∃ c, L.getD i 0 = c := ⟨_, rfl⟩
    rw [hc] at hbi hdi hcr
    have HDI := Aside0.mk hdi
    have HL := Aside0.mk hL
    clear hdi hc hL
    go_quiet (fail)
    go_upto_region 3 with (fail)
    go_region
    have hst : ∀ q, St s H src i line (.map (some mb)) (rTk 0 ⟨#[]⟩ false line i 0) w ((W1.drewN q).alloc (.cells #[.int .i64 0, .string ⟨#[]⟩, .bool false, .int .i64 line, .int .i64 i, .int .i64 0] 53)) := fun q => by
      refine ⟨HS1.out.below (below_alloc (pw_below_drewN (Below.refl _ _) q) _), (HB1.out.drewN q).alloc _, (Below.heap_alloc _ _ _ (by show H < W1.heap.size; omega)).trans HR1.out, ?_, hs, HH.out⟩
      have := heap_alloc_new (W1.drewN q) (.cells #[.int .i64 0, .string ⟨#[]⟩, .bool false, .int .i64 line, .int .i64 i, .int .i64 0] 53)
      rw [show (W1.drewN q).heap.size = H + 1 from hz1] at this
      exact this
    have HST := Aside0.mk (hst (nq + 1))
    clear hst
    generalize (W1.drewN (nq + 1)).alloc (.cells #[.int .i64 0, .string ⟨#[]⟩, .bool false, .int .i64 line, .int .i64 i, .int .i64 0] 53) = W2 at *
    clear c0 c1 c2
    have c0 := HST.out.sc.c0
    have c1 := HST.out.sc.c1
    have c2 := HST.out.sc.c2
    have f1 := HST.out.sc.fr 1
    have f2 := HST.out.sc.fr 2
    go_upto_region 4 with (fail)
    go_quiet (fail)
    obtain ⟨z0, z1, z2, z3, z4, z5, y0, y1, y2, y3, y4, y5⟩ := HST.out.zs
    obtain ⟨t0, t1, t2, t3, t4, t5, x0, x1, x5⟩ := HST.out.ts
    by_cases c10 : c = 10
    · subst c10
      have HX : Aside0 (S.step (L.drop i) = .line) := ⟨by rw [HDI.out]; rfl⟩
      go_upto_region 9 with (fail)
      have HST3 := Aside0.mk (((HST.out.drewN nq).at1 ((i : Int) + 1)).at2 ((line : Int) + 1))
      clear z0 z1 z2 z3 z4 z5 y0 y1 y2 y3 y4 y5 t0 t1 t2 t3 t4 t5 x0 x1 x5
      obtain ⟨z0, z1, z2, z3, z4, z5, y0, y1, y2, y3, y4, y5⟩ := HST3.out.zs
      obtain ⟨t0, t1, t2, t3, t4, t5, x0, x1, x5⟩ := HST3.out.ts
      generalize ((W2.drewN nq).setCell ⟨s, 1, none⟩ (.int .i64 ((i : Int) + 1))).setCell ⟨s, 2, none⟩ (.int .i64 ((line : Int) + 1)) = W3 at *
      have HE := Aside0.mk (HST3.out.end_ 0 line i 0 ⟨#[]⟩ false)
      go_region
      go_wp2
      generalize ((((((World.setCell W3 ⟨H, 0, none⟩ (.int .i64 (0 : Int))).setCell ⟨H, 1, none⟩ (.string (⟨#[]⟩ : ByteArray))).setCell ⟨H, 2, none⟩ (.bool false)).setCell ⟨H, 3, none⟩ (.int .i64 (line : Int))).setCell ⟨H, 4, none⟩ (.int .i64 (i : Int))).setCell ⟨H, 5, none⟩ (.int .i64 (0 : Int))) = Z at *
      refine bodyPost_ret (results_tc (fn := Tryz.f91) rfl _ _ H 53 (rTk 0 ⟨#[]⟩ false line i 0) (0, 0) _ _ rfl rfl HE.out.1 Tryz.underlying53 rfl (by kernel_rfl)) rfl ?_
      rw [HX.out]
      exact ⟨HE.out.2.2.drew, rfl, HE.out.2.1⟩
    have n10 : ¬ (c == 10) = true := by simpa using c10
    have e10 : (c == 10) = false := by simpa using c10
    by_cases c32 : c = 32
    · subst c32
      have HX : Aside0 (S.step (L.drop i) = .blank) := ⟨by rw [HDI.out]; rfl⟩
      go_upto_region 12 with (fail)
      have HST3 := Aside0.mk ((HST.out.drewN nq).at1 ((i : Int) + 1))
      clear z0 z1 z2 z3 z4 z5 y0 y1 y2 y3 y4 y5 t0 t1 t2 t3 t4 t5 x0 x1 x5
      obtain ⟨z0, z1, z2, z3, z4, z5, y0, y1, y2, y3, y4, y5⟩ := HST3.out.zs
      obtain ⟨t0, t1, t2, t3, t4, t5, x0, x1, x5⟩ := HST3.out.ts
      generalize (W2.drewN nq).setCell ⟨s, 1, none⟩ (.int .i64 ((i : Int) + 1)) = W3 at *
      have HE := Aside0.mk (HST3.out.end_ 0 line i 0 ⟨#[]⟩ false)
      go_region
      go_wp2
      generalize ((((((World.setCell W3 ⟨H, 0, none⟩ (.int .i64 (0 : Int))).setCell ⟨H, 1, none⟩ (.string (⟨#[]⟩ : ByteArray))).setCell ⟨H, 2, none⟩ (.bool false)).setCell ⟨H, 3, none⟩ (.int .i64 (line : Int))).setCell ⟨H, 4, none⟩ (.int .i64 (i : Int))).setCell ⟨H, 5, none⟩ (.int .i64 (0 : Int))) = Z at *
      refine bodyPost_ret (results_tc (fn := Tryz.f91) rfl _ _ H 53 (rTk 0 ⟨#[]⟩ false line i 0) (0, 0) _ _ rfl rfl HE.out.1 Tryz.underlying53 rfl (by kernel_rfl)) rfl ?_
      rw [HX.out]
      exact ⟨HE.out.2.2.drew, rfl, HE.out.2.1⟩
    have e32 : (c == 32) = false := by simpa using c32
    have HXR : Aside0 (bytesOf (src.extract i n) = L.drop i) := ⟨by rw [← hn, bytesOf_rest, HL.out]⟩
    obtain ⟨b, hb⟩ : ∃ b, S.starts2 (L.drop i) = b := ⟨_, rfl⟩
    have hz2 : (i : Int) ≤ (n : Int) := by omega
    have HP := Lib.hid (fun W => prefix2.calls (src.extract i n) 47 42 b (by rw [HXR.out, ← hb, S.starts2_eq]; rfl) W)
    have HBB := Aside0.mk hb
    clear hb
    go_upto_region 13 with (fail)
    refine wp_region_cls (fun W => ∃ q, W = W2.drewN q) (by kernel_rfl) (by kernel_rfl) ⟨nq + 1, rfl⟩ ?_
    repeat (go_big_quiet_step ((rename_i q; (go_at_call 123; refine (HP.out _).mono ?_; rintro e w' ⟨rfl, rfl⟩; exact ⟨rfl, q, rfl⟩))))
    refine wpQuiet_nil ?_
    rintro W ⟨q, rfl⟩
    have HST2 := Aside0.mk (HST.out.drewN q)
    clear c0 c1 c2 f1 f2
    clear z0 z1 z2 z3 z4 z5 y0 y1 y2 y3 y4 y5 t0 t1 t2 t3 t4 t5 x0 x1 x5
    generalize W2.drewN q = W4 at *
    have c0 := HST2.out.sc.c0
    have c1 := HST2.out.sc.c1
    have c2 := HST2.out.sc.c2
    obtain ⟨z0, z1, z2, z3, z4, z5, y0, y1, y2, y3, y4, y5⟩ := HST2.out.zs
    obtain ⟨t0, t1, t2, t3, t4, t5, x0, x1, x5⟩ := HST2.out.ts
    cases b with
    | true =>
      have hcm := scan_comment.calls s src (.map (some mb)) i line W4 (by omega) (by omega) (by omega) (by rw [HL.out]; exact HBB.out) HST2.out.sc
      have hsh := cmt_shift i (line - 1) (L.drop i) 0 0 1 0 (by omega)
      rw [show line - 1 + 1 = line by omega] at hsh
      simp only [Nat.add_zero, if_true] at hsh
      rw [HL.out, hsh] at hcm
      have hX : S.step (L.drop i) = S.cmtStep (S.cmt (L.drop i) 0 0 1 0) := by
        have hb0 := HBB.out
        rw [HDI.out] at hb0 ⊢
        simp only [S.step]
        rw [if_neg c10, if_neg c32, if_pos hb0]
      cases hR : S.cmt (L.drop i) 0 0 1 0 with
      | eof =>
        rw [hR] at hcm hX
        have HX : Aside0 (S.step (L.drop i) = .err 6 0) := ⟨hX⟩
        have HCL := Lib.hid hcm
        clear hX hcm hR hsh
        go_wp2_with (go_at_call 124; refine HCL.out.mono ?_; rintro e w3 ⟨hb3, rfl, hs3⟩; unfold Fails)
        refine ⟨rfl, HST2.out.but.trans' hb3, ?_⟩
        rw [HX.out]
        exact ⟨rfl, hs3⟩
      | done i' l' b' =>
        rw [hR] at hcm hX
        have hl' := cmt_lines (L.drop i) 0 0 1 0 (by omega) (by omega) i' l' b' hR
        by_cases hb0 : b' = 0
        · have HX : Aside0 (S.step (L.drop i) = .cmt i' (l' - 1)) := ⟨by rw [hX]; simp only [S.cmtStep]; rw [if_pos hb0]⟩
          simp only [shC, hb0, if_true, CmtPost] at hcm
          obtain ⟨N, hN⟩ : ∃ N, i + i' = N := ⟨_, rfl⟩
          obtain ⟨M, hM⟩ : ∃ M, line - 1 + l' = M := ⟨_, rfl⟩
          rw [hN, hM] at hcm
          have HNN : Aside0 (i + i' = N ∧ line + (l' - 1) = M) := ⟨hN, by omega⟩
          have HCL := Lib.hid hcm
          clear hX hcm hR hsh hN hM
          go_upto_region 15 with (go_at_call 124; refine HCL.out.mono ?_; rintro e w3 ⟨hb3, rfl, hs3⟩)
          have HST3 := Aside0.mk (HST2.out.call hb3 hs3)
          clear z0 z1 z2 z3 z4 z5 y0 y1 y2 y3 y4 y5 t0 t1 t2 t3 t4 t5 x0 x1 x5
          obtain ⟨z0, z1, z2, z3, z4, z5, y0, y1, y2, y3, y4, y5⟩ := HST3.out.zs
          obtain ⟨t0, t1, t2, t3, t4, t5, x0, x1, x5⟩ := HST3.out.ts
          generalize w3 = W3 at *
          have HE := Aside0.mk (HST3.out.end_ 0 line i 0 ⟨#[]⟩ false)
          go_region
          go_wp2
          generalize ((((((World.setCell W3 ⟨H, 0, none⟩ (.int .i64 (0 : Int))).setCell ⟨H, 1, none⟩ (.string (⟨#[]⟩ : ByteArray))).setCell ⟨H, 2, none⟩ (.bool false)).setCell ⟨H, 3, none⟩ (.int .i64 (line : Int))).setCell ⟨H, 4, none⟩ (.int .i64 (i : Int))).setCell ⟨H, 5, none⟩ (.int .i64 (0 : Int))) = Z at *
          refine bodyPost_ret (results_tc (fn := Tryz.f91) rfl _ _ H 53 (rTk 0 ⟨#[]⟩ false line i 0) (0, 0) _ _ rfl rfl HE.out.1 Tryz.underlying53 rfl (by kernel_rfl)) rfl ?_
          rw [HX.out]
          refine ⟨HE.out.2.2.drew, ?_⟩
          simp only [StepPost, HNN.out.1, HNN.out.2]
          exact ⟨rfl, HE.out.2.1⟩
        · have HX : Aside0 (S.step (L.drop i) = .err 13 (b' - 1)) := ⟨by rw [hX]; simp only [S.cmtStep]; rw [if_neg hb0]⟩
          simp only [shC, hb0, if_false, CmtPost] at hcm
          simp only [show ¬ (line - 1 + b' = 0) by omega, if_false] at hcm
          have hbl : line + (b' - 1) = line - 1 + b' := by omega
          have HBL := Aside0.mk hbl
          have HCL := Lib.hid hcm
          clear hX hcm hR hsh hbl
          go_wp2_with (go_at_call 124; refine HCL.out.mono ?_; rintro e w3 ⟨hb3, rfl, hs3⟩; unfold Fails)
          refine ⟨rfl, HST2.out.but.trans' hb3, ?_⟩
          rw [HX.out]
          simp only [StepPost, HBL.out]
          exact ⟨rfl, hs3⟩
    | false =>
      have hb0 := HBB.out
      by_cases hq : c = 39 ∨ c = 34
      · have hql : (c == 39) = true ∨ ((c == 39) = false ∧ (c == 34) = true) := by
          by_cases h39 : c = 39
          · exact .inl (by simpa using h39)
          · exact .inr ⟨by simpa using h39, by simpa using hq.resolve_left h39⟩
        rcases hql with e39 | ⟨e39, e34⟩
        · have hX : S.step (L.drop i) = S.tokStep 2 (S.litTok (L.drop i)) := by
            rw [HDI.out] at hb0 ⊢
            simp only [S.step]
            rw [if_neg c10, if_neg c32, if_neg (by rw [hb0]; exact Bool.false_ne_true), if_pos hq]
          have hcl := scan_literal_m.calls s src (.map (some mb)) i line W4 (by omega) (by omega) (by omega) HST2.out.sc
          rw [HL.out] at hcl
          cases hT : S.litTok (L.drop i) with
          | err c' =>
            rw [hT] at hX hcl
            have HX : Aside0 (S.step (L.drop i) = .err c' 0) := ⟨hX⟩
            have HCL := Lib.hid hcl
            clear hX hcl hT
            go_wp2_with ((go_at_call 70; refine HCL.out.mono ?_; rintro e w3 ⟨hb3, rfl, hs3⟩; unfold Fails))
            refine ⟨rfl, HST2.out.but.trans' hb3, ?_⟩
            rw [HX.out]
            exact ⟨rfl, by obtain ⟨i', h'⟩ := hs3; exact ⟨i', line, h'⟩⟩
          | ok t n' =>
            rw [hT] at hX hcl
            have HX : Aside0 (S.step (L.drop i) = .tok 2 t n') := ⟨hX⟩
            obtain ⟨N, hN⟩ : ∃ N, i + n' = N := ⟨_, rfl⟩
            have HNN := Aside0.mk hN
            simp only [SymPost, hN] at hcl
            have HCL := Lib.hid hcl
            clear hX hcl hT hN
            clear z0 z1 z2 z3 z4 z5 y0 y1 y2 y3 y4 y5 t0 t1 t2 t3 t4 t5 x0 x1 x5
            go_upto_region 21 with ((go_at_call 70; refine HCL.out.mono ?_; rintro e w3 ⟨hb3, rfl, hs3⟩; have HSC := Aside0.mk (HST2.out.call hb3 hs3); have cc1 := HSC.out.sc.c1; obtain ⟨t0, t1, t2, t3, t4, t5, x0, x1, x5⟩ := HSC.out.ts))
            have HST3 : Aside0 (St s H src N line (.map (some mb)) (rTk 2 (strOfNums t) false line i N) w (((w3.setCell ⟨H + 1, 0, none⟩ (.int .i64 2)).setCell ⟨H + 1, 1, none⟩ (.string (strOfNums t))).setCell ⟨H + 1, 5, none⟩ (.int .i64 N))) :=
              ⟨((HSC.out.tk 0 (.int .i64 2) (row' := rTk 2 ⟨#[]⟩ false line i 0) rfl).tk 1 (.string (strOfNums t)) (row' := rTk 2 (strOfNums t) false line i 0) rfl).tk 5 (.int .i64 N) rfl⟩
            clear t0 t1 t2 t3 t4 t5 x0 x1 x5 cc1
            obtain ⟨z0, z1, z2, z3, z4, z5, y0, y1, y2, y3, y4, y5⟩ := HST3.out.zs
            obtain ⟨t0, t1, t2, t3, t4, t5, x0, x1, x5⟩ := HST3.out.ts

            generalize (((w3.setCell ⟨H + 1, 0, none⟩ (.int .i64 2)).setCell ⟨H + 1, 1, none⟩ (.string (strOfNums t))).setCell ⟨H + 1, 5, none⟩ (.int .i64 (N : Int))) = W3 at *
            have HE := Aside0.mk (HST3.out.end_ 2 line i N (strOfNums t) false)
            go_region
            go_wp2
            generalize ((((((World.setCell W3 ⟨H, 0, none⟩ (.int .i64 (2 : Int))).setCell ⟨H, 1, none⟩ (.string (strOfNums t))).setCell ⟨H, 2, none⟩ (.bool false)).setCell ⟨H, 3, none⟩ (.int .i64 (line : Int))).setCell ⟨H, 4, none⟩ (.int .i64 (i : Int))).setCell ⟨H, 5, none⟩ (.int .i64 (N : Int))) = Z at *
            refine bodyPost_ret (results_tc (fn := Tryz.f91) rfl _ _ H 53 (rTk 2 (strOfNums t) false line i N) (0, 0) _ _ rfl rfl HE.out.1 Tryz.underlying53 rfl (by kernel_rfl)) rfl ?_

            rw [HX.out]
            refine ⟨HE.out.2.2.drew, ?_⟩
            simp only [StepPost, HNN.out]
            exact ⟨rfl, HE.out.2.1⟩
        · have hX : S.step (L.drop i) = S.tokStep 2 (S.litTok (L.drop i)) := by
            rw [HDI.out] at hb0 ⊢
            simp only [S.step]
            rw [if_neg c10, if_neg c32, if_neg (by rw [hb0]; exact Bool.false_ne_true), if_pos hq]
          have hcl := scan_literal_m.calls s src (.map (some mb)) i line W4 (by omega) (by omega) (by omega) HST2.out.sc
          rw [HL.out] at hcl
          cases hT : S.litTok (L.drop i) with
          | err c' =>
            rw [hT] at hX hcl
            have HX : Aside0 (S.step (L.drop i) = .err c' 0) := ⟨hX⟩
            have HCL := Lib.hid hcl
            clear hX hcl hT
            go_wp2_with ((go_at_call 70; refine HCL.out.mono ?_; rintro e w3 ⟨hb3, rfl, hs3⟩; unfold Fails))
            refine ⟨rfl, HST2.out.but.trans' hb3, ?_⟩
            rw [HX.out]
            exact ⟨rfl, by obtain ⟨i', h'⟩ := hs3; exact ⟨i', line, h'⟩⟩
          | ok t n' =>
            rw [hT] at hX hcl
            have HX : Aside0 (S.step (L.drop i) = .tok 2 t n') := ⟨hX⟩
            obtain ⟨N, hN⟩ : ∃ N, i + n' = N := ⟨_, rfl⟩
            have HNN := Aside0.mk hN
            simp only [SymPost, hN] at hcl
            have HCL := Lib.hid hcl
            clear hX hcl hT hN
            clear z0 z1 z2 z3 z4 z5 y0 y1 y2 y3 y4 y5 t0 t1 t2 t3 t4 t5 x0 x1 x5
            go_upto_region 21 with ((go_at_call 70; refine HCL.out.mono ?_; rintro e w3 ⟨hb3, rfl, hs3⟩; have HSC := Aside0.mk (HST2.out.call hb3 hs3); have cc1 := HSC.out.sc.c1; obtain ⟨t0, t1, t2, t3, t4, t5, x0, x1, x5⟩ := HSC.out.ts))
            have HST3 : Aside0 (St s H src N line (.map (some mb)) (rTk 2 (strOfNums t) false line i N) w (((w3.setCell ⟨H + 1, 0, none⟩ (.int .i64 2)).setCell ⟨H + 1, 1, none⟩ (.string (strOfNums t))).setCell ⟨H + 1, 5, none⟩ (.int .i64 N))) :=
              ⟨((HSC.out.tk 0 (.int .i64 2) (row' := rTk 2 ⟨#[]⟩ false line i 0) rfl).tk 1 (.string (strOfNums t)) (row' := rTk 2 (strOfNums t) false line i 0) rfl).tk 5 (.int .i64 N) rfl⟩
            clear t0 t1 t2 t3 t4 t5 x0 x1 x5 cc1
            obtain ⟨z0, z1, z2, z3, z4, z5, y0, y1, y2, y3, y4, y5⟩ := HST3.out.zs
            obtain ⟨t0, t1, t2, t3, t4, t5, x0, x1, x5⟩ := HST3.out.ts

            generalize (((w3.setCell ⟨H + 1, 0, none⟩ (.int .i64 2)).setCell ⟨H + 1, 1, none⟩ (.string (strOfNums t))).setCell ⟨H + 1, 5, none⟩ (.int .i64 (N : Int))) = W3 at *
            have HE := Aside0.mk (HST3.out.end_ 2 line i N (strOfNums t) false)
            go_region
            go_wp2
            generalize ((((((World.setCell W3 ⟨H, 0, none⟩ (.int .i64 (2 : Int))).setCell ⟨H, 1, none⟩ (.string (strOfNums t))).setCell ⟨H, 2, none⟩ (.bool false)).setCell ⟨H, 3, none⟩ (.int .i64 (line : Int))).setCell ⟨H, 4, none⟩ (.int .i64 (i : Int))).setCell ⟨H, 5, none⟩ (.int .i64 (N : Int))) = Z at *
            refine bodyPost_ret (results_tc (fn := Tryz.f91) rfl _ _ H 53 (rTk 2 (strOfNums t) false line i N) (0, 0) _ _ rfl rfl HE.out.1 Tryz.underlying53 rfl (by kernel_rfl)) rfl ?_

            rw [HX.out]
            refine ⟨HE.out.2.2.drew, ?_⟩
            simp only [StepPost, HNN.out]
            exact ⟨rfl, HE.out.2.1⟩
      have e39 : (c == 39) = false := by simpa using fun h => hq (.inl h)
      have e34 : (c == 34) = false := by simpa using fun h => hq (.inr h)
      have hsy := fun W => scan_symbolic.calls c (S.sym c) W (sym_f c hcr.1 hcr.2)
      by_cases hsc : S.sym c = true
      · have HSY := Lib.hid hsy
        rw [hsc] at HSY
        clear hsy
        have HST1 := HST2
        clear HST2
        go_upto_region 19 with (go_at_call 55; refine (HSY.out _).mono ?_; rintro e w' ⟨rfl, ⟨⟨q2, rfl⟩⟩⟩)
        have HST2 := Aside0.mk (HST1.out.drewN q2)
        clear HST1 c0 c1 c2 z0 z1 z2 z3 z4 z5 y0 y1 y2 y3 y4 y5 t0 t1 t2 t3 t4 t5 x0 x1 x5
        generalize W4.drewN q2 = W5 at *
        have c0 := HST2.out.sc.c0
        have c1 := HST2.out.sc.c1
        have c2 := HST2.out.sc.c2
        obtain ⟨z0, z1, z2, z3, z4, z5, y0, y1, y2, y3, y4, y5⟩ := HST2.out.zs
        obtain ⟨t0, t1, t2, t3, t4, t5, x0, x1, x5⟩ := HST2.out.ts
        have hX : S.step (L.drop i) = S.tokStep 1 (S.symTok (L.drop i)) := by
          rw [HDI.out] at hb0 ⊢
          simp only [S.step]
          rw [if_neg c10, if_neg c32, if_neg (by rw [hb0]; exact Bool.false_ne_true), if_neg hq, if_pos hsc]
        have hcl := scan_symbol.calls s src (.map (some mb)) i line W5 (by omega) (by omega) (by omega) HST2.out.sc
        rw [HL.out] at hcl
        cases hT : S.symTok (L.drop i) with
        | err c' =>
          rw [hT] at hX hcl
          have HX : Aside0 (S.step (L.drop i) = .err c' 0) := ⟨hX⟩
          have HCL := Lib.hid hcl
          clear hX hcl hT
          go_wp2_with (go_at_call 56; refine HCL.out.mono ?_; rintro e w3 ⟨hb3, rfl, hs3⟩; unfold Fails)
          refine ⟨rfl, HST2.out.but.trans' hb3, ?_⟩
          rw [HX.out]
          exact ⟨rfl, by obtain ⟨i', h'⟩ := hs3; exact ⟨i', line, h'⟩⟩
        | ok t n' =>
          rw [hT] at hX hcl
          have HX : Aside0 (S.step (L.drop i) = .tok 1 t n') := ⟨hX⟩
          obtain ⟨N, hN⟩ : ∃ N, i + n' = N := ⟨_, rfl⟩
          have HNN := Aside0.mk hN
          simp only [SymPost, hN] at hcl
          have HCL := Lib.hid hcl
          clear hX hcl hT hN
          clear z0 z1 z2 z3 z4 z5 y0 y1 y2 y3 y4 y5 t0 t1 t2 t3 t4 t5 x0 x1 x5
          go_upto_region 21 with (go_at_call 56; refine HCL.out.mono ?_; rintro e w3 ⟨hb3, rfl, hs3⟩; have HSC := Aside0.mk (HST2.out.call hb3 hs3); have cc1 := HSC.out.sc.c1; obtain ⟨t0, t1, t2, t3, t4, t5, x0, x1, x5⟩ := HSC.out.ts)
          have HST3 : Aside0 (St s H src N line (.map (some mb)) (rTk 1 (strOfNums t) false line i N) w (((w3.setCell ⟨H + 1, 0, none⟩ (.int .i64 1)).setCell ⟨H + 1, 1, none⟩ (.string (strOfNums t))).setCell ⟨H + 1, 5, none⟩ (.int .i64 N))) :=
            ⟨((HSC.out.tk 0 (.int .i64 1) (row' := rTk 1 ⟨#[]⟩ false line i 0) rfl).tk 1 (.string (strOfNums t)) (row' := rTk 1 (strOfNums t) false line i 0) rfl).tk 5 (.int .i64 N) rfl⟩
          clear t0 t1 t2 t3 t4 t5 x0 x1 x5 cc1
          obtain ⟨z0, z1, z2, z3, z4, z5, y0, y1, y2, y3, y4, y5⟩ := HST3.out.zs
          obtain ⟨t0, t1, t2, t3, t4, t5, x0, x1, x5⟩ := HST3.out.ts

          generalize (((w3.setCell ⟨H + 1, 0, none⟩ (.int .i64 1)).setCell ⟨H + 1, 1, none⟩ (.string (strOfNums t))).setCell ⟨H + 1, 5, none⟩ (.int .i64 (N : Int))) = W3 at *
          have HE := Aside0.mk (HST3.out.end_ 1 line i N (strOfNums t) false)
          go_region
          go_wp2
          generalize ((((((World.setCell W3 ⟨H, 0, none⟩ (.int .i64 (1 : Int))).setCell ⟨H, 1, none⟩ (.string (strOfNums t))).setCell ⟨H, 2, none⟩ (.bool false)).setCell ⟨H, 3, none⟩ (.int .i64 (line : Int))).setCell ⟨H, 4, none⟩ (.int .i64 (i : Int))).setCell ⟨H, 5, none⟩ (.int .i64 (N : Int))) = Z at *
          refine bodyPost_ret (results_tc (fn := Tryz.f91) rfl _ _ H 53 (rTk 1 (strOfNums t) false line i N) (0, 0) _ _ rfl rfl HE.out.1 Tryz.underlying53 rfl (by kernel_rfl)) rfl ?_

          rw [HX.out]
          refine ⟨HE.out.2.2.drew, ?_⟩
          simp only [StepPost, HNN.out]
          exact ⟨rfl, HE.out.2.1⟩
      · have hsf : S.sym c = false := by simpa using hsc
        have HSY := Lib.hid hsy
        rw [hsf] at HSY
        clear hsy
        have HST1 := HST2
        clear HST2
        go_upto_region 5 with (go_at_call 55; refine (HSY.out _).mono ?_; rintro e w' ⟨rfl, ⟨⟨q2, rfl⟩⟩⟩)
        have HST2 := Aside0.mk (HST1.out.drewN q2)
        clear HST1 c0 c1 c2 z0 z1 z2 z3 z4 z5 y0 y1 y2 y3 y4 y5 t0 t1 t2 t3 t4 t5 x0 x1 x5
        generalize W4.drewN q2 = W5 at *
        have c0 := HST2.out.sc.c0
        have c1 := HST2.out.sc.c1
        have c2 := HST2.out.sc.c2
        obtain ⟨z0, z1, z2, z3, z4, z5, y0, y1, y2, y3, y4, y5⟩ := HST2.out.zs
        obtain ⟨t0, t1, t2, t3, t4, t5, x0, x1, x5⟩ := HST2.out.ts
        have hX : S.step (L.drop i) = S.tokStep 3 (S.signTok (L.drop i)) := by
          rw [HDI.out] at hb0 ⊢
          simp only [S.step]
          rw [if_neg c10, if_neg c32, if_neg (by rw [hb0]; exact Bool.false_ne_true), if_neg hq, if_neg hsc]
        have hcl := scan_sign.calls s src i line mb base hd D W5 (by omega) (by omega) (by omega) ⟨HST2.out.sc, HM.out.sg.but HM.out.nm HM.out.nr HST2.out.but, HM.out.nm, HM.out.nr⟩
        rw [HL.out] at hcl
        cases hT : S.signTok (L.drop i) with
        | err c' =>
          rw [hT] at hX hcl
          have HX : Aside0 (S.step (L.drop i) = .err c' 0) := ⟨hX⟩
          have HCL := Lib.hid hcl
          clear hX hcl hT
          go_wp2_with (go_at_call 125; refine HCL.out.mono ?_; rintro e w3 ⟨hb3, rfl, hs3⟩; unfold Fails)
          refine ⟨rfl, HST2.out.but.trans' hb3, ?_⟩
          rw [HX.out]
          exact ⟨rfl, by obtain ⟨i', h'⟩ := hs3; exact ⟨i', line, h'⟩⟩
        | ok t n' =>
          rw [hT] at hX hcl
          have HX : Aside0 (S.step (L.drop i) = .tok 3 t n') := ⟨hX⟩
          obtain ⟨N, hN⟩ : ∃ N, i + n' = N := ⟨_, rfl⟩
          have HNN := Aside0.mk hN
          simp only [SymPost, hN] at hcl
          have HCL := Lib.hid hcl
          clear hX hcl hT hN
          clear z0 z1 z2 z3 z4 z5 y0 y1 y2 y3 y4 y5 t0 t1 t2 t3 t4 t5 x0 x1 x5
          go_upto_region 21 with (go_at_call 125; refine HCL.out.mono ?_; rintro e w3 ⟨hb3, rfl, hs3⟩; have HSC := Aside0.mk (HST2.out.call hb3 hs3); have cc1 := HSC.out.sc.c1; obtain ⟨t0, t1, t2, t3, t4, t5, x0, x1, x5⟩ := HSC.out.ts)
          have HST3 : Aside0 (St s H src N line (.map (some mb)) (rTk 3 (strOfNums t) false line i N) w (((w3.setCell ⟨H + 1, 0, none⟩ (.int .i64 3)).setCell ⟨H + 1, 1, none⟩ (.string (strOfNums t))).setCell ⟨H + 1, 5, none⟩ (.int .i64 N))) :=
            ⟨((HSC.out.tk 0 (.int .i64 3) (row' := rTk 3 ⟨#[]⟩ false line i 0) rfl).tk 1 (.string (strOfNums t)) (row' := rTk 3 (strOfNums t) false line i 0) rfl).tk 5 (.int .i64 N) rfl⟩
          clear t0 t1 t2 t3 t4 t5 x0 x1 x5 cc1
          obtain ⟨z0, z1, z2, z3, z4, z5, y0, y1, y2, y3, y4, y5⟩ := HST3.out.zs
          obtain ⟨t0, t1, t2, t3, t4, t5, x0, x1, x5⟩ := HST3.out.ts

          generalize (((w3.setCell ⟨H + 1, 0, none⟩ (.int .i64 3)).setCell ⟨H + 1, 1, none⟩ (.string (strOfNums t))).setCell ⟨H + 1, 5, none⟩ (.int .i64 (N : Int))) = W3 at *
          have HE := Aside0.mk (HST3.out.end_ 3 line i N (strOfNums t) false)
          go_region
          go_wp2
          generalize ((((((World.setCell W3 ⟨H, 0, none⟩ (.int .i64 (3 : Int))).setCell ⟨H, 1, none⟩ (.string (strOfNums t))).setCell ⟨H, 2, none⟩ (.bool false)).setCell ⟨H, 3, none⟩ (.int .i64 (line : Int))).setCell ⟨H, 4, none⟩ (.int .i64 (i : Int))).setCell ⟨H, 5, none⟩ (.int .i64 (N : Int))) = Z at *
          refine bodyPost_ret (results_tc (fn := Tryz.f91) rfl _ _ H 53 (rTk 3 (strOfNums t) false line i N) (0, 0) _ _ rfl rfl HE.out.1 Tryz.underlying53 rfl (by kernel_rfl)) rfl ?_

          rw [HX.out]
          refine ⟨HE.out.2.2.drew, ?_⟩
          simp only [StepPost, HNN.out]
          exact ⟨rfl, HE.out.2.1⟩
  · have h1 : (n : Int) ≤ (i : Int) := by omega
    obtain ⟨z0, z1, z2, z3, z4, z5⟩ : W1.cell? ⟨H, 0, none⟩ = some (.int .i64 0) ∧ W1.cell? ⟨H, 1, none⟩ = some (.string ⟨#[]⟩) ∧ W1.cell? ⟨H, 2, none⟩ = some (.bool false) ∧ W1.cell? ⟨H, 3, none⟩ = some (.int .i64 0) ∧ W1.cell? ⟨H, 4, none⟩ = some (.int .i64 0) ∧ W1.cell? ⟨H, 5, none⟩ = some (.int .i64 0) :=
      ⟨blk_cell HR1.out 0, blk_cell HR1.out 1, blk_cell HR1.out 2, blk_cell HR1.out 3, blk_cell HR1.out 4, blk_cell HR1.out 5⟩
    obtain ⟨y0, y1, y2, y3, y4, y5⟩ : W1.frozen? ⟨H, 0, none⟩ = false ∧ W1.frozen? ⟨H, 1, none⟩ = false ∧ W1.frozen? ⟨H, 2, none⟩ = false ∧ W1.frozen? ⟨H, 3, none⟩ = false ∧ W1.frozen? ⟨H, 4, none⟩ = false ∧ W1.frozen? ⟨H, 5, none⟩ = false :=
      ⟨blk_frozen HR1.out 0, blk_frozen HR1.out 1, blk_frozen HR1.out 2, blk_frozen HR1.out 3, blk_frozen HR1.out 4, blk_frozen HR1.out 5⟩
    have HX : Aside0 (S.step (L.drop i) = .fin) := ⟨by rw [List.drop_eq_nil_of_le (by rw [HN.out]; omega)]; rfl⟩
    go_quiet (fail)
    have HE := Aside0.mk (end_of (W := W1.drewN nq) (m := .map (some mb)) (src := src) (i := i) (line := line) HS1.out (HB1.out.drewN nq) HR1.out hs HH.out 0 0 0 0 ⟨#[]⟩ false)
    go_wp2
    generalize ((((((World.setCell (W1.drewN nq) ⟨H, 0, none⟩ (.int .i64 (0 : Int))).setCell ⟨H, 1, none⟩ (.string (⟨#[]⟩ : ByteArray))).setCell ⟨H, 2, none⟩ (.bool false)).setCell ⟨H, 3, none⟩ (.int .i64 (0 : Int))).setCell ⟨H, 4, none⟩ (.int .i64 (0 : Int))).setCell ⟨H, 5, none⟩ (.int .i64 (0 : Int))) = Z at *
    refine bodyPost_ret (results_tc (fn := Tryz.f91) rfl _ _ H 53 zTk (0, 0) _ _ rfl rfl HE.out.1 Tryz.underlying53 rfl (by kernel_rfl)) rfl ?_
    rw [HX.out]
    exact ⟨HE.out.2.2, rfl, HE.out.2.1⟩
end Go.Proofs.YtkkpjonfaflkmaaGreatDoor.T

/- A region that draws its order and whose tail is forced, inside the wide fence. -/
namespace Go.Proofs.YtkkpjonfaflkmaaGreatDoor.T
set_option linter.unusedSimpArgs false
set_option linter.unusedVariables false
open Go.RowKit

variable {P : Program} {ops : Array Oper} {md : Region.Mode} {w : World} {k : Nat}

theorem wide_wpIn_of_still {o : Oper} {a : Act} {K : Act → Prop} {K' : Act → World → Prop} {Q' : Exit → Act → World → Prop} (h : ∀ a, K a → K' a w) (hh : o.still P a w K) : o.wpIn Fence.wide k P a w K' Q' := by
  unfold Oper.still at hh
  unfold Oper.wpIn
  refine ⟨fun f _ => trivial, ?_⟩
  rw [show Fence.wide.round = none from rfl, Oper.semAt_none]
  generalize (execOp a.eval o).run P w = r at *
  cases r with
  | ok n w' =>
    cases n <;> simp only [Oper.stillUpon] at hh <;> simp only [Oper.uponIn]
    case enter f args =>
      obtain ⟨rfl, v, hc, hn⟩ := hh
      exact ⟨fun e => (by cases e), (callsIn_wide.2 hc).mono (fun e w'' ⟨he, hw⟩ => by subst he; subst hw; exact h _ hn)⟩
    all_goals (obtain ⟨rfl, h2⟩ := hh; exact h _ h2)
  | halt x w' => simp only [Oper.stillUpon] at hh
theorem wide_wpOpIn_of_stOp {i : Nat} {a : Act} {K : Act → Prop} {K' : Act → World → Prop} {Q' : Exit → Act → World → Prop} (h : ∀ a, K a → K' a w) (hh : stOp P ops w i K a) : wpOpIn Fence.wide k P ops Q' i K' a w := by
  unfold stOp at hh
  unfold wpOpIn
  split
  · rename_i ho; simp only [ho] at hh; exact h _ hh
  · rename_i o ho
    simp only [ho] at hh
    split
    · rename_i hw; simp only [hw, if_true] at hh; exact wide_wpIn_of_still h hh
    · rename_i hw; simp only [hw] at hh; exact ⟨fun f _ => trivial, h _ hh⟩
theorem wide_wpAnyIn_of_head {n g : Nat} {L : Array Bool → Act → Prop} {Q' : Exit → Act → World → Prop} (hL : ∀ listed a, L listed a → wpAnyIn Fence.wide k P md ops Q' g listed a w) :
    ∀ (f : Nat) (listed : Array Bool) (a : Act), wpAnyL P md ops w n L f listed a → wpAnyIn Fence.wide k P md ops Q' (f + g) listed a w
  | 0, listed, a, h => by rw [Nat.zero_add]; exact hL _ _ h
  | f + 1, listed, a, h => by
    rw [show f + 1 + g = (f + g) + 1 by omega]
    exact ⟨fun h0 => absurd h0 h.1, fun i hi => wide_wpOpIn_of_stOp (fun a' h' => wide_wpAnyIn_of_head hL f _ a' h') (h.2 i hi).2⟩
theorem wide_wpAnyIn_of_seq {Q' : Exit → Act → World → Prop} : ∀ (l : List Oper) (m : Nat) (listed : Array Bool) (a : Act) (w : World), (∀ j, l[j]? = ops[m + j]?) →
    Region.seqB md ops l.length m listed = true → wpListIn Fence.wide k P ops Q' l a w → wpAnyIn Fence.wide k P md ops Q' l.length listed a w
  | [], _, _, _, _, _, hB, h => ⟨by simpa [Region.seqB] using hB, h⟩
  | o :: l, m, listed, a, w, hl, hB, h => by
    have h0 : ops[m]? = some o := by simpa using (hl 0).symm
    simp only [List.length_cons, Region.seqB, Bool.and_eq_true, decide_eq_true_eq] at hB
    refine ⟨fun h1 => (by rw [hB.1] at h1; cases h1), fun i hi => ?_⟩
    rw [hB.1] at hi
    have hik : i = m := by simpa using hi
    subst hik
    have hw : wpOpIn Fence.wide k P ops Q' i (wpListIn Fence.wide k P ops Q' l) a w := by unfold wpOpIn; simp only [h0]; exact h
    exact wpOpIn_mono (fun a' w' h' => wide_wpAnyIn_of_seq l (i + 1) _ a' w' (fun j => by have := hl (j + 1); simpa [Nat.add_assoc, Nat.add_comm 1 j] using this) hB.2 h') hw
theorem wide_region_still_tail {id : Nat} {Q : Exit → Act → World → Prop} {a : Act} {w : World} {l : List Oper} (n : Nat) (hm : P.follows .mixedOrders = true) (hB : Region.lexTailB .any l.toArray n = true)
    (h : wpStill P l.toArray w.drew (fun a' => wpListIn Fence.wide k P l.toArray Q (l.drop n) a' w.drew) (l.take n) a) : (Code.region id l.toArray true).wpIn Fence.wide k P Q a w := by
  simp only [Region.lexTailB, Bool.and_eq_true, decide_eq_true_eq] at hB
  obtain ⟨⟨⟨⟨hsel, hn⟩, hs⟩, hc⟩, hlex⟩ := hB
  have hn' : n < l.length := by simpa using hn
  have htl : (l.take n).length = n := by simp; omega
  have hdl : (l.drop n).length = l.toArray.size - n := by simp
  have inv0 : HeadInv .any l.toArray n (Array.replicate l.toArray.size false) :=
    ⟨by simp, fun j oj _ hl => (by rw [getD_replicate_false] at hl; cases hl), fun t _ ht => getD_in (by simpa using ht) (getD_replicate_false _ _)⟩
  have H := wpAnyL_lex (md := .any) (g := l.toArray.size - n) hsel hs hc hn (l.take n) 0 _ a (fun j hj => by
    have hj' : j < n := by rw [htl] at hj; exact hj
    simp [hj']) (by simpa using htl) inv0 (by rw [htl]; exact hlex) h
  refine wpIn_region_any hm ?_
  have := wide_wpAnyIn_of_head (Q' := Q) (k := k) (g := l.toArray.size - n) (fun listed a' hL => by
    have := wide_wpAnyIn_of_seq (md := .any) (Q' := Q) (k := k) (l.drop n) n listed a' w.drew (fun j => by simp [List.getElem?_drop]) (by rw [hdl]; exact hL.1) hL.2
    rwa [hdl] at this) _ _ _ H
  rw [htl, show n + (l.toArray.size - n) = l.toArray.size by omega] at this
  exact this
end Go.Proofs.YtkkpjonfaflkmaaGreatDoor.T

/- clauses: what its caller is asked for, and the closure that ends a clause. -/
namespace Go.Proofs.YtkkpjonfaflkmaaGreatDoor.T
set_option linter.unusedSimpArgs false
set_option linter.unusedVariables false
open Go.RowKit Go.Proofs.YtkkpjonfaflkmaaGreatDoorW.PrintWords Go.Proofs.YtkkpjonfaflkmaaGreatDoorW.PrintLast Go.Proofs.YtkkpjonfaflkmaaGreatDoorW.PrintMore
attribute [local go_sem] Oper.semAt_some

/-- Tokens as they lie. -/
def tkL (t : S.Tk) : List Value := [.int .i64 t.kind, .string (strOfNums t.text), .bool t.gap, .int .i64 t.line, .int .i64 t.at_, .int .i64 t.to]
def tksL (l : List S.Tk) : List Value := (l.map tkL).flatten
theorem tksL_length : ∀ l : List S.Tk, (tksL l).length = l.length * 6
  | [] => rfl
  | t :: l => by
    have := tksL_length l
    simp only [tksL, List.map_cons, List.flatten_cons, List.length_append, List.length_cons] at this ⊢
    rw [this]
    show 6 + _ = _
    omega
theorem tksL_append (a b : List S.Tk) : tksL (a ++ b) = tksL a ++ tksL b := by simp [tksL]
theorem tksL_take (l : List S.Tk) (n : Nat) : (tksL l).take (n * 6) = tksL (l.take n) := by
  induction l generalizing n with
  | nil => simp [tksL]
  | cons t l ih =>
    cases n with
    | zero => simp [tksL]
    | succ n =>
      have := ih n
      simp only [tksL, List.take_succ_cons, List.map_cons, List.flatten_cons] at this ⊢
      rw [← this, List.take_append]
      rw [List.take_of_length_le (by show 6 ≤ _; omega)]
      congr 2
      show (n + 1) * 6 - 6 = n * 6
      omega
theorem tkL_one (t : S.Tk) : ∀ u ∈ tkL t, u.oneCell' = true := by
  intro u hu
  simp [tkL] at hu
  rcases hu with rfl | rfl | rfl | rfl | rfl | rfl <;> rfl

/-- What is asked of the one who ranges over the clauses: pre have been yielded; what is known of its memory lies in F. -/
structure Client (l n : Nat) (J : List (List S.Tk) → (Nat → Prop) → World → Prop) : Prop where
  stable : ∀ {pre F W W'}, J pre F W → But (fun k => ¬ F k) W W' → J pre F W'
  lt : ∀ {pre F W}, J pre F W → ∀ k, F k → k < W.heap.size
  yield : ∀ {pre F W base v cl}, J pre F W → W.ownsRow base 53 6 v cl.length (tksL cl) → cl ≠ [] → (∀ k, F k → v.ownBlock ≠ some k) → pre.flatten.length + cl.length ≤ 300000 →
    YieldAt Fence.wide n Tryz.prog l #[v] W fun e W' => e = .returned (.bool true) ∧ ∃ F', J (pre ++ [cl]) F' W' ∧ But F W W' ∧ ∀ k, F' k → F k ∨ W.heap.size ≤ k ∨ v.ownBlock = some k
/-- The boxes of the iterator: the clause so far, the gap, the yield function. -/
structure Cur (CB GB YB l base : Nat) (v : Value) (cur : List S.Tk) (gap : Bool) (W : World) : Prop where
  cb : W.heap[CB]? = some (.cells #[v] 24 (0, 0))
  gb : W.heap[GB]? = some (.cells #[.bool gap] 4 (0, 0))
  yb : W.heap[YB]? = some (.cells #[.func (.yield l) #[] #[]] 55 (0, 0))
  own : W.ownsRow base 53 6 v cur.length (tksL cur)
  l1 : CB < base
  l2 : GB < base
  l3 : YB < base
  n1 : CB ≠ GB
  n2 : CB ≠ YB
  n3 : GB ≠ YB
  lw : base ≤ W.heap.size
theorem own_but {W W' : World} {base n : Nat} {v : Value} {xs : List Value} {A : Nat → Prop} (h : W.ownsRow base 53 6 v n xs) (hb : But A W W') (hA : ∀ k, A k → v.ownBlock ≠ some k) : W'.ownsRow base 53 6 v n xs := by
  obtain ⟨h1, h2⟩ := h
  refine ⟨h1, h2.imp id ?_⟩
  rintro ⟨g, cap, cur, hv, hbg, hg, rest⟩
  have hlt : g < W.heap.size := (Array.getElem?_eq_some_iff.1 hg).1
  exact ⟨g, cap, cur, hv, hbg, (hb.block g hlt (fun e => hA g e (by rw [hv]; rfl))).trans hg, rest⟩
theorem Cur.but {CB GB YB l base : Nat} {v : Value} {cur : List S.Tk} {gap : Bool} {W W' : World} {A : Nat → Prop} (h : Cur CB GB YB l base v cur gap W) (hb : But A W W') (hA : ∀ k, A k → k ≠ CB ∧ k ≠ GB ∧ k ≠ YB ∧ v.ownBlock ≠ some k) : Cur CB GB YB l base v cur gap W' := by
  have hl := h.lw
  have ha := h.l1
  have hbb := h.l2
  have hc := h.l3
  refine ⟨(hb.block CB (by omega) (fun e => (hA _ e).1 rfl)).trans h.cb, (hb.block GB (by omega) (fun e => (hA _ e).2.1 rfl)).trans h.gb, (hb.block YB (by omega) (fun e => (hA _ e).2.2.1 rfl)).trans h.yb, own_but h.own hb (fun k e => (hA k e).2.2.2), ha, hbb, hc, h.n1, h.n2, h.n3, Nat.le_trans hl hb.size⟩

theorem stepIn_append {n : Nat} {P : Program} {ops : Array Oper} {o : Oper} {a : Act} {w w' : World} {K : Act → World → Prop} {Q : Exit → Act → World → Prop} {E : Prop} (hgd : o.guard = none) (s x : Operand) (t : TypeId)
    (ho : o.op = .call { callee := .builtin .append, args := #[s, x], argTypes := #[t, t] }) (v u v' : Value) (hs : a.eval s = v) (hx : a.eval x = u)
    (hr : (Builtin.append_ #[t, t] o.type #[v, u]).run P w = .ok v' w') (hK : K (a.put o.dst v') w') : if Region.wanted o (yielded ops a.tmps) = true then Oper.wpIn Fence.wide n P o a w K Q else E := by
  have hw : Region.wanted o (yielded ops a.tmps) = true := by simp [Region.wanted, hgd]
  rw [if_pos hw]
  unfold Oper.wpIn
  refine ⟨fun f _ => trivial, ?_⟩
  rw [show Fence.wide.round = none from rfl, Oper.semAt_none]
  unfold execOp
  simp only [ho, resolve, invoke, builtin, Sem.run_bind, Sem.run_pure, Result.andThen_ok, List.map_toArray, List.map_cons, List.map_nil, hs, hx, hr]
  exact hK
set_option maxRecDepth 100000 in
set_option maxHeartbeats 4000000 in
theorem end_in (n : Nat) (hn : 1 ≤ n) {l CB GB YB base : Nat} {J : List (List S.Tk) → (Nat → Prop) → World → Prop} (C : Client l (n - 1) J) (i ti line : Nat) {v : Value} {cur : List S.Tk} {gap : Bool} {pre : List (List S.Tk)} {F : Nat → Prop} (W : World)
    (hC : Cur CB GB YB l base v cur gap W) (hJ : J pre F W) (hF : ∀ k, F k → k ≠ CB ∧ k ≠ GB ∧ k ≠ YB ∧ v.ownBlock ≠ some k) (hlen : pre.flatten.length + cur.length + 1 ≤ 300000) :
    CallsIn Fence.wide n Tryz.prog 90 #[.int .i64 i, .int .i64 ti, .int .i64 line, .pointer (some ⟨CB, 0, none⟩), .pointer (some ⟨GB, 0, none⟩), .pointer (some ⟨YB, 0, none⟩)] W fun e W' =>
      e = .returned (.bool true) ∧ ∃ F', J (pre ++ S.emit cur i ti line) F' W' ∧ Cur CB GB YB l base (.slice none 0 0) [] false W' ∧ But (fun k => F k ∨ k = CB ∨ k = GB ∨ v.ownBlock = some k) W W' ∧ ∀ k, F' k → F k ∨ W.heap.size ≤ k ∨ v.ownBlock = some k := by
  have HC := Aside0.mk hC
  have HJ := Aside0.mk hJ
  have HF := Aside0.mk hF
  obtain ⟨A, cn, cap, hv, hcn⟩ : ∃ A cn cap, v = .slice A cn cap ∧ cur.length = cn := by
    rcases hC.own.2 with ⟨rfl, e2⟩ | ⟨g, cap, cs, rfl, _⟩
    · exact ⟨_, _, _, rfl, e2⟩
    · exact ⟨_, _, _, rfl, rfl⟩
  subst hv
  have c1 : W.cell? ⟨CB, 0, none⟩ = some (.slice A cn cap) := (blk_cell hC.cb 0).trans rfl
  have c2 : W.cell? ⟨GB, 0, none⟩ = some (.bool gap) := (blk_cell hC.gb 0).trans rfl
  have c3 : W.cell? ⟨YB, 0, none⟩ = some (.func (.yield l) #[] #[]) := (blk_cell hC.yb 0).trans rfl
  have f1 := blk_frozen hC.cb 0
  have f2 := blk_frozen hC.gb 0
  have n1 := hC.n1
  have n2 := hC.n2
  have n3 := hC.n3
  have HCN := Aside0.mk hcn
  clear hC hJ hF hcn
  refine callsIn_of_wp Tryz.func90 rfl trivial ?_ rfl
  simp only [Tryz.ntmps90, List.size_toArray, List.length_cons, List.length_nil, Nat.reduceAdd, Nat.reduceSub, Array.replicate_succ, Array.replicate_zero, List.push_toArray, List.append_toArray, List.nil_append, List.cons_append]
  have hb2 : But (fun k => k = CB ∨ k = GB) W ((W.setCell ⟨CB, 0, none⟩ (.slice none 0 0)).setCell ⟨GB, 0, none⟩ (.bool false)) :=
    ((But.refl _ W).set ⟨CB, 0, none⟩ _ (.inl rfl)).set ⟨GB, 0, none⟩ _ (.inr rfl)
  have hj2 : J pre F ((W.setCell ⟨CB, 0, none⟩ (.slice none 0 0)).setCell ⟨GB, 0, none⟩ (.bool false)) :=
    C.stable HJ.out (hb2.mono (fun k _ hk hf => by rcases hk with rfl | rfl; exact (HF.out _ hf).1 rfl; exact (HF.out _ hf).2.1 rfl))
  have hcur2 : Cur CB GB YB l base (.slice none 0 0) [] false ((W.setCell ⟨CB, 0, none⟩ (.slice none 0 0)).setCell ⟨GB, 0, none⟩ (.bool false)) := by
    refine ⟨(Below.heap_setCell _ ⟨GB, 0, none⟩ _ CB n1).trans (blk_put (cs := #[_]) HC.out.cb 0 _ rfl), blk_put (cs := #[_]) ((Below.heap_setCell _ ⟨CB, 0, none⟩ _ GB (fun e => n1 e.symm)).trans HC.out.gb) 0 _ rfl,
      (Below.heap_setCell _ ⟨GB, 0, none⟩ _ YB (fun e => n3 e.symm)).trans ((Below.heap_setCell _ ⟨CB, 0, none⟩ _ YB (fun e => n2 e.symm)).trans HC.out.yb), World.ownsRow_nil _ _ _ _, HC.out.l1, HC.out.l2, HC.out.l3, n1, n2, n3, Nat.le_trans HC.out.lw hb2.size⟩
  have hown2 : ((W.setCell ⟨CB, 0, none⟩ (.slice none 0 0)).setCell ⟨GB, 0, none⟩ (.bool false)).ownsRow base 53 6 (.slice A cn cap) cur.length (tksL cur) := by
    refine own_but HC.out.own hb2 (fun k hk e => ?_)
    have := (HC.out.own.lt k e).1
    have := HC.out.l1
    have := HC.out.l2
    rcases hk with rfl | rfl <;> omega
  have HB2 := Aside0.mk hb2
  have HJ2 := Aside0.mk hj2
  have HCU2 := Aside0.mk hcur2
  have HOW2 := Aside0.mk hown2
  clear hb2 hj2 hcur2 hown2
  by_cases h0 : cn = 0
  · subst h0
    gi_wp2
    go_ret
    have hnil : cur = [] := List.length_eq_zero_iff.1 HCN.out
    refine ⟨rfl, F, ?_, HCU2.out, HB2.out.mono (fun k _ hk => by rcases hk with rfl | rfl; exact .inr (.inl rfl); exact .inr (.inr (.inl rfl))), fun k hk => .inl hk⟩
    rw [hnil]
    simpa [S.emit] using HJ2.out
  · have g0 : ((cn : Int) == 0) = false := beq_eq_false_iff_ne.2 (by omega)
    gi_upto_region 5 with (fail)
    obtain ⟨g, rfl, hg0⟩ : ∃ g, A = some ⟨g, 0, none⟩ ∧ base ≤ g := by
      rcases HOW2.out.2 with ⟨e, e2⟩ | ⟨g, cap', cs, e, hb, _⟩
      · rw [HCN.out] at e2; omega
      · simp only [Value.slice.injEq] at e
        exact ⟨g, e.1, hb⟩
    have c4 : ((W.setCell ⟨CB, 0, none⟩ (.slice none 0 0)).setCell ⟨GB, 0, none⟩ (.bool false)).cell? ⟨YB, 0, none⟩ = some (.func (.yield l) #[] #[]) := (blk_cell HCU2.out.yb 0).trans rfl
    generalize (W.setCell ⟨CB, 0, none⟩ (.slice none 0 0)).setCell ⟨GB, 0, none⟩ (.bool false) = W2 at *
    clear c1 c2 c3 f1 f2
    obtain ⟨H, hH⟩ : ∃ H, W2.heap.size = H := ⟨_, rfl⟩
    obtain ⟨X, hX⟩ : ∃ X, W2.drew.alloc (.cells #[.int .i64 4, .string ⟨#[]⟩, .bool false, .int .i64 line, .int .i64 i, .int .i64 ti] 53) = X := ⟨_, rfl⟩
    obtain ⟨i0, hi, hz0, hz1, hz2⟩ := info_parts (show (Tryz.prog.info? 53).map (fun i => (i.zero, i.size, i.bytes)) = some (some (.agg zTk), 6, 56) by kernel_rfl)
    have hXb : But (fun _ => False) W2 X := by rw [← hX]; exact ((But.refl _ W2).drew).alloc _
    have hXs : X.heap.size = H + 1 := by rw [← hX, ← hH]; exact World.size_alloc _ _
    have hXn : X.heap[H]? = some (.cells #[.int .i64 4, .string ⟨#[]⟩, .bool false, .int .i64 line, .int .i64 i, .int .i64 ti] 53 (0, 0)) := by
      rw [← hX, ← hH]; exact heap_alloc_new W2.drew _
    have hXo : X.ownsRow base 53 6 (.slice (some ⟨g, 0, none⟩) cn cap) cn (tksL cur) := by
      have := own_but HOW2.out hXb (fun k e => e.elim)
      rwa [HCN.out] at this
    have hlw := HCU2.out.lw
    obtain ⟨g', cap', w1, hrun, hown1, hgrow, hat, hlt⟩ := run_append_lies (P := Tryz.prog) X 24 24 base 53 i0 (.agg zTk) 6 56 Tryz.underlying24 hi hz0 hz1 hz2 rfl (by decide) _ cn _ hXo
      ⟨H, 0, none⟩ 1 1 (tkL (S.endTk i ti line)) rfl (fun j u hu => by
        rw [add_plain, blk_cell hXn j]
        have e : (#[.int .i64 4, .string ⟨#[]⟩, .bool false, .int .i64 line, .int .i64 i, .int .i64 ti] : Array Value) = (tkL (S.endTk i ti line)).toArray := rfl
        rw [e]; simpa using hu) (tkL_one _) (by decide) (by unfold maxLen; have := HCN.out; omega) (by have := HCN.out; omega) (by omega) (H + 1) hXs
    have hbX : But (fun k => k = g) X w1 := ⟨hgrow.os, hgrow.tape, hgrow.output, hgrow.size, fun k hk hn => hgrow.block k hk (by intro e; simp [Value.ownBlock] at e; exact hn e)⟩
    have hb21 : But (fun k => k = g) W2 w1 := hXb.trans hbX (fun k _ e => e.elim) (fun k _ e => e)
    have hj1 : J pre F w1 := C.stable HJ2.out (hb21.mono (fun k _ e hf => (HF.out k hf).2.2.2 (by rw [e]; rfl)))
    have hcl : (cur ++ [S.endTk i ti line]).length = cn + 1 := by rw [List.length_append, HCN.out]; rfl
    have hown2 : w1.ownsRow base 53 6 (.slice (some ⟨g', 0, none⟩) (cn + 1) cap') (cur ++ [S.endTk i ti line]).length (tksL (cur ++ [S.endTk i ti line])) := by
      rw [hcl, tksL_append]
      have : tksL [S.endTk i ti line] = tkL (S.endTk i ti line) := by simp [tksL]
      rw [this]; exact hown1
    have hg' : ∀ k, F k → (Value.slice (some ⟨g', 0, none⟩) (cn + 1) cap').ownBlock ≠ some k := fun k hk e => by
      have e' : g' = k := by simpa [Value.ownBlock] using e
      rcases hat with h | h
      · exact (HF.out k hk).2.2.2 (by rw [h, e'])
      · have := C.lt HJ2.out k hk
        omega
    have hY := C.yield hj1 hown2 (by simp) hg' (by rw [hcl]; have := HCN.out; omega)
    obtain ⟨fn, tmps, assign, body, hy, hR⟩ := hY
    have HR := Lib.hid hR
    have HFIN : Aside0 (∀ F' W3, J (pre ++ [cur ++ [S.endTk i ti line]]) F' W3 → But F w1 W3 → (∀ k, F' k → F k ∨ w1.heap.size ≤ k ∨ (Value.slice (some ⟨g', 0, none⟩) (cn + 1) cap').ownBlock = some k) →
        ∃ F', J (pre ++ S.emit cur i ti line) F' W3 ∧ Cur CB GB YB l base (.slice none 0 0) [] false W3 ∧ But (fun k => F k ∨ k = CB ∨ k = GB ∨ (Value.slice (some ⟨g, 0, none⟩) cn cap).ownBlock = some k) W W3 ∧ ∀ k, F' k → F k ∨ W.heap.size ≤ k ∨ (Value.slice (some ⟨g, 0, none⟩) cn cap).ownBlock = some k) := ⟨fun F' W3 hj3 hb3 hf3 => by
      have hne : cur ≠ [] := fun e => by rw [e] at HCN; have := HCN.out; simp at this; omega
      have he : S.emit cur i ti line = [cur ++ [S.endTk i ti line]] := by unfold S.emit; rw [if_neg hne]
      have hl1 := HCU2.out.l1
      have hl2 := HCU2.out.l2
      have hl3 := HCU2.out.l3
      refine ⟨F', by rw [he]; exact hj3, ?_, ?_, ?_⟩
      · refine HCU2.out.but (hb21.trans hb3 (C := fun k => k = g ∨ F k) (fun k _ e => .inl e) (fun k _ e => .inr e)) (fun k hk => ?_)
        rcases hk with rfl | hk
        · exact ⟨by omega, by omega, by omega, by simp [Value.ownBlock]⟩
        · obtain ⟨q1, q2, q3, _⟩ := HF.out k hk
          exact ⟨q1, q2, q3, by simp [Value.ownBlock]⟩
      · refine HB2.out.trans (hb21.trans hb3 (C := fun k => k = g ∨ F k) (fun k _ e => .inl e) (fun k _ e => .inr e)) (fun k _ hk => ?_) (fun k _ hk => ?_)
        · rcases hk with rfl | rfl
          · exact .inr (.inl rfl)
          · exact .inr (.inr (.inl rfl))
        · rcases hk with rfl | hk
          · exact .inr (.inr (.inr rfl))
          · exact .inl hk
      · intro k hk
        have hs2 := HB2.out.size
        have hs1 := hb21.size
        rcases hf3 k hk with h | h | h
        · exact .inl h
        · exact .inr (.inl (by omega))
        · have e' : g' = k := by simpa [Value.ownBlock] using h
          rcases hat with h | h
          · exact .inr (.inr (by rw [h, e']))
          · exact .inr (.inl (by omega))⟩
    have HAT := Aside0.mk hat
    have HB21 := Aside0.mk hb21
    have HHH := Aside0.mk hH
    clear hR hown1 hown2 hgrow hbX hb21 hj1 hat hg' hXn hXo
    have hyX : X.cell? ⟨YB, 0, none⟩ = some (.func (.yield l) #[] #[]) := (blk_cell ((hXb.block YB (by have := HCU2.out.l3; omega) (fun e => e)).trans HCU2.out.yb) 0).trans rfl
    have hyw : w1.cell? ⟨YB, 0, none⟩ = some (.func (.yield l) #[] #[]) := (blk_cell ((HB21.out.block YB (by have := HCU2.out.l3; omega) (fun e => by have := HCU2.out.l3; omega)).trans HCU2.out.yb) 0).trans rfl
    clear hXb
    refine wpIn_region_any (by kernel_rfl) ?_
    change wpAnyIn _ _ _ _ _ _ _ _ _ (World.drew W2)
    refine wpAnyIn_take (i := 1) (v := (.slice (some ⟨g, 0, none⟩) cn cap)) rfl rfl (by kernel_rfl) (by kernel_rfl) (by kernel_rfl) (fun _ _ _ h => h) ⟨Or.inl ⟨by rfl, by intro w; go_simp⟩, fun _ => rfl⟩ ?_
    refine wpAnyIn_take (i := 2) (v := (.int .i64 line)) rfl rfl (by kernel_rfl) (by kernel_rfl) (by kernel_rfl) (fun _ _ _ h => h) ⟨Or.inl ⟨by rfl, by intro w; go_simp⟩, fun _ => rfl⟩ ?_
    refine wpAnyIn_take (i := 3) (v := (.int .i64 i)) rfl rfl (by kernel_rfl) (by kernel_rfl) (by kernel_rfl) (fun _ _ _ h => h) ⟨Or.inl ⟨by rfl, by intro w; go_simp⟩, fun _ => rfl⟩ ?_
    refine wpAnyIn_take (i := 4) (v := (.int .i64 ti)) rfl rfl (by kernel_rfl) (by kernel_rfl) (by kernel_rfl) (fun _ _ _ h => h) ⟨Or.inl ⟨by rfl, by intro w; go_simp⟩, fun _ => rfl⟩ ?_
    refine wpAnyIn_take (i := 5) (v := (.agg #[.int .i64 4, .string ⟨#[]⟩, .bool false, .int .i64 line, .int .i64 i, .int .i64 ti])) rfl rfl (by kernel_rfl) (by kernel_rfl) (by kernel_rfl) (fun _ _ _ h => h) ⟨Or.inl ⟨by rfl, by intro w; go_simp⟩, fun _ => rfl⟩ ?_
    refine wpAnyIn_ready (rs := [0, 6]) (by kernel_rfl) (by simp) ?_
    refine AllReadyIn.cons rfl (fun K hK => ?_) (AllReadyIn.cons rfl (fun K hK => ?_) AllReadyIn.nil)
    · go_simp
      refine hK _ _ ?_
      clear hK K
      refine wpAnyIn_ready (rs := [6]) (by kernel_rfl) (by simp) ?_
      refine AllReadyIn.cons rfl (fun K hK => ?_) AllReadyIn.nil
      go_simp
      refine hK _ _ ?_
      clear hK K
      refine wpAnyIn_ready (rs := [7]) (by kernel_rfl) (by simp) ?_
      refine AllReadyIn.cons rfl (fun K hK => ?_) AllReadyIn.nil
      refine stepIn_append rfl (.tmp 16) (.tmp 21) _ rfl _ _ _ rfl rfl hrun ?_
      try go_simp
      refine hK _ _ ?_
      clear hK K
      refine wpAnyIn_ready (rs := [8]) (by kernel_rfl) (by simp) ?_
      refine AllReadyIn.cons rfl (fun K hK => ?_) AllReadyIn.nil
      go_simp
      refine HR.out.mono ?_
      rintro e W3 ⟨rfl, F', hj3, hb3, hf3⟩
      refine hK _ _ ?_
      clear hK K
      refine wpAnyIn_ready (rs := [9]) (by kernel_rfl) (by simp) ?_
      refine AllReadyIn.cons rfl (fun K hK => ?_) AllReadyIn.nil
      go_simp
      refine hK _ _ ?_
      clear hK K
      refine wpAnyIn_done (by kernel_rfl) ?_ _
      gi_wp2
      go_ret
      exact ⟨rfl, HFIN.out F' W3 hj3 hb3 hf3⟩
    · go_simp
      refine hK _ _ ?_
      clear hK K
      refine wpAnyIn_ready (rs := [0, 7]) (by kernel_rfl) (by simp) ?_
      refine AllReadyIn.cons rfl (fun K hK => ?_) (AllReadyIn.cons rfl (fun K hK => ?_) AllReadyIn.nil)
      · go_simp
        refine hK _ _ ?_
        clear hK K
        refine wpAnyIn_ready (rs := [7]) (by kernel_rfl) (by simp) ?_
        refine AllReadyIn.cons rfl (fun K hK => ?_) AllReadyIn.nil
        refine stepIn_append rfl (.tmp 16) (.tmp 21) _ rfl _ _ _ rfl rfl hrun ?_
        try go_simp
        refine hK _ _ ?_
        clear hK K
        refine wpAnyIn_ready (rs := [8]) (by kernel_rfl) (by simp) ?_
        refine AllReadyIn.cons rfl (fun K hK => ?_) AllReadyIn.nil
        go_simp
        refine HR.out.mono ?_
        rintro e W3 ⟨rfl, F', hj3, hb3, hf3⟩
        refine hK _ _ ?_
        clear hK K
        refine wpAnyIn_ready (rs := [9]) (by kernel_rfl) (by simp) ?_
        refine AllReadyIn.cons rfl (fun K hK => ?_) AllReadyIn.nil
        go_simp
        refine hK _ _ ?_
        clear hK K
        refine wpAnyIn_done (by kernel_rfl) ?_ _
        gi_wp2
        go_ret
        exact ⟨rfl, HFIN.out F' W3 hj3 hb3 hf3⟩
      · refine stepIn_append rfl (.tmp 16) (.tmp 21) _ rfl _ _ _ rfl rfl hrun ?_
        try go_simp
        refine hK _ _ ?_
        clear hK K
        refine wpAnyIn_ready (rs := [0]) (by kernel_rfl) (by simp) ?_
        refine AllReadyIn.cons rfl (fun K hK => ?_) AllReadyIn.nil
        go_simp
        refine hK _ _ ?_
        clear hK K
        refine wpAnyIn_ready (rs := [8]) (by kernel_rfl) (by simp) ?_
        refine AllReadyIn.cons rfl (fun K hK => ?_) AllReadyIn.nil
        go_simp
        refine HR.out.mono ?_
        rintro e W3 ⟨rfl, F', hj3, hb3, hf3⟩
        refine hK _ _ ?_
        clear hK K
        refine wpAnyIn_ready (rs := [9]) (by kernel_rfl) (by simp) ?_
        refine AllReadyIn.cons rfl (fun K hK => ?_) AllReadyIn.nil
        go_simp
        refine hK _ _ ?_
        clear hK K
        refine wpAnyIn_done (by kernel_rfl) ?_ _
        gi_wp2
        go_ret
        exact ⟨rfl, HFIN.out F' W3 hj3 hb3 hf3⟩
end Go.Proofs.YtkkpjonfaflkmaaGreatDoor.T

/- clauses: the deferred closure. -/
namespace Go.Proofs.YtkkpjonfaflkmaaGreatDoor.T
set_option linter.unusedSimpArgs false
set_option linter.unusedVariables false
open Go.RowKit Go.Proofs.YtkkpjonfaflkmaaGreatDoorW.PrintWords Go.Proofs.YtkkpjonfaflkmaaGreatDoorW.PrintLast Go.Proofs.YtkkpjonfaflkmaaGreatDoorW.PrintMore
attribute [local go_sem] Oper.semAt_some

set_option maxRecDepth 100000 in
set_option maxHeartbeats 400000 in
/-- No panic: it does nothing. -/
theorem deferred_idle (n : Nat) (p q r : Value) (W : World) :
    CallsDIn Fence.wide n Tryz.prog 89 #[p, q, r] .returning W fun e u' W' => e = .returned (.tuple #[]) ∧ u' = .returning ∧ W' = W := by
  refine callsDIn_of_wpSIn Tryz.func89 rfl trivial fun c₀ cs hu => ?_
  have hwf : ∀ f, Fence.wide.fn f := fun _ => trivial
  simp only [Tryz.ntmps89, List.size_toArray, List.length_cons, List.length_nil, Nat.reduceAdd, Nat.reduceSub, Array.replicate_succ, Array.replicate_zero, List.push_toArray, List.append_toArray, List.nil_append, List.cons_append]
  apply wpSIn_seq
  apply wpSIn_region
  simp [wpOpsSIn, go_sem, recoverD, hu, Tryz.ntmps89, Exit.thenS, hwf]
  refine wpSIn_of_wpIn rfl ?_
  generalize hQ : (fun (e : Exit) (a' : Act) (w' : World) => _) = Q
  gi_wp2
  rw [← hQ]
  refine ⟨rfl, .returning, ?_, _, results_none rfl _ _ _, rfl, rfl, rfl⟩
  rw [← hu]

def partial_ (cur : List S.Tk) : List (List S.Tk) := if cur = [] then [] else [cur]
set_option maxRecDepth 100000 in
set_option maxHeartbeats 4000000 in
theorem deferred_panic (n : Nat) (hn : 1 ≤ n) {l CB GB YB FB fp base : Nat} {J : List (List S.Tk) → (Nat → Prop) → World → Prop} (C : Client l (n - 1) J) (c ln a b : Int) {v : Value} {cur : List S.Tk} {gap : Bool} {pre : List (List S.Tk)} {F : Nat → Prop} (W : World)
    (hC : Cur CB GB YB l base v cur gap W) (hJ : J pre F W) (hF : ∀ k, F k → k ≠ CB ∧ k ≠ GB ∧ k ≠ YB ∧ v.ownBlock ≠ some k) (hFp : ∀ k, F k → k ≠ fp) (hfp : W.heap[fp]? = some (.cells #[.int .i64 a, .int .i64 b] 76 (0, 0)))
    (hfb : W.heap[FB]? = some (.cells #[.pointer (some ⟨fp, 0, none⟩)] 88 (0, 0))) (hne : fp ≠ CB ∧ fp ≠ YB ∧ fp < base) (hgb : fp ≠ GB) (hlen : pre.flatten.length + cur.length ≤ 300000) :
    CallsDIn Fence.wide n Tryz.prog 89 #[.pointer (some ⟨FB, 0, none⟩), .pointer (some ⟨CB, 0, none⟩), .pointer (some ⟨YB, 0, none⟩)] (.panicking [{ v := fl c ln, recovered := false }]) W fun e u' W' =>
      e = .returned (.tuple #[]) ∧ u' = .panicking [{ v := fl c ln, recovered := true }] ∧ (∃ F', J (pre ++ partial_ cur) F' W') ∧ W'.heap[fp]? = some (.cells #[.int .i64 c, .int .i64 ln] 76 (0, 0)) := by
  obtain ⟨A, cn, cap, hv, hcn⟩ : ∃ A cn cap, v = .slice A cn cap ∧ cur.length = cn := by
    rcases hC.own.2 with ⟨rfl, e2⟩ | ⟨g, cap, cs, rfl, _⟩
    · exact ⟨_, _, _, rfl, e2⟩
    · exact ⟨_, _, _, rfl, rfl⟩
  subst hv
  have HC := Aside0.mk hC
  have HJ := Aside0.mk hJ
  have HF := Aside0.mk hF
  have HFP := Aside0.mk hFp
  have HP := Aside0.mk hfp
  have HCN := Aside0.mk hcn
  have HFB := Aside0.mk hfb
  have c1 : W.cell? ⟨CB, 0, none⟩ = some (.slice A cn cap) := (blk_cell hC.cb 0).trans rfl
  have c3 : W.cell? ⟨YB, 0, none⟩ = some (.func (.yield l) #[] #[]) := (blk_cell hC.yb 0).trans rfl
  have c4 : W.cell? ⟨FB, 0, none⟩ = some (.pointer (some ⟨fp, 0, none⟩)) := (blk_cell hfb 0).trans rfl
  have p0 : W.cell? ⟨fp, 0, none⟩ = some (.int .i64 a) := (blk_cell hfp 0).trans rfl
  have p1 : W.cell? ⟨fp, 1, none⟩ = some (.int .i64 b) := (blk_cell hfp 1).trans rfl
  have q0 := blk_frozen hfp 0
  have q1 := blk_frozen hfp 1
  have hta : ∀ X : World, (Instr.typeAssert (.iface 76 (.agg #[.int .i64 c, .int .i64 ln])) 20 76 true).run Tryz.prog X = .ok (.tuple #[.agg #[.int .i64 c, .int .i64 ln], .bool true]) X := fun X => by kernel_rfl
  have hu76 := Tryz.underlying76
  clear hC hJ hF hFp hfp hcn hfb
  refine callsDIn_of_wpSIn Tryz.func89 rfl trivial fun c₀ cs hu => ?_
  have hwf : ∀ f, Fence.wide.fn f := fun _ => trivial
  simp only [Tryz.ntmps89, List.size_toArray, List.length_cons, List.length_nil, Nat.reduceAdd, Nat.reduceSub, Array.replicate_succ, Array.replicate_zero, List.push_toArray, List.append_toArray, List.nil_append, List.cons_append]
  apply wpSIn_seq
  apply wpSIn_region
  simp [wpOpsSIn, go_sem, recoverD, hu, Tryz.ntmps89, Exit.thenS, hwf, fl]
  refine wpSIn_of_wpIn rfl ?_
  generalize hQ : (fun (e : Exit) (a' : Act) (w' : World) => _) = Q
  gi_upto_region 5 with (fail)
  have hb1 : But (fun _ => False) W (W.alloc (.cells #[.int .i64 c, .int .i64 ln] 76)) := (But.refl _ W).alloc _
  have hn1 := heap_alloc_new W (.cells #[.int .i64 c, .int .i64 ln] 76)
  have hf1 : ∀ (k : Nat) (o : Obj), W.heap[k]? = some o → (W.alloc (.cells #[.int .i64 c, .int .i64 ln] 76)).heap[k]? = some o := fun k o h => (hb1.block k (Array.getElem?_eq_some_iff.1 h).1 (fun e => e)).trans h
  have hfb1 := hf1 _ _ HFB.out
  have hfp1 := hf1 _ _ HP.out
  have hj1 := C.stable HJ.out (hb1.mono (B := fun k => ¬ F k) (fun _ _ e => e.elim))
  have hc1 := HC.out.but hb1 (fun _ e => e.elim)
  obtain ⟨H, hH⟩ : ∃ H, W.heap.size = H := ⟨_, rfl⟩
  rw [hH] at hn1 ⊢
  have hlt : fp ≠ H ∧ FB ≠ H := by
    have h1 := (Array.getElem?_eq_some_iff.1 HP.out).1
    have h2 := (Array.getElem?_eq_some_iff.1 HFB.out).1
    omega
  clear c1 c3 c4 p0 p1 q0 q1 hf1 hta hH
  generalize W.alloc (.cells #[.int .i64 c, .int .i64 ln] 76) = W1 at *
  have c4 : W1.cell? ⟨FB, 0, none⟩ = some (.pointer (some ⟨fp, 0, none⟩)) := (blk_cell hfb1 0).trans rfl
  have e0 : W1.cell? ⟨H, 0, none⟩ = some (.int .i64 c) := (blk_cell hn1 0).trans rfl
  have e1 : W1.cell? ⟨H, 1, none⟩ = some (.int .i64 ln) := (blk_cell hn1 1).trans rfl
  have p0 : W1.cell? ⟨fp, 0, none⟩ = some (.int .i64 a) := (blk_cell hfp1 0).trans rfl
  have p1 : W1.cell? ⟨fp, 1, none⟩ = some (.int .i64 b) := (blk_cell hfp1 1).trans rfl
  have q0 := blk_frozen hfp1 0
  have q1 := blk_frozen hfp1 1
  obtain ⟨n1, n2, n3⟩ := hne
  have hb2 : But (fun k => k = fp) W1 ((W1.setCell ⟨fp, 0, none⟩ (.int .i64 c)).setCell ⟨fp, 1, none⟩ (.int .i64 ln)) := ((But.refl (fun k => k = fp) W1).set ⟨fp, 0, none⟩ _ rfl).set ⟨fp, 1, none⟩ _ rfl
  have hfp2 : ((W1.setCell ⟨fp, 0, none⟩ (.int .i64 c)).setCell ⟨fp, 1, none⟩ (.int .i64 ln)).heap[fp]? = some (.cells #[.int .i64 c, .int .i64 ln] 76 (0, 0)) := blk_put (blk_put hfp1 0 _ rfl) 1 _ rfl
  have hj2 := C.stable hj1 (hb2.mono (B := fun k => ¬ F k) (fun k _ e hf => HFP.out k hf e))
  have hc2 := hc1.but hb2 (fun k e => by
    have hg := hc1.n1
    refine ⟨by omega, ?_, by omega, fun h => ?_⟩
    · rw [e]; exact hgb
    · have := (hc1.own.lt k h).1
      omega)
  have HJ2 := Aside0.mk hj2
  have HC2 := Aside0.mk hc2
  have HP2 := Aside0.mk hfp2
  clear hb1 hb2 hj1 hj2 hc1 hc2 hfp1 hfp2 hfb1 hn1
  gi_upto_region 6 with (fail)
  generalize (W1.setCell ⟨fp, 0, none⟩ (.int .i64 c)).setCell ⟨fp, 1, none⟩ (.int .i64 ln) = W2 at *
  clear c4 e0 e1 p0 p1 q0 q1
  have c1 : W2.cell? ⟨CB, 0, none⟩ = some (.slice A cn cap) := (blk_cell HC2.out.cb 0).trans rfl
  have c3 : W2.cell? ⟨YB, 0, none⟩ = some (.func (.yield l) #[] #[]) := (blk_cell HC2.out.yb 0).trans rfl
  by_cases h0 : cn = 0
  · subst h0
    have hnil : cur = [] := List.length_eq_zero_iff.1 HCN.out
    gi_wp2
    rw [← hQ]
    refine ⟨rfl, _, rfl, _, results_none rfl _ _ _, rfl, by first | rfl | (simp [fl]; done), ⟨F, ?_⟩, HP2.out⟩
    rw [hnil]
    simpa [partial_] using HJ2.out
  · have g0 : decide ((0 : Int) < (cn : Int)) = true := decide_eq_true (by omega)
    have g1 : decide (0 < cn) = true := decide_eq_true (by omega)
    have hY := C.yield HJ2.out HC2.out.own (fun e => by rw [e] at HCN; have := HCN.out; simp at this; omega) (fun k hk => (HF.out k hk).2.2.2) hlen
    obtain ⟨fn, tmps, assign, body, hy, hR⟩ := hY
    have HR := Lib.hid hR
    clear hR
    gi_wp2
    refine HR.out.mono ?_
    rintro e W3 ⟨rfl, F', hj3, hb3, hf3⟩
    gi_wp2
    rw [← hQ]
    refine ⟨rfl, _, rfl, _, results_none rfl _ _ _, rfl, by first | rfl | (simp [fl]; done), ⟨F', ?_⟩, ?_⟩
    · have : partial_ cur = [cur] := by
        unfold partial_
        rw [if_neg (fun e => by rw [e] at HCN; have := HCN.out; simp at this; omega)]
      rw [this]; exact hj3
    · exact (hb3.block fp (Array.getElem?_eq_some_iff.1 HP2.out).1 (fun hf => HFP.out fp hf rfl)).trans HP2.out
end Go.Proofs.YtkkpjonfaflkmaaGreatDoor.T

-- Written by a program of this session (mp.py over the kit's print.py), out of the translation.
namespace Go.Proofs.YtkkpjonfaflkmaaGreatDoor.T
set_option linter.unusedSimpArgs false
open Go.RowKit Go.Proofs.YtkkpjonfaflkmaaGreatDoorW.PrintWords Go.Proofs.YtkkpjonfaflkmaaGreatDoorW.PrintLast Go.Proofs.YtkkpjonfaflkmaaGreatDoorW.PrintMore
attribute [local go_sem] max2_int min2_int max_two min_two max_three min_three max_four min_four   -- for this text's walks alone
set_option linter.unusedVariables false
set_option linter.unusedSimpArgs false

/-! ### scan_comma: function 92 -/
def scan_comma.f (l0 : List (S53)) : Option (Bool) := if (l0.length : Int) > 0 then (if 0 ≤ (wrap64 ((l0.length : Int) - 1)) then (if (wrap64 ((l0.length : Int) - 1)) < (l0.length : Int) then (if ((rd_T53 l0 (wrap64 ((l0.length : Int) - 1))).f0) = 3 then (some (((rd_T53 l0 (wrap64 ((l0.length : Int) - 1))).f1).toList == ([44] : List UInt8))) else (some false)) else (none)) else (none)) else (some false)
set_option maxHeartbeats 8000000 in
set_option maxRecDepth 100000 in
theorem scan_comma.calls (A0 : Option Addr) (c0 : Nat) (l0 : List (S53)) (r : Bool) (w : World) (hr0 : Kd.C k53 w A0 l0.length l0) (hc0 : l0.length ≤ c0) (h : scan_comma.f l0 = some r) :
    Calls Tryz.prog 92 #[.slice A0 l0.length c0] w fun e w' => e = .returned (.bool r) ∧ Drawn0 w w' := by
  have HR0 := Aside0.mk hr0
  have HC0 := Aside0.mk hc0
  clear hr0 hc0
  have H : (if (l0.length : Int) > 0 then (if 0 ≤ (wrap64 ((l0.length : Int) - 1)) then (if (wrap64 ((l0.length : Int) - 1)) < (l0.length : Int) then (if ((rd_T53 l0 (wrap64 ((l0.length : Int) - 1))).f0) = 3 then (some (((rd_T53 l0 (wrap64 ((l0.length : Int) - 1))).f1).toList == ([44] : List UInt8))) else (some false)) else (none)) else (none)) else (some false)) = some r := h
  clear h
  by_cases c2 : (l0.length : Int) > 0
  · rw [if_pos c2] at H
    have c2b0 : decide (0 < (l0.length : Int)) = true := decide_eq_true c2
    have c2b1 : decide (0 < l0.length) = true := decide_eq_true (by omega)
    clear c2
    obtain ⟨ji3, hji3⟩ : ∃ j_ : Int, (wrap64 ((l0.length : Int) - 1)) = j_ := ⟨_, rfl⟩
    replace H : (if 0 ≤ (ji3) then (if (ji3) < (l0.length : Int) then (if ((rd_T53 l0 (ji3)).f0) = 3 then (some (((rd_T53 l0 (ji3)).f1).toList == ([44] : List UInt8))) else (some false)) else (none)) else (none)) = some r := by first | (rw [hji3] at H; exact H) | (simp only [hji3] at H ⊢; exact H)
    have hji3w : (IntKind.i64.wrap ((l0.length : Int) - 1)) = ji3 := (i64_w _).trans hji3
    by_cases c4 : 0 ≤ (ji3)
    · rw [if_pos c4] at H
      have c4b0 : decide (0 ≤ (ji3)) = true := decide_eq_true c4
      clear c4
      by_cases c5 : (ji3) < (l0.length : Int)
      · rw [if_pos c5] at H
        have c5b0 : decide ((ji3) < (l0.length : Int)) = true := decide_eq_true c5
        clear c5
        by_cases c6 : ((rd_T53 l0 (ji3)).f0) = 3
        · rw [if_pos c6] at H
          have c6b0 : (((rd_T53 l0 (ji3)).f0) == 3) = true := beq_iff_eq.mpr c6
          have c6b1 : (((rd_T53 l0 (ji3)).f0) != 3) = false := bne_eq_false_iff_eq.mpr c6
          clear c6
          obtain rfl := Option.some.inj H
          have p146 : 0 ≤ ((ji3) : Int) := of_decide_eq_true (by first | (with_reducible assumption) | assumption)
          have q146 : (ji3) < (l0.length : Int) := of_decide_eq_true (by first | (with_reducible assumption) | assumption)
          obtain ⟨ad146, e146, hx146_0, hx146_1, hx146_2, hx146_3, hx146_4, hx146_5⟩ := at_T53 HR0.out (ji3) p146 q146
          cases e146
          replace p146 := eq_true p146
          replace q146 := eq_true q146
          have p147 : 0 ≤ ((ji3) : Int) := of_decide_eq_true (by first | (with_reducible assumption) | assumption)
          have q147 : (ji3) < (l0.length : Int) := of_decide_eq_true (by first | (with_reducible assumption) | assumption)
          obtain ⟨ad147, e147, hx147_0, hx147_1, hx147_2, hx147_3, hx147_4, hx147_5⟩ := at_T53 HR0.out (ji3) p147 q147
          obtain rfl : ad146 = ad147 := (by injection e147)
          replace p147 := eq_true p147
          replace q147 := eq_true q147
          go_enter Tryz.func92, Tryz.ntmps92
          go_wp2
          go_ret
          exact ⟨by first | rfl | (simp; done) | (simp only [← hji3] <;> (first | rfl | simp)) | (simp [*]; done), by repeat (first | exact Drawn0.refl _ | apply Drawn0.step)⟩
        · rw [if_neg c6] at H
          have c6b0 : (((rd_T53 l0 (ji3)).f0) == 3) = false := beq_eq_false_iff_ne.mpr c6
          have c6b1 : (((rd_T53 l0 (ji3)).f0) != 3) = true := bne_iff_ne.mpr c6
          obtain rfl := Option.some.inj H
          have p146 : 0 ≤ ((ji3) : Int) := of_decide_eq_true (by first | (with_reducible assumption) | assumption)
          have q146 : (ji3) < (l0.length : Int) := of_decide_eq_true (by first | (with_reducible assumption) | assumption)
          obtain ⟨ad146, e146, hx146_0, hx146_1, hx146_2, hx146_3, hx146_4, hx146_5⟩ := at_T53 HR0.out (ji3) p146 q146
          cases e146
          replace p146 := eq_true p146
          replace q146 := eq_true q146
          go_enter Tryz.func92, Tryz.ntmps92
          go_wp2
          go_ret
          exact ⟨by first | rfl | (simp; done) | (simp only [← hji3] <;> (first | rfl | simp)) | (simp [*]; done), by repeat (first | exact Drawn0.refl _ | apply Drawn0.step)⟩
      · rw [if_neg c5] at H
        exact absurd H (by simp)
    · rw [if_neg c4] at H
      exact absurd H (by simp)
  · rw [if_neg c2] at H
    have c2b0 : decide (0 < (l0.length : Int)) = false := decide_eq_false c2
    have c2b1 : decide (0 < l0.length) = false := decide_eq_false (by omega)
    clear c2
    obtain rfl := Option.some.inj H
    go_enter Tryz.func92, Tryz.ntmps92
    go_wp2
    go_ret
    exact ⟨by first | rfl | (simp; done) | (simp [*]; done), by repeat (first | exact Drawn0.refl _ | apply Drawn0.step)⟩

end Go.Proofs.YtkkpjonfaflkmaaGreatDoor.T

-- Written by a program of this session (mp.py over the kit's print.py), out of the translation.
namespace Go.Proofs.YtkkpjonfaflkmaaGreatDoor.T
set_option linter.unusedSimpArgs false
open Go.RowKit Go.Proofs.YtkkpjonfaflkmaaGreatDoorW.PrintWords Go.Proofs.YtkkpjonfaflkmaaGreatDoorW.PrintLast Go.Proofs.YtkkpjonfaflkmaaGreatDoorW.PrintMore
attribute [local go_sem] max2_int min2_int max_two min_two max_three min_three max_four min_four   -- for this text's walks alone
set_option linter.unusedVariables false
set_option linter.unusedSimpArgs false

/-! ### scan_label: function 54 -/
def scan_label.f (l0 : List (S53)) : Option (Bool) := if (l0.length : Int) = 2 then (if 0 < (l0.length : Int) then (if ((rd_T53 l0 0).f0) = 1 then (if 1 < (l0.length : Int) then (if ((rd_T53 l0 1).f0) = 3 then (some (((rd_T53 l0 1).f1).toList == ([58] : List UInt8))) else (some false)) else (none)) else (some false)) else (none)) else (some false)
set_option maxHeartbeats 8000000 in
set_option maxRecDepth 100000 in
theorem scan_label.calls (A0 : Option Addr) (c0 : Nat) (l0 : List (S53)) (r : Bool) (w : World) (hr0 : Kd.C k53 w A0 l0.length l0) (hc0 : l0.length ≤ c0) (h : scan_label.f l0 = some r) :
    Calls Tryz.prog 54 #[.slice A0 l0.length c0] w fun e w' => e = .returned (.bool r) ∧ Drawn0 w w' := by
  have HR0 := Aside0.mk hr0
  have HC0 := Aside0.mk hc0
  clear hr0 hc0
  have H : (if (l0.length : Int) = 2 then (if 0 < (l0.length : Int) then (if ((rd_T53 l0 0).f0) = 1 then (if 1 < (l0.length : Int) then (if ((rd_T53 l0 1).f0) = 3 then (some (((rd_T53 l0 1).f1).toList == ([58] : List UInt8))) else (some false)) else (none)) else (some false)) else (none)) else (some false)) = some r := h
  clear h
  by_cases c2 : (l0.length : Int) = 2
  · rw [if_pos c2] at H
    have c2b0 : ((l0.length : Int) == 2) = true := beq_iff_eq.mpr c2
    have c2b1 : ((l0.length : Int) != 2) = false := bne_eq_false_iff_eq.mpr c2
    clear c2
    by_cases c3 : 0 < (l0.length : Int)
    · rw [if_pos c3] at H
      have c3b0 : decide (0 < (l0.length : Int)) = true := decide_eq_true c3
      have c3b1 : decide (0 < l0.length) = true := decide_eq_true (by omega)
      clear c3
      by_cases c4 : ((rd_T53 l0 0).f0) = 1
      · rw [if_pos c4] at H
        have c4b0 : (((rd_T53 l0 0).f0) == 1) = true := beq_iff_eq.mpr c4
        have c4b1 : (((rd_T53 l0 0).f0) != 1) = false := bne_eq_false_iff_eq.mpr c4
        clear c4
        by_cases c5 : 1 < (l0.length : Int)
        · rw [if_pos c5] at H
          have c5b0 : decide (1 < (l0.length : Int)) = true := decide_eq_true c5
          have c5b1 : decide (1 < l0.length) = true := decide_eq_true (by omega)
          clear c5
          by_cases c6 : ((rd_T53 l0 1).f0) = 3
          · rw [if_pos c6] at H
            have c6b0 : (((rd_T53 l0 1).f0) == 3) = true := beq_iff_eq.mpr c6
            have c6b1 : (((rd_T53 l0 1).f0) != 3) = false := bne_eq_false_iff_eq.mpr c6
            clear c6
            obtain rfl := Option.some.inj H
            have p102 : 0 ≤ (0 : Int) := (by omega)
            have q102 : 0 < (l0.length : Int) := of_decide_eq_true (by first | (with_reducible assumption) | assumption)
            obtain ⟨ad102, e102, hx102_0, hx102_1, hx102_2, hx102_3, hx102_4, hx102_5⟩ := at_T53 HR0.out 0 p102 q102
            cases e102
            have qi102 : (0 < l0.length) = True := eq_true (by omega)
            (try rw [show ((0 : Int)).toNat = 0 from rfl] at hx102_0)
            (try rw [show 0 * 6 = 0 from rfl] at hx102_0)
            (try rw [Addr.add_zero'] at hx102_0)
            (try rw [show ((0 : Int)).toNat = 0 from rfl] at hx102_1)
            (try rw [show 0 * 6 = 0 from rfl] at hx102_1)
            (try rw [Addr.add_zero'] at hx102_1)
            (try rw [show ((0 : Int)).toNat = 0 from rfl] at hx102_2)
            (try rw [show 0 * 6 = 0 from rfl] at hx102_2)
            (try rw [Addr.add_zero'] at hx102_2)
            (try rw [show ((0 : Int)).toNat = 0 from rfl] at hx102_3)
            (try rw [show 0 * 6 = 0 from rfl] at hx102_3)
            (try rw [Addr.add_zero'] at hx102_3)
            (try rw [show ((0 : Int)).toNat = 0 from rfl] at hx102_4)
            (try rw [show 0 * 6 = 0 from rfl] at hx102_4)
            (try rw [Addr.add_zero'] at hx102_4)
            (try rw [show ((0 : Int)).toNat = 0 from rfl] at hx102_5)
            (try rw [show 0 * 6 = 0 from rfl] at hx102_5)
            (try rw [Addr.add_zero'] at hx102_5)
            replace p102 := eq_true p102
            replace q102 := eq_true q102
            have p103 : 0 ≤ (1 : Int) := (by omega)
            have q103 : 1 < (l0.length : Int) := of_decide_eq_true (by first | (with_reducible assumption) | assumption)
            obtain ⟨ad103, e103, hx103_0, hx103_1, hx103_2, hx103_3, hx103_4, hx103_5⟩ := at_T53 HR0.out 1 p103 q103
            obtain rfl : ad102 = ad103 := (by injection e103)
            (try simp only [show (1 : Int).toNat = 1 from rfl, Nat.reduceMul, Nat.reduceEqDiff, Go.Addr.add, ↓reduceIte] at hx103_0)
            (try simp only [show (1 : Int).toNat = 1 from rfl, Nat.reduceMul, Nat.reduceEqDiff, Go.Addr.add, ↓reduceIte] at hx103_1)
            (try simp only [show (1 : Int).toNat = 1 from rfl, Nat.reduceMul, Nat.reduceEqDiff, Go.Addr.add, ↓reduceIte] at hx103_2)
            (try simp only [show (1 : Int).toNat = 1 from rfl, Nat.reduceMul, Nat.reduceEqDiff, Go.Addr.add, ↓reduceIte] at hx103_3)
            (try simp only [show (1 : Int).toNat = 1 from rfl, Nat.reduceMul, Nat.reduceEqDiff, Go.Addr.add, ↓reduceIte] at hx103_4)
            (try simp only [show (1 : Int).toNat = 1 from rfl, Nat.reduceMul, Nat.reduceEqDiff, Go.Addr.add, ↓reduceIte] at hx103_5)
            have qi103 : (1 < l0.length) = True := eq_true (by omega)
            (try rw [show ((1 : Int)).toNat = 1 from rfl] at hx103_0)
            (try rw [show 1 * 6 = 6 from rfl] at hx103_0)
            (try rw [show ((1 : Int)).toNat = 1 from rfl] at hx103_1)
            (try rw [show 1 * 6 = 6 from rfl] at hx103_1)
            (try rw [show ((1 : Int)).toNat = 1 from rfl] at hx103_2)
            (try rw [show 1 * 6 = 6 from rfl] at hx103_2)
            (try rw [show ((1 : Int)).toNat = 1 from rfl] at hx103_3)
            (try rw [show 1 * 6 = 6 from rfl] at hx103_3)
            (try rw [show ((1 : Int)).toNat = 1 from rfl] at hx103_4)
            (try rw [show 1 * 6 = 6 from rfl] at hx103_4)
            (try rw [show ((1 : Int)).toNat = 1 from rfl] at hx103_5)
            (try rw [show 1 * 6 = 6 from rfl] at hx103_5)
            replace p103 := eq_true p103
            replace q103 := eq_true q103
            have p104 : 0 ≤ (1 : Int) := (by omega)
            have q104 : 1 < (l0.length : Int) := of_decide_eq_true (by first | (with_reducible assumption) | assumption)
            obtain ⟨ad104, e104, hx104_0, hx104_1, hx104_2, hx104_3, hx104_4, hx104_5⟩ := at_T53 HR0.out 1 p104 q104
            obtain rfl : ad102 = ad104 := (by injection e104)
            (try simp only [show (1 : Int).toNat = 1 from rfl, Nat.reduceMul, Nat.reduceEqDiff, Go.Addr.add, ↓reduceIte] at hx104_0)
            (try simp only [show (1 : Int).toNat = 1 from rfl, Nat.reduceMul, Nat.reduceEqDiff, Go.Addr.add, ↓reduceIte] at hx104_1)
            (try simp only [show (1 : Int).toNat = 1 from rfl, Nat.reduceMul, Nat.reduceEqDiff, Go.Addr.add, ↓reduceIte] at hx104_2)
            (try simp only [show (1 : Int).toNat = 1 from rfl, Nat.reduceMul, Nat.reduceEqDiff, Go.Addr.add, ↓reduceIte] at hx104_3)
            (try simp only [show (1 : Int).toNat = 1 from rfl, Nat.reduceMul, Nat.reduceEqDiff, Go.Addr.add, ↓reduceIte] at hx104_4)
            (try simp only [show (1 : Int).toNat = 1 from rfl, Nat.reduceMul, Nat.reduceEqDiff, Go.Addr.add, ↓reduceIte] at hx104_5)
            have qi104 : (1 < l0.length) = True := eq_true (by omega)
            (try rw [show ((1 : Int)).toNat = 1 from rfl] at hx104_0)
            (try rw [show 1 * 6 = 6 from rfl] at hx104_0)
            (try rw [show ((1 : Int)).toNat = 1 from rfl] at hx104_1)
            (try rw [show 1 * 6 = 6 from rfl] at hx104_1)
            (try rw [show ((1 : Int)).toNat = 1 from rfl] at hx104_2)
            (try rw [show 1 * 6 = 6 from rfl] at hx104_2)
            (try rw [show ((1 : Int)).toNat = 1 from rfl] at hx104_3)
            (try rw [show 1 * 6 = 6 from rfl] at hx104_3)
            (try rw [show ((1 : Int)).toNat = 1 from rfl] at hx104_4)
            (try rw [show 1 * 6 = 6 from rfl] at hx104_4)
            (try rw [show ((1 : Int)).toNat = 1 from rfl] at hx104_5)
            (try rw [show 1 * 6 = 6 from rfl] at hx104_5)
            replace p104 := eq_true p104
            replace q104 := eq_true q104
            go_enter Tryz.func54, Tryz.ntmps54
            go_wp2
            go_ret
            exact ⟨by first | rfl | (simp; done) | (simp [*]; done), by repeat (first | exact Drawn0.refl _ | apply Drawn0.step)⟩
          · rw [if_neg c6] at H
            have c6b0 : (((rd_T53 l0 1).f0) == 3) = false := beq_eq_false_iff_ne.mpr c6
            have c6b1 : (((rd_T53 l0 1).f0) != 3) = true := bne_iff_ne.mpr c6
            obtain rfl := Option.some.inj H
            have p102 : 0 ≤ (0 : Int) := (by omega)
            have q102 : 0 < (l0.length : Int) := of_decide_eq_true (by first | (with_reducible assumption) | assumption)
            obtain ⟨ad102, e102, hx102_0, hx102_1, hx102_2, hx102_3, hx102_4, hx102_5⟩ := at_T53 HR0.out 0 p102 q102
            cases e102
            have qi102 : (0 < l0.length) = True := eq_true (by omega)
            (try rw [show ((0 : Int)).toNat = 0 from rfl] at hx102_0)
            (try rw [show 0 * 6 = 0 from rfl] at hx102_0)
            (try rw [Addr.add_zero'] at hx102_0)
            (try rw [show ((0 : Int)).toNat = 0 from rfl] at hx102_1)
            (try rw [show 0 * 6 = 0 from rfl] at hx102_1)
            (try rw [Addr.add_zero'] at hx102_1)
            (try rw [show ((0 : Int)).toNat = 0 from rfl] at hx102_2)
            (try rw [show 0 * 6 = 0 from rfl] at hx102_2)
            (try rw [Addr.add_zero'] at hx102_2)
            (try rw [show ((0 : Int)).toNat = 0 from rfl] at hx102_3)
            (try rw [show 0 * 6 = 0 from rfl] at hx102_3)
            (try rw [Addr.add_zero'] at hx102_3)
            (try rw [show ((0 : Int)).toNat = 0 from rfl] at hx102_4)
            (try rw [show 0 * 6 = 0 from rfl] at hx102_4)
            (try rw [Addr.add_zero'] at hx102_4)
            (try rw [show ((0 : Int)).toNat = 0 from rfl] at hx102_5)
            (try rw [show 0 * 6 = 0 from rfl] at hx102_5)
            (try rw [Addr.add_zero'] at hx102_5)
            replace p102 := eq_true p102
            replace q102 := eq_true q102
            have p103 : 0 ≤ (1 : Int) := (by omega)
            have q103 : 1 < (l0.length : Int) := of_decide_eq_true (by first | (with_reducible assumption) | assumption)
            obtain ⟨ad103, e103, hx103_0, hx103_1, hx103_2, hx103_3, hx103_4, hx103_5⟩ := at_T53 HR0.out 1 p103 q103
            obtain rfl : ad102 = ad103 := (by injection e103)
            (try simp only [show (1 : Int).toNat = 1 from rfl, Nat.reduceMul, Nat.reduceEqDiff, Go.Addr.add, ↓reduceIte] at hx103_0)
            (try simp only [show (1 : Int).toNat = 1 from rfl, Nat.reduceMul, Nat.reduceEqDiff, Go.Addr.add, ↓reduceIte] at hx103_1)
            (try simp only [show (1 : Int).toNat = 1 from rfl, Nat.reduceMul, Nat.reduceEqDiff, Go.Addr.add, ↓reduceIte] at hx103_2)
            (try simp only [show (1 : Int).toNat = 1 from rfl, Nat.reduceMul, Nat.reduceEqDiff, Go.Addr.add, ↓reduceIte] at hx103_3)
            (try simp only [show (1 : Int).toNat = 1 from rfl, Nat.reduceMul, Nat.reduceEqDiff, Go.Addr.add, ↓reduceIte] at hx103_4)
            (try simp only [show (1 : Int).toNat = 1 from rfl, Nat.reduceMul, Nat.reduceEqDiff, Go.Addr.add, ↓reduceIte] at hx103_5)
            have qi103 : (1 < l0.length) = True := eq_true (by omega)
            (try rw [show ((1 : Int)).toNat = 1 from rfl] at hx103_0)
            (try rw [show 1 * 6 = 6 from rfl] at hx103_0)
            (try rw [show ((1 : Int)).toNat = 1 from rfl] at hx103_1)
            (try rw [show 1 * 6 = 6 from rfl] at hx103_1)
            (try rw [show ((1 : Int)).toNat = 1 from rfl] at hx103_2)
            (try rw [show 1 * 6 = 6 from rfl] at hx103_2)
            (try rw [show ((1 : Int)).toNat = 1 from rfl] at hx103_3)
            (try rw [show 1 * 6 = 6 from rfl] at hx103_3)
            (try rw [show ((1 : Int)).toNat = 1 from rfl] at hx103_4)
            (try rw [show 1 * 6 = 6 from rfl] at hx103_4)
            (try rw [show ((1 : Int)).toNat = 1 from rfl] at hx103_5)
            (try rw [show 1 * 6 = 6 from rfl] at hx103_5)
            replace p103 := eq_true p103
            replace q103 := eq_true q103
            go_enter Tryz.func54, Tryz.ntmps54
            go_wp2
            go_ret
            exact ⟨by first | rfl | (simp; done) | (simp [*]; done), by repeat (first | exact Drawn0.refl _ | apply Drawn0.step)⟩
        · rw [if_neg c5] at H
          exact absurd H (by simp)
      · rw [if_neg c4] at H
        have c4b0 : (((rd_T53 l0 0).f0) == 1) = false := beq_eq_false_iff_ne.mpr c4
        have c4b1 : (((rd_T53 l0 0).f0) != 1) = true := bne_iff_ne.mpr c4
        obtain rfl := Option.some.inj H
        have p102 : 0 ≤ (0 : Int) := (by omega)
        have q102 : 0 < (l0.length : Int) := of_decide_eq_true (by first | (with_reducible assumption) | assumption)
        obtain ⟨ad102, e102, hx102_0, hx102_1, hx102_2, hx102_3, hx102_4, hx102_5⟩ := at_T53 HR0.out 0 p102 q102
        cases e102
        have qi102 : (0 < l0.length) = True := eq_true (by omega)
        (try rw [show ((0 : Int)).toNat = 0 from rfl] at hx102_0)
        (try rw [show 0 * 6 = 0 from rfl] at hx102_0)
        (try rw [Addr.add_zero'] at hx102_0)
        (try rw [show ((0 : Int)).toNat = 0 from rfl] at hx102_1)
        (try rw [show 0 * 6 = 0 from rfl] at hx102_1)
        (try rw [Addr.add_zero'] at hx102_1)
        (try rw [show ((0 : Int)).toNat = 0 from rfl] at hx102_2)
        (try rw [show 0 * 6 = 0 from rfl] at hx102_2)
        (try rw [Addr.add_zero'] at hx102_2)
        (try rw [show ((0 : Int)).toNat = 0 from rfl] at hx102_3)
        (try rw [show 0 * 6 = 0 from rfl] at hx102_3)
        (try rw [Addr.add_zero'] at hx102_3)
        (try rw [show ((0 : Int)).toNat = 0 from rfl] at hx102_4)
        (try rw [show 0 * 6 = 0 from rfl] at hx102_4)
        (try rw [Addr.add_zero'] at hx102_4)
        (try rw [show ((0 : Int)).toNat = 0 from rfl] at hx102_5)
        (try rw [show 0 * 6 = 0 from rfl] at hx102_5)
        (try rw [Addr.add_zero'] at hx102_5)
        replace p102 := eq_true p102
        replace q102 := eq_true q102
        go_enter Tryz.func54, Tryz.ntmps54
        go_wp2
        go_ret
        exact ⟨by first | rfl | (simp; done) | (simp [*]; done), by repeat (first | exact Drawn0.refl _ | apply Drawn0.step)⟩
    · rw [if_neg c3] at H
      exact absurd H (by simp)
  · rw [if_neg c2] at H
    have c2b0 : ((l0.length : Int) == 2) = false := beq_eq_false_iff_ne.mpr c2
    have c2b1 : ((l0.length : Int) != 2) = true := bne_iff_ne.mpr c2
    obtain rfl := Option.some.inj H
    go_enter Tryz.func54, Tryz.ntmps54
    go_wp2
    go_ret
    exact ⟨by first | rfl | (simp; done) | (simp [*]; done), by repeat (first | exact Drawn0.refl _ | apply Drawn0.step)⟩

end Go.Proofs.YtkkpjonfaflkmaaGreatDoor.T

/- Rows of tokens in the printer's words; comma, label. -/
namespace Go.Proofs.YtkkpjonfaflkmaaGreatDoor.T
set_option linter.unusedSimpArgs false
set_option linter.unusedVariables false
open Go.RowKit Go.Proofs.YtkkpjonfaflkmaaGreatDoorW.PrintWords Go.Proofs.YtkkpjonfaflkmaaGreatDoorW.PrintLast Go.Proofs.YtkkpjonfaflkmaaGreatDoorW.PrintMore

def toS (t : S.Tk) : S53 := ⟨t.kind, strOfNums t.text, t.gap, t.line, t.at_, t.to⟩
theorem tksL_at : ∀ (l : List S.Tk) (j : Nat) (t : S.Tk), l[j]? = some t → ((tksL l).drop (j * 6)).take 6 = tkL t
  | [], j, t, h => by simp at h
  | a :: l, 0, t, h => by
    simp only [List.getElem?_cons_zero, Option.some.injEq] at h
    subst h
    simp only [tksL, List.map_cons, List.flatten_cons, Nat.zero_mul, List.drop_zero]
    rw [List.take_append, List.take_of_length_le (by show 6 ≤ 6; omega)]
    have : 6 - (tkL a).length = 0 := rfl
    rw [this, List.take_zero, List.append_nil]
  | a :: l, j + 1, t, h => by
    simp only [List.getElem?_cons_succ] at h
    have := tksL_at l j t h
    rw [← this]
    congr 1
    simp only [tksL, List.map_cons, List.flatten_cons]
    rw [List.drop_append]
    rw [List.drop_eq_nil_of_le (by show 6 ≤ _; omega), List.nil_append]
    congr 1
    show (j + 1) * 6 - 6 = j * 6
    omega
theorem tks_reps {W : World} {base : Nat} {ok : Nat → Prop} (cur : List S.Tk) : Reps (k53.M W base ok) 6 (cur.map toS) (tksL cur) := by
  refine ⟨by rw [tksL_length, List.length_map], fun j p hj => ?_⟩
  rw [List.getElem?_map] at hj
  cases hc : cur[j]? with
  | none => rw [hc] at hj; cases hj
  | some t =>
    rw [hc] at hj
    simp only [Option.map_some, Option.some.injEq] at hj
    subst hj
    rw [tksL_at cur j t hc]
    exact k53_mkM W base ok (toS t)
theorem tks_R {W : World} {base : Nat} {v : Value} {cur : List S.Tk} (h : W.ownsRow base 53 6 v cur.length (tksL cur)) : Kd.R k53 53 W base (fun _ => True) v (cur.map toS) :=
  ⟨fun _ _ => trivial, tksL cur, by rw [List.length_map]; exact h, tks_reps cur⟩
theorem tks_C {W : World} {base : Nat} {A : Option Addr} {n c : Nat} {cur : List S.Tk} (h : W.ownsRow base 53 6 (.slice A n c) cur.length (tksL cur)) : n = cur.length ∧ n ≤ c ∧ Kd.C k53 W A (cur.map toS).length (cur.map toS) := by
  obtain ⟨A', c', e, hc, hC⟩ := Kd.R_reads (tks_R h)
  simp only [Value.slice.injEq, List.length_map] at e hc
  obtain ⟨rfl, rfl, rfl⟩ := e
  exact ⟨rfl, hc, hC⟩
def Bytes (t : S.Tk) : Prop := ∀ x ∈ t.text, 0 ≤ x ∧ x < 256
theorem text_eq {t : S.Tk} (h : Bytes t) (c : UInt8) : ((strOfNums t.text).toList == [c]) = decide (t.text = [(c.toNat : Int)]) := by
  rw [str_eq, bytesOf_str _ h]
  rfl
theorem comma_f (cur : List S.Tk) (hb : ∀ t ∈ cur, Bytes t) (hl : cur.length ≤ 1000000) : scan_comma.f (cur.map toS) = some (S.comma cur) := by
  unfold scan_comma.f S.comma
  rcases List.eq_nil_or_concat cur with rfl | ⟨l, t, rfl⟩
  · rfl
  · have hlen : ((List.concat l t).map toS).length = l.length + 1 := by simp
    have hw : wrap64 ((((List.concat l t).map toS).length : Int) - 1) = (l.length : Int) := by
      rw [hlen]
      have : l.length ≤ 1000000 := by simp at hl; omega
      unfold wrap64; omega
    rw [if_pos (by rw [hlen]; omega), hw, if_pos (by omega), if_pos (by rw [hlen]; omega)]
    have hrd : rd_T53 ((List.concat l t).map toS) (l.length : Int) = toS t := by
      unfold rd_T53
      simp
    rw [hrd]
    have hlast : (List.concat l t).getLast? = some t := by simp
    rw [hlast]
    have ht : Bytes t := hb t (by simp)
    show (if ((t.kind : Nat) : Int) = 3 then some ((strOfNums t.text).toList == [44]) else some false) = some (decide (t.kind = 3) && decide (t.text = [44]))
    rw [text_eq ht]
    by_cases hk : t.kind = 3
    · rw [if_pos (by omega)]; simp [hk]
    · rw [if_neg (by omega)]; simp [hk]
theorem label_f (cur : List S.Tk) (hb : ∀ t ∈ cur, Bytes t) : scan_label.f (cur.map toS) = some (S.label cur) := by
  unfold scan_label.f
  rcases cur with _ | ⟨a, _ | ⟨b, _ | ⟨c, r⟩⟩⟩
  · rfl
  · rw [if_neg (by simp)]; rfl
  · have hlen : (([a, b] : List S.Tk).map toS).length = 2 := rfl
    rw [hlen, if_pos (by omega), if_pos (by omega)]
    have ha : rd_T53 (([a, b] : List S.Tk).map toS) 0 = toS a := rfl
    have hb' : rd_T53 (([a, b] : List S.Tk).map toS) 1 = toS b := rfl
    rw [ha, hb', if_pos (by omega : (1 : Int) < (2 : Nat))]
    show (if ((a.kind : Nat) : Int) = 1 then (if ((b.kind : Nat) : Int) = 3 then some ((strOfNums b.text).toList == [58]) else some false) else some false) = some (decide (a.kind = 1) && decide (b.kind = 3) && decide (b.text = [58]))
    rw [text_eq (hb b (by simp))]
    by_cases h1 : a.kind = 1
    · rw [if_pos (by omega)]
      by_cases h2 : b.kind = 3
      · rw [if_pos (by omega)]; simp [h1, h2]
      · rw [if_neg (by omega)]; simp [h1, h2]
    · rw [if_neg (by omega)]; simp [h1]
  · rw [if_neg (by simp only [List.map_cons, List.length_cons]; omega)]; rfl
end Go.Proofs.YtkkpjonfaflkmaaGreatDoor.T

/- clauses: the iterator. -/
namespace Go.Proofs.YtkkpjonfaflkmaaGreatDoor.T
set_option linter.unusedSimpArgs false
set_option linter.unusedVariables false
open Go.RowKit Go.Maps Go.Proofs.YtkkpjonfaflkmaaGreatDoorW.PrintWords Go.Proofs.YtkkpjonfaflkmaaGreatDoorW.PrintLast Go.Proofs.YtkkpjonfaflkmaaGreatDoorW.PrintMore
attribute [local go_sem] Oper.semAt_some

/-- What stands at each round: the scanner in s, its map in H + 1, the boxes of cur and gap behind s, that of yield in H. -/
structure It (l H s fp FB : Nat) (src : ByteArray) (hd : Int → Value) (D : DataW Unit) (J : List (List S.Tk) → (Nat → Prop) → World → Prop) (i line : Nat) (v : Value) (cur : List S.Tk) (gap : Bool) (pre : List (List S.Tk)) (F : Nat → Prop) (W : World) : Prop where
  sm : ScM s src i line (H + 1) (H + 1 + 2) hd D W
  cu : Cur (s + 1) (s + 1 + 1) H l (s + 3) v cur gap W
  jj : J pre F W
  ff : ∀ k, F k → (k < H ∨ s + 3 ≤ k) ∧ v.ownBlock ≠ some k ∧ k ≠ fp ∧ k ≠ FB
  hfp : W.heap[fp]? = some (.cells #[.int .i64 0, .int .i64 0] 76 (0, 0))
  hfb : W.heap[FB]? = some (.cells #[.pointer (some ⟨fp, 0, none⟩)] 88 (0, 0))
  byt : ∀ t ∈ cur, Bytes t
  len : pre.flatten.length + 2 * cur.length ≤ 2 * i
  l1 : H + 1 < s
  l2 : fp < H
  l3 : FB < H
  rows : ∀ c g, (hd c).ownBlock = some g → H + 1 < g ∧ g < s

section
variable {l n H s fp FB : Nat} {src : ByteArray} {hd : Int → Value} {D : DataW Unit} {J : List (List S.Tk) → (Nat → Prop) → World → Prop} {i line : Nat} {v : Value} {cur : List S.Tk} {gap : Bool} {pre : List (List S.Tk)} {F : Nat → Prop} {W W' : World}
theorem It.own_ge (h : It l H s fp FB src hd D J i line v cur gap pre F W) : ∀ k, v.ownBlock = some k → s + 3 ≤ k := fun k e => (h.cu.own.lt k e).1
/-- The scanner goes on. -/
theorem It.step (C : Client l n J) (h : It l H s fp FB src hd D J i line v cur gap pre F W) {i' line' : Nat} (hb : But (· = s) W W') (hs : Sc s src i' line' (.map (some (H + 1))) W') (hi : i ≤ i') : It l H s fp FB src hd D J i' line' v cur gap pre F W' := by
  have h1 := h.l1
  have h2 := h.l2
  have h3 := h.l3
  have hsm := h.sm
  refine ⟨⟨hs, hsm.sg.but hsm.nm hsm.nr hb, hsm.nm, hsm.nr⟩, h.cu.but hb (fun k e => ⟨by omega, by omega, by omega, fun e2 => by have := h.own_ge k e2; omega⟩), C.stable h.jj (hb.mono (fun k _ e hf => by have := (h.ff k hf).1; omega)), h.ff, (hb.block fp (Array.getElem?_eq_some_iff.1 h.hfp).1 (by show ¬ fp = s; omega)).trans h.hfp, (hb.block FB (Array.getElem?_eq_some_iff.1 h.hfb).1 (by show ¬ FB = s; omega)).trans h.hfb, h.byt, by have := h.len; omega, h1, h2, h3, h.rows⟩
/-- New memory. -/
theorem It.new (C : Client l n J) (h : It l H s fp FB src hd D J i line v cur gap pre F W) (hb : But (fun _ => False) W W') : It l H s fp FB src hd D J i line v cur gap pre F W' := by
  have hb2 : But (· = s) W W' := hb.mono (fun _ _ e => e.elim)
  refine h.step C hb2 ?_ (Nat.le_refl _)
  exact (hb.block s h.sm.sc.lt (fun e => e)).trans h.sm.sc
/-- The boxes of cur and gap turn. -/
theorem It.put (C : Client l n J) (h : It l H s fp FB src hd D J i line v cur gap pre F W) {v' : Value} {cur' : List S.Tk} {gap' : Bool} (hb : But (fun k => k = s + 1 ∨ k = s + 1 + 1 ∨ v.ownBlock = some k) W W') (hc : Cur (s + 1) (s + 1 + 1) H l (s + 3) v' cur' gap' W')
    (hv : ∀ k, v'.ownBlock = some k → v.ownBlock = some k ∨ W.heap.size ≤ k) (hby : ∀ t ∈ cur', Bytes t) (hl : pre.flatten.length + 2 * cur'.length ≤ 2 * i) : It l H s fp FB src hd D J i line v' cur' gap' pre F W' := by
  have h1 := h.l1
  have h2 := h.l2
  have h3 := h.l3
  have hsm := h.sm
  have ho := h.own_ge
  have hne : ∀ k, k < s + 1 → ¬ (k = s + 1 ∨ k = s + 1 + 1 ∨ v.ownBlock = some k) := fun k hk e => by
    rcases e with e | e | e
    · omega
    · omega
    · have := ho k e; omega
  have hblk : ∀ k, k < s + 1 → k < W.heap.size → W'.heap[k]? = W.heap[k]? := fun k hk hl => hb.block k hl (hne k hk)
  refine ⟨⟨(hblk s (by omega) hsm.sc.lt).trans hsm.sc, hsm.sg.blk (hblk _ (by omega) hsm.sg.map.lt) (fun c g hg => hblk g (by have := h.rows c g hg; omega) ((hsm.sg.row c).lt g hg).2), hsm.nm, hsm.nr⟩, hc, C.stable h.jj (hb.mono (fun k _ e hf => ?_)), fun k hf => ?_,
    (hblk fp (by omega) (Array.getElem?_eq_some_iff.1 h.hfp).1).trans h.hfp, (hblk FB (by omega) (Array.getElem?_eq_some_iff.1 h.hfb).1).trans h.hfb, hby, hl, h1, h2, h3, h.rows⟩
  · obtain ⟨q1, q2, _⟩ := h.ff k hf
    rcases e with e | e | e
    · omega
    · omega
    · exact q2 e
  · obtain ⟨q1, q2, q3, q4⟩ := h.ff k hf
    refine ⟨q1, fun e => ?_, q3, q4⟩
    rcases hv k e with e2 | e2
    · exact q2 e2
    · have := C.lt h.jj k hf; omega
/-- A clause has ended. -/
theorem It.ended (C : Client l n J) (h : It l H s fp FB src hd D J i line v cur gap pre F W) {pre' : List (List S.Tk)} {F' : Nat → Prop} (hj : J pre' F' W') (hc : Cur (s + 1) (s + 1 + 1) H l (s + 3) (.slice none 0 0) [] false W')
    (hb : But (fun k => F k ∨ k = s + 1 ∨ k = s + 1 + 1 ∨ v.ownBlock = some k) W W') (hF : ∀ k, F' k → F k ∨ W.heap.size ≤ k ∨ v.ownBlock = some k) (hl : pre'.flatten.length ≤ 2 * i) : It l H s fp FB src hd D J i line (.slice none 0 0) [] false pre' F' W' := by
  have h1 := h.l1
  have h2 := h.l2
  have h3 := h.l3
  have hsm := h.sm
  have ho := h.own_ge
  have hne : ∀ k, H ≤ k → k < s + 1 → ¬ (F k ∨ k = s + 1 ∨ k = s + 1 + 1 ∨ v.ownBlock = some k) := fun k hk hk2 e => by
    rcases e with e | e | e | e
    · have := (h.ff k e).1; omega
    · omega
    · omega
    · have := ho k e; omega
  have hblk : ∀ k, H ≤ k → k < s + 1 → k < W.heap.size → W'.heap[k]? = W.heap[k]? := fun k hk hk2 hl => hb.block k hl (hne k hk hk2)
  have hfb : ∀ k, (k = fp ∨ k = FB) → k < W.heap.size → W'.heap[k]? = W.heap[k]? := fun k hk hl => hb.block k hl (fun e => by
    rcases e with e | e | e | e
    · have := (h.ff k e).2.2; omega
    · omega
    · omega
    · have := ho k e; omega)
  have hsz : s + 3 ≤ W.heap.size := h.cu.lw
  refine ⟨⟨(hblk s (by omega) (by omega) hsm.sc.lt).trans hsm.sc, hsm.sg.blk (hblk _ (by omega) (by omega) hsm.sg.map.lt) (fun c g hg => hblk g (by have := h.rows c g hg; omega) (by have := h.rows c g hg; omega) ((hsm.sg.row c).lt g hg).2), hsm.nm, hsm.nr⟩, hc, hj, fun k hf => ?_,
    (hfb fp (.inl rfl) (Array.getElem?_eq_some_iff.1 h.hfp).1).trans h.hfp, (hfb FB (.inr rfl) (Array.getElem?_eq_some_iff.1 h.hfb).1).trans h.hfb, by simp, by simpa using hl, h1, h2, h3, h.rows⟩
  refine ⟨?_, by simp [Value.ownBlock], ?_, ?_⟩
  · rcases hF k hf with e | e | e
    · exact (h.ff k e).1
    · omega
    · have := ho k e; omega
  · rcases hF k hf with e | e | e
    · exact (h.ff k e).2.2.1
    · omega
    · have := ho k e; omega
  · rcases hF k hf with e | e | e
    · exact (h.ff k e).2.2.2
    · omega
    · have := ho k e; omega
theorem It.drewN (C : Client l n J) (h : It l H s fp FB src hd D J i line v cur gap pre F W) (q : Nat) : It l H s fp FB src hd D J i line v cur gap pre F (W.drewN q) := h.new C ((But.refl _ W).drewN q)
/-- The gap's box. -/
theorem It.setGap (C : Client l n J) (h : It l H s fp FB src hd D J i line v cur gap pre F W) (g : Bool) : It l H s fp FB src hd D J i line v cur g pre F (W.setCell ⟨s + 1 + 1, 0, none⟩ (.bool g)) := by
  have hb : But (fun k => k = s + 1 + 1) W (W.setCell ⟨s + 1 + 1, 0, none⟩ (.bool g)) := (But.refl (fun k => k = s + 1 + 1) W).set ⟨s + 1 + 1, 0, none⟩ _ rfl
  have h1 := h.l1
  have hc := h.cu
  refine h.put C (hb.mono (fun k _ e => .inr (.inl e))) ⟨(hb.block (s + 1) (by have := hc.lw; omega) (by omega)).trans hc.cb, blk_put (cs := #[_]) hc.gb 0 _ rfl, (hb.block H (by have := hc.lw; omega) (by omega)).trans hc.yb, own_but hc.own hb (fun k e e2 => by have := h.own_ge k e2; omega), hc.l1, hc.l2, hc.l3, hc.n1, hc.n2, hc.n3, Nat.le_trans hc.lw hb.size⟩ (fun k e => .inl e) h.byt h.len
/-- The box of cur. -/
theorem It.setCur (C : Client l n J) (h : It l H s fp FB src hd D J i line v cur gap pre F W) {v' : Value} {cur' : List S.Tk} (ho : W.ownsRow (s + 3) 53 6 v' cur'.length (tksL cur')) (hv : ∀ k, v'.ownBlock = some k → v.ownBlock = some k) (hby : ∀ t ∈ cur', Bytes t) (hl : pre.flatten.length + 2 * cur'.length ≤ 2 * i) :
    It l H s fp FB src hd D J i line v' cur' gap pre F (W.setCell ⟨s + 1, 0, none⟩ v') := by
  have hb : But (fun k => k = s + 1) W (W.setCell ⟨s + 1, 0, none⟩ v') := (But.refl (fun k => k = s + 1) W).set ⟨s + 1, 0, none⟩ _ rfl
  have h1 := h.l1
  have hc := h.cu
  refine h.put C (hb.mono (fun k _ e => .inl e)) ⟨blk_put (cs := #[_]) hc.cb 0 _ rfl, (hb.block (s + 1 + 1) (by have := hc.lw; omega) (by omega)).trans hc.gb, (hb.block H (by have := hc.lw; omega) (by omega)).trans hc.yb, own_but ho hb (fun k e e2 => by have := (ho.lt k e2).1; omega), hc.l1, hc.l2, hc.l3, hc.n1, hc.n2, hc.n3, Nat.le_trans hc.lw hb.size⟩ (fun k e => .inl (hv k e)) hby hl
theorem own_cut {A : Option Addr} {cn cap base : Nat} (h : W.ownsRow base 53 6 (.slice A cn cap) cur.length (tksL cur)) (hne : cur ≠ []) : W.ownsRow base 53 6 (.slice A (cn - 1) cap) cur.dropLast.length (tksL cur.dropLast) := by
  refine ⟨tksL_length _, .inr ?_⟩
  rcases h.2 with ⟨e, e2⟩ | ⟨g, cap', cs, e, hg, hb, h1, h2, h3, h4⟩
  · exact absurd (List.length_eq_zero_iff.1 e2) hne
  · simp only [Value.slice.injEq] at e
    obtain ⟨rfl, rfl, rfl⟩ := e
    refine ⟨g, cap, cs, by rw [List.length_dropLast], hg, hb, by rw [List.length_dropLast]; omega, h2, h3, ?_⟩
    have e1 : cur.dropLast = cur.take (cur.length - 1) := List.dropLast_eq_take
    rw [List.length_dropLast, e1, ← tksL_take, ← h4, List.take_take]
    congr 1
    omega
/-- The last token goes. -/
theorem It.cutc (C : Client l n J) {A : Option Addr} {cn cap : Nat} (h : It l H s fp FB src hd D J i line (.slice A cn cap) cur gap pre F W) (hne : cur ≠ []) : It l H s fp FB src hd D J i line (.slice A (cn - 1) cap) cur.dropLast gap pre F (W.setCell ⟨s + 1, 0, none⟩ (.slice A (cn - 1) cap)) :=
  h.setCur C (own_cut h.cu.own hne) (fun k e => by cases A with | none => simp [Value.ownBlock] at e | some a => exact e) (fun t ht => h.byt t ((List.dropLast_sublist _).subset ht)) (by have := h.len; rw [List.length_dropLast]; omega)
/-- A token more. -/
theorem It.more (C : Client l n J) {X w1 : World} (h : It l H s fp FB src hd D J i line v cur gap pre F W) (hX : But (fun _ => False) W X) {v' : Value} {t : S.Tk} (ho : w1.ownsRow (s + 3) 53 6 v' (cur.length + 1) (tksL cur ++ tkL t)) (hg : X.grownBy w1 v.ownBlock)
    (hv : v'.ownBlock = v.ownBlock ∨ v'.ownBlock = some X.heap.size) (hby : Bytes t) (hl : pre.flatten.length + 2 * (cur.length + 1) ≤ 2 * i) :
    It l H s fp FB src hd D J i line v' (cur ++ [t]) false pre F ((w1.setCell ⟨s + 1, 0, none⟩ v').setCell ⟨s + 1 + 1, 0, none⟩ (.bool false)) := by
  have hb1 : But (fun k => v.ownBlock = some k) X w1 := ⟨hg.os, hg.tape, hg.output, hg.size, fun k hk hn => hg.block k hk (fun e => hn e.symm)⟩
  have hb2 : But (fun k => k = s + 1 ∨ k = s + 1 + 1) w1 ((w1.setCell ⟨s + 1, 0, none⟩ v').setCell ⟨s + 1 + 1, 0, none⟩ (.bool false)) := ((But.refl (fun k => k = s + 1 ∨ k = s + 1 + 1) w1).set ⟨s + 1, 0, none⟩ _ (.inl rfl)).set ⟨s + 1 + 1, 0, none⟩ _ (.inr rfl)
  have h01 : But (fun k => v.ownBlock = some k) W w1 := hX.trans hb1 (fun _ _ e => e.elim) (fun _ _ e => e)
  have h02 : But (fun k => k = s + 1 ∨ k = s + 1 + 1 ∨ v.ownBlock = some k) W ((w1.setCell ⟨s + 1, 0, none⟩ v').setCell ⟨s + 1 + 1, 0, none⟩ (.bool false)) :=
    h01.trans hb2 (fun _ _ e => .inr (.inr e)) (fun _ _ e => e.elim .inl (fun e => .inr (.inl e)))
  have h1 := h.l1
  have hc := h.cu
  have hlw := hc.lw
  have hge := h.own_ge
  have hs1 := h01.size
  refine h.put C h02 ⟨?_, ?_, ?_, ?_, hc.l1, hc.l2, hc.l3, hc.n1, hc.n2, hc.n3, Nat.le_trans hlw h02.size⟩ (fun k e => ?_) (fun t' ht' => ?_) (by rw [List.length_append]; exact hl)
  · exact (Below.heap_setCell _ ⟨s + 1 + 1, 0, none⟩ _ (s + 1) (by show s + 1 ≠ s + 1 + 1; omega)).trans (blk_put (cs := #[_]) ((h01.block (s + 1) (by omega) (fun e => by have := hge _ e; omega)).trans hc.cb) 0 _ rfl)
  · exact blk_put (cs := #[_]) ((Below.heap_setCell _ ⟨s + 1, 0, none⟩ _ (s + 1 + 1) (by show s + 1 + 1 ≠ s + 1; omega)).trans ((h01.block (s + 1 + 1) (by omega) (fun e => by have := hge _ e; omega)).trans hc.gb)) 0 _ rfl
  · exact (h02.block H (by omega) (fun e => by rcases e with e | e | e; omega; omega; have := hge _ e; omega)).trans hc.yb
  · rw [List.length_append, tksL_append]
    have e : tksL [t] = tkL t := by simp [tksL]
    rw [e]
    refine own_but ho hb2 (fun k e e2 => ?_)
    have := (ho.lt k e2).1
    omega
  · rcases hv with hv | hv
    · exact .inl (by rw [← hv, e])
    · refine .inr ?_
      rw [hv] at e
      have := hX.size
      cases e
      exact this
  · rcases List.mem_append.1 ht' with ht' | ht'
    · exact h.byt t' ht'
    · rw [List.mem_singleton.1 ht']; exact hby
theorem comma_calls {A : Option Addr} {cn cap base : Nat} (h : W.ownsRow base 53 6 (.slice A cn cap) cur.length (tksL cur)) (hb : ∀ t ∈ cur, Bytes t) (hl : cur.length ≤ 1000000) :
    Calls Tryz.prog 92 #[.slice A cn cap] W fun e w' => e = .returned (.bool (S.comma cur)) ∧ Drawn0 W w' := by
  obtain ⟨rfl, hc, hC⟩ := tks_C h
  have := scan_comma.calls A cap (cur.map toS) (S.comma cur) W hC (by rw [List.length_map]; exact hc) (comma_f cur hb hl)
  rwa [List.length_map] at this
theorem label_calls {A : Option Addr} {cn cap base : Nat} (h : W.ownsRow base 53 6 (.slice A cn cap) cur.length (tksL cur)) (hb : ∀ t ∈ cur, Bytes t) :
    Calls Tryz.prog 54 #[.slice A cn cap] W fun e w' => e = .returned (.bool (S.label cur)) ∧ Drawn0 W w' := by
  obtain ⟨rfl, hc, hC⟩ := tks_C h
  have := scan_label.calls A cap (cur.map toS) (S.label cur) W hC (by rw [List.length_map]; exact hc) (label_f cur hb)
  rwa [List.length_map] at this
/-- A block turns that is none of these. -/
theorem It.other (C : Client l n J) (h : It l H s fp FB src hd D J i line v cur gap pre F W) {A : Nat → Prop} (hb : But A W W') (hA : ∀ k, A k → s + 3 ≤ k ∧ ¬ F k ∧ v.ownBlock ≠ some k) : It l H s fp FB src hd D J i line v cur gap pre F W' := by
  have h1 := h.l1
  have h2 := h.l2
  have h3 := h.l3
  have hsm := h.sm
  have hblk : ∀ k, k < s + 3 → k < W.heap.size → W'.heap[k]? = W.heap[k]? := fun k hk hl => hb.block k hl (fun e => by have := (hA k e).1; omega)
  exact ⟨⟨(hblk s (by omega) hsm.sc.lt).trans hsm.sc, hsm.sg.blk (hblk _ (by omega) hsm.sg.map.lt) (fun c g hg => hblk g (by have := h.rows c g hg; omega) ((hsm.sg.row c).lt g hg).2), hsm.nm, hsm.nr⟩, h.cu.but hb (fun k e => by have := hA k e; exact ⟨by omega, by omega, by omega, this.2.2⟩), C.stable h.jj (hb.mono (fun k _ e hf => (hA k e).2.1 hf)), h.ff,
    (hblk fp (by omega) (Array.getElem?_eq_some_iff.1 h.hfp).1).trans h.hfp, (hblk FB (by omega) (Array.getElem?_eq_some_iff.1 h.hfb).1).trans h.hfb, h.byt, h.len, h1, h2, h3, h.rows⟩
theorem emit_len (pre : List (List S.Tk)) (cur : List S.Tk) (a b c : Nat) : (pre ++ S.emit cur a b c).flatten.length ≤ pre.flatten.length + 2 * cur.length := by
  unfold S.emit
  by_cases h : cur = []
  · rw [if_pos h]; simp
  · rw [if_neg h]
    have : 0 < cur.length := List.length_pos_iff.2 h
    simp only [List.flatten_append, List.flatten_cons, List.flatten_nil, List.append_nil, List.length_append, List.length_cons, List.length_nil]
    omega
theorem pre_pre (a b : List (List S.Tk)) (o : S.Out) : (S.Out.pre b o).pre a = o.pre (a ++ b) := by simp [S.Out.pre]
theorem It.endc (C : Client l n J) {cn cap : Nat} {A : Option Addr} (h : It l H s fp FB src hd D J i line (.slice A cn cap) cur gap pre F W) (hi : i ≤ 100000) (a b c : Nat) :
    CallsIn Fence.wide (n + 1) Tryz.prog 90 #[.int .i64 a, .int .i64 b, .int .i64 c, .pointer (some ⟨s + 1, 0, none⟩), .pointer (some ⟨s + 1 + 1, 0, none⟩), .pointer (some ⟨H, 0, none⟩)] W fun e W' =>
      e = .returned (.bool true) ∧ ∃ F', It l H s fp FB src hd D J i line (.slice none 0 0) [] false (pre ++ S.emit cur a b c) F' W' := by
  have h1 := h.l1
  refine (end_in (n + 1) (by omega) (C : Client l (n + 1 - 1) J) a b c W h.cu h.jj (fun k hk => ?_) (by have := h.len; omega)).mono ?_
  · obtain ⟨q1, q2, _⟩ := h.ff k hk
    exact ⟨by omega, by omega, by omega, q2⟩
  · rintro e W' ⟨rfl, F', hj, hc, hb, hf⟩
    exact ⟨rfl, F', h.ended C hj hc hb hf (by have := emit_len pre cur a b c; have := h.len; omega)⟩
/-- The scanner has left by a panic. -/
theorem It.fail (C : Client l n J) (h : It l H s fp FB src hd D J i line v cur gap pre F W) (hb : But (· = s) W W') : Cur (s + 1) (s + 1 + 1) H l (s + 3) v cur gap W' ∧ J pre F W' ∧ (∀ k, F k → k ≠ s + 1 ∧ k ≠ s + 1 + 1 ∧ k ≠ H ∧ v.ownBlock ≠ some k) ∧ (∀ k, F k → k ≠ fp) ∧
    W'.heap[fp]? = some (.cells #[.int .i64 0, .int .i64 0] 76 (0, 0)) ∧ W'.heap[FB]? = some (.cells #[.pointer (some ⟨fp, 0, none⟩)] 88 (0, 0)) := by
  have h1 := h.l1
  have h2 := h.l2
  have h3 := h.l3
  refine ⟨h.cu.but hb (fun k e => ⟨by omega, by omega, by omega, fun e2 => by have := h.own_ge k e2; omega⟩), C.stable h.jj (hb.mono (fun k _ e hf => by have := (h.ff k hf).1; omega)), fun k hk => ?_, fun k hk => (h.ff k hk).2.2.1, (hb.block fp (Array.getElem?_eq_some_iff.1 h.hfp).1 (by show ¬ fp = s; omega)).trans h.hfp, (hb.block FB (Array.getElem?_eq_some_iff.1 h.hfb).1 (by show ¬ FB = s; omega)).trans h.hfb⟩
  obtain ⟨q1, q2, _⟩ := h.ff k hk
  exact ⟨by omega, by omega, by omega, q2⟩
end
end Go.Proofs.YtkkpjonfaflkmaaGreatDoor.T

/- clauses: the iterator's walk. -/
namespace Go.Proofs.YtkkpjonfaflkmaaGreatDoor.T
set_option linter.unusedSimpArgs false
set_option linter.unusedVariables false
open Go.RowKit Go.Maps Go.Proofs.YtkkpjonfaflkmaaGreatDoorW.PrintWords Go.Proofs.YtkkpjonfaflkmaaGreatDoorW.PrintLast Go.Proofs.YtkkpjonfaflkmaaGreatDoorW.PrintMore
attribute [local go_sem] Oper.semAt_some

def errV : Option (Nat × Nat) → Array Value
  | none => #[.int .i64 0, .int .i64 0]
  | some (c, ln) => #[.int .i64 c, .int .i64 ln]
theorem end_enters : ∀ args w, (callFunc 90 args).run Tryz.prog w = .ok (.enter 90 args) w := enters_of Tryz.func90 (by kernel_rfl) rfl

set_option maxRecDepth 100000 in
set_option maxHeartbeats 4000000 in
theorem iter_in (m : Nat) {l B0 FB fp : Nat} {src : ByteArray} {J : List (List S.Tk) → (Nat → Prop) → World → Prop} (C : Client l m J) {F : Nat → Prop} (W : World) (hsz : src.size ≤ 100000) (hT : TabOK W)
    (hJ : J [] F W) (hF : ∀ k, F k → k ≠ fp ∧ k ≠ FB) (hB0 : W.heap[B0]? = some (.cells #[.string src] 9 (0, 0))) (hfb : W.heap[FB]? = some (.cells #[.pointer (some ⟨fp, 0, none⟩)] 88 (0, 0)))
    (hfp : W.heap[fp]? = some (.cells #[.int .i64 0, .int .i64 0] 76 (0, 0))) :
    CallsIn Fence.wide (m + 2) Tryz.prog 87 #[.func (.yield l) #[] #[], .pointer (some ⟨B0, 0, none⟩), .pointer (some ⟨FB, 0, none⟩)] W fun e W' =>
      (∃ v, e = .returned v) ∧ ∃ F', J (S.scan (bytesOf src)).cl F' W' ∧ W'.heap[fp]? = some (.cells (errV (S.scan (bytesOf src)).err) 76 (0, 0)) := by
  have hmf : ∀ (fn : Fn) (first cap : Array Value) (w : World), (Instr.makeFunc fn first cap).run Tryz.prog w = .ok (.func fn first cap) w := fun _ _ _ _ => rfl
  have hwf : ∀ f, Fence.wide.fn f := fun _ => trivial
  have HJ := Aside0.mk hJ
  have HF := Aside0.mk hF
  have HFB := Aside0.mk hfb
  have HFP := Aside0.mk hfp
  obtain ⟨H, hH⟩ : ∃ H, W.heap.size = H := ⟨_, rfl⟩
  have hlt : B0 < H ∧ FB < H ∧ fp < H := by
    rw [← hH]
    exact ⟨(Array.getElem?_eq_some_iff.1 hB0).1, (Array.getElem?_eq_some_iff.1 hfb).1, (Array.getElem?_eq_some_iff.1 hfp).1⟩
  obtain ⟨L, hL⟩ : ∃ L, bytesOf src = L := ⟨_, rfl⟩
  obtain ⟨N, hN⟩ : ∃ N, src.size = N := ⟨_, rfl⟩
  have HN : Aside0 (L.length = N) := ⟨by rw [← hL, bytesOf_length]; exact hN⟩
  have HL := Aside0.mk hL
  have HSZ : Aside0 (src.size = N) := ⟨hN⟩
  have hNb : N ≤ 100000 := by rw [← hN]; exact hsz
  rw [hL]
  obtain ⟨OUT, hO⟩ : ∃ OUT, S.scan L = OUT := ⟨_, rfl⟩
  rw [hO]
  have HO := Aside0.mk hO
  have hb1 : But (fun _ => False) W (W.alloc (.cells #[.func (.yield l) #[] #[]] 55)) := (But.refl _ W).alloc _
  have hy1 := heap_alloc_new W (.cells #[.func (.yield l) #[] #[]] 55)
  have hs1 := World.size_alloc W (.cells #[.func (.yield l) #[] #[]] 55)
  rw [hH] at hy1 hs1
  have c0 : (W.alloc (.cells #[.func (.yield l) #[] #[]] 55)).cell? ⟨B0, 0, none⟩ = some (.string src) := (blk_cell ((hb1.block B0 (by omega) (fun e => e)).trans hB0) 0).trans rfl
  have HB1 := Aside0.mk hb1
  have HY1 := Aside0.mk hy1
  have hT1 : TabOK (W.alloc (.cells #[.func (.yield l) #[] #[]] 55)) := hT.of_below hb1.below
  have HT1 := Aside0.mk hT1
  clear hJ hF hfb hfp hB0 hL hN hO hb1 hy1 hT hT1
  refine callsIn_of_wp_defers Tryz.func87 rfl trivial ?_ rfl
  simp only [Tryz.ntmps87, List.size_toArray, List.length_cons, List.length_nil, Nat.reduceAdd, Nat.reduceSub, Array.replicate_succ, Array.replicate_zero, List.push_toArray, List.append_toArray, List.nil_append, List.cons_append]
  gi_upto_region 1 with (fail)
  try rw [hH]
  generalize W.alloc (.cells #[.func (.yield l) #[] #[]] 55) = W1 at *
  gi_cut [4] from 11 (fun s4 wc => ∃ (s : Nat) (hd : Int → Value) (D : DataW Unit), s4 = .pointer (some ⟨s, 0, none⟩) ∧ Aside0 (wc.heap.size = s + 1 ∧ H + 2 < s + 1 ∧ But (fun _ => False) W1 wc ∧ ScM s src 0 1 (H + 1) (H + 1 + 2) hd D wc ∧ ∀ c g, (hd c).ownBlock = some g → H + 1 < g ∧ g < s))
  case first =>
    have hsg : Calls Tryz.prog 88 #[] W1.drew fun e w' => e = .returned (.map (some (H + 1))) ∧ Below (H + 1) W1.drew w' ∧ ∃ hd D, SgI w' (H + 1) (H + 1 + 2) sgPs hd D := by
      have := scan_signs.calls W1.drew ((HT1.out.of_below (below_alloc (below_drew (Below.refl _ _)) (.map #[] 0))).space)
      rw [show W1.drew.heap.size = H + 1 from hs1] at this
      exact this
    have HSG := Lib.hid hsg
    have HREL : Aside0 (∀ (w' : World) (hd : Int → Value) (D : DataW Unit), Below (H + 1) W1.drew w' → SgI w' (H + 1) (H + 1 + 2) sgPs hd D → ∃ (s : Nat) (hd : Int → Value) (D : DataW Unit), Value.pointer (some ⟨w'.heap.size, 0, none⟩) = .pointer (some ⟨s, 0, none⟩) ∧
        Aside0 ((w'.alloc (.cells #[.string src, .int .i64 0, .int .i64 1, .map (some (H + 1))] 93)).heap.size = s + 1 ∧ H + 2 < s + 1 ∧ But (fun _ => False) W1 (w'.alloc (.cells #[.string src, .int .i64 0, .int .i64 1, .map (some (H + 1))] 93)) ∧
          ScM s src 0 1 (H + 1) (H + 1 + 2) hd D (w'.alloc (.cells #[.string src, .int .i64 0, .int .i64 1, .map (some (H + 1))] 93)) ∧ ∀ c g, (hd c).ownBlock = some g → H + 1 < g ∧ g < s)) := ⟨fun w' hd D hb hsg => by
      have hal : But (fun _ => False) w' (w'.alloc (.cells #[.string src, .int .i64 0, .int .i64 1, .map (some (H + 1))] 93)) := (But.refl _ w').alloc _
      have hml : H + 1 < w'.heap.size := hsg.map.lt
      have hrl : ∀ c g, (hd c).ownBlock = some g → H + 1 + 2 ≤ g ∧ g < w'.heap.size := fun c g e => (hsg.row c).lt g e
      refine ⟨w'.heap.size, hd, D, rfl, ⟨World.size_alloc _ _, by omega, ?_, ⟨heap_alloc_new _ _, hsg.blk (hal.block _ hml (fun e => e)) (fun c g e => hal.block g (hrl c g e).2 (fun e => e)), by omega, fun c g e => by have := hrl c g e; omega⟩, fun c g e => by have := hrl c g e; omega⟩⟩
      have h0 : But (fun _ => False) W1 w' := ⟨hb.os, hb.tape, hb.output, hb.size, fun k hk _ => hb.block k (by have h9 : k < W1.heap.size := hk; omega)⟩
      exact h0.trans' hal⟩
    clear hsg
    refine wpIn_region_any (by kernel_rfl) ?_
    change wpAnyIn _ _ _ _ _ _ _ _ _ (World.drew W1)
    refine wpAnyIn_ready (rs := [0, 1]) (by kernel_rfl) (by simp) ?_
    refine AllReadyIn.cons rfl (fun K hK => ?_) (AllReadyIn.cons rfl (fun K hK => ?_) AllReadyIn.nil)
    · go_simp
      refine hK _ _ ?_
      clear hK K
      refine wpAnyIn_ready (rs := [1]) (by kernel_rfl) (by simp) ?_
      refine AllReadyIn.cons rfl (fun K hK => ?_) AllReadyIn.nil
      go_simp
      refine (callsIn_wide.2 HSG.out).mono ?_
      rintro e w' ⟨rfl, hb, hd, D, hsg⟩
      refine hK _ _ ?_
      clear hK K
      refine wpAnyIn_ready (rs := [2]) (by kernel_rfl) (by simp) ?_
      refine AllReadyIn.cons rfl (fun K hK => ?_) AllReadyIn.nil
      go_simp
      refine hK _ _ ?_
      clear hK K
      refine wpAnyIn_ready (rs := [3]) (by kernel_rfl) (by simp) ?_
      refine AllReadyIn.cons rfl (fun K hK => ?_) AllReadyIn.nil
      go_simp
      refine hK _ _ ?_
      clear hK K
      refine wpAnyIn_ready (rs := [4]) (by kernel_rfl) (by simp) ?_
      refine AllReadyIn.cons rfl (fun K hK => ?_) AllReadyIn.nil
      go_simp
      refine hK _ _ ?_
      clear hK K
      refine wpAnyIn_done (by kernel_rfl) ?_ _
      gi_wp2
      gi_meet
      case rel => exact HREL.out w' hd D hb hsg
    · go_simp
      refine (callsIn_wide.2 HSG.out).mono ?_
      rintro e w' ⟨rfl, hb, hd, D, hsg⟩
      refine hK _ _ ?_
      clear hK K
      have c0' : w'.cell? ⟨B0, 0, none⟩ = some (.string src) := (hb.cell (p := ⟨B0, 0, none⟩) (by show B0 < H + 1; omega)).trans c0
      refine wpAnyIn_ready (rs := [0]) (by kernel_rfl) (by simp) ?_
      refine AllReadyIn.cons rfl (fun K hK => ?_) AllReadyIn.nil
      go_simp
      refine hK _ _ ?_
      clear hK K
      refine wpAnyIn_ready (rs := [2]) (by kernel_rfl) (by simp) ?_
      refine AllReadyIn.cons rfl (fun K hK => ?_) AllReadyIn.nil
      go_simp
      refine hK _ _ ?_
      clear hK K
      refine wpAnyIn_ready (rs := [3]) (by kernel_rfl) (by simp) ?_
      refine AllReadyIn.cons rfl (fun K hK => ?_) AllReadyIn.nil
      go_simp
      refine hK _ _ ?_
      clear hK K
      refine wpAnyIn_ready (rs := [4]) (by kernel_rfl) (by simp) ?_
      refine AllReadyIn.cons rfl (fun K hK => ?_) AllReadyIn.nil
      go_simp
      refine hK _ _ ?_
      clear hK K
      refine wpAnyIn_done (by kernel_rfl) ?_ _
      gi_wp2
      gi_meet
      case rel => exact HREL.out w' hd D hb hsg
  case rest =>
    obtain ⟨s, hd, D, rfl, HX⟩ := hcut
    have hws := HX.out.1
    gi_upto_region 6 with (fail)
    obtain ⟨hws', hH2, hbX, hsmX, hrX⟩ := HX.out
    have ha1 : But (fun _ => False) wc (wc.alloc (.cells #[.slice none 0 0] 24)) := (But.refl _ wc).alloc _
    have ha2 : But (fun _ => False) (wc.alloc (.cells #[.slice none 0 0] 24)) ((wc.alloc (.cells #[.slice none 0 0] 24)).alloc (.cells #[.bool false] 4)) := (But.refl _ _).alloc _
    have hn1 := heap_alloc_new wc (.cells #[.slice none 0 0] 24)
    have hn2 := heap_alloc_new (wc.alloc (.cells #[.slice none 0 0] 24)) (.cells #[.bool false] 4)
    have hz1 := World.size_alloc wc (.cells #[.slice none 0 0] 24)
    have hz2 := World.size_alloc (wc.alloc (.cells #[.slice none 0 0] 24)) (.cells #[.bool false] 4)
    rw [hws] at hn1 hz1
    rw [hz1] at hn2 hz2
    have haX : But (fun _ => False) W1 ((wc.alloc (.cells #[.slice none 0 0] 24)).alloc (.cells #[.bool false] 4)) := (hbX.trans' ha1).trans' ha2
    have haW := HB1.out.trans' haX
    have ha12 := ha1.trans' ha2
    have hI0 : It l H s fp FB src hd D J 0 1 (.slice none 0 0) [] false [] F ((wc.alloc (.cells #[.slice none 0 0] 24)).alloc (.cells #[.bool false] 4)) := by
      refine ⟨⟨(ha12.block s (by omega) (fun e => e)).trans hsmX.sc, hsmX.sg.but hsmX.nm hsmX.nr (ha12.mono (fun _ _ e => e.elim)), hsmX.nm, hsmX.nr⟩, ⟨(ha2.block (s + 1) (by omega) (fun e => e)).trans hn1, hn2, (haX.block H (by omega) (fun e => e)).trans HY1.out, World.ownsRow_nil _ _ _ _, by omega, by omega, by omega, by omega, by omega, by omega, by omega⟩,
        C.stable HJ.out (haW.mono (fun _ _ e => e.elim)), fun k hk => ⟨.inl (by have := C.lt HJ.out k hk; omega), by simp [Value.ownBlock], HF.out k hk⟩, (haW.block fp (by omega) (fun e => e)).trans HFP.out, (haW.block FB (by omega) (fun e => e)).trans HFB.out, by simp, by simp, by omega, by omega, by omega, hrX⟩
    have HI0 := Aside0.mk hI0
    clear hI0 ha1 ha2 hn1 hn2 hz1 hz2 haX haW ha12 hws' hbX hsmX hrX hws c0 hH hs1
    generalize (wc.alloc (.cells #[.slice none 0 0] 24)).alloc (.cells #[.bool false] 4) = W3 at *
    gi_loopg [8] (N + 1) (fun gg s8 wr => ∃ (i line : Nat) (v : Value) (cur : List S.Tk) (gap : Bool) (pre : List (List S.Tk)) (F' : Nat → Prop) (f : Nat), i ≤ N ∧ N + 1 - i ≤ gg ∧ N + 1 - i ≤ f ∧ 0 < line ∧ line ≤ i + 1 ∧ Aside0 (It l H s fp FB src hd D J i line v cur gap pre F' wr) ∧ Aside0 ((S.go f (L.drop i) i line cur gap).pre pre = OUT))
    case atStart =>
      refine ⟨0, 1, _, [], false, [], F, N + 1, Nat.zero_le _, by omega, by omega, by omega, by omega, HI0, ⟨?_⟩⟩
      rw [← HO.out]
      unfold S.scan
      rw [HN.out]
      simp [S.Out.pre]
    case round =>
      obtain ⟨i, line, v, cur, gap, pre, F', f, hi, hg, hf, hl0, hl1, HI, HA⟩ := hrel
      obtain ⟨A, cn, cap, rfl, hcn⟩ : ∃ A cn cap, v = .slice A cn cap ∧ cur.length = cn := by
        rcases HI.out.cu.own.2 with ⟨rfl, e2⟩ | ⟨g, cap, cs, rfl, _⟩
        · exact ⟨_, _, _, rfl, e2⟩
        · exact ⟨_, _, _, rfl, rfl⟩
      have HCN := Aside0.mk hcn
      clear hcn
      obtain ⟨f0, rfl⟩ : ∃ f0, f = f0 + 1 := ⟨f - 1, by omega⟩
      have hst := scan_step.calls s src i line (H + 1) (H + 1 + 2) hd D wr hsz (by have := HSZ.out; omega) hl0 (by have := HSZ.out; omega) HI.out.sm
      rw [HL.out] at hst
      have hA := HA.out
      simp only [S.go] at hA
      clear HA
      have hdr : ∀ k, (L.drop i).drop k = L.drop (i + k) := fun k => by rw [List.drop_drop]
      have heg := end_enters
      cases hS : S.step (L.drop i) with
      | fin =>
        rw [hS] at hst hA
        simp only [StepPost, rTk, zTk] at hst
        have HST := Lib.hid hst
        have HA := Aside0.mk hA
        clear hst hA hS
        gi_upto_region 7 with (gi_at_call 91; refine (callsIn_wide.2 HST.out).mono ?_; rintro e w3 ⟨hb3, rfl, hs3⟩)
        have HI3 := Aside0.mk (HI.out.step C hb3 hs3 (by omega))
        have hlen0 := HI.out.len
        obtain ⟨T, hT⟩ : ∃ T, w3.heap.size = T := ⟨_, rfl⟩
        have hb4 : But (fun _ => False) w3 (w3.alloc (.cells #[.int .i64 0, .string ⟨#[]⟩, .bool false, .int .i64 0, .int .i64 0, .int .i64 0] 53)) := (But.refl _ w3).alloc _
        have hn4 := heap_alloc_new w3 (.cells #[.int .i64 0, .string ⟨#[]⟩, .bool false, .int .i64 0, .int .i64 0, .int .i64 0] 53)
        have HI4 := Aside0.mk (HI3.out.new C hb4)
        have hz4 := World.size_alloc w3 (.cells #[.int .i64 0, .string ⟨#[]⟩, .bool false, .int .i64 0, .int .i64 0, .int .i64 0] 53)
        rw [hT] at hn4 hz4
        have hTs : s + 3 ≤ T := by have := HI3.out.cu.lw; omega
        have HTF : Aside0 (¬ F' T ∧ (Value.slice A cn cap).ownBlock ≠ some T) := ⟨fun hf => by have := C.lt HI3.out.jj T hf; omega, fun e => by have := (HI3.out.cu.own.lt T e).2; omega⟩
        try rw [hT]
        clear hb3 hs3 hb4 HI HI3 hT HST
        generalize w3.alloc (.cells #[.int .i64 0, .string ⟨#[]⟩, .bool false, .int .i64 0, .int .i64 0, .int .i64 0] 53) = W4 at *
        have c0 := HI4.out.sm.sc.c1
        have c00 := HI4.out.sm.sc.c2
        have c1 : W4.cell? ⟨s + 1, 0, none⟩ = some (.slice A cn cap) := (blk_cell HI4.out.cu.cb 0).trans rfl
        have c2 : W4.cell? ⟨s + 1 + 1, 0, none⟩ = some (.bool gap) := (blk_cell HI4.out.cu.gb 0).trans rfl
        have f1 := blk_frozen HI4.out.cu.cb 0
        have f2 := blk_frozen HI4.out.cu.gb 0
        have k0 := (blk_cell hn4 0)
        have k1 := (blk_cell hn4 1)
        have k3 := (blk_cell hn4 3)
        have k4 := (blk_cell hn4 4)
        have k5 := (blk_cell hn4 5)
        have hcmc := comma_calls HI4.out.cu.own HI4.out.byt (by have := HI4.out.len; omega)
        cases hcm : S.comma cur with
        | true =>
          have hA := HA.out
          have hct : S.cut cur = cur.dropLast := by unfold S.cut; rw [if_pos hcm]
          rw [hct] at hA
          rw [hcm] at hcmc
          have HCM := Lib.hid hcmc
          have hne : cur ≠ [] := by rintro rfl; cases hcm
          obtain ⟨cq, rfl⟩ : ∃ cq, cn = cq + 1 := ⟨cn - 1, by have := HCN.out; have := List.length_pos_iff.2 hne; omega⟩
          obtain ⟨g, rfl⟩ : ∃ g, A = some ⟨g, 0, none⟩ := by
            rcases HI4.out.cu.own.2 with ⟨e, e2⟩ | ⟨g, cap', cs, e, _⟩
            · exact absurd (List.length_eq_zero_iff.1 e2) hne
            · simp only [Value.slice.injEq] at e; exact ⟨g, e.1⟩
          have hcq := (tks_C HI4.out.cu.own).2.1
          have hcb : cq ≤ 1000000 := by have := HCN.out; have := HI4.out.len; omega
          have hw1 : IntKind.i64.wrap (((cq + 1 : Nat) : Int) - 1) = (cq : Int) := (w64 _ (by omega) (by omega)).trans (by omega)
          have hw2 : ((cq + 1 : Nat) : Int) - 1 = (cq : Int) := by omega
          have hw3 : IntKind.i64.wrap ((cq : Int) + 1 - 1) = (cq : Int) := (w64 _ (by omega) (by omega)).trans (by omega)
          have hw4 : (cq : Int) + 1 - 1 = (cq : Int) := by omega
          have HA := Aside0.mk hA
          clear hA hct hcm hcmc
          gi_upto_region 12 with (gi_at_call 92; refine (callsIn_wide.2 HCM.out).mono ?_; rintro e w' ⟨rfl, ⟨⟨q, rfl⟩⟩⟩)
          have HI6 : Aside0 (It l H s fp FB src hd D J i line (.slice (some ⟨g, 0, none⟩) cq cap) cur.dropLast gap pre F' ((W4.drewN q).setCell ⟨s + 1, 0, none⟩ (.slice (some ⟨g, 0, none⟩) cq cap))) := ⟨(HI4.out.drewN C q).cutc C hne⟩
          clear c0 c00 c1 c2 f1 f2 k0 k1 k3 k4 k5 hn4 hz4
          generalize (W4.drewN q).setCell ⟨s + 1, 0, none⟩ (.slice (some ⟨g, 0, none⟩) cq cap) = W6 at *
          have c0 := HI6.out.sm.sc.c1
          have c00 := HI6.out.sm.sc.c2
          have hen : ∀ q, CallsIn Fence.wide (m + 1) Tryz.prog 90 #[.int .i64 i, .int .i64 ((i : Int)), .int .i64 line, .pointer (some ⟨s + 1, 0, none⟩), .pointer (some ⟨s + 1 + 1, 0, none⟩), .pointer (some ⟨H, 0, none⟩)] (W6.drewN q) fun e W' =>
              e = .returned (.bool true) ∧ ∃ F5, It l H s fp FB src hd D J i line (.slice none 0 0) [] false (pre ++ S.emit cur.dropLast i i line) F5 W' := fun q => (HI6.out.drewN C q).endc C (by omega) i i line
          have HEN := Lib.hid hen
          clear hen
          refine wide_region_still_tail 13 (by kernel_rfl) (by kernel_rfl) ?_
          simp only [List.take_succ_cons, List.take_zero, List.drop_succ_cons, List.drop_zero]
          still_step
          repeat still_step
          refine wpStill_nil ?_
          gi_wp2_with (gi_at_call 90; refine (HEN.out _).mono ?_; rintro e w5 ⟨rfl, F5, hi5⟩; have HI5 := Aside0.mk hi5; clear hi5)
          refine leavesIn_cons (f := 89) (args := #[.pointer (some ⟨FB, 0, none⟩), .pointer (some ⟨s + 1, 0, none⟩), .pointer (some ⟨H, 0, none⟩)]) (by simp) (fun e => by cases e) (by simp [go_sem]) (fun g _ => trivial) ?_
          refine (deferred_idle _ _ _ _ _).mono ?_
          rintro e u' w'' ⟨rfl, rfl, rfl⟩
          simp only [LeavesIn, settle]
          refine ⟨_, results_none rfl _ _ _, ⟨_, rfl⟩, F5, ?_, ?_⟩
          · rw [← HA.out]; exact HI5.out.jj
          · rw [← HA.out]; exact HI5.out.hfp
        | false =>
          have hA := HA.out
          have hct : S.cut cur = cur := by unfold S.cut; rw [hcm, if_neg Bool.false_ne_true]
          rw [hct] at hA
          rw [hcm] at hcmc
          have HCM := Lib.hid hcmc
          have HA := Aside0.mk hA
          clear hA hct hcm hcmc
          gi_upto_region 12 with (gi_at_call 92; refine (callsIn_wide.2 HCM.out).mono ?_; rintro e w' ⟨rfl, ⟨⟨q, rfl⟩⟩⟩)
          have hen : ∀ q, CallsIn Fence.wide (m + 1) Tryz.prog 90 #[.int .i64 i, .int .i64 ((i : Int)), .int .i64 line, .pointer (some ⟨s + 1, 0, none⟩), .pointer (some ⟨s + 1 + 1, 0, none⟩), .pointer (some ⟨H, 0, none⟩)] (W4.drewN q) fun e W' =>
              e = .returned (.bool true) ∧ ∃ F5, It l H s fp FB src hd D J i line (.slice none 0 0) [] false (pre ++ S.emit cur i i line) F5 W' := fun q => (HI4.out.drewN C q).endc C (by omega) i i line
          have HEN := Lib.hid hen
          clear hen
          refine wide_region_still_tail 13 (by kernel_rfl) (by kernel_rfl) ?_
          simp only [List.take_succ_cons, List.take_zero, List.drop_succ_cons, List.drop_zero]
          still_step
          repeat still_step
          refine wpStill_nil ?_
          gi_wp2_with (gi_at_call 90; refine (HEN.out _).mono ?_; rintro e w5 ⟨rfl, F5, hi5⟩; have HI5 := Aside0.mk hi5; clear hi5)
          refine leavesIn_cons (f := 89) (args := #[.pointer (some ⟨FB, 0, none⟩), .pointer (some ⟨s + 1, 0, none⟩), .pointer (some ⟨H, 0, none⟩)]) (by simp) (fun e => by cases e) (by simp [go_sem]) (fun g _ => trivial) ?_
          refine (deferred_idle _ _ _ _ _).mono ?_
          rintro e u' w'' ⟨rfl, rfl, rfl⟩
          simp only [LeavesIn, settle]
          refine ⟨_, results_none rfl _ _ _, ⟨_, rfl⟩, F5, ?_, ?_⟩
          · rw [← HA.out]; exact HI5.out.jj
          · rw [← HA.out]; exact HI5.out.hfp
      | line =>
        have hiN : i < N := by
          have := S.step_some (xs := L.drop i) (by rw [hS]; intro e; cases e)
          rw [List.length_drop, HN.out] at this
          omega
        rw [hS] at hst hA
        simp only [hdr] at hA
        simp only [StepPost, rTk] at hst
        have HST := Lib.hid hst
        have HA := Aside0.mk hA
        clear hst hA hS
        gi_upto_region 7 with (gi_at_call 91; refine (callsIn_wide.2 HST.out).mono ?_; rintro e w3 ⟨hb3, rfl, hs3⟩)
        have HI3 := Aside0.mk (HI.out.step C hb3 hs3 (by omega))
        have hlen0 := HI.out.len
        obtain ⟨T, hT⟩ : ∃ T, w3.heap.size = T := ⟨_, rfl⟩
        have hb4 : But (fun _ => False) w3 (w3.alloc (.cells #[.int .i64 0, .string ⟨#[]⟩, .bool false, .int .i64 line, .int .i64 i, .int .i64 0] 53)) := (But.refl _ w3).alloc _
        have hn4 := heap_alloc_new w3 (.cells #[.int .i64 0, .string ⟨#[]⟩, .bool false, .int .i64 line, .int .i64 i, .int .i64 0] 53)
        have HI4 := Aside0.mk (HI3.out.new C hb4)
        have hz4 := World.size_alloc w3 (.cells #[.int .i64 0, .string ⟨#[]⟩, .bool false, .int .i64 line, .int .i64 i, .int .i64 0] 53)
        rw [hT] at hn4 hz4
        have hTs : s + 3 ≤ T := by have := HI3.out.cu.lw; omega
        have HTF : Aside0 (¬ F' T ∧ (Value.slice A cn cap).ownBlock ≠ some T) := ⟨fun hf => by have := C.lt HI3.out.jj T hf; omega, fun e => by have := (HI3.out.cu.own.lt T e).2; omega⟩
        try rw [hT]
        clear hb3 hs3 hb4 HI HI3 hT HST
        generalize w3.alloc (.cells #[.int .i64 0, .string ⟨#[]⟩, .bool false, .int .i64 line, .int .i64 i, .int .i64 0] 53) = W4 at *
        have c0 := HI4.out.sm.sc.c1
        have c00 := HI4.out.sm.sc.c2
        have c1 : W4.cell? ⟨s + 1, 0, none⟩ = some (.slice A cn cap) := (blk_cell HI4.out.cu.cb 0).trans rfl
        have c2 : W4.cell? ⟨s + 1 + 1, 0, none⟩ = some (.bool gap) := (blk_cell HI4.out.cu.gb 0).trans rfl
        have f1 := blk_frozen HI4.out.cu.cb 0
        have f2 := blk_frozen HI4.out.cu.gb 0
        have k0 := (blk_cell hn4 0)
        have k1 := (blk_cell hn4 1)
        have k3 := (blk_cell hn4 3)
        have k4 := (blk_cell hn4 4)
        have k5 := (blk_cell hn4 5)
        have hcmc := comma_calls HI4.out.cu.own HI4.out.byt (by have := HI4.out.len; omega)
        cases hcm : S.comma cur with
        | true =>
          have hA := HA.out
          rw [hcm, if_pos rfl] at hA
          rw [hcm] at hcmc
          have HCM := Lib.hid hcmc
          have hne : cur ≠ [] := by rintro rfl; cases hcm
          obtain ⟨cq, rfl⟩ : ∃ cq, cn = cq + 1 := ⟨cn - 1, by have := HCN.out; have := List.length_pos_iff.2 hne; omega⟩
          obtain ⟨g, rfl⟩ : ∃ g, A = some ⟨g, 0, none⟩ := by
            rcases HI4.out.cu.own.2 with ⟨e, e2⟩ | ⟨g, cap', cs, e, _⟩
            · exact absurd (List.length_eq_zero_iff.1 e2) hne
            · simp only [Value.slice.injEq] at e; exact ⟨g, e.1⟩
          have hcq := (tks_C HI4.out.cu.own).2.1
          have hcb : cq ≤ 1000000 := by have := HCN.out; have := HI4.out.len; omega
          have hw1 : IntKind.i64.wrap (((cq + 1 : Nat) : Int) - 1) = (cq : Int) := (w64 _ (by omega) (by omega)).trans (by omega)
          have hw2 : ((cq + 1 : Nat) : Int) - 1 = (cq : Int) := by omega
          have hw3 : IntKind.i64.wrap ((cq : Int) + 1 - 1) = (cq : Int) := (w64 _ (by omega) (by omega)).trans (by omega)
          have hw4 : (cq : Int) + 1 - 1 = (cq : Int) := by omega
          have HA := Aside0.mk hA
          clear hA hcm hcmc
          gi_wp2_with (gi_at_call 92; refine (callsIn_wide.2 HCM.out).mono ?_; rintro e w' ⟨rfl, ⟨⟨q, rfl⟩⟩⟩)
          gi_roundg (N + 1 - (i + 1))
          case measure => omega
          case rel => exact ⟨(i + 1), (line + 1), .slice (some ⟨g, 0, none⟩) cq cap, cur.dropLast, true, pre, F', f0, by omega, by omega, by omega, by omega, by omega, ⟨((HI4.out.drewN C q).cutc C hne).setGap C true⟩, ⟨HA.out⟩⟩
        | false =>
          have hA := HA.out
          rw [hcm, if_neg Bool.false_ne_true] at hA
          rw [hcm] at hcmc
          have HCM := Lib.hid hcmc
          have HA := Aside0.mk hA
          clear hA hcm hcmc
          have hen : ∀ q, CallsIn Fence.wide (m + 1) Tryz.prog 90 #[.int .i64 i, .int .i64 ((i : Int) + 1), .int .i64 line, .pointer (some ⟨s + 1, 0, none⟩), .pointer (some ⟨s + 1 + 1, 0, none⟩), .pointer (some ⟨H, 0, none⟩)] (W4.drewN q) fun e W' =>
              e = .returned (.bool true) ∧ ∃ F5, It l H s fp FB src hd D J (i + 1) (line + 1) (.slice none 0 0) [] false (pre ++ S.emit cur i (i + 1) line) F5 W' := fun q => (HI4.out.drewN C q).endc C (by omega) i (i + 1) line
          have HEN := Lib.hid hen
          clear hen
          gi_wp2_with (first | (gi_at_call 92; refine (callsIn_wide.2 HCM.out).mono ?_; rintro e w' ⟨rfl, ⟨⟨q, rfl⟩⟩⟩) | (gi_at_call 90; refine (HEN.out _).mono ?_; rintro e w5 ⟨rfl, F5, hi5⟩; have HI5 := Aside0.mk hi5; clear hi5))
          gi_roundg (N + 1 - (i + 1))
          case measure => omega
          case rel => exact ⟨(i + 1), (line + 1), _, [], false, _, F5, f0, by omega, by omega, by omega, by omega, by omega, ⟨HI5.out⟩, ⟨by rw [← pre_pre]; exact HA.out⟩⟩
      | blank =>
        have hiN : i < N := by
          have := S.step_some (xs := L.drop i) (by rw [hS]; intro e; cases e)
          rw [List.length_drop, HN.out] at this
          omega
        rw [hS] at hst hA
        simp only [hdr] at hA
        simp only [StepPost, rTk] at hst
        have HST := Lib.hid hst
        have HA := Aside0.mk hA
        clear hst hA hS
        gi_upto_region 7 with (gi_at_call 91; refine (callsIn_wide.2 HST.out).mono ?_; rintro e w3 ⟨hb3, rfl, hs3⟩)
        have HI3 := Aside0.mk (HI.out.step C hb3 hs3 (by omega))
        have hlen0 := HI.out.len
        obtain ⟨T, hT⟩ : ∃ T, w3.heap.size = T := ⟨_, rfl⟩
        have hb4 : But (fun _ => False) w3 (w3.alloc (.cells #[.int .i64 0, .string ⟨#[]⟩, .bool false, .int .i64 line, .int .i64 i, .int .i64 0] 53)) := (But.refl _ w3).alloc _
        have hn4 := heap_alloc_new w3 (.cells #[.int .i64 0, .string ⟨#[]⟩, .bool false, .int .i64 line, .int .i64 i, .int .i64 0] 53)
        have HI4 := Aside0.mk (HI3.out.new C hb4)
        have hz4 := World.size_alloc w3 (.cells #[.int .i64 0, .string ⟨#[]⟩, .bool false, .int .i64 line, .int .i64 i, .int .i64 0] 53)
        rw [hT] at hn4 hz4
        have hTs : s + 3 ≤ T := by have := HI3.out.cu.lw; omega
        have HTF : Aside0 (¬ F' T ∧ (Value.slice A cn cap).ownBlock ≠ some T) := ⟨fun hf => by have := C.lt HI3.out.jj T hf; omega, fun e => by have := (HI3.out.cu.own.lt T e).2; omega⟩
        try rw [hT]
        clear hb3 hs3 hb4 HI HI3 hT HST
        generalize w3.alloc (.cells #[.int .i64 0, .string ⟨#[]⟩, .bool false, .int .i64 line, .int .i64 i, .int .i64 0] 53) = W4 at *
        have c0 := HI4.out.sm.sc.c1
        have c00 := HI4.out.sm.sc.c2
        have c1 : W4.cell? ⟨s + 1, 0, none⟩ = some (.slice A cn cap) := (blk_cell HI4.out.cu.cb 0).trans rfl
        have c2 : W4.cell? ⟨s + 1 + 1, 0, none⟩ = some (.bool gap) := (blk_cell HI4.out.cu.gb 0).trans rfl
        have f1 := blk_frozen HI4.out.cu.cb 0
        have f2 := blk_frozen HI4.out.cu.gb 0
        have k0 := (blk_cell hn4 0)
        have k1 := (blk_cell hn4 1)
        have k3 := (blk_cell hn4 3)
        have k4 := (blk_cell hn4 4)
        have k5 := (blk_cell hn4 5)
        gi_wp2
        gi_roundg (N + 1 - (i + 1))
        case measure => omega
        case rel => exact ⟨(i + 1), line, _, cur, true, pre, F', f0, by omega, by omega, by omega, by omega, by omega, ⟨HI4.out.setGap C true⟩, ⟨HA.out⟩⟩
      | cmt k dl =>
        have hk := S.step_cmt hS
        rw [List.length_drop, HN.out] at hk
        rw [hS] at hst hA
        simp only [hdr] at hA
        simp only [StepPost, rTk] at hst
        have HST := Lib.hid hst
        have HA := Aside0.mk hA
        clear hst hA hS
        gi_upto_region 7 with (gi_at_call 91; refine (callsIn_wide.2 HST.out).mono ?_; rintro e w3 ⟨hb3, rfl, hs3⟩)
        have HI3 := Aside0.mk (HI.out.step C hb3 hs3 (by omega))
        have hlen0 := HI.out.len
        obtain ⟨T, hT⟩ : ∃ T, w3.heap.size = T := ⟨_, rfl⟩
        have hb4 : But (fun _ => False) w3 (w3.alloc (.cells #[.int .i64 0, .string ⟨#[]⟩, .bool false, .int .i64 line, .int .i64 i, .int .i64 0] 53)) := (But.refl _ w3).alloc _
        have hn4 := heap_alloc_new w3 (.cells #[.int .i64 0, .string ⟨#[]⟩, .bool false, .int .i64 line, .int .i64 i, .int .i64 0] 53)
        have HI4 := Aside0.mk (HI3.out.new C hb4)
        have hz4 := World.size_alloc w3 (.cells #[.int .i64 0, .string ⟨#[]⟩, .bool false, .int .i64 line, .int .i64 i, .int .i64 0] 53)
        rw [hT] at hn4 hz4
        have hTs : s + 3 ≤ T := by have := HI3.out.cu.lw; omega
        have HTF : Aside0 (¬ F' T ∧ (Value.slice A cn cap).ownBlock ≠ some T) := ⟨fun hf => by have := C.lt HI3.out.jj T hf; omega, fun e => by have := (HI3.out.cu.own.lt T e).2; omega⟩
        try rw [hT]
        clear hb3 hs3 hb4 HI HI3 hT HST
        generalize w3.alloc (.cells #[.int .i64 0, .string ⟨#[]⟩, .bool false, .int .i64 line, .int .i64 i, .int .i64 0] 53) = W4 at *
        have c0 := HI4.out.sm.sc.c1
        have c00 := HI4.out.sm.sc.c2
        have c1 : W4.cell? ⟨s + 1, 0, none⟩ = some (.slice A cn cap) := (blk_cell HI4.out.cu.cb 0).trans rfl
        have c2 : W4.cell? ⟨s + 1 + 1, 0, none⟩ = some (.bool gap) := (blk_cell HI4.out.cu.gb 0).trans rfl
        have f1 := blk_frozen HI4.out.cu.cb 0
        have f2 := blk_frozen HI4.out.cu.gb 0
        have k0 := (blk_cell hn4 0)
        have k1 := (blk_cell hn4 1)
        have k3 := (blk_cell hn4 3)
        have k4 := (blk_cell hn4 4)
        have k5 := (blk_cell hn4 5)
        gi_wp2
        gi_roundg (N + 1 - (i + k))
        case measure => omega
        case rel => exact ⟨(i + k), (line + dl), _, cur, gap, pre, F', f0, by omega, by omega, by omega, by omega, by omega, ⟨HI4.out⟩, ⟨HA.out⟩⟩
      | tok k t k' =>
        obtain ⟨b1, b2, b3, b4, b5⟩ := S.step_tok (xs := L.drop i) (fun x hx => bo_range src x (by rw [HL.out]; exact List.mem_of_mem_drop hx)) hS
        rw [List.length_drop, HN.out] at b2
        obtain ⟨E, hE⟩ : ∃ E, i + k' = E := ⟨_, rfl⟩
        rw [hS] at hst hA
        simp only [hdr, hE] at hA
        simp only [StepPost, rTk, hE] at hst
        have HST := Lib.hid hst
        have HA := Aside0.mk hA
        clear hst hA hS
        gi_upto_region 7 with (gi_at_call 91; refine (callsIn_wide.2 HST.out).mono ?_; rintro e w3 ⟨hb3, rfl, hs3⟩)
        have HI3 := Aside0.mk (HI.out.step C hb3 hs3 (by omega))
        have hlen0 := HI.out.len
        obtain ⟨T, hT⟩ : ∃ T, w3.heap.size = T := ⟨_, rfl⟩
        have hb4 : But (fun _ => False) w3 (w3.alloc (.cells #[.int .i64 k, .string (strOfNums t), .bool false, .int .i64 line, .int .i64 i, .int .i64 E] 53)) := (But.refl _ w3).alloc _
        have hn4 := heap_alloc_new w3 (.cells #[.int .i64 k, .string (strOfNums t), .bool false, .int .i64 line, .int .i64 i, .int .i64 E] 53)
        have HI4 := Aside0.mk (HI3.out.new C hb4)
        have hz4 := World.size_alloc w3 (.cells #[.int .i64 k, .string (strOfNums t), .bool false, .int .i64 line, .int .i64 i, .int .i64 E] 53)
        rw [hT] at hn4 hz4
        have hTs : s + 3 ≤ T := by have := HI3.out.cu.lw; omega
        have HTF : Aside0 (¬ F' T ∧ (Value.slice A cn cap).ownBlock ≠ some T) := ⟨fun hf => by have := C.lt HI3.out.jj T hf; omega, fun e => by have := (HI3.out.cu.own.lt T e).2; omega⟩
        try rw [hT]
        clear hb3 hs3 hb4 HI HI3 hT HST
        generalize w3.alloc (.cells #[.int .i64 k, .string (strOfNums t), .bool false, .int .i64 line, .int .i64 i, .int .i64 E] 53) = W4 at *
        have c0 := HI4.out.sm.sc.c1
        have c00 := HI4.out.sm.sc.c2
        have c1 : W4.cell? ⟨s + 1, 0, none⟩ = some (.slice A cn cap) := (blk_cell HI4.out.cu.cb 0).trans rfl
        have c2 : W4.cell? ⟨s + 1 + 1, 0, none⟩ = some (.bool gap) := (blk_cell HI4.out.cu.gb 0).trans rfl
        have f1 := blk_frozen HI4.out.cu.cb 0
        have f2 := blk_frozen HI4.out.cu.gb 0
        have k0 := (blk_cell hn4 0)
        have k1 := (blk_cell hn4 1)
        have k3 := (blk_cell hn4 3)
        have k4 := (blk_cell hn4 4)
        have k5 := (blk_cell hn4 5)
        by_cases hsem : k = 3 ∧ t = [59]
        · obtain ⟨rfl, rfl⟩ := hsem
          have hA := HA.out
          rw [if_pos ⟨rfl, rfl⟩] at hA
          have HA := Aside0.mk hA
          have hts : ((strOfNums [59]).toList == ([59] : List UInt8)) = true := by rw [str_eq, bytesOf_str _ (by decide)]; rfl
          clear hA
          have hen : ∀ q, CallsIn Fence.wide (m + 1) Tryz.prog 90 #[.int .i64 i, .int .i64 ((E : Int)), .int .i64 line, .pointer (some ⟨s + 1, 0, none⟩), .pointer (some ⟨s + 1 + 1, 0, none⟩), .pointer (some ⟨H, 0, none⟩)] (W4.drewN q) fun e W' =>
              e = .returned (.bool true) ∧ ∃ F5, It l H s fp FB src hd D J E line (.slice none 0 0) [] false (pre ++ S.emit cur i E line) F5 W' := fun q => (HI4.out.drewN C q).endc C (by omega) i E line
          have HEN := Lib.hid hen
          clear hen
          have HEN0 := Lib.hid (HEN.out 0)
          gi_wp2_with (gi_at_call 90; refine (HEN0.out).mono ?_; rintro e w5 ⟨rfl, F5, hi5⟩; have HI5 := Aside0.mk hi5; clear hi5)
          gi_roundg (N + 1 - E)
          case measure => omega
          case rel => exact ⟨E, line, _, [], false, _, F5, f0, by omega, by omega, by omega, by omega, by omega, ⟨HI5.out⟩, ⟨by rw [← pre_pre]; exact HA.out⟩⟩
        · have hor : ((((k : Nat) : Int) == 3) = false) ∨ ((((k : Nat) : Int) == 3) = true ∧ ((strOfNums t).toList == ([59] : List UInt8)) = false) := by
            by_cases h3 : k = 3
            · refine .inr ⟨beq_iff_eq.2 (by omega), ?_⟩
              rw [str_eq, bytesOf_str _ b3]
              exact decide_eq_false (fun e => hsem ⟨h3, e⟩)
            · exact .inl (beq_eq_false_iff_ne.2 (by omega))
          obtain ⟨gv, hgv⟩ : ∃ gv, (gap && !decide (cur = [])) = gv := ⟨_, rfl⟩
          have hA := HA.out
          clear HA
          rw [if_neg hsem, hgv] at hA
          have hgvf : (gap = false ∧ gv = false) ∨ (gap = true ∧ decide ((0 : Int) < (cn : Int)) = gv ∧ decide (0 < cn) = gv) := by
            cases gap with
            | false => exact .inl ⟨rfl, by rw [← hgv]; rfl⟩
            | true =>
              refine .inr ⟨rfl, ?_, ?_⟩
              all_goals
                rw [← hgv]
                by_cases hz : cur = []
                · have hc0 : cn = 0 := by rw [← HCN.out, hz]; rfl
                  subst hc0
                  simp [hz]
                · have := List.length_pos_iff.2 hz
                  have hc0 : 0 < cn := by rw [← HCN.out]; exact this
                  have hc1 : (0 : Int) < (cn : Int) := by omega
                  simp [hz, hc0]
          obtain ⟨tk, htk⟩ : ∃ tk : S.Tk, tk = ⟨k, t, gv, line, i, E⟩ := ⟨_, rfl⟩
          rw [← htk] at hA
          have HA := Aside0.mk hA
          have HTK : Aside0 (tkL tk = [.int .i64 k, .string (strOfNums t), .bool gv, .int .i64 line, .int .i64 i, .int .i64 E] ∧ Bytes tk) := ⟨by rw [htk]; exact ⟨rfl, b3⟩⟩
          have HI5 := Aside0.mk (HI4.out.other C (A := fun k => k = T) ((But.refl (fun k => k = T) W4).set ⟨T, 2, none⟩ (.bool gv) rfl) (fun k e => ⟨by omega, by rw [e]; exact HTF.out.1, by rw [e]; exact HTF.out.2⟩))
          have hn5 : (W4.setCell ⟨T, 2, none⟩ (.bool gv)).heap[T]? = some (.cells #[.int .i64 k, .string (strOfNums t), .bool gv, .int .i64 line, .int .i64 i, .int .i64 E] 53 (0, 0)) := blk_put hn4 2 (.bool gv) rfl
          have HN5 := Aside0.mk hn5
          have k2 := blk_cell hn4 2
          have g2 := blk_frozen hn4 2
          have HOW : Aside0 (∀ X, But (fun _ => False) (W4.setCell ⟨T, 2, none⟩ (.bool gv)) X → X.ownsRow (s + 3) 53 6 (.slice A cn cap) cn (tksL cur)) := ⟨fun X hX => by
            have := own_but HI5.out.cu.own hX (fun k e => e.elim)
            rwa [HCN.out] at this⟩
          have hcnb : cn ≤ 1000000 := by have := HCN.out; have := HI4.out.len; omega
          have hlwb : s + 3 ≤ (W4.setCell ⟨T, 2, none⟩ (.bool gv)).heap.size := HI5.out.cu.lw
          obtain ⟨i0, hi0, hz0, hz1, hz2⟩ := info_parts (show (Tryz.prog.info? 53).map (fun i => (i.zero, i.size, i.bytes)) = some (some (.agg zTk), 6, 56) by kernel_rfl)
          clear hA hgv htk hsem hn5
          rcases hor with e3 | ⟨e3, ets⟩
          all_goals
            rcases hgvf with ⟨rfl, rfl⟩ | ⟨rfl, y1, y2⟩
            · gi_upto_region 23 with (fail)
              generalize W4.setCell ⟨T, 2, none⟩ (.bool false) = W5 at *
              clear c0 c00 c1 c2 f1 f2 k0 k1 k2 k3 k4 k5 g2 hn4 hz4
              have c1 : W5.cell? ⟨s + 1, 0, none⟩ = some (.slice A cn cap) := (blk_cell HI5.out.cu.cb 0).trans rfl
              have c2 := blk_cell HI5.out.cu.gb 0
              have k0 := blk_cell HN5.out 0
              have k1 := blk_cell HN5.out 1
              have k2 := blk_cell HN5.out 2
              have k3 := blk_cell HN5.out 3
              have k4 := blk_cell HN5.out 4
              have k5 := blk_cell HN5.out 5
              have hnX := heap_alloc_new W5 (.cells #[.int .i64 k, .string (strOfNums t), .bool false, .int .i64 line, .int .i64 i, .int .i64 E] 53)
              have hXb : But (fun _ => False) W5 (W5.alloc (.cells #[.int .i64 k, .string (strOfNums t), .bool false, .int .i64 line, .int .i64 i, .int .i64 E] 53)) := (But.refl _ W5).alloc _
              have HXO := Aside0.mk (HOW.out _ hXb)
              have HXB := Aside0.mk hXb
              have HXN := Aside0.mk hnX
              have HCB : Aside0 (∀ w1, (W5.alloc (.cells #[.int .i64 k, .string (strOfNums t), .bool false, .int .i64 line, .int .i64 i, .int .i64 E] 53)).grownBy w1 (Value.slice A cn cap).ownBlock → w1.heap[s + 1]? = some (.cells #[.slice A cn cap] 24 (0, 0)) ∧ w1.heap[s + 1 + 1]? = some (.cells #[.bool false] 4 (0, 0))) := ⟨fun w1 hg => by
                have hge := HI5.out.own_ge
                have hsz := HXB.out.size
                exact ⟨(hg.block (s + 1) (by omega) (fun e => by have := hge _ e.symm; omega)).trans ((HXB.out.block (s + 1) (by omega) (fun e => e)).trans HI5.out.cu.cb), (hg.block (s + 1 + 1) (by omega) (fun e => by have := hge _ e.symm; omega)).trans ((HXB.out.block (s + 1 + 1) (by omega) (fun e => e)).trans HI5.out.cu.gb)⟩⟩
              clear hXb hnX
              gi_upto_region 24 with (gi_at_builtin; refine wpListIn_append_own_at _ rfl (.tmp 91) (.tmp 93) 24 rfl (s + 3) 53 i0 (.agg zTk) 6 56 Tryz.underlying24 hi0 hz0 hz1 hz2 rfl (by decide) (.slice A cn cap) cn (tksL cur) rfl HXO.out ⟨W5.heap.size, 0, none⟩ 1 1 (tkL tk) rfl (by rw [HTK.out.1]; rfl) (fun j u hu => by rw [add_plain, blk_cell HXN.out j]; rw [HTK.out.1] at hu; simpa using hu) (tkL_one _) (by unfold maxLen; omega) (by omega) (by rw [World.size_alloc]; omega) ?_; intro v' w1 hown' hgrow _ hat; obtain ⟨g', cap', rfl⟩ := ownsRow_succ hown'; have HOW1 := Aside0.mk hown'; have HGR := Aside0.mk hgrow; have HAT := Aside0.mk hat; have e1 := blk_cell (HCB.out w1 hgrow).1 0; have e2 := blk_cell (HCB.out w1 hgrow).2 0; have q1 := blk_frozen (HCB.out w1 hgrow).1 0; have q2 := blk_frozen (HCB.out w1 hgrow).2 0; clear hown' hgrow hat)
              have HI6 := Aside0.mk (HI5.out.more C HXB.out (v' := .slice (some ⟨g', 0, none⟩) (cn + 1) cap') (t := tk) (by rw [HCN.out]; exact HOW1.out) HGR.out HAT.out HTK.out.2 (by omega))
              generalize (w1.setCell ⟨s + 1, 0, none⟩ (.slice (some ⟨g', 0, none⟩) (cn + 1) cap')).setCell ⟨s + 1 + 1, 0, none⟩ (.bool false) = W6 at *
              clear c1 c2 k0 k1 k2 k3 k4 k5 e1 e2 q1 q2
              have c0 := HI6.out.sm.sc.c1
              have c00 := HI6.out.sm.sc.c2
              have c1 : W6.cell? ⟨s + 1, 0, none⟩ = some (.slice (some ⟨g', 0, none⟩) (cn + 1) cap') := (blk_cell HI6.out.cu.cb 0).trans rfl
              have hlbc := label_calls HI6.out.cu.own HI6.out.byt
              have hA := HA.out
              cases hlb : S.label (cur ++ [tk]) with
              | true =>
                rw [hlb, if_pos rfl] at hA
                rw [hlb] at hlbc
                have HLB := Lib.hid hlbc
                have HA := Aside0.mk hA
                clear hA hlb hlbc
                have hen : ∀ q, CallsIn Fence.wide (m + 1) Tryz.prog 90 #[.int .i64 E, .int .i64 ((E : Int)), .int .i64 line, .pointer (some ⟨s + 1, 0, none⟩), .pointer (some ⟨s + 1 + 1, 0, none⟩), .pointer (some ⟨H, 0, none⟩)] (W6.drewN q) fun e W' =>
                    e = .returned (.bool true) ∧ ∃ F5, It l H s fp FB src hd D J E line (.slice none 0 0) [] false (pre ++ S.emit (cur ++ [tk]) E E line) F5 W' := fun q => (HI6.out.drewN C q).endc C (by omega) E E line
                have HEN := Lib.hid hen
                clear hen

                gi_upto_region 25 with (gi_at_call 54; refine (callsIn_wide.2 HLB.out).mono ?_; rintro e w' ⟨rfl, ⟨⟨q, rfl⟩⟩⟩)
                refine wide_region_still_tail 13 (by kernel_rfl) (by kernel_rfl) ?_
                simp only [List.take_succ_cons, List.take_zero, List.drop_succ_cons, List.drop_zero]
                still_step
                repeat still_step
                refine wpStill_nil ?_

                gi_wp2_with (gi_at_call 90; refine (HEN.out _).mono ?_; rintro e w5 ⟨rfl, F5, hi5⟩; have HI5 := Aside0.mk hi5; clear hi5)
                gi_roundg (N + 1 - E)
                case measure => omega
                case rel => exact ⟨E, line, _, [], false, _, F5, f0, by omega, by omega, by omega, by omega, by omega, ⟨HI5.out⟩, ⟨by rw [← pre_pre]; exact HA.out⟩⟩

              | false =>
                rw [hlb, if_neg Bool.false_ne_true] at hA
                rw [hlb] at hlbc
                have HLB := Lib.hid hlbc
                have HA := Aside0.mk hA
                clear hA hlb hlbc
                gi_wp2_with (gi_at_call 54; refine (callsIn_wide.2 HLB.out).mono ?_; rintro e w' ⟨rfl, ⟨⟨q, rfl⟩⟩⟩)
                gi_roundg (N + 1 - E)
                case measure => omega
                case rel => exact ⟨E, line, _, cur ++ [tk], false, pre, F', f0, by omega, by omega, by omega, by omega, by omega, ⟨HI6.out.drewN C _⟩, ⟨HA.out⟩⟩
            · gi_upto_region 23 with (fail)
              generalize W4.setCell ⟨T, 2, none⟩ (.bool gv) = W5 at *
              clear c0 c00 c1 c2 f1 f2 k0 k1 k2 k3 k4 k5 g2 hn4 hz4
              have c1 : W5.cell? ⟨s + 1, 0, none⟩ = some (.slice A cn cap) := (blk_cell HI5.out.cu.cb 0).trans rfl
              have c2 := blk_cell HI5.out.cu.gb 0
              have k0 := blk_cell HN5.out 0
              have k1 := blk_cell HN5.out 1
              have k2 := blk_cell HN5.out 2
              have k3 := blk_cell HN5.out 3
              have k4 := blk_cell HN5.out 4
              have k5 := blk_cell HN5.out 5
              have hnX := heap_alloc_new W5 (.cells #[.int .i64 k, .string (strOfNums t), .bool gv, .int .i64 line, .int .i64 i, .int .i64 E] 53)
              have hXb : But (fun _ => False) W5 (W5.alloc (.cells #[.int .i64 k, .string (strOfNums t), .bool gv, .int .i64 line, .int .i64 i, .int .i64 E] 53)) := (But.refl _ W5).alloc _
              have HXO := Aside0.mk (HOW.out _ hXb)
              have HXB := Aside0.mk hXb
              have HXN := Aside0.mk hnX
              have HCB : Aside0 (∀ w1, (W5.alloc (.cells #[.int .i64 k, .string (strOfNums t), .bool gv, .int .i64 line, .int .i64 i, .int .i64 E] 53)).grownBy w1 (Value.slice A cn cap).ownBlock → w1.heap[s + 1]? = some (.cells #[.slice A cn cap] 24 (0, 0)) ∧ w1.heap[s + 1 + 1]? = some (.cells #[.bool true] 4 (0, 0))) := ⟨fun w1 hg => by
                have hge := HI5.out.own_ge
                have hsz := HXB.out.size
                exact ⟨(hg.block (s + 1) (by omega) (fun e => by have := hge _ e.symm; omega)).trans ((HXB.out.block (s + 1) (by omega) (fun e => e)).trans HI5.out.cu.cb), (hg.block (s + 1 + 1) (by omega) (fun e => by have := hge _ e.symm; omega)).trans ((HXB.out.block (s + 1 + 1) (by omega) (fun e => e)).trans HI5.out.cu.gb)⟩⟩
              clear hXb hnX
              gi_upto_region 24 with (gi_at_builtin; refine wpListIn_append_own_at _ rfl (.tmp 91) (.tmp 93) 24 rfl (s + 3) 53 i0 (.agg zTk) 6 56 Tryz.underlying24 hi0 hz0 hz1 hz2 rfl (by decide) (.slice A cn cap) cn (tksL cur) rfl HXO.out ⟨W5.heap.size, 0, none⟩ 1 1 (tkL tk) rfl (by rw [HTK.out.1]; rfl) (fun j u hu => by rw [add_plain, blk_cell HXN.out j]; rw [HTK.out.1] at hu; simpa using hu) (tkL_one _) (by unfold maxLen; omega) (by omega) (by rw [World.size_alloc]; omega) ?_; intro v' w1 hown' hgrow _ hat; obtain ⟨g', cap', rfl⟩ := ownsRow_succ hown'; have HOW1 := Aside0.mk hown'; have HGR := Aside0.mk hgrow; have HAT := Aside0.mk hat; have e1 := blk_cell (HCB.out w1 hgrow).1 0; have e2 := blk_cell (HCB.out w1 hgrow).2 0; have q1 := blk_frozen (HCB.out w1 hgrow).1 0; have q2 := blk_frozen (HCB.out w1 hgrow).2 0; clear hown' hgrow hat)
              have HI6 := Aside0.mk (HI5.out.more C HXB.out (v' := .slice (some ⟨g', 0, none⟩) (cn + 1) cap') (t := tk) (by rw [HCN.out]; exact HOW1.out) HGR.out HAT.out HTK.out.2 (by omega))
              generalize (w1.setCell ⟨s + 1, 0, none⟩ (.slice (some ⟨g', 0, none⟩) (cn + 1) cap')).setCell ⟨s + 1 + 1, 0, none⟩ (.bool false) = W6 at *
              clear c1 c2 k0 k1 k2 k3 k4 k5 e1 e2 q1 q2
              have c0 := HI6.out.sm.sc.c1
              have c00 := HI6.out.sm.sc.c2
              have c1 : W6.cell? ⟨s + 1, 0, none⟩ = some (.slice (some ⟨g', 0, none⟩) (cn + 1) cap') := (blk_cell HI6.out.cu.cb 0).trans rfl
              have hlbc := label_calls HI6.out.cu.own HI6.out.byt
              have hA := HA.out
              cases hlb : S.label (cur ++ [tk]) with
              | true =>
                rw [hlb, if_pos rfl] at hA
                rw [hlb] at hlbc
                have HLB := Lib.hid hlbc
                have HA := Aside0.mk hA
                clear hA hlb hlbc
                have hen : ∀ q, CallsIn Fence.wide (m + 1) Tryz.prog 90 #[.int .i64 E, .int .i64 ((E : Int)), .int .i64 line, .pointer (some ⟨s + 1, 0, none⟩), .pointer (some ⟨s + 1 + 1, 0, none⟩), .pointer (some ⟨H, 0, none⟩)] (W6.drewN q) fun e W' =>
                    e = .returned (.bool true) ∧ ∃ F5, It l H s fp FB src hd D J E line (.slice none 0 0) [] false (pre ++ S.emit (cur ++ [tk]) E E line) F5 W' := fun q => (HI6.out.drewN C q).endc C (by omega) E E line
                have HEN := Lib.hid hen
                clear hen

                gi_upto_region 25 with (gi_at_call 54; refine (callsIn_wide.2 HLB.out).mono ?_; rintro e w' ⟨rfl, ⟨⟨q, rfl⟩⟩⟩)
                refine wide_region_still_tail 13 (by kernel_rfl) (by kernel_rfl) ?_
                simp only [List.take_succ_cons, List.take_zero, List.drop_succ_cons, List.drop_zero]
                still_step
                repeat still_step
                refine wpStill_nil ?_

                gi_wp2_with (gi_at_call 90; refine (HEN.out _).mono ?_; rintro e w5 ⟨rfl, F5, hi5⟩; have HI5 := Aside0.mk hi5; clear hi5)
                gi_roundg (N + 1 - E)
                case measure => omega
                case rel => exact ⟨E, line, _, [], false, _, F5, f0, by omega, by omega, by omega, by omega, by omega, ⟨HI5.out⟩, ⟨by rw [← pre_pre]; exact HA.out⟩⟩

              | false =>
                rw [hlb, if_neg Bool.false_ne_true] at hA
                rw [hlb] at hlbc
                have HLB := Lib.hid hlbc
                have HA := Aside0.mk hA
                clear hA hlb hlbc
                gi_wp2_with (gi_at_call 54; refine (callsIn_wide.2 HLB.out).mono ?_; rintro e w' ⟨rfl, ⟨⟨q, rfl⟩⟩⟩)
                gi_roundg (N + 1 - E)
                case measure => omega
                case rel => exact ⟨E, line, _, cur ++ [tk], false, pre, F', f0, by omega, by omega, by omega, by omega, by omega, ⟨HI6.out.drewN C _⟩, ⟨HA.out⟩⟩
      | err c dl =>
        rw [hS] at hst hA
        simp only [StepPost] at hst
        have HST := Lib.hid hst
        have HA := Aside0.mk hA
        clear hst hA hS
        gi_wp2_with (gi_at_call 91; refine (callsIn_wide.2 HST.out).mono ?_; rintro e w3 ⟨hb3, rfl, i', l', hs3⟩; unfold Fails)
        have HFL := Aside0.mk (HI.out.fail C hb3)
        obtain ⟨z1, z2, z3, z4, z5, z6⟩ := HFL.out
        refine leavesIn_cons (f := 89) (args := #[.pointer (some ⟨FB, 0, none⟩), .pointer (some ⟨s + 1, 0, none⟩), .pointer (some ⟨H, 0, none⟩)]) (by simp) (fun e => by cases e) (by simp [go_sem]) (fun g _ => trivial) ?_
        refine (deferred_panic (m + 1) (by omega) (C : Client l (m + 1 - 1) J) c ((line + dl : Nat) : Int) 0 0 w3 z1 z2 z3 z4 z5 z6 ⟨by have := HI.out.l1; have := HI.out.l2; omega, by have := HI.out.l2; omega, by have := HI.out.l1; have := HI.out.l2; omega⟩ (by have := HI.out.l1; have := HI.out.l2; omega) (by have := HI.out.len; omega)).mono ?_
        rintro e u' w'' ⟨rfl, rfl, ⟨F5, hj5⟩, hfp5⟩
        simp only [LeavesIn, settle, List.dropWhile_nil]
        refine ⟨_, results_none rfl _ _ _, ⟨_, rfl⟩, F5, ?_, ?_⟩
        · rw [← HA.out]; exact hj5
        · rw [← HA.out]; exact hfp5
end Go.Proofs.YtkkpjonfaflkmaaGreatDoor.T

/- scan.tokens returns what S.scan says. -/
namespace Go.Proofs.YtkkpjonfaflkmaaGreatDoor.T
set_option linter.unusedSimpArgs false
set_option linter.unusedVariables false
open Go.RowKit Go.Maps Go.Proofs.YtkkpjonfaflkmaaGreatDoorW.PrintWords Go.Proofs.YtkkpjonfaflkmaaGreatDoorW.PrintLast Go.Proofs.YtkkpjonfaflkmaaGreatDoorW.PrintMore
attribute [local go_sem] Oper.semAt_some

theorem clauses.calls (src : ByteArray) (p : Addr) (w : World) :
    Calls Tryz.prog 53 #[.string src, .pointer (some p)] w fun e w' => e = .returned (.func (.func 87) #[] #[.pointer (some ⟨w.heap.size, 0, none⟩), .pointer (some ⟨w.heap.size + 1, 0, none⟩)]) ∧
      w' = (w.alloc (.cells #[.string src] 9)).alloc (.cells #[.pointer (some p)] 88) := by
  have hmf : ∀ (fn : Fn) (first cap : Array Value) (w : World), (Instr.makeFunc fn first cap).run Tryz.prog w = .ok (.func fn first cap) w := fun _ _ _ _ => rfl
  go_enter Tryz.func53, Tryz.ntmps53
  go_wp2
  go_ret
  exact ⟨rfl, rfl⟩
theorem iter_enters : ∀ args w, (callFunc 87 args).run Tryz.prog w = .ok (.enter 87 args) w := enters_of Tryz.func87 (by kernel_rfl) rfl

theorem But.putObj {A : Nat → Prop} {w w' : World} (h : But A w w') (b : Nat) (o : Obj) (hb : A b) : But A w (w'.putObj b o) := by
  have hg := grownBy_putObj' w' b o
  exact ⟨hg.os.trans h.os, hg.tape.trans h.tape, hg.output.trans h.output, Nat.le_trans h.size hg.size, fun k hk hn => (hg.block k (Nat.lt_of_lt_of_le hk h.size) (fun e => hn (by cases e; exact hb))).trans (h.block k hk hn)⟩
theorem But.grown {A : Nat → Prop} {w w' w'' : World} {v : Option Nat} (h : But A w w') (hg : w'.grownBy w'' v) (hA : ∀ k, v = some k → A k) : But A w w'' :=
  ⟨hg.os.trans h.os, hg.tape.trans h.tape, hg.output.trans h.output, Nat.le_trans h.size hg.size, fun k hk hn => (hg.block k (Nat.lt_of_lt_of_le hk h.size) (fun e => hn (hA k e.symm))).trans (h.block k hk hn)⟩

/-- What tokens knows while it ranges: the result's box in H, the row of tokens in the box H + 1, the loop in H + 6. -/
structure TkI (w0 : World) (H : Nat) (rd : Loop) (v : Value) (pre : List (List S.Tk)) (W : World) : Prop where
  res : W.heap[H]? = some (.cells #[.int .i64 0, .int .i64 0] 76 (0, 0))
  out : W.heap[H + 1]? = some (.cells #[v] 24 (0, 0))
  dfr : W.heap[H + 5]? = some (.deferred (some []))
  lop : W.heap[H + 6]? = some (.loop rd)
  own : W.ownsRow (H + 7) 53 6 v pre.flatten.length (tksL pre.flatten)
  below : Below H w0 W
def TkF (H : Nat) (v : Value) (k : Nat) : Prop := k < H ∨ k = H ∨ k = H + 1 ∨ k = H + 5 ∨ k = H + 6 ∨ v.ownBlock = some k
def TkJ (w0 : World) (H : Nat) (rd : Loop) (pre : List (List S.Tk)) (F : Nat → Prop) (W : World) : Prop := ∃ v, F = TkF H v ∧ TkI w0 H rd v pre W
theorem TkI.lw {w0 : World} {H : Nat} {rd : Loop} {v : Value} {pre : List (List S.Tk)} {W : World} (h : TkI w0 H rd v pre W) : H + 6 < W.heap.size := (Array.getElem?_eq_some_iff.1 h.lop).1
theorem TkI.keep {w0 : World} {H : Nat} {rd : Loop} {v : Value} {pre : List (List S.Tk)} {W W' : World} (h : TkI w0 H rd v pre W) (hb : But (fun k => ¬ TkF H v k) W W') : TkI w0 H rd v pre W' := by
  have hlw := h.lw
  have hk : ∀ k, TkF H v k → k < W.heap.size → W'.heap[k]? = W.heap[k]? := fun k hf hl => hb.block k hl (fun e => e hf)
  refine ⟨(hk H (.inr (.inl rfl)) (by omega)).trans h.res, (hk _ (.inr (.inr (.inl rfl))) (by omega)).trans h.out, (hk _ (.inr (.inr (.inr (.inl rfl)))) (by omega)).trans h.dfr, (hk _ (.inr (.inr (.inr (.inr (.inl rfl))))) (by omega)).trans h.lop,
    own_but h.own hb (fun k e e2 => e (.inr (.inr (.inr (.inr (.inr e2)))))), h.below.trans (hb.belowB (by omega) (fun k hk e => e (.inl hk)))⟩
theorem TkI.cb {WB w1 : World} {OB : Nat} {vo u : Value} (hg : WB.grownBy w1 vo.ownBlock) (h : WB.heap[OB]? = some (.cells #[u] 24 (0, 0))) (hne : ∀ k, vo.ownBlock = some k → k ≠ OB) : w1.heap[OB]? = some (.cells #[u] 24 (0, 0)) :=
  (hg.block OB (Array.getElem?_eq_some_iff.1 h).1 (fun e => hne OB e.symm rfl)).trans h
theorem tksL_one : ∀ (l : List S.Tk), ∀ u ∈ tksL l, u.oneCell' = true
  | [], u, h => by simp [tksL] at h
  | t :: l, u, h => by
    simp only [tksL, List.map_cons, List.flatten_cons, List.mem_append] at h
    rcases h with h | h
    · exact tkL_one t u h
    · exact tksL_one l u h
/-- One clause more. -/
theorem TkI.next {w0 : World} {H : Nat} {rd rb : Loop} {v v' : Value} {pre : List (List S.Tk)} {cl : List S.Tk} {W w1 : World} (h : TkI w0 H rd v pre W) (ho : w1.ownsRow (H + 7) 53 6 v' (pre.flatten.length + cl.length) (tksL pre.flatten ++ tksL cl)) (hg : (W.putObj (H + 6) (.loop rb)).grownBy w1 v.ownBlock)
    (hv : v'.ownBlock = v.ownBlock ∨ v'.ownBlock = some (W.putObj (H + 6) (.loop rb)).heap.size) :
    (w1.setCell ⟨H + 1, 0, none⟩ v').heap[H + 6]? = some (.loop rb) ∧ (TkJ w0 H rd (pre ++ [cl]) (TkF H v') ((w1.setCell ⟨H + 1, 0, none⟩ v').putObj (H + 6) (.loop rd)) ∧ But (TkF H v) W ((w1.setCell ⟨H + 1, 0, none⟩ v').putObj (H + 6) (.loop rd)) ∧ ∀ k, TkF H v' k → TkF H v k ∨ W.heap.size ≤ k) := by
  have hlw := h.lw
  have hge : ∀ k, v.ownBlock = some k → H + 7 ≤ k := fun k e => (h.own.lt k e).1
  have hge' : ∀ k, v'.ownBlock = some k → H + 7 ≤ k := fun k e => (ho.lt k e).1
  have hpl : (W.putObj (H + 6) (.loop rb)).heap.size = W.heap.size := World.putObj_size
  have b1 : But (fun k => k = H + 6 ∨ k = H + 1 ∨ v.ownBlock = some k) W (W.putObj (H + 6) (.loop rb)) := (But.refl (fun k => k = H + 6 ∨ k = H + 1 ∨ v.ownBlock = some k) W).putObj _ _ (.inl rfl)
  have b2 := b1.grown hg (fun k e => .inr (.inr e))
  have b3 := b2.set ⟨H + 1, 0, none⟩ v' (.inr (.inl rfl))
  have b4 := b3.putObj (H + 6) (.loop rd) (.inl rfl)
  have hs1 : W.heap.size ≤ w1.heap.size := b2.size
  have hl1 : w1.heap[H + 6]? = some (.loop rb) := (hg.block (H + 6) (by rw [hpl]; omega) (fun e => by have := hge _ e.symm; omega)).trans (World.putObj_heap_same (by omega))
  have hl2 : (w1.setCell ⟨H + 1, 0, none⟩ v').heap[H + 6]? = some (.loop rb) := (Below.heap_setCell _ ⟨H + 1, 0, none⟩ _ (H + 6) (by show H + 6 ≠ H + 1; omega)).trans hl1
  have hne : ∀ k, k < H + 6 → k ≠ H + 1 → k < W.heap.size → ((w1.setCell ⟨H + 1, 0, none⟩ v').putObj (H + 6) (.loop rd)).heap[k]? = W.heap[k]? := fun k hk hk2 hl => b4.block k hl (fun e => by
    rcases e with e | e | e
    · omega
    · omega
    · have := hge k e; omega)
  refine ⟨hl2, ⟨v', rfl, (hne H (by omega) (by omega) (by omega)).trans h.res, ?_, (hne (H + 5) (by omega) (by omega) (by omega)).trans h.dfr, World.putObj_heap_same (Array.getElem?_eq_some_iff.1 hl2).1, ?_, h.below.trans (b4.belowB (by omega) (fun k hk e => by rcases e with e | e | e; omega; omega; have := hge k e; omega))⟩, b4.mono (fun k _ e => ?_), fun k hk => ?_⟩
  · refine (World.putObj_heap_other (by omega)).trans ?_
    exact blk_put (cs := #[v]) ((hg.block (H + 1) (by rw [hpl]; omega) (fun e => by have := hge _ e.symm; omega)).trans ((World.putObj_heap_other (by omega)).trans h.out)) 0 _ rfl
  · have e1 : (pre ++ [cl]).flatten = pre.flatten ++ cl := by simp
    rw [e1, List.length_append, tksL_append]
    refine own_but ho (((But.refl (fun k => k = H + 1 ∨ k = H + 6) w1).set ⟨H + 1, 0, none⟩ v' (.inl rfl)).putObj (H + 6) (.loop rd) (.inr rfl)) (fun k e e2 => ?_)
    have := hge' k e2
    omega
  · rcases e with e | e | e
    · exact .inr (.inr (.inr (.inr (.inl e))))
    · exact .inr (.inr (.inl e))
    · exact .inr (.inr (.inr (.inr (.inr e))))
  · rcases hk with e | e | e | e | e | e
    · exact .inl (.inl e)
    · exact .inl (.inr (.inl e))
    · exact .inl (.inr (.inr (.inl e)))
    · exact .inl (.inr (.inr (.inr (.inl e))))
    · exact .inl (.inr (.inr (.inr (.inr (.inl e)))))
    · rcases hv with hv | hv
      · exact .inl (.inr (.inr (.inr (.inr (.inr (by rw [← hv, e]))))))
      · rw [hv] at e
        cases e
        exact .inr (by rw [hpl]; exact Nat.le_refl _)

theorem own_lower {W : World} {base base' n : Nat} {v : Value} {xs : List Value} (h : W.ownsRow base 53 6 v n xs) (hb : base' ≤ base) : W.ownsRow base' 53 6 v n xs := by
  refine ⟨h.1, h.2.imp id ?_⟩
  rintro ⟨g, cap, cur, hv, hg, rest⟩
  exact ⟨g, cap, cur, hv, by omega, rest⟩
set_option maxRecDepth 100000 in
set_option maxHeartbeats 4000000 in
theorem scan_tokens_m.calls (src : ByteArray) (w : World) (hsz : src.size ≤ 100000) (hT : TabOK w) :
    Calls Tryz.prog 51 #[.string src] w fun e w' => ∃ v, e = .returned (.tuple #[v, .agg (errV (S.scan (bytesOf src)).err)]) ∧ w'.ownsRow w.heap.size 53 6 v (S.tokens (bytesOf src)).length (tksL (S.tokens (bytesOf src))) ∧ Below w.heap.size w w' := by
  have hwf : ∀ f, Fence.wide.fn f := fun _ => trivial
  have HT := Aside0.mk hT
  clear hT
  obtain ⟨H, hH⟩ : ∃ H, w.heap.size = H := ⟨_, rfl⟩
  have HH := Aside0.mk hH
  have HCL := Lib.hid (fun W => clauses.calls src ⟨H + 1 + 1, 0, none⟩ W)
  refine (callsIn_wide (n := 8)).1 ?_
  refine callsIn_of_wp_marks Tryz.func51 rfl trivial ?_ rfl
  simp only [Tryz.ntmps51, List.size_toArray, List.length_cons, List.length_nil, Nat.reduceAdd, Nat.reduceSub, Array.replicate_succ, Array.replicate_zero, List.push_toArray, List.append_toArray, List.nil_append, List.cons_append]
  gi_wp2_with (gi_at_call 53; refine (callsIn_wide.2 (HCL.out _)).mono ?_; rintro e w' ⟨rfl, rfl⟩)
  generalize hU : ((((w.alloc _).alloc _).alloc _).alloc _).alloc _ = U
  have hUs : U.heap.size = H + 5 := by rw [← hU, ← hH]; simp
  have hUb : Below H w U := by rw [← hU, ← hH]; exact below_alloc (below_alloc (below_alloc (below_alloc (below_alloc (Below.refl _ _) _) _) _) _) _
  have u0 : U.heap[H]? = some (.cells #[.int .i64 0, .int .i64 0] 76 (0, 0)) := by
    rw [← hU, ← hH]; exact (Below.heap_alloc _ _ _ (by simp <;> omega)).trans ((Below.heap_alloc _ _ _ (by simp <;> omega)).trans ((Below.heap_alloc _ _ _ (by simp <;> omega)).trans ((Below.heap_alloc _ _ _ (by simp)).trans (heap_alloc_new w _))))
  have u1 : U.heap[H + 1]? = some (.cells #[.slice none 0 0] 24 (0, 0)) := by
    rw [← hU, ← hH]; refine (Below.heap_alloc _ _ _ (by simp <;> omega)).trans ((Below.heap_alloc _ _ _ (by simp <;> omega)).trans ((Below.heap_alloc _ _ _ (by simp)).trans ?_))
    have := heap_alloc_new (w.alloc (.cells #[.int .i64 0, .int .i64 0] 76)) (.cells #[.slice none 0 0] 24)
    rwa [World.size_alloc] at this
  have u2 : U.heap[H + 2]? = some (.cells #[.int .i64 0, .int .i64 0] 76 (0, 0)) := by
    rw [← hU, ← hH]; refine (Below.heap_alloc _ _ _ (by simp <;> omega)).trans ((Below.heap_alloc _ _ _ (by simp)).trans ?_)
    have := heap_alloc_new ((w.alloc (.cells #[.int .i64 0, .int .i64 0] 76)).alloc (.cells #[.slice none 0 0] 24)) (.cells #[.int .i64 0, .int .i64 0] 76)
    rwa [World.size_alloc, World.size_alloc] at this
  have u3 : U.heap[H + 3]? = some (.cells #[.string src] 9 (0, 0)) := by
    rw [← hU, ← hH]; refine (Below.heap_alloc _ _ _ (by simp)).trans ?_
    have := heap_alloc_new (((w.alloc (.cells #[.int .i64 0, .int .i64 0] 76)).alloc (.cells #[.slice none 0 0] 24)).alloc (.cells #[.int .i64 0, .int .i64 0] 76)) (.cells #[.string src] 9)
    rwa [World.size_alloc, World.size_alloc, World.size_alloc] at this
  have u4 : U.heap[H + 4]? = some (.cells #[.pointer (some ⟨H + 1 + 1, 0, none⟩)] 88 (0, 0)) := by
    have := heap_alloc_new ((((w.alloc (.cells #[.int .i64 0, .int .i64 0] 76)).alloc (.cells #[.slice none 0 0] 24)).alloc (.cells #[.int .i64 0, .int .i64 0] 76)).alloc (.cells #[.string src] 9)) (.cells #[.pointer (some ⟨H + 1 + 1, 0, none⟩)] 88)
    rw [World.size_alloc, World.size_alloc, World.size_alloc, World.size_alloc, hH] at this
    rw [← hU]; exact this
  have hTU : TabOK U := HT.out.of_below (hUb.mono (by omega))
  clear hU
  refine rf_enter (F := Fence.wide) (n := 8) (gf := 87) rfl (by omega) rfl trivial iter_enters
    (fun Z => ∃ v, Z.heap[H]? = some (.cells #[.int .i64 0, .int .i64 0] 76 (0, 0)) ∧ Z.heap[H + 1]? = some (.cells #[v] 24 (0, 0)) ∧ Z.heap[H + 5]? = some (.deferred (some [])) ∧ Z.ownsRow (H + 7) 53 6 v (S.tokens (bytesOf src)).length (tksL (S.tokens (bytesOf src))) ∧ Below H w Z ∧ Z.heap[H + 2]? = some (.cells (errV (S.scan (bytesOf src)).err) 76 (0, 0)))
    (fun _ => False) ?hcall ?hready ?hdone
  case hdone => rintro Z r _ h; exact h.elim
  case hcall =>
    intro fn rd X hfn hrd hXs hXB x7 x8
    rw [hUs] at hXs hXB x7 x8 ⊢
    have hkx : ∀ k, k < H + 5 → X.heap[k]? = U.heap[k]? := fun k hk => hXB.block k (by omega)
    have hJ0 : TkJ w H rd [] (TkF H (.slice none 0 0)) X := ⟨_, rfl, (hkx _ (by omega)).trans u0, (hkx _ (by omega)).trans u1, x7, x8, World.ownsRow_nil _ _ _ _, hUb.trans (hXB.mono (by omega))⟩
    have C : Client (H + 6) 5 (TkJ w H rd) := by
      refine ⟨?_, ?_, ?_⟩
      · rintro pre F W W' ⟨v, rfl, hI⟩ hb
        exact ⟨v, rfl, hI.keep hb⟩
      · rintro pre F W ⟨v, rfl, hI⟩ k hk
        have hlw := hI.lw
        rcases hk with e | e | e | e | e | e
        · omega
        · omega
        · omega
        · omega
        · omega
        · exact (hI.own.lt k e).2
      · rintro pre F W base v cl ⟨vo, rfl, hI⟩ hown hne hdis hlen
        obtain ⟨g2, c2, rfl⟩ : ∃ g2 c2, v = .slice (some ⟨g2, 0, none⟩) cl.length c2 := by
          rcases hown.2 with ⟨_, e2⟩ | ⟨g, cap, cs, e, _⟩
          · exact absurd (List.length_eq_zero_iff.1 e2) hne
          · exact ⟨_, _, e⟩
        refine rf_round (l := H + 6) hrd trivial hI.lop rfl ?_
        have HRD := Aside0.mk hrd
        clear hrd
        gi_wp2
        refine ⟨hI.lop, ?_⟩
        have HRF : Aside0 (∀ r2 : Loop, r2 = { rd with state := LoopState.busy } → ({ r2 with state := .ready, pending := none } : Loop) = rd) := ⟨fun r2 e => by rw [e, HRD.out]; rfl⟩
        generalize hrb : ({ rd with state := LoopState.busy } : Loop) = rb
        have HRB := Aside0.mk (HRF.out rb hrb.symm)
        have HI := Aside0.mk hI
        have hgr := grownBy_putObj' W (H + 6) (.loop rb)
        have hbB : But (fun k => k = H + 6) W (W.putObj (H + 6) (.loop rb)) := (But.refl (fun k => k = H + 6) W).putObj _ _ rfl
        have hge : ∀ k, vo.ownBlock = some k → H + 7 ≤ k := fun k e => (hI.own.lt k e).1
        have hoB := own_but hI.own hbB (fun k e e2 => by have := hge k e2; omega)
        have hclB := own_but hown hbB (fun k e e2 => hdis (H + 6) (.inr (.inr (.inr (.inr (.inl rfl))))) (by rw [← e]; exact e2))
        have hoc : (W.putObj (H + 6) (.loop rb)).heap[H + 1]? = some (.cells #[vo] 24 (0, 0)) := (hbB.block (H + 1) (by have := hI.lw; omega) (by omega)).trans hI.out
        have hps : (W.putObj (H + 6) (.loop rb)).heap.size = W.heap.size := World.putObj_size
        obtain ⟨PN, hPN⟩ : ∃ PN, pre.flatten.length = PN := ⟨_, rfl⟩
        have hnx := fun (w1 : World) (v' : Value) => hI.next (rb := rb) (w1 := w1) (v' := v') (cl := cl)
        rw [hPN] at hnx hoB hlen
        have HNX := Aside0.mk hnx
        clear hnx hPN
        have hlw := hI.lw
        have HOB := Aside0.mk hoB
        have HCB := Aside0.mk hclB
        have HOC := Aside0.mk hoc
        clear hrb hI HRF HRD hgr hbB hoB hclB hoc
        generalize W.putObj (H + 6) (.loop rb) = WB at *
        obtain ⟨i0, hi0, hz0, hz1, hz2⟩ := info_parts (show (Tryz.prog.info? 53).map (fun i => (i.zero, i.size, i.bytes)) = some (some (.agg zTk), 6, 56) by kernel_rfl)
        have hcl0 : 0 < cl.length := List.length_pos_iff.2 hne
        have c0 : WB.cell? ⟨H + 1, 0, none⟩ = some vo := (blk_cell HOC.out 0).trans rfl
        gi_wp2_with (gi_at_builtin; refine wpListIn_append_own_at _ rfl (.tmp 10) (.tmp 11) 24 rfl (H + 7) 53 i0 (.agg zTk) 6 56 Tryz.underlying24 hi0 hz0 hz1 hz2 rfl (by decide) vo PN (tksL pre.flatten) rfl HOB.out ⟨g2, 0, none⟩ cl.length c2 (tksL cl) rfl (tksL_length _) (fun j u hu => HCB.out.cells rfl j u hu) (fun u hu => tksL_one cl u hu) (by unfold maxLen; omega) (by omega) (by omega) ?_; intro v' w1 hown' hgrow _ hat; obtain ⟨g', cap', rfl, _, _⟩ := hown'.form (by omega); have e1 := blk_cell (TkI.cb hgrow HOC.out (fun k e => by have := hge k e; omega)) 0; have q1 := blk_frozen (TkI.cb hgrow HOC.out (fun k e => by have := hge k e; omega)) 0; have HOW := Aside0.mk hown'; have HGR := Aside0.mk hgrow; have HAT := Aside0.mk hat; clear hown' hgrow hat)
        obtain ⟨n1, n2, n3, n4⟩ := HNX.out w1 (.slice (some ⟨g', 0, none⟩) (PN + cl.length) cap') HOW.out HGR.out HAT.out
        refine ⟨rb, n1, rfl, TkF H (.slice (some ⟨g', 0, none⟩) (PN + cl.length) cap'), ?_, ?_, fun k hk => ?_⟩
        · rw [HRB.out]; exact n2
        · rw [HRB.out]; exact n3
        · rcases n4 k hk with e | e
          · exact .inl e
          · exact .inr (.inl e)
    have hit := iter_in 5 (l := H + 6) (B0 := H + 3) (FB := H + 4) (fp := H + 2) (src := src) C X hsz (hTU.of_below (hXB.mono (by omega))) hJ0 (fun k hk => by
      rcases hk with e | e | e | e | e | e
      · omega
      · omega
      · omega
      · omega
      · omega
      · simp [Value.ownBlock] at e) ((hkx _ (by omega)).trans u3) ((hkx _ (by omega)).trans u4) ((hkx _ (by omega)).trans u2)
    refine hit.mono ?_
    rintro e Z ⟨hv, F', ⟨v, rfl, hI⟩, hp⟩
    exact ⟨hv, .inl ⟨hI.lop, v, hI.res, hI.out, hI.dfr, hI.own, hI.below, hp⟩⟩
  case hready =>
    rintro Z r hlt ⟨v, z0, z1, z5, zo, zb, z2⟩
    rw [hUs] at hlt ⊢
    have hb := grownBy_putObj' Z (H + 5 + 1) (.loop r)
    have hk : ∀ k, k < H + 6 → (Z.putObj (H + 5 + 1) (.loop r)).heap[k]? = Z.heap[k]? := fun k hk => World.putObj_heap_other (by omega)
    obtain ⟨ea, eb, he⟩ : ∃ ea eb, errV (S.scan (bytesOf src)).err = #[.int .i64 ea, .int .i64 eb] := by
      cases (S.scan (bytesOf src)).err with
      | none => exact ⟨_, _, rfl⟩
      | some p => exact ⟨_, _, rfl⟩
    rw [he] at z2
    have y0 := (hk H (by omega)).trans z0
    have y1 := (hk (H + 1) (by omega)).trans z1
    have y2 := (hk (H + 2) (by omega)).trans z2
    have y5 := (hk (H + 5) (by omega)).trans z5
    have yo := own_but zo ((But.refl (fun k => k = H + 5 + 1) Z).putObj (H + 5 + 1) (.loop r) rfl) (fun k e e2 => by have := (zo.lt k e2).1; omega)
    have yb : Below H w (Z.putObj (H + 5 + 1) (.loop r)) := zb.grown hb (by omega) (fun k e => by cases e; omega)
    clear hb hk z0 z1 z2 z5 zo zb u0 u1 u2 u3 u4 hUb hTU
    generalize Z.putObj (H + 5 + 1) (.loop r) = Y at *
    have Y0 := Aside0.mk y0
    have Y1 := Aside0.mk y1
    have Y5 := Aside0.mk y5
    have YO := Aside0.mk yo
    have YB := Aside0.mk yb
    have HE := Aside0.mk he
    have c1 : Y.cell? ⟨H + 1, 0, none⟩ = some v := (blk_cell y1 0).trans rfl
    have d0 : Y.cell? ⟨H + 1 + 1, 0, none⟩ = some (.int .i64 ea) := (blk_cell y2 0).trans rfl
    have d1 : Y.cell? ⟨H + 1 + 1, 1, none⟩ = some (.int .i64 eb) := (blk_cell y2 1).trans rfl
    have r0 : Y.cell? ⟨H, 0, none⟩ = some (.int .i64 0) := (blk_cell y0 0).trans rfl
    have r1 : Y.cell? ⟨H, 1, none⟩ = some (.int .i64 0) := (blk_cell y0 1).trans rfl
    have q0 := blk_frozen y0 0
    have q1 := blk_frozen y0 1
    have hu76 := Tryz.underlying76
    clear y0 y1 y2 y5 yo yb he hlt
    gi_upto_region 6 with (fail)
    refine wide_region_still_tail 3 (by kernel_rfl) (by kernel_rfl) ?_
    simp only [List.take_succ_cons, List.take_zero, List.drop_succ_cons, List.drop_zero]
    still_step
    repeat still_step
    refine wpStill_nil ?_
    gi_wp2
    have hb2 : But (fun k => k = H) Y ((Y.setCell ⟨H, 0, none⟩ (.int .i64 ea)).setCell ⟨H, 1, none⟩ (.int .i64 eb)).drew := (((But.refl (fun k => k = H) Y).set ⟨H, 0, none⟩ _ rfl).set ⟨H, 1, none⟩ _ rfl).drew
    have g0 : ((Y.setCell ⟨H, 0, none⟩ (.int .i64 ea)).setCell ⟨H, 1, none⟩ (.int .i64 eb)).drew.heap[H]? = some (.cells #[.int .i64 ea, .int .i64 eb] 76 (0, 0)) := blk_put (blk_put Y0.out 0 _ rfl) 1 _ rfl
    have hl5 : H + 5 < Y.heap.size := (Array.getElem?_eq_some_iff.1 Y5.out).1
    generalize ((Y.setCell ⟨H, 0, none⟩ (.int .i64 ea)).setCell ⟨H, 1, none⟩ (.int .i64 eb)).drew = Y2 at *
    have g5 : Y2.heap[H + 5]? = some (.deferred (some [])) := (hb2.block (H + 5) hl5 (by omega)).trans Y5.out
    have go := own_but YO.out hb2 (fun k e e2 => by have := (YO.out.lt k e2).1; omega)
    have gb : Below H w Y2 := YB.out.trans (hb2.belowB (by omega) (fun k hk => by omega))
    refine ⟨by simp, .inl ⟨_, _, rfl, run_takeDeferred g5, ?_⟩⟩
    have hp5 : But (fun k => k = H + 5) Y2 (Y2.putObj (H + 5) (.deferred none)) := (But.refl (fun k => k = H + 5) Y2).putObj _ _ rfl
    refine ⟨_, results_tc (fn := Tryz.f51) rfl _ _ H 76 #[.int .i64 ea, .int .i64 eb] (0, 0) _ v rfl rfl ((World.putObj_heap_other (by omega)).trans g0) Tryz.underlying76 rfl (by kernel_rfl), v, ?_, ?_, ?_⟩
    · rw [HE.out]
    · rw [hH]
      have := own_but go hp5 (fun k e e2 => by have := (go.lt k e2).1; omega)
      exact own_lower this (by omega)
    · rw [hH]
      exact gb.trans (hp5.belowB (by have := gb.size; have := hb2.size; omega) (fun k hk => by omega))
end Go.Proofs.YtkkpjonfaflkmaaGreatDoor.T

/- scan.Tokens. -/
namespace Go.Proofs.YtkkpjonfaflkmaaGreatDoor.T
set_option linter.unusedSimpArgs false
set_option linter.unusedVariables false
open Go.RowKit Go.Maps Go.Proofs.YtkkpjonfaflkmaaGreatDoorW.PrintWords Go.Proofs.YtkkpjonfaflkmaaGreatDoorW.PrintLast Go.Proofs.YtkkpjonfaflkmaaGreatDoorW.PrintMore

def errC (o : Option (Nat × Nat)) : Int := match o with | none => 0 | some p => p.1
def errL (o : Option (Nat × Nat)) : Int := match o with | none => 0 | some p => p.2
theorem errV_eq (o : Option (Nat × Nat)) : errV o = #[.int .i64 (errC o), .int .i64 (errL o)] := by
  cases o with
  | none => rfl
  | some p => rfl
theorem results_tmp4 {fn : Func} {t u v x : Tmp} (h : fn.results = #[.tmp t, .tmp u, .tmp v, .tmp x]) (tmps : Array Value) (P : Program) (w : World) :
    (results fn tmps).run P w = .ok (.tuple #[tmps.getD t undef, tmps.getD u undef, tmps.getD v undef, tmps.getD x undef]) w := by
  simp [results, h, Sem.run_bind, Sem.run_pure, Result.andThen]
/-- What Tokens returns: the tokens, the error's code and line, the number of the error. -/
def scan_Tokens.f (a0 : ByteArray) : Option (List S53 × Int × Int × Int) :=
  if a0.size ≤ 20000 then
    (if errC (S.scan (bytesOf a0)).err = 0 then some ((S.tokens (bytesOf a0)).map toS, 0, 0, 0) else some ((S.tokens (bytesOf a0)).map toS, errC (S.scan (bytesOf a0)).err, errL (S.scan (bytesOf a0)).err, 7))
  else some ([], 0, 0, 3)
set_option maxRecDepth 100000 in
set_option maxHeartbeats 4000000 in
theorem scan_Tokens.calls (a0 : ByteArray) (r1 : List S53) (r2 r3 r4 : Int) (w : World) (hT : TabOK w) (h : scan_Tokens.f a0 = some (r1, r2, r3, r4)) :
    Calls Tryz.prog 17 #[.string a0] w fun e w' => ∃ v0 : Value, e = .returned (.tuple #[v0, .int .i64 r2, .int .i64 r3, .int .i64 r4]) ∧ Kd.R k53 53 w' w.heap.size (fun _ => True) v0 r1 ∧ Below w.heap.size w w' := by
  have HT := Aside0.mk hT
  clear hT
  by_cases hs : a0.size ≤ 20000
  · have hlim := scan_limited.calls a0 0 w (by unfold scan_limited.f; rw [if_neg (by omega)])
    have HLM := Lib.hid hlim
    have htk := fun q => scan_tokens_m.calls a0 (w.drewN q) (by omega) (HT.out.of_below (pw_below_drewN (Below.refl _ _) q))
    unfold scan_Tokens.f at h
    rw [if_pos hs] at h
    obtain ⟨c, hc⟩ : ∃ c, errC (S.scan (bytesOf a0)).err = c := ⟨_, rfl⟩
    obtain ⟨ln, hln⟩ : ∃ ln, errL (S.scan (bytesOf a0)).err = ln := ⟨_, rfl⟩
    obtain ⟨ts, hts⟩ : ∃ ts, S.tokens (bytesOf a0) = ts := ⟨_, rfl⟩
    simp only [errV_eq, hc, hln, hts] at htk h
    have HTK := Lib.hid htk
    clear hlim htk hc hln hts
    have hu76 := Tryz.underlying76
    go_enter Tryz.func17, Tryz.ntmps17
    go_upto_region 5 with (first | (go_at_call 50; refine HLM.out.mono ?_; rintro e w' ⟨rfl, ⟨⟨q, rfl⟩⟩⟩) | (go_at_call 51; refine (HTK.out _).mono ?_; rintro e w3 ⟨v, rfl, hown, hb⟩))
    have ha : Below w3.heap.size w3 (w3.alloc (.cells #[.int .i64 c, .int .i64 ln] 76)) := below_alloc (Below.refl _ _) _
    have hn := heap_alloc_new w3 (.cells #[.int .i64 c, .int .i64 ln] 76)
    have hR : Kd.R k53 53 (w3.alloc (.cells #[.int .i64 c, .int .i64 ln] 76)) w.heap.size (fun _ => True) v (ts.map toS) := tks_R (own_but hown ((But.refl (fun _ => False) w3).alloc _) (fun _ e => e.elim))
    have hB : Below w.heap.size w (w3.alloc (.cells #[.int .i64 c, .int .i64 ln] 76)) := (Below.trans (pw_below_drewN (Below.refl _ _) q) hb).trans (ha.mono (by have := hb.size; exact this))
    obtain ⟨T, hTz⟩ : ∃ T, w3.heap.size = T := ⟨_, rfl⟩
    rw [hTz] at hn
    try rw [hTz]
    have HR := Aside0.mk hR
    have HB := Aside0.mk hB
    clear ha hR hB hown hb hTz
    generalize w3.alloc (.cells #[.int .i64 c, .int .i64 ln] 76) = W at *
    have c0 : W.cell? ⟨T, 0, none⟩ = some (.int .i64 c) := (blk_cell hn 0).trans rfl
    have c1 : W.cell? ⟨T, 1, none⟩ = some (.int .i64 ln) := (blk_cell hn 1).trans rfl
    by_cases hc0 : c = 0
    · subst hc0
      rw [if_pos rfl] at h
      simp only [Option.some.injEq, Prod.mk.injEq] at h
      obtain ⟨rfl, rfl, rfl, rfl⟩ := h
      go_wp2
      refine bodyPost_ret (results_tmp4 rfl _ _ _) rfl ?_
      exact ⟨_, rfl, HR.out, HB.out⟩
    · have g0 : (c != 0) = true := bne_iff_ne.2 hc0
      rw [if_neg hc0] at h
      simp only [Option.some.injEq, Prod.mk.injEq] at h
      obtain ⟨rfl, rfl, rfl, rfl⟩ := h
      go_upto_region 6 with (fail)
      go_quiet (fail)
      go_wp2
      refine bodyPost_ret (results_tmp4 rfl _ _ _) rfl ?_
      exact ⟨_, rfl, Kd.R_drewN HR.out _, HB.out.trans (pw_below_drewN (Below.refl _ _) _)⟩
  · have hlim := scan_limited.calls a0 3 w (by unfold scan_limited.f; rw [if_pos (by omega)])
    have HLM := Lib.hid hlim
    unfold scan_Tokens.f at h
    rw [if_neg hs] at h
    simp only [Option.some.injEq, Prod.mk.injEq] at h
    obtain ⟨rfl, rfl, rfl, rfl⟩ := h
    clear hlim
    go_enter Tryz.func17, Tryz.ntmps17
    go_wp2_with (go_at_call 50; refine HLM.out.mono ?_; rintro e w' ⟨rfl, ⟨⟨q, rfl⟩⟩⟩)
    refine bodyPost_ret (results_tmp4 rfl _ _ _) rfl ?_
    exact ⟨_, rfl, Kd.R_nil _ _ _ _ _, pw_below_drewN (Below.refl _ _) _⟩
end Go.Proofs.YtkkpjonfaflkmaaGreatDoor.T

/- An error's code is not 0. -/
namespace Go.Proofs.YtkkpjonfaflkmaaGreatDoor.S
set_option linter.unusedSimpArgs false
set_option linter.unusedVariables false

theorem tokStep_err {k c dl : Nat} {r : TR} (h : tokStep k r = .err c dl) : r = .err c := by
  cases r with
  | err c' => cases h; rfl
  | ok t n => cases h
theorem litEnd_err {v : List Int} {n c : Nat} (h : litEnd v n = .err c) : c = 30 := by
  unfold litEnd at h
  by_cases hv : 1000 < v.length
  · rw [if_pos hv] at h; cases h; rfl
  · rw [if_neg hv] at h; cases h
theorem litTok_err {xs : List Int} {c : Nat} (h : litTok xs = .err c) : c ≠ 0 := by
  rcases xs with _ | ⟨q, r⟩
  · cases h; decide
  simp only [litTok] at h
  cases hl : lit q r 1 [] with
  | none => rw [hl] at h; cases h; decide
  | some p =>
    obtain ⟨v, i⟩ := p
    rw [hl] at h
    simp only at h
    by_cases hp : v.all prn = true
    · rw [if_pos hp] at h
      by_cases hs : sfx ((q :: r).drop (i + 1)) = 0
      · rw [if_pos hs] at h
        rw [litEnd_err h]; decide
      · rw [if_neg hs] at h
        cases hd : litDec v (sfx ((q :: r).drop (i + 1))) with
        | none => rw [hd] at h; cases h; decide
        | some u => rw [hd] at h; rw [litEnd_err h]; decide
    · rw [if_neg hp] at h; cases h; decide
theorem symTok_err {xs : List Int} {c : Nat} (h : symTok xs = .err c) : c ≠ 0 := by
  unfold symTok at h
  by_cases h4 : 40 < symLen xs
  · rw [if_pos h4] at h; cases h; decide
  · rw [if_neg h4] at h; cases h
theorem signTok_err {xs : List Int} {c : Nat} (h : signTok xs = .err c) : c ≠ 0 := by
  unfold signTok at h
  cases hf : signs.find? (fun x => x.isPrefixOf xs) with
  | none => rw [hf] at h; cases h; decide
  | some l => rw [hf] at h; cases h
theorem step_err {xs : List Int} {c dl : Nat} (h : step xs = .err c dl) : c ≠ 0 := by
  rcases xs with _ | ⟨x, r⟩
  · cases h
  simp only [step] at h
  by_cases h1 : x = 10
  · rw [if_pos h1] at h; cases h
  rw [if_neg h1] at h
  by_cases h2 : x = 32
  · rw [if_pos h2] at h; cases h
  rw [if_neg h2] at h
  by_cases h3 : starts2 (x :: r) = true
  · rw [if_pos h3] at h
    cases hR : cmt (x :: r) 0 0 1 0 with
    | eof => rw [hR] at h; cases h; decide
    | done i l b =>
      rw [hR] at h
      simp only [cmtStep] at h
      by_cases hb : b = 0
      · rw [if_pos hb] at h; cases h
      · rw [if_neg hb] at h; cases h; decide
  rw [if_neg h3] at h
  by_cases h4 : x = 39 ∨ x = 34
  · rw [if_pos h4] at h; exact litTok_err (tokStep_err h)
  rw [if_neg h4] at h
  by_cases h5 : sym x = true
  · rw [if_pos h5] at h; exact symTok_err (tokStep_err h)
  rw [if_neg h5] at h; exact signTok_err (tokStep_err h)
theorem go_err : ∀ (f : Nat) (xs : List Int) (i line : Nat) (cur : List Tk) (gap : Bool) (c ln : Nat), (go f xs i line cur gap).err = some (c, ln) → c ≠ 0
  | 0, _, _, _, _, _, _, _, h => by cases h
  | f + 1, xs, i, line, cur, gap, c, ln, h => by
    simp only [go] at h
    cases hS : step xs with
    | fin => rw [hS] at h; cases h
    | line =>
      rw [hS] at h
      simp only at h
      by_cases hc : comma cur = true
      · rw [if_pos hc] at h; exact go_err f _ _ _ _ _ c ln h
      · rw [if_neg hc] at h; exact go_err f _ _ _ _ _ c ln h
    | blank => rw [hS] at h; exact go_err f _ _ _ _ _ c ln h
    | cmt n dl => rw [hS] at h; exact go_err f _ _ _ _ _ c ln h
    | tok k t n =>
      rw [hS] at h
      simp only at h
      by_cases h1 : k = 3 ∧ t = [59]
      · rw [if_pos h1] at h; exact go_err f _ _ _ _ _ c ln h
      · rw [if_neg h1] at h
        split at h
        · exact go_err f _ _ _ _ _ c ln h
        · exact go_err f _ _ _ _ _ c ln h
    | err c' dl =>
      rw [hS] at h
      simp only [Option.some.injEq, Prod.mk.injEq] at h
      rw [← h.1]
      exact step_err hS
theorem scan_err {xs : List Int} {c ln : Nat} (h : (scan xs).err = some (c, ln)) : c ≠ 0 := go_err _ _ _ _ _ _ c ln h
end Go.Proofs.YtkkpjonfaflkmaaGreatDoor.S

/- How many tokens there are. -/
namespace Go.Proofs.YtkkpjonfaflkmaaGreatDoor.S
set_option linter.unusedSimpArgs false
set_option linter.unusedVariables false

theorem emit_length (cur : List Tk) (a b c : Nat) : (emit cur a b c).flatten.length ≤ cur.length + 1 := by
  unfold emit
  split
  · simp
  · simp
theorem cut_length (cur : List Tk) : (cut cur).length ≤ cur.length := by
  unfold cut
  split
  · simp
  · exact Nat.le_refl _
theorem pre_length (l : List (List Tk)) (o : Out) : (o.pre l).cl.flatten.length = l.flatten.length + o.cl.flatten.length := by
  unfold Out.pre
  simp only [List.flatten_append, List.length_append]
theorem go_length : ∀ (f : Nat) (xs : List Int) (i line : Nat) (cur : List Tk) (gap : Bool), (∀ x ∈ xs, 0 ≤ x ∧ x < 256) → (go f xs i line cur gap).cl.flatten.length ≤ cur.length + 2 * xs.length + 1
  | 0, xs, i, line, cur, gap, _ => by simp [go]
  | f + 1, xs, i, line, cur, gap, hb => by
    have hd : ∀ n, ∀ x ∈ xs.drop n, 0 ≤ x ∧ x < 256 := fun n x hx => hb x (List.mem_of_mem_drop hx)
    rw [go]
    cases hs : step xs with
    | fin =>
      have h1 := emit_length (cut cur) i i line
      have h2 := cut_length cur
      simp only; omega
    | line =>
      have hx : 1 ≤ xs.length := step_some (by rw [hs]; intro e; cases e)
      simp only
      split
      · have := go_length f (xs.drop 1) (i + 1) (line + 1) cur.dropLast true (hd 1)
        rw [List.length_drop, List.length_dropLast] at this
        omega
      · have := go_length f (xs.drop 1) (i + 1) (line + 1) [] false (hd 1)
        have h1 := emit_length cur i (i + 1) line
        rw [List.length_drop, List.length_nil] at this
        rw [pre_length]; omega
    | blank =>
      have := go_length f (xs.drop 1) (i + 1) line cur true (hd 1)
      rw [List.length_drop] at this
      simp only; omega
    | cmt n dl =>
      have := go_length f (xs.drop n) (i + n) (line + dl) cur gap (hd n)
      rw [List.length_drop] at this
      simp only; omega
    | tok k t n =>
      obtain ⟨h1, h2, -⟩ := step_tok hb hs
      simp only
      split
      · have := go_length f (xs.drop n) (i + n) line [] false (hd n)
        have h3 := emit_length cur i (i + n) line
        rw [List.length_drop, List.length_nil] at this
        rw [pre_length]; omega
      · split
        · have := go_length f (xs.drop n) (i + n) line [] false (hd n)
          have h3 := emit_length (cur ++ [⟨k, t, gap && !decide (cur = []), line, i, i + n⟩]) (i + n) (i + n) line
          rw [List.length_append, List.length_singleton] at h3
          rw [List.length_drop, List.length_nil] at this
          rw [pre_length]; omega
        · have := go_length f (xs.drop n) (i + n) line (cur ++ [⟨k, t, gap && !decide (cur = []), line, i, i + n⟩]) false (hd n)
          rw [List.length_drop, List.length_append, List.length_singleton] at this
          omega
    | err c dl =>
      simp only
      split
      · simp
      · simp only [List.flatten_cons, List.flatten_nil, List.append_nil]; omega
theorem tokens_length {xs : List Int} (hb : ∀ x ∈ xs, 0 ≤ x ∧ x < 256) : (tokens xs).length ≤ 2 * xs.length + 1 := by
  have := go_length (xs.length + 1) xs 0 1 [] false hb
  unfold tokens scan
  simpa using this
end Go.Proofs.YtkkpjonfaflkmaaGreatDoor.S

-- Written by a program of this session (mp.py over the kit's print.py), out of the translation.
namespace Go.Proofs.YtkkpjonfaflkmaaGreatDoor.T
set_option linter.unusedSimpArgs false
open Go.RowKit Go.Proofs.YtkkpjonfaflkmaaGreatDoorW.PrintWords Go.Proofs.YtkkpjonfaflkmaaGreatDoorW.PrintLast Go.Proofs.YtkkpjonfaflkmaaGreatDoorW.PrintMore
attribute [local go_sem] max2_int min2_int max_two min_two max_three min_three max_four min_four   -- for this text's walks alone
set_option linter.unusedVariables false
set_option linter.unusedSimpArgs false

/-! ### scan_spelled: function 113 -/
def scan_spelled.f (a0_0 : Int) (a0_1 : ByteArray) (a0_2 : Bool) (a0_3 : Int) (a0_4 : Int) (a0_5 : Int) : Option (ByteArray) := if a0_0 = 2 then ((scan_literal.f a0_1).bind fun t151 => (some t151)) else (some a0_1)
set_option maxHeartbeats 8000000 in
set_option maxRecDepth 100000 in
theorem scan_spelled.calls (a0_0 : Int) (a0_1 : ByteArray) (a0_2 : Bool) (a0_3 : Int) (a0_4 : Int) (a0_5 : Int) (r : ByteArray) (w : World) (hT : TabOK w) (h : scan_spelled.f a0_0 a0_1 a0_2 a0_3 a0_4 a0_5 = some r) :
    Calls Tryz.prog 113 #[.agg #[.int .i64 a0_0, .string a0_1, .bool a0_2, .int .i64 a0_3, .int .i64 a0_4, .int .i64 a0_5]] w fun e w' => e = .returned (.string r) ∧ Below w.heap.size w w' := by
  have hu53 := Tryz.underlying53
  have HB := Aside0.mk (Below.refl w.heap.size w)
  have H : (if a0_0 = 2 then ((scan_literal.f a0_1).bind fun t151 => (some t151)) else (some a0_1)) = some r := h
  clear h
  by_cases c2 : a0_0 = 2
  · rw [if_pos c2] at H
    have c2b0 : (a0_0 == 2) = true := beq_iff_eq.mpr c2
    have c2b1 : (a0_0 != 2) = false := bne_eq_false_iff_eq.mpr c2
    clear c2
    replace H := Option.bind_eq_some_iff.mp H
    obtain ⟨t151, A30, H⟩ := H
    replace H : (some t151) = some r := H
    have A3 := Aside0.mk A30
    clear A30
    obtain rfl := Option.some.inj H
    go_enter Tryz.func113, Tryz.ntmps113
    go_wp2_with (first | ((with_reducible refine gate_dst (N := 1) rfl ?_); refine box_event ?hg (N := 1) ?hd (cs := #[.int .i64 a0_0, .string a0_1, .bool a0_2, .int .i64 a0_3, .int .i64 a0_4, .int .i64 a0_5]) (t := 53) ?hr ?_; (case hd => rfl); (case hg => rfl); (case hr => first | (go_simp; done) | (go_simp; rfl)); intro gb150 hg w4 hbox hb; have n0_ := Aside0.mk (below_step (by repeat (first | (with_reducible first | exact HB.out | apply below_alloc | apply pw_below_drewN | apply below_drew1) | exact HB.out)) hb); have n1_ := Aside0.mk (hbox); have n2_ := Aside0.mk ((by rw [hg]; exact (below_size (by repeat (first | (with_reducible first | exact HB.out | apply below_alloc | apply pw_below_drewN | apply below_drew1) | exact HB.out))) : w.heap.size ≤ gb150)); have n3_ := Aside0.mk ((by rw [hg]; exact (below_size (by repeat (first | (with_reducible first | exact HB.out | apply below_alloc | apply pw_below_drewN | apply below_drew1) | exact HB.out))) : w.heap.size ≤ gb150)); clear HB; have HB := n0_; have BK150 := n1_; have GW150 := n2_; have GE150 := n3_; clear n0_ n1_ n2_ n3_; clear hb hbox hg; have hcz5_0 : w4.cell? ⟨gb150, 0, none⟩ = some (.int .i64 a0_0) := (blk_cell BK150.out 0).trans rfl; have hcz5_1 : w4.cell? ⟨gb150, 1, none⟩ = some (.string a0_1) := (blk_cell BK150.out 1).trans rfl; have hcz5_2 : w4.cell? ⟨gb150, 2, none⟩ = some (.bool a0_2) := (blk_cell BK150.out 2).trans rfl; have hcz5_3 : w4.cell? ⟨gb150, 3, none⟩ = some (.int .i64 a0_3) := (blk_cell BK150.out 3).trans rfl; have hcz5_4 : w4.cell? ⟨gb150, 4, none⟩ = some (.int .i64 a0_4) := (blk_cell BK150.out 4).trans rfl; have hcz5_5 : w4.cell? ⟨gb150, 5, none⟩ = some (.int .i64 a0_5) := (blk_cell BK150.out 5).trans rfl; have hfz5_0 := blk_frozen BK150.out 0; have hfz5_1 := blk_frozen BK150.out 1; have hfz5_2 := blk_frozen BK150.out 2; have hfz5_3 := blk_frozen BK150.out 3; have hfz5_4 := blk_frozen BK150.out 4; have hfz5_5 := blk_frozen BK150.out 5) | ((with_reducible refine gate_callee (f := 66) rfl ?_); refine goesL_ (some 8) rfl rfl Tryz.func66 (by kernel_rfl) rfl #[.string a0_1] rfl (by (try simp only [List.map_toArray, List.map_cons, List.map_nil]); first | done | rfl | (simp only [List.length_drop, List.length_take]; rfl)) ?_; (with_reducible refine (scan_literal.calls a0_1 t151 _ (TabOK.of_below hT (by repeat (first | (with_reducible first | exact HB.out | apply below_alloc | apply pw_below_drewN | apply below_drew1 | refine below_set ?_ GE150.out) | exact HB.out))) A3.out).mono ?_); rintro e w6 ⟨rfl, hb⟩; refine ⟨_, rfl, ?_⟩; have n0_ := Aside0.mk (blk_below (g := gb150) (o := .cells #[.int .i64 a0_0, .string a0_1, .bool a0_2, .int .i64 a0_3, .int .i64 a0_4, .int .i64 a0_5] 53 (0, 0)) (by (with_reducible repeat (first | refine blk_drewN ?_ _ | refine blk_drew ?_ | refine blk_alloc ?_ _)); exact BK150.out) hb); have n1_ := Aside0.mk (below_step (by repeat (first | (with_reducible first | exact HB.out | apply below_alloc | apply pw_below_drewN | apply below_drew1 | refine below_set ?_ GE150.out) | exact HB.out)) hb); clear BK150; clear HB; have BK150 := n0_; have HB := n1_; clear n0_ n1_; (try clear hb); (try clear hb2); (try clear hk); (try clear hi)))
    go_ret
    exact ⟨by first | rfl | (simp [errW_none, errW_some] <;> rfl) | (simp [*, errW_none, errW_some] <;> rfl), by repeat (first | (with_reducible first | exact HB.out | apply below_alloc | apply pw_below_drewN | apply below_drew1 | refine below_set ?_ GE150.out) | exact HB.out)⟩
  · rw [if_neg c2] at H
    have c2b0 : (a0_0 == 2) = false := beq_eq_false_iff_ne.mpr c2
    have c2b1 : (a0_0 != 2) = true := bne_iff_ne.mpr c2
    obtain rfl := Option.some.inj H
    go_enter Tryz.func113, Tryz.ntmps113
    go_wp2_with (first | ((with_reducible refine gate_dst (N := 1) rfl ?_); refine box_event ?hg (N := 1) ?hd (cs := #[.int .i64 a0_0, .string a0_1, .bool a0_2, .int .i64 a0_3, .int .i64 a0_4, .int .i64 a0_5]) (t := 53) ?hr ?_; (case hd => rfl); (case hg => rfl); (case hr => first | (go_simp; done) | (go_simp; rfl)); intro gb150 hg w7 hbox hb; have n0_ := Aside0.mk (below_step (by repeat (first | (with_reducible first | exact HB.out | apply below_alloc | apply pw_below_drewN | apply below_drew1) | exact HB.out)) hb); have n1_ := Aside0.mk (hbox); have n2_ := Aside0.mk ((by rw [hg]; exact (below_size (by repeat (first | (with_reducible first | exact HB.out | apply below_alloc | apply pw_below_drewN | apply below_drew1) | exact HB.out))) : w.heap.size ≤ gb150)); have n3_ := Aside0.mk ((by rw [hg]; exact (below_size (by repeat (first | (with_reducible first | exact HB.out | apply below_alloc | apply pw_below_drewN | apply below_drew1) | exact HB.out))) : w.heap.size ≤ gb150)); clear HB; have HB := n0_; have BK150 := n1_; have GW150 := n2_; have GE150 := n3_; clear n0_ n1_ n2_ n3_; clear hb hbox hg; have hcz8_0 : w7.cell? ⟨gb150, 0, none⟩ = some (.int .i64 a0_0) := (blk_cell BK150.out 0).trans rfl; have hcz8_1 : w7.cell? ⟨gb150, 1, none⟩ = some (.string a0_1) := (blk_cell BK150.out 1).trans rfl; have hcz8_2 : w7.cell? ⟨gb150, 2, none⟩ = some (.bool a0_2) := (blk_cell BK150.out 2).trans rfl; have hcz8_3 : w7.cell? ⟨gb150, 3, none⟩ = some (.int .i64 a0_3) := (blk_cell BK150.out 3).trans rfl; have hcz8_4 : w7.cell? ⟨gb150, 4, none⟩ = some (.int .i64 a0_4) := (blk_cell BK150.out 4).trans rfl; have hcz8_5 : w7.cell? ⟨gb150, 5, none⟩ = some (.int .i64 a0_5) := (blk_cell BK150.out 5).trans rfl; have hfz8_0 := blk_frozen BK150.out 0; have hfz8_1 := blk_frozen BK150.out 1; have hfz8_2 := blk_frozen BK150.out 2; have hfz8_3 := blk_frozen BK150.out 3; have hfz8_4 := blk_frozen BK150.out 4; have hfz8_5 := blk_frozen BK150.out 5))
    go_ret
    exact ⟨by first | rfl | (simp [errW_none, errW_some] <;> rfl) | (simp [*, errW_none, errW_some] <;> rfl), by repeat (first | (with_reducible first | exact HB.out | apply below_alloc | apply pw_below_drewN | apply below_drew1 | refine below_set ?_ GE150.out) | exact HB.out)⟩

end Go.Proofs.YtkkpjonfaflkmaaGreatDoor.T
