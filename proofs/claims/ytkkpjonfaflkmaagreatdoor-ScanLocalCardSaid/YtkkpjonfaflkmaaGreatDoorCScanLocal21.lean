/- Part 21 of the proof of ScanLocal: the functions that it calls return what their plain descriptions say. -/
import Derived.Test.YtkkpjonfaflkmaaGreatDoorCScanLocal20
import Derived.Test.YtkkpjonfaflkmaaGreatDoorCScanLocal13
import Derived.Test.YtkkpjonfaflkmaaGreatDoorCScanLocal19

namespace Go.Proofs.YtkkpjonfaflkmaaGreatDoor.S
set_option linter.unusedSimpArgs false
set_option linter.unusedVariables false
def zz (t : Tk) : Nat × List Int × Bool × Nat × Nat × Nat := (t.kind, t.text, t.gap, t.line, t.at_, if t.kind = 4 then 0 else t.to)
theorem emit_zz (cur : List Tk) (i j j' l : Nat) : (emit cur i j l).flatten.map zz = (emit cur i j' l).flatten.map zz := by
  cases cur with
  | nil => rfl
  | cons a t => simp [emit, endTk, zz]
theorem zz_key {a b : List Tk} (h : a.map zz = b.map zz) : a.map key = b.map key := by
  have e : ∀ l : List Tk, l.map key = (l.map zz).map fun p => (p.1, p.2.1, p.2.2.1) := fun l => by rw [List.map_map]; rfl
  rw [e, e, h]
theorem tok_bound {L : List Int} (hb : ∀ x ∈ L, 0 ≤ x ∧ x < 256) (he : (scan L).err = none) : ∀ t ∈ tokens L, t.at_ ≤ L.length ∧ t.to ≤ L.length ∧ t.line ≤ 1 + L.length := by
  obtain ⟨e', ln', h, _⟩ := scan_cov hb he
  have key : ∀ (l : List Tk) (e ln e' ln' : Nat), Pre L e ln l e' ln' → ∀ t ∈ l, t.at_ ≤ L.length ∧ t.to ≤ L.length ∧ t.line ≤ 1 + L.length := fun l => by
    induction l with
    | nil => intro _ _ _ _ _ t ht; cases ht
    | cons u l ih =>
      intro e ln e' ln' hp t ht
      rcases List.mem_cons.1 ht with rfl | ht
      · have h1 := hp.1.h2
        have h2 := hp.1.h3
        have h3 := hp.1.h7
        have h4 : (L.take t.at_).count 10 ≤ (L.take t.at_).length := List.count_le_length
        rw [List.length_take] at h4
        omega
      · exact ih _ _ _ _ hp.2 t ht
  exact key _ _ _ _ _ h
end Go.Proofs.YtkkpjonfaflkmaaGreatDoor.S
namespace Go.Proofs.YtkkpjonfaflkmaaGreatDoor.T
set_option linter.unusedSimpArgs false
set_option linter.unusedVariables false
open Go.RowKit Go.Proofs.YtkkpjonfaflkmaaGreatDoorW.PrintWords Go.Proofs.YtkkpjonfaflkmaaGreatDoorW.PrintLast Go.Proofs.YtkkpjonfaflkmaaGreatDoorW.PrintMore
theorem feeds_l0 (a0 : ByteArray) (hs : a0.size ≤ 100000) : ∀ (m k i c : Nat), i + m = a0.size → m < k → c ≤ i → qanatlaw03_feeds.l0 k a0 (c : Int) (i : Int) = some ((c + ((bytesOf a0).drop i).count 10 : Nat) : Int)
  | m, 0, i, c, _, h, _ => absurd h (Nat.not_lt_zero _)
  | 0, k + 1, i, c, h, hk, hc => by
    rw [qanatlaw03_feeds.l0, if_neg (by omega), List.drop_of_length_le (by rw [bytesOf_length]; omega)]
    rfl
  | m + 1, k + 1, i, c, h, hk, hc => by
    rw [qanatlaw03_feeds.l0, if_pos (by omega), if_pos (by omega), drop_bt a0 (by omega), List.count_cons, w64n (by omega), w64n (by omega)]
    by_cases h1 : bt a0 (i : Int) = 10
    · rw [if_pos h1, feeds_l0 a0 hs m k (i + 1) (c + 1) (by omega) (by omega) (by omega), if_pos (beq_iff_eq.2 h1)]
      have e : c + 1 + ((bytesOf a0).drop (i + 1)).count 10 = c + (((bytesOf a0).drop (i + 1)).count 10 + 1) := by omega
      rw [e]
    · rw [if_neg h1, feeds_l0 a0 hs m k (i + 1) c (by omega) (by omega) (by omega), if_neg (fun e => h1 (beq_iff_eq.1 e))]
      rfl
theorem feeds_f (a0 : ByteArray) (hs : a0.size ≤ 100000) (k : Nat) (hk : a0.size < k) : qanatlaw03_feeds.f k a0 = some (((bytesOf a0).count 10 : Nat) : Int) := by
  have := feeds_l0 a0 hs a0.size k 0 0 (by omega) hk (Nat.le_refl _)
  rw [List.drop_zero, Nat.zero_add] at this
  exact this
theorem wr3 (a b : Nat) (ha : a ≤ 1000000) (hb : b ≤ 1000000) : wrap64 (wrap64 ((a : Int) + (b : Int)) + 1) = ((a + (b + 1) : Nat) : Int) := by
  have e : wrap64 ((a : Int) + (b : Int)) = ((a + b : Nat) : Int) := by unfold wrap64; omega
  rw [e, w64n (by omega)]
  omega
theorem wr2 (a b : Nat) (h : a + b ≤ 2000000) : wrap64 ((a : Int) + (b : Int)) = ((a + b : Nat) : Int) := by unfold wrap64; omega
theorem local_l1 (T0 TX : List S.Tk) (hl : T0.length ≤ 1000000) (hX : T0.length ≤ TX.length) (hz : (TX.take T0.length).map S.zz = T0.map S.zz) : ∀ (m k i : Nat), i + m = T0.length → m < k → qanatlaw03_ScanLocal.l1 k (T0.map toS) (TX.map toS) (i : Int) = some true
  | m, 0, i, _, h => absurd h (Nat.not_lt_zero _)
  | 0, k + 1, i, h, _ => by
    rw [qanatlaw03_ScanLocal.l1, if_neg (by rw [List.length_map]; omega)]
    rfl
  | m + 1, k + 1, i, h, hk => by
    have ih := local_l1 T0 TX hl hX hz m k (i + 1) (by omega) (by omega)
    have hi : i < T0.length := by omega
    have hi2 : i < TX.length := by omega
    have hzz : S.zz (TX[i]'hi2) = S.zz (T0[i]'hi) := by
      have e1 : (T0.map S.zz)[i]? = some (S.zz (T0[i]'hi)) := by rw [List.getElem?_map, List.getElem?_eq_getElem hi]; rfl
      have e2 : ((TX.take T0.length).map S.zz)[i]? = some (S.zz (TX[i]'hi2)) := by rw [List.getElem?_map, List.getElem?_take_of_lt hi, List.getElem?_eq_getElem hi2]; rfl
      rw [hz, e1] at e2
      exact (Option.some.inj e2).symm
    have hr1 := rd_some (List.getElem?_eq_getElem hi)
    have hr2 := rd_some (List.getElem?_eq_getElem hi2)
    generalize T0[i]'hi = t at hzz hr1
    generalize TX[i]'hi2 = u at hzz hr2
    simp only [S.zz, Prod.mk.injEq] at hzz
    obtain ⟨z1, z2, z3, z4, z5, z6⟩ := hzz
    rw [qanatlaw03_ScanLocal.l1, if_pos (by rw [List.length_map]; omega), if_pos (by omega), if_pos (by rw [List.length_map]; omega), hr1, hr2, w64n (by omega), ih]
    have f4 : (toS t).f4 = (toS u).f4 := by show (t.at_ : Int) = (u.at_ : Int); omega
    have f3 : (toS t).f3 = (toS u).f3 := by show (t.line : Int) = (u.line : Int); omega
    rw [if_pos f4, if_pos f3]
    by_cases h4 : (toS t).f0 = 4
    · rw [if_pos h4]
    · rw [if_neg h4]
      have h4' : ¬ t.kind = 4 := fun e => h4 (by show (t.kind : Int) = 4; omega)
      rw [if_neg (by omega), if_neg h4'] at z6
      have f5 : (toS t).f5 = (toS u).f5 := by show (t.to : Int) = (u.to : Int); omega
      rw [if_pos f5]
theorem local_l0 (a0 : ByteArray) (hs : a0.size ≤ 10000) (T0 TX TB : List S.Tk) (hl : T0.length ≤ 1000000) (hlB : TB.length ≤ 1000000) (hX : TX = TX.take T0.length ++ TB.map (S.sh (a0.size + 1) ((bytesOf a0).count 10 + 1))) (hX2 : T0.length ≤ TX.length) (hz : (TX.take T0.length).map S.zz = T0.map S.zz)
    (hbd : ∀ t ∈ TB, t.at_ ≤ 1000000 ∧ t.to ≤ 1000000 ∧ t.line ≤ 1000000) : ∀ (m k i : Nat), i + m = TB.length → m + T0.length + a0.size + 10 < k → qanatlaw03_ScanLocal.l0 k a0 (T0.map toS) (TB.map toS) (TX.map toS) (i : Int) = some true
  | m, 0, i, _, h => absurd h (Nat.not_lt_zero _)
  | 0, k + 1, i, h, hk => by
    rw [qanatlaw03_ScanLocal.l0, if_neg (by rw [List.length_map]; omega)]
    exact local_l1 T0 TX hl hX2 hz T0.length k 0 (by omega) (by omega)
  | m + 1, k + 1, i, h, hk => by
    have ih := local_l0 a0 hs T0 TX TB hl hlB hX hX2 hz hbd m k (i + 1) (by omega) (by omega)
    have hi : i < TB.length := by omega
    have hlen : TX.length = T0.length + TB.length := by
      have := congrArg List.length hX
      rw [List.length_append, List.length_take, List.length_map] at this
      omega
    have hc : (bytesOf a0).count 10 ≤ (bytesOf a0).length := List.count_le_length
    rw [bytesOf_length] at hc
    have hr1 := rd_some (List.getElem?_eq_getElem hi)
    have hx2 : TX[T0.length + i]? = some (S.sh (a0.size + 1) ((bytesOf a0).count 10 + 1) (TB[i]'hi)) := by
      have hh : (TX.take T0.length).length = T0.length := by rw [List.length_take]; omega
      rw [hX, List.getElem?_append_right (by omega), hh, Nat.add_sub_cancel_left, List.getElem?_map, List.getElem?_eq_getElem hi]
      rfl
    have hr2 := rd_some hx2
    have hbt := hbd _ (List.getElem_mem hi)
    generalize TB[i]'hi = t at hr1 hr2 hbt
    have p1 : (i : Int) < ((TB.map toS).length : Int) := by rw [List.length_map]; omega
    have p2 : ((T0.length + i : Nat) : Int) < ((TX.map toS).length : Int) := by rw [List.length_map]; omega
    have p3 : (0 : Int) ≤ ((T0.length + i : Nat) : Int) := Int.natCast_nonneg _
    have p4 : (0 : Int) ≤ (i : Int) := Int.natCast_nonneg _
    have b1 : T0.length + i ≤ 2000000 := by omega
    have b2 : i ≤ 1000000000000 := by omega
    have b3 : a0.size ≤ 100000 := by omega
    have b4 : a0.size < k := by omega
    have b5 : (bytesOf a0).count 10 ≤ 1000000 := by omega
    have b6 : a0.size ≤ 1000000 := by omega
    have w3 := wr3 t.line ((bytesOf a0).count 10) hbt.2.2 b5
    have w4 := wr3 t.at_ a0.size hbt.1 b6
    have w5 := wr3 t.to a0.size hbt.2.1 b6
    have hw1 : wrap64 ((i : Int) + 1) = ((i + 1 : Nat) : Int) := w64n b2
    have hfe := feeds_f a0 b3 k b4
    have hw : wrap64 (((T0.map toS).length : Int) + (i : Int)) = ((T0.length + i : Nat) : Int) := by rw [List.length_map]; exact wr2 _ _ b1
    clear hX hz hX2 hlB hl h hk hi hlen hx2 hbt hbd
    rw [qanatlaw03_ScanLocal.l0, if_pos p1, if_pos p4, hfe, Option.bind_some, hw, if_pos p3, if_pos p2, hr1, hr2, hw1, ih]
    generalize (bytesOf a0).count 10 = N at w3 ⊢
    have q3 : wrap64 (wrap64 ((toS t).f3 + (N : Int)) + 1) = (toS (S.sh (a0.size + 1) (N + 1) t)).f3 := w3
    have q4 : wrap64 (wrap64 ((toS t).f4 + (a0.size : Int)) + 1) = (toS (S.sh (a0.size + 1) (N + 1) t)).f4 := w4
    have q5 : wrap64 (wrap64 ((toS t).f5 + (a0.size : Int)) + 1) = (toS (S.sh (a0.size + 1) (N + 1) t)).f5 := w5
    have q0 : (toS t).f0 = (toS (S.sh (a0.size + 1) (N + 1) t)).f0 := rfl
    have q1 : (toS t).f1 = (toS (S.sh (a0.size + 1) (N + 1) t)).f1 := rfl
    have q2 : (toS t).f2 = (toS (S.sh (a0.size + 1) (N + 1) t)).f2 := rfl
    rw [q3, q4, q5, q0, q1, q2]
    simp only [beq_self_eq_true, Bool.not_true, Bool.or_self]
    rw [if_neg Bool.false_ne_true]
theorem scan_local_pure : qanatlaw03_ScanLocal.Pure := fun a0 a1 _ _ => by
  refine ⟨200001, ?_⟩
  have hsan : qanatlaw03_sanity.f = some true := rfl
  have tot : ∀ a, ∃ r, scan_Tokens.f a = some r := fun a => by
    unfold scan_Tokens.f
    split
    · split <;> exact ⟨_, rfl⟩
    · exact ⟨_, rfl⟩
  obtain ⟨r0, hr0⟩ := tot a0
  obtain ⟨r1, hr1⟩ := tot a1
  have triv : ∀ l m, qanatlaw03_ScanLocal.j0 (200000 + 1) a0 a1 l m true = some true := fun l m => by
    rw [qanatlaw03_ScanLocal.j0, if_pos rfl, hsan]; rfl
  unfold qanatlaw03_ScanLocal.f qanatlaw03_small.f
  rw [hr0, hr1]
  simp only [Option.bind_some]
  by_cases s0 : (a0.size : Int) ≤ 3000
  · rw [decide_eq_true s0, if_pos rfl]
    by_cases s1 : (a1.size : Int) ≤ 3000
    · rw [decide_eq_true s1, if_pos rfl]
      have t0 := tokens_g a0 (by omega)
      have t1 := tokens_g a1 (by omega)
      rw [hr0] at t0
      rw [hr1] at t1
      obtain rfl := Option.some.inj t0
      obtain rfl := Option.some.inj t1
      simp only []
      cases eA : (S.scan (bytesOf a0)).err with
      | some p => rw [if_neg (by rw [if_neg (fun e => by cases e)]; decide)]; exact triv _ _
      | none =>
        rw [if_pos (by rw [if_pos rfl])]
        cases eB : (S.scan (bytesOf a1)).err with
        | some p => rw [if_neg (fun e => by cases e)]; exact triv _ _
        | none =>
          rw [if_pos rfl]
          show qanatlaw03_ScanLocal.j0 (200000 + 1) a0 a1 _ _ false = some true
          obtain ⟨cls, cur, c1, c2, c3, c4⟩ := S.scan_two (bo_range a0) (bo_range a1) eA
          have hb59 : bytesOf (a0 ++ (⟨#[59]⟩ : ByteArray)) = bytesOf a0 ++ [59] := by rw [bytesOf_append]; rfl
          have hz59 : (a0 ++ (⟨#[59]⟩ : ByteArray)).size = a0.size + 1 := ByteArray.size_append
          have t59 := tokens_g (a0 ++ (⟨#[59]⟩ : ByteArray)) (by omega)
          rw [hb59, c2, if_pos rfl] at t59
          have hT59 : S.tokens (bytesOf a0 ++ [59]) = (cls ++ S.emit cur (bytesOf a0).length ((bytesOf a0).length + 1) (1 + (bytesOf a0).count 10)).flatten := by unfold S.tokens; rw [c3]
          rw [qanatlaw03_ScanLocal.j0, if_neg Bool.false_ne_true, if_pos (by omega), t59, Option.bind_some]
          simp only []
          rw [if_pos trivial]
          have j1t : ∀ l m, qanatlaw03_ScanLocal.j1 (199999 + 1) a0 a1 l m 0 true = some true := fun l m => by
            rw [qanatlaw03_ScanLocal.j1, if_pos rfl, hsan]; rfl
          have hlA : (bytesOf a0).length = a0.size := bytesOf_length a0
          have hlB : (bytesOf a1).length = a1.size := bytesOf_length a1
          have nA := S.tokens_length (bo_range a0)
          have nB := S.tokens_length (bo_range a1)
          have j1f : S.comma cur = false → qanatlaw03_ScanLocal.j1 (199999 + 1) a0 a1 ((S.tokens (bytesOf a0)).map toS) ((S.tokens (bytesOf a1)).map toS) 0 false = some true := fun hc => by
            have e4 := c4 hc
            have hby : bytesOf ((a0 ++ (⟨#[10]⟩ : ByteArray)) ++ a1) = bytesOf a0 ++ 10 :: bytesOf a1 := by
              rw [bytesOf_append, bytesOf_append, List.append_assoc]; rfl
            have hz : (a0 ++ (⟨#[10]⟩ : ByteArray)).size = a0.size + 1 := ByteArray.size_append
            have hz2 : ((a0 ++ (⟨#[10]⟩ : ByteArray)) ++ a1).size = a0.size + 1 + a1.size := by rw [ByteArray.size_append, hz]
            have tX := tokens_g ((a0 ++ (⟨#[10]⟩ : ByteArray)) ++ a1) (by omega)
            have herr : (S.scan (bytesOf a0 ++ 10 :: bytesOf a1)).err = none := by
              rw [e4]; show (S.scan (bytesOf a1)).err.map _ = none; rw [eB]; rfl
            rw [hby, herr, if_pos rfl] at tX
            obtain ⟨P, hP⟩ : ∃ P, (cls ++ S.emit cur (bytesOf a0).length ((bytesOf a0).length + 1) (1 + (bytesOf a0).count 10)).flatten = P := ⟨_, rfl⟩
            have hTX : S.tokens (bytesOf a0 ++ 10 :: bytesOf a1) = P ++ (S.tokens (bytesOf a1)).map (S.sh (a0.size + 1) ((bytesOf a0).count 10 + 1)) := by
              rw [← hP, ← hlA]
              unfold S.tokens
              rw [e4]
              simp [S.Out.pre, S.shO, List.map_flatten]
            have hz0 : P.map S.zz = (S.tokens (bytesOf a0)).map S.zz := by
              rw [← hP]
              unfold S.tokens
              rw [c1, show S.cut cur = cur by unfold S.cut; rw [hc, if_neg Bool.false_ne_true], List.flatten_append, List.flatten_append, List.map_append, List.map_append, S.emit_zz cur _ _ (bytesOf a0).length]
            have hPl : P.length = (S.tokens (bytesOf a0)).length := by have := congrArg List.length hz0; simpa using this
            obtain ⟨TX, hTXe⟩ : ∃ TX, S.tokens (bytesOf a0 ++ 10 :: bytesOf a1) = TX := ⟨_, rfl⟩
            rw [hTXe] at hTX tX
            have htk : TX.take (S.tokens (bytesOf a0)).length = P := by rw [hTX, ← hPl, List.take_left']; rfl
            have hlen : TX.length = (S.tokens (bytesOf a0)).length + (S.tokens (bytesOf a1)).length := by rw [hTX, List.length_append, List.length_map, hPl]
            have hbd := S.tok_bound (bo_range a1) eB
            have hl0 := local_l0 a0 (by omega) (S.tokens (bytesOf a0)) TX (S.tokens (bytesOf a1)) (by omega) (by omega) (by rw [htk]; exact hTX) (by omega) (by rw [htk]; exact hz0) (fun t ht => by have := hbd t ht; omega) (S.tokens (bytesOf a1)).length 199998 0 (by omega) (by omega)
            have hsame := sameTz_f (TX.take (S.tokens (bytesOf a0)).length) (S.tokens (bytesOf a0)) (by rw [htk]; exact S.zz_key hz0) (by rw [htk, hPl]; omega) 199999 (by rw [htk, hPl]; omega)
            have hw : wrap64 (((S.tokens (bytesOf a0)).length : Int) + ((S.tokens (bytesOf a1)).length : Int)) = (((S.tokens (bytesOf a0)).length + (S.tokens (bytesOf a1)).length : Nat) : Int) := wr2 _ _ (by omega)
            generalize S.tokens (bytesOf a0) = T0 at hl0 hsame hw hlen
            generalize S.tokens (bytesOf a1) = TB at hl0 hsame hw hlen
            rw [qanatlaw03_ScanLocal.j1, if_neg Bool.false_ne_true, if_pos (by omega), if_pos (by omega), tX, Option.bind_some]
            simp only []
            rw [if_pos trivial]
            rw [List.length_map, List.length_map, List.length_map, hw, hlen, if_pos rfl, if_pos (by omega), if_pos (by omega), Int.toNat_natCast, ← List.map_take, hsame, Option.bind_some]
            rw [qanatlaw03_ScanLocal.j2, if_neg (show ¬ (!true) = true from Bool.false_ne_true)]
            exact hl0
          have n59 := S.tokens_length (xs := bytesOf a0 ++ [59]) (by rw [← hb59]; exact bo_range _)
          rw [List.length_append, List.length_singleton] at n59
          obtain ⟨LL, hLL⟩ : ∃ LL, S.tokens (bytesOf a0 ++ [59]) = LL := ⟨_, rfl⟩
          rw [hLL] at hT59 n59 ⊢
          by_cases hc : S.comma cur = true
          · obtain ⟨a, t, rfl, k3, tx⟩ := S.comma_last hc
            obtain ⟨Q, e, hQ⟩ : ∃ Q e, LL = Q ++ [t, e] := by
              refine ⟨cls.flatten ++ a, S.endTk (bytesOf a0).length ((bytesOf a0).length + 1) (1 + (bytesOf a0).count 10), ?_⟩
              rw [hT59]
              unfold S.emit
              rw [if_neg (by simp)]
              simp
            have hl : LL.length = Q.length + 2 := by rw [hQ]; simp
            have hat : LL[Q.length]? = some t := by rw [hQ, List.getElem?_append_right (Nat.le_refl _), Nat.sub_self]; rfl
            have hw : wrap64 (((Q.length + 2 : Nat) : Int) - 2) = (Q.length : Int) := by unfold wrap64; omega
            have hr := rd_some hat
            have hf0 : (toS t).f0 = 3 := by show (t.kind : Int) = 3; omega
            have hf1 : ((toS t).f1.toList == ([44] : List UInt8)) = true := by show ((strOfNums t.text).toList == ([44] : List UInt8)) = true; rw [tx]; first | decide +kernel | (rw [str_eq, bytesOf_str _ (by simp)]; rfl)
            rw [List.length_map, hl, hw, if_pos (by omega), if_pos (by omega), if_pos (by omega), hr, if_pos hf0, hf1]
            exact j1t _ _
          · have hcf : S.comma cur = false := by simpa using hc
            have jb : ∀ b, qanatlaw03_ScanLocal.j1 (199999 + 1) a0 a1 ((S.tokens (bytesOf a0)).map toS) ((S.tokens (bytesOf a1)).map toS) 0 b = some true := fun b => by
              cases b
              · exact j1f hcf
              · exact j1t _ _
            rw [List.length_map]
            by_cases h1 : (LL.length : Int) > 1
            · have hw : wrap64 ((LL.length : Int) - 2) = (LL.length : Int) - 2 := by unfold wrap64; omega
              rw [if_pos h1, hw, if_pos (by omega), if_pos (by omega)]
              split
              · exact jb _
              · exact jb _
            · rw [if_neg h1]; exact jb _
    · rw [decide_eq_false s1, if_neg Bool.false_ne_true]; exact triv _ _
  · rw [decide_eq_false s0, if_neg Bool.false_ne_true]; exact triv _ _
end Go.Proofs.YtkkpjonfaflkmaaGreatDoor.T
