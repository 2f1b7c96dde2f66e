/- Part 6 of the proof of ScanLocal: the functions that it calls return what their plain descriptions say. -/
import Derived.Test.YtkkpjonfaflkmaaGreatDoorCScanLocal5
import Derived.Deep.Cut
import Derived.Test.YtkkpjonfaflkmaaGreatDoorCScanLocal4
import Derived.Test.YtkkpjonfaflkmaaGreatDoorCScanLocal3
import Derived.Shelf.Strings.BuilderK
import Derived.RangeFuncNested
import Derived.RangeFuncLeaves
import Derived.RegionIn
import Derived.OwnWalkIn
import Derived.LoopIn
import Derived.TacticsInMore
import Derived.LoopNIn
import Derived.RangeFuncBox
import Derived.Deep.AppendSrc
import Derived.Deep.MidRow

namespace Go.Proofs.YtkkpjonfaflkmaaGreatDoor.T
set_option linter.unusedSimpArgs false
set_option linter.unusedVariables false
open Go.RowKit Go.Proofs.YtkkpjonfaflkmaaGreatDoorW.PrintWords Go.Proofs.YtkkpjonfaflkmaaGreatDoorW.PrintLast Go.Proofs.YtkkpjonfaflkmaaGreatDoorW.PrintMore
theorem u8_all (P : UInt8 → Prop) (h : ∀ n : Fin 256, P (UInt8.ofNat n.val)) (b : UInt8) : P b := by
  have := h ⟨b.toNat, b.toNat_lt⟩
  simpa using this
theorem isE (b : UInt8) : ([69, 101] : List UInt8).contains b = (decide ((b.toNat : Int) = 69) || decide ((b.toNat : Int) = 101)) := u8_all (fun b => ([69, 101] : List UInt8).contains b = (decide ((b.toNat : Int) = 69) || decide ((b.toNat : Int) = 101))) (by decide +kernel) b
theorem isDot (b : UInt8) : ([46] : List UInt8).contains b = decide ((b.toNat : Int) = 46) := u8_all (fun b => ([46] : List UInt8).contains b = decide ((b.toNat : Int) = 46)) (by decide +kernel) b
theorem isDD (b : UInt8) : ([48, 49, 50, 51, 52, 53, 54, 55, 56, 57, 46] : List UInt8).contains b = (S.dig b.toNat || decide ((b.toNat : Int) = 46)) := u8_all (fun b => ([48, 49, 50, 51, 52, 53, 54, 55, 56, 57, 46] : List UInt8).contains b = (S.dig b.toNat || decide ((b.toNat : Int) = 46))) (by decide +kernel) b
theorem trimR_end (l : List UInt8) (e : UInt8) (cs : List UInt8) : Lib.trimRightS (l ++ [e]) cs = if cs.contains e = true then Lib.trimRightS l cs else l ++ [e] := by
  unfold Lib.trimRightS
  rw [List.reverse_append]
  by_cases h : cs.contains e = true
  · rw [if_pos h]
    simp only [List.reverse_cons, List.reverse_nil, List.nil_append, List.singleton_append]
    rw [List.dropWhile_cons_of_pos h]
  · rw [if_neg h]
    simp only [List.reverse_cons, List.reverse_nil, List.nil_append, List.singleton_append]
    rw [List.dropWhile_cons_of_neg h]
    simp
theorem trimR_le (l cs : List UInt8) : (Lib.trimRightS l cs).length ≤ l.length := by
  unfold Lib.trimRightS
  rw [List.length_reverse]
  have := (List.dropWhile_sublist (cs.contains ·) (l := l.reverse)).length_le
  simpa using this
theorem cb (l : List UInt8) : (Lib.countByte l 46 : Int) = (l.count 46 : Int) := rfl
theorem toL_mk (l : List UInt8) : (⟨l.toArray⟩ : ByteArray).toList = l := by rw [Lib.toList_data]
theorem mk_size (l : List UInt8) : (⟨l.toArray⟩ : ByteArray).size = l.length := by simp [ByteArray.size]
theorem open_f (x : ByteArray) (hx : x.size ≤ 100000) : scan_open.f x = some (S.mant (bytesOf x)) := by
  have hsz : x.size = x.data.toList.length := (data_length x).symm
  rw [bytesOf_nums]
  unfold scan_open.f strings_TrimRight.f
  rw [if_pos ⟨hx, by decide, by decide⟩]
  simp only [Option.bind_some, mk_size]
  rw [hsz]
  rw [hsz] at hx
  generalize x.data.toList = l at hx
  have hw : wrap64 ((l.length : Int) - 1) = (l.length : Int) - 1 := by unfold wrap64; omega
  rw [hw]
  show (if ((Lib.trimRightS l [69, 101]).length : Int) = (l.length : Int) - 1 then _ else some false) = _
  rcases List.eq_nil_or_concat l with rfl | ⟨l', e, rfl⟩
  · rw [if_neg (by simp [Lib.trimRightS])]
    rfl
  rw [List.concat_eq_append] at hx ⊢
  have hm : S.mant (nums (l' ++ [e])) = (([69, 101] : List UInt8).contains e && (nums l').all (fun c => S.dig c || decide (c = 46)) && (nums l').any S.dig && decide ((nums l').count 46 ≤ 1)) := by
    unfold S.mant
    have h1 : nums (l' ++ [e]) = nums l' ++ [(e.toNat : Int)] := by simp [nums]
    rw [h1, List.getLast?_concat, isE]
    simp only [List.dropLast_concat]
  rw [hm, trimR_end]
  by_cases he : ([69, 101] : List UInt8).contains e = true
  · rw [if_pos he, he, Bool.true_and]
    have hl : ((l' ++ [e]).length : Int) - 1 = (l'.length : Int) := by simp
    rw [hl]
    by_cases hs : ((Lib.trimRightS l' [69, 101]).length : Int) = (l'.length : Int)
    · rw [if_pos hs]
      have ht : Lib.trimRightS l' [69, 101] = l' := by
        rcases List.eq_nil_or_concat l' with rfl | ⟨l2, e2, rfl⟩
        · rfl
        · rw [List.concat_eq_append] at hs ⊢
          rw [trimR_end] at hs ⊢
          by_cases h2 : ([69, 101] : List UInt8).contains e2 = true
          · rw [if_pos h2] at hs
            have := trimR_le l2 [69, 101]
            simp at hs
            omega
          · rw [if_neg h2]
      rw [ht]
      unfold strings_Count.f
      simp only [Option.bind_some]
      have hc : Lib.countByte l' 46 = ((nums l').count 46 : Int) := by
        have := nums_count l' 46
        rw [show (((46 : UInt8).toNat : Nat) : Int) = 46 from rfl] at this
        rw [this]
        exact cb l'
      rw [hc]
      by_cases h1 : ((nums l').count 46 : Int) > 1
      · rw [if_pos h1]
        have : decide ((nums l').count 46 ≤ 1) = false := decide_eq_false (by omega)
        rw [this, Bool.and_false]
      · rw [if_neg h1]
        have : decide ((nums l').count 46 ≤ 1) = true := decide_eq_true (by omega)
        rw [this, Bool.and_true]
        have hx2 : l'.length ≤ 100000 := by simp at hx; omega
        unfold strings_Trim.f
        rw [mk_size, if_pos ⟨hx2, by decide, by decide⟩, if_pos ⟨hx2, by decide, by decide⟩]
        simp only [Option.bind_some, toL_mk]
        show (if Lib.trimS l' [46] = [] then some false else some (Lib.trimS l' [48, 49, 50, 51, 52, 53, 54, 55, 56, 57, 46] == [])) = _
        have hall : (nums l').all (fun c => S.dig c || decide (c = 46)) = decide (Lib.trimS l' [48, 49, 50, 51, 52, 53, 54, 55, 56, 57, 46] = []) := by
          rw [nums_all]
          by_cases h : Lib.trimS l' [48, 49, 50, 51, 52, 53, 54, 55, 56, 57, 46] = []
          · rw [decide_eq_true h, List.all_eq_true]
            intro b hb
            rw [← isDD]; exact (trimS_empty _ _).1 h b hb
          · rw [decide_eq_false h, ← Bool.not_eq_true, List.all_eq_true]
            intro q
            refine h ((trimS_empty _ _).2 fun b hb => ?_)
            rw [isDD]; exact q b hb
        by_cases h2 : Lib.trimS l' [46] = []
        · rw [if_pos h2]
          have : (nums l').any S.dig = false := by
            rw [nums_any, ← Bool.not_eq_true, List.any_eq_true]
            rintro ⟨b, hb, hd⟩
            have h3 := (trimS_empty _ _).1 h2 b hb
            rw [isDot, decide_eq_true_eq] at h3
            rw [h3] at hd
            cases hd
          rw [this, Bool.and_false]
        · rw [if_neg h2, hall]
          by_cases h3 : Lib.trimS l' [48, 49, 50, 51, 52, 53, 54, 55, 56, 57, 46] = []
          · have h4 : (nums l').any S.dig = true := by
              rw [nums_any]
              rcases Bool.eq_false_or_eq_true (l'.any fun b => S.dig b.toNat) with h | h
              · exact h
              · exfalso
                refine h2 ((trimS_empty _ _).2 fun b hb => ?_)
                have h5 := (trimS_empty _ _).1 h3 b hb
                rw [isDD] at h5
                have h6 : S.dig b.toNat = false := by
                  rw [List.any_eq_false] at h
                  simpa using h b hb
                rw [h6, Bool.false_or] at h5
                rw [isDot]; exact h5
            rw [h3, h4]
            rfl
          · rw [decide_eq_false h3, Bool.false_and]
            simp [h3]
    · rw [if_neg hs]
      have : (nums l').all (fun c => S.dig c || decide (c = 46)) = false := by
        rcases List.eq_nil_or_concat l' with rfl | ⟨l2, e2, rfl⟩
        · exact absurd rfl hs
        · rw [List.concat_eq_append] at hs ⊢
          rw [trimR_end] at hs
          by_cases h2 : ([69, 101] : List UInt8).contains e2 = true
          · rw [isE] at h2
            have h3 : nums (l2 ++ [e2]) = nums l2 ++ [(e2.toNat : Int)] := by simp [nums]
            rw [h3, List.all_append]
            simp only [Bool.or_eq_true, decide_eq_true_eq] at h2
            have : (S.dig (e2.toNat : Int) || decide ((e2.toNat : Int) = 46)) = false := by
              rcases h2 with h2 | h2 <;> rw [h2] <;> rfl
            simp [this]
          · rw [if_neg h2] at hs
            exact absurd rfl hs
      rw [this]
      rfl
  · rw [if_neg he, if_neg (by simp; omega)]
    simp only [Bool.not_eq_true] at he
    rw [he]
    rfl
theorem run_le (p : Int → Bool) : ∀ l : List Int, S.run p l ≤ l.length
  | [] => Nat.le_refl _
  | c :: t => by
    unfold S.run
    split
    · have := run_le p t; simp; omega
    · omega
def SymPost (s : Nat) (src : ByteArray) (m : Value) (i line : Nat) (e : Ending) (w' : World) : S.TR → Prop
  | .err c => e = Fails c line ∧ ∃ i' : Nat, Sc s src i' line m w'
  | .ok t n => e = .returned (.string (strOfNums t)) ∧ Sc s src ((i + n : Nat) : Int) line m w'
set_option maxRecDepth 100000 in
set_option maxHeartbeats 4000000 in
theorem scan_symbol.calls (s : Nat) (src : ByteArray) (m : Value) (i line : Nat) (w : World) (hsz : src.size ≤ 100000) (hl : line ≤ 1000000000) (hi : i ≤ src.size) (h : Sc s src i line m w) :
    Calls Tryz.prog 56 #[.pointer (some ⟨s, 0, none⟩)] w fun e w' => But (· = s) w w' ∧ SymPost s src m i line e w' (S.symTok ((bytesOf src).drop i)) := by
  have HS := Aside0.mk h
  obtain ⟨n, hn⟩ : ∃ n, src.size = n := ⟨_, rfl⟩
  obtain ⟨L, hL⟩ : ∃ L, bytesOf src = L := ⟨_, rfl⟩
  have HN : Aside0 (L.length = n) := ⟨by rw [← hL, bytesOf_length]; exact hn⟩
  have HRUN := Lib.hid (fun W hW => scan_run.calls s src i line m i 55 S.sym W (by omega) hi sym_enters sym_tells hW)
  rw [hL] at HRUN ⊢
  obtain ⟨r, hr⟩ : ∃ r, S.run S.sym (L.drop i) = r := ⟨_, rfl⟩
  rw [hr] at HRUN
  have hrn : i + r ≤ n := by
    have := run_le S.sym (L.drop i)
    rw [hr, List.length_drop, HN.out] at this
    omega
  have HL := Aside0.mk hL
  have HR := Aside0.mk hr
  have c0 := h.c0
  have c1 := h.c1
  have f1 := h.fr 1
  clear hL h hr
  rw [hn] at hsz hi
  obtain ⟨x, hx⟩ : ∃ x, i + r = x := ⟨_, rfl⟩
  rw [hx] at hrn HRUN
  have hxr : x - i = r := by omega
  have HX : Aside0 (bytesOf (src.extract i x) = (L.drop i).take r) := ⟨by rw [bytesOf_extract, HL.out, hxr]⟩
  have hxs : (src.extract i x).size ≤ 100000 := by rw [ByteArray.size_extract]; omega
  have HO := open_f _ hxs
  rw [HX.out] at HO
  obtain ⟨op, hop⟩ : ∃ op, S.mant ((L.drop i).take r) = op := ⟨_, rfl⟩
  rw [hop] at HO
  have hz0 : (0 : Int) ≤ (i : Int) := by omega
  have hz1 : (i : Int) ≤ (x : Int) := by omega
  have hz2 : (x : Int) ≤ (n : Int) := by omega
  have HOP := Lib.hid (fun W => scan_open.calls (src.extract i x) op W HO)
  have HI := Aside0.mk (And.intro hx hxr)
  clear hx hxr HO hxs
  have hw1 : IntKind.i64.wrap ((x : Int) + 1) = ((x + 1 : Nat) : Int) := by rw [w64 _ (by omega) (by omega)]; omega
  obtain ⟨E, hE⟩ : ∃ E, (op && S.expo (L.drop x)) = E := ⟨_, rfl⟩
  have HEE := Aside0.mk hE
  go_enter Tryz.func56, Tryz.ntmps56
  go_wp2_with (go_at_call 94; refine (HRUN.out _ HS.out).mono ?_; rintro e w' ⟨rfl, ⟨⟨q, rfl⟩⟩⟩)
  have HS1 : Aside0 (Sc s src x line m ((w.drewN q).setCell ⟨s, 1, none⟩ (.int .i64 x))) := ⟨Sc.set1 (w := w.drewN q) HS.out _⟩
  have HB1 : Aside0 (But (· = s) w ((w.drewN q).setCell ⟨s, 1, none⟩ (.int .i64 x))) := ⟨((But.refl _ w).drewN q).set _ _ rfl⟩
  clear hE
  generalize (w.drewN q).setCell ⟨s, 1, none⟩ (.int .i64 x) = w1 at *
  go_cut [74] from 4 (fun s74 wc => s74 = .bool E ∧ Aside0 (Sc s src x line m wc) ∧ Aside0 (But (· = s) w wc))
  case first =>
    have cc0 : ∀ y : ScC s src x line m w, y.world.cell? ⟨s, 0, none⟩ = some (.string src) := ScC.c0
    have cc1 : ∀ y : ScC s src x line m w, y.world.cell? ⟨s, 1, none⟩ = some (.int .i64 x) := ScC.c1
    have hne : Nonempty (ScC s src x line m w) := ⟨⟨w1.drew, HS1.out, HB1.out.drew⟩⟩
    cases op with
    | false =>
      obtain rfl : false = E := HEE.out
      refine wp_region_cls (fun W => ∃ y : ScC s src x line m w, W = y.world) (by kernel_rfl) (by kernel_rfl) ⟨⟨w1.drew, HS1.out, HB1.out.drew⟩, rfl⟩ ?_
      repeat (go_big_quiet_step ((rename_i y; (go_at_call 95; refine (HOP.out _).mono ?_; rintro e w' ⟨rfl, hb⟩; exact ⟨rfl, y.ret hb⟩))))
      refine wpQuiet_nil ?_
      rintro W ⟨y, rfl⟩
      go_wp2_with fail
      go_meet
      exact ⟨rfl, ⟨y.sc⟩, ⟨y.but⟩⟩
    | true =>
      by_cases c1 : x + 1 < n
      · have g1 : decide (((x : Int) + 1) < (n : Int)) = true := decide_eq_true (by omega)
        have g1' : decide (x + 1 < n) = true := decide_eq_true c1
        have hxn : x < src.size := by omega
        have hx1n : x + 1 < src.size := by omega
        have hb1 := nth_byte src x hxn
        have hb2 := nth_byte src (x + 1) hx1n
        rw [HL.out] at hb1 hb2
        have HE2 : Aside0 (E = ((decide (L.getD x 0 = 43) || decide (L.getD x 0 = 45)) && S.dig (L.getD (x + 1) 0))) := ⟨by
          have := HEE.out
          rw [drop_at L x (by rw [HN.out]; omega), drop_at L (x + 1) (by rw [HN.out]; omega)] at this
          rw [← this]; rfl⟩
        have hr1 : 0 ≤ L.getD (x + 1) 0 ∧ L.getD (x + 1) 0 < 256 := by
          have := bo_range src (L.getD (x + 1) 0) (by rw [HL.out]; exact getD_mem L (x + 1) (by rw [HN.out]; omega))
          exact this
        generalize L.getD x 0 = y1 at *
        generalize L.getD (x + 1) 0 = y2 at *
        have hdd := fun W => scan_digit.calls y2 (S.dig y2) W (dig_f y2)
        obtain ⟨D, hD⟩ : ∃ D, S.dig y2 = D := ⟨_, rfl⟩
        rw [hD] at HE2 hdd
        have HDG := Lib.hid hdd
        clear hdd hD hr1 c1
        have hi1 : (x : Int) < (n : Int) := by omega
        have hi2 : ((x : Int) + 1) < (n : Int) := by omega
        have hi0 : (0 : Int) ≤ (x : Int) := by omega
        by_cases c2 : y1 = 43
        · have g2 : (y1 == 43) = true := beq_iff_eq.2 c2
          obtain rfl : E = D := by rw [HE2.out, c2]; simp
          refine wp_region_cls (fun W => ∃ y : ScC s src x line m w, W = y.world) (by kernel_rfl) (by kernel_rfl) ⟨⟨w1.drew, HS1.out, HB1.out.drew⟩, rfl⟩ ?_
          repeat (go_big_quiet_step ((rename_i y; first | (go_at_call 95; refine (HOP.out _).mono ?_; rintro e w' ⟨rfl, hb⟩; exact ⟨rfl, y.ret hb⟩) | (go_at_call 96; refine (HDG.out _).mono ?_; rintro e w' ⟨rfl, hb⟩; exact ⟨rfl, y.ret hb.below⟩))))
          refine wpQuiet_nil ?_
          rintro W ⟨y, rfl⟩
          go_wp2_with fail
          go_meet
          exact ⟨rfl, ⟨y.sc⟩, ⟨y.but⟩⟩
        · have g2 : (y1 == 43) = false := beq_eq_false_iff_ne.2 c2
          by_cases c3 : y1 = 45
          · have g3 : (y1 == 45) = true := beq_iff_eq.2 c3
            obtain rfl : E = D := by rw [HE2.out, c3]; simp
            refine wp_region_cls (fun W => ∃ y : ScC s src x line m w, W = y.world) (by kernel_rfl) (by kernel_rfl) ⟨⟨w1.drew, HS1.out, HB1.out.drew⟩, rfl⟩ ?_
            repeat (go_big_quiet_step ((rename_i y; first | (go_at_call 95; refine (HOP.out _).mono ?_; rintro e w' ⟨rfl, hb⟩; exact ⟨rfl, y.ret hb⟩) | (go_at_call 96; refine (HDG.out _).mono ?_; rintro e w' ⟨rfl, hb⟩; exact ⟨rfl, y.ret hb.below⟩))))
            refine wpQuiet_nil ?_
            rintro W ⟨y, rfl⟩
            go_wp2_with fail
            go_meet
            exact ⟨rfl, ⟨y.sc⟩, ⟨y.but⟩⟩
          · have g3 : (y1 == 45) = false := beq_eq_false_iff_ne.2 c3
            obtain rfl : E = false := by rw [HE2.out]; simp [c2, c3]
            refine wp_region_cls (fun W => ∃ y : ScC s src x line m w, W = y.world) (by kernel_rfl) (by kernel_rfl) ⟨⟨w1.drew, HS1.out, HB1.out.drew⟩, rfl⟩ ?_
            repeat (go_big_quiet_step ((rename_i y; first | (go_at_call 95; refine (HOP.out _).mono ?_; rintro e w' ⟨rfl, hb⟩; exact ⟨rfl, y.ret hb⟩) | (go_at_call 96; refine (HDG.out _).mono ?_; rintro e w' ⟨rfl, hb⟩; exact ⟨rfl, y.ret hb.below⟩))))
            refine wpQuiet_nil ?_
            rintro W ⟨y, rfl⟩
            go_wp2_with fail
            go_meet
            exact ⟨rfl, ⟨y.sc⟩, ⟨y.but⟩⟩
      · have g1 : decide (((x : Int) + 1) < (n : Int)) = false := decide_eq_false (by omega)
        have g1' : decide (x + 1 < n) = false := decide_eq_false c1
        obtain rfl : E = false := by
          have := HEE.out
          rw [← this]
          have hlen : (L.drop x).length ≤ 1 := by rw [List.length_drop, HN.out]; omega
          rcases h0 : L.drop x with _ | ⟨a, _ | ⟨b, t⟩⟩
          · rfl
          · rfl
          · rw [h0] at hlen; simp at hlen
        refine wp_region_cls (fun W => ∃ y : ScC s src x line m w, W = y.world) (by kernel_rfl) (by kernel_rfl) ⟨⟨w1.drew, HS1.out, HB1.out.drew⟩, rfl⟩ ?_
        repeat (go_big_quiet_step ((rename_i y; (go_at_call 95; refine (HOP.out _).mono ?_; rintro e w' ⟨rfl, hb⟩; exact ⟨rfl, y.ret hb⟩))))
        refine wpQuiet_nil ?_
        rintro W ⟨y, rfl⟩
        go_wp2_with fail
        go_meet
        exact ⟨rfl, ⟨y.sc⟩, ⟨y.but⟩⟩
  case rest =>
    obtain ⟨rfl, HS2, HB2⟩ := hcut
    clear HS1 HB1 HOP
    obtain ⟨x2, hx2⟩ : ∃ x2 : Nat, i + S.symLen (L.drop i) = x2 := ⟨_, rfl⟩
    have hsl : S.symLen (L.drop i) = if E = true then r + 1 + S.run S.dig (L.drop (x + 1)) else r := by
      have h1 := HI.out
      have hE := HEE.out
      unfold S.symLen
      rw [HR.out, List.drop_drop, List.drop_drop, h1.1, show i + (r + 1) = x + 1 by omega, hop]
      by_cases hc : E = true
      · rw [if_pos hc]
        rw [hc] at hE
        rw [Bool.and_eq_true] at hE
        rw [if_pos hE]
      · rw [if_neg hc]
        rw [if_neg (fun q => hc (by rw [← hE, q.1, q.2]; rfl))]
    have hx2n : x2 ≤ n ∧ i ≤ x2 := by
      have h1 := HI.out
      by_cases hc : E = true
      · rw [if_pos hc] at hsl
        have := run_le S.dig (L.drop (x + 1))
        rw [List.length_drop, HN.out] at this
        have hE := HEE.out
        rw [hc, Bool.and_eq_true] at hE
        have h2 : x + 1 < n := by
          rcases Nat.lt_or_ge (x + 1) n with h | h
          · exact h
          · have hlen : (L.drop x).length ≤ 1 := by rw [List.length_drop, HN.out]; omega
            rcases h0 : L.drop x with _ | ⟨a, _ | ⟨b, t⟩⟩
            · rw [h0] at hE; cases hE.2
            · rw [h0] at hE; cases hE.2
            · rw [h0] at hlen; simp at hlen
        omega
      · rw [if_neg hc] at hsl
        omega
    have HT : Aside0 (S.symTok (L.drop i) = if 40 < x2 - i then .err 30 else .ok (((L.drop i).take (x2 - i)).map S.up) (x2 - i)) := ⟨by
      unfold S.symTok
      rw [show S.symLen (L.drop i) = x2 - i by omega]⟩
    go_upto_if 74 with (fail)
    go_cut [] from 4 (fun wc => Aside0 (Sc s src x2 line m wc) ∧ Aside0 (But (· = s) w wc))
    case first =>
      have d1 := HS2.out.c1
      have e1 := HS2.out.fr 1
      cases E with
      | false =>
        obtain rfl : x = x2 := by have h1 := HI.out; simp at hsl; omega
        go_wp2_with fail
        go_meet
        exact ⟨HS2, HB2⟩
      | true =>
        simp only [if_true] at hsl
        have hx3 : ((x + 1 + S.run S.dig (L.drop (x + 1)) : Nat) : Int) = (x2 : Int) := by have h1 := HI.out; omega
        have hxn : x + 1 ≤ n := by have h1 := HI.out; omega
        have HR2 := scan_run.calls s src x line m (x + 1) 96 S.dig wc (by omega) (by omega) dig_enters dig_tells HS2.out
        rw [HL.out, hx3] at HR2
        have HRR := Lib.hid HR2
        clear HR2 hx3
        go_wp2_with (go_at_call 94; refine HRR.out.mono ?_; rintro e w' ⟨rfl, ⟨⟨q, rfl⟩⟩⟩)
        go_meet
        exact ⟨⟨Sc.set1 (w := wc.drewN q) HS2.out _⟩, ⟨(HB2.out.drewN q).set _ _ rfl⟩⟩
    case rest =>
      obtain ⟨HS3, HB3⟩ := hcut
      clear HS2 HB2 HRUN
      have d0 := HS3.out.c0
      have d1 := HS3.out.c1
      have d2 := HS3.out.c2
      obtain ⟨k, hk⟩ : ∃ k, x2 - i = k := ⟨_, rfl⟩
      have HT2 := HT
      rw [hk] at HT2
      have hw2 : IntKind.i64.wrap ((x2 : Int) - (i : Int)) = (k : Int) := by rw [w64 _ (by omega) (by omega)]; omega
      by_cases h40 : 40 < k
      · have g1 : decide (40 < k) = true := decide_eq_true h40
        have g2 : decide ((40 : Int) < (k : Int)) = true := decide_eq_true (by omega)
        have HF := Lib.hid (scan_fail.calls (.pointer (some ⟨s, 0, none⟩)) 30 line wc)
        rw [if_pos h40] at HT2
        clear hk h40
        go_wp2_with (go_at_call 97; refine HF.out.mono ?_; rintro e w' ⟨rfl, rfl⟩; unfold Fails)
        rw [HT2.out]
        exact ⟨rfl, HB3.out, rfl, _, HS3.out⟩
      · have g1 : decide (40 < k) = false := decide_eq_false h40
        have g2 : decide ((40 : Int) < (k : Int)) = false := decide_eq_false (by omega)
        rw [if_neg h40] at HT2
        have hz3 : (i : Int) ≤ (x2 : Int) := by omega
        have hz4 : (x2 : Int) ≤ (n : Int) := by omega
        have hup : scan_upper.f (src.extract i x2) = some (strOfNums (((L.drop i).take k).map S.up)) := by
          unfold scan_upper.f upS
          rw [if_pos (by rw [ByteArray.size_extract]; omega), bytesOf_extract, HL.out, hk]
        have hcalls := fun W => scan_upper.calls (src.extract i x2) _ W hup
        have HK : Aside0 (x2 = i + k) := ⟨by omega⟩
        clear hk h40 hup
        obtain ⟨out, hout⟩ : ∃ out, strOfNums (((L.drop i).take k).map S.up) = out := ⟨_, rfl⟩
        rw [hout] at hcalls
        have HU := Lib.hid hcalls
        have HOUT := Aside0.mk hout
        clear hcalls hout
        have cc0 : ∀ y : ScC s src x2 line m w, y.world.cell? ⟨s, 0, none⟩ = some (.string src) := ScC.c0
        have cc1 : ∀ y : ScC s src x2 line m w, y.world.cell? ⟨s, 1, none⟩ = some (.int .i64 x2) := ScC.c1
        have hne : Nonempty (ScC s src x2 line m w) := ⟨⟨wc.drew, HS3.out, HB3.out.drew⟩⟩
        go_wp2
        refine wp_region_cls (fun W => ∃ y : ScC s src x2 line m w, W = y.world) (by kernel_rfl) (by kernel_rfl) ⟨⟨wc.drew, HS3.out, HB3.out.drew⟩, rfl⟩ ?_
        repeat (go_big_quiet_step ((rename_i y; (go_at_call 98; refine (HU.out _).mono ?_; rintro e w' ⟨rfl, hb⟩; exact ⟨rfl, y.ret hb⟩))))
        refine wpQuiet_nil ?_
        rintro W ⟨y, rfl⟩
        have HY := Aside0.mk (And.intro y.sc y.but)
        generalize y.world = W at *
        go_wp2
        go_ret
        refine ⟨HY.out.2, ?_⟩
        rw [HT2.out]
        exact ⟨by rw [HOUT.out]; rfl, by rw [← HK.out]; exact HY.out.1⟩
end Go.Proofs.YtkkpjonfaflkmaaGreatDoor.T

namespace Go.Proofs.YtkkpjonfaflkmaaGreatDoor.T
set_option linter.unusedSimpArgs false
set_option linter.unusedVariables false
open Go.RowKit Go.Proofs.YtkkpjonfaflkmaaGreatDoorW.PrintWords Go.Proofs.YtkkpjonfaflkmaaGreatDoorW.PrintLast Go.Proofs.YtkkpjonfaflkmaaGreatDoorW.PrintMore
def bldRen : Go.Shelf.Ren := ⟨fun | 167 => 106 | 166 => 112 | 240 => 132 | 276 => 153 | 169 => 107 | n => n, fun | 0 => 0 | 3 => 3 | 4 => 4 | 5 => 5 | 9 => 9 | 20 => 20 | 37 => 100 | 70 => 124 | 72 => 126 | 75 => 128 | 76 => 134 | 80 => 94 | 127 => 141 | 164 => 160 | n => n, fun | n => n⟩
theorem bldLays167 : Go.Proofs.Lays.n167 Tryz.prog bldRen := {
  mixed := by kernel_rfl
  f167 := Tryz.func106.trans (congrArg some (by kernel_rfl))
  f240 := Tryz.func132.trans (congrArg some (by kernel_rfl))
  f276 := Tryz.func153.trans (congrArg some (by kernel_rfl))
  t0 := Tryz.underlying0
  a0 := Tryz.isAgg0
  z0 := Tryz.sizeOf0
  v0 := Tryz.zeroValue0
  t4 := Tryz.underlying4
  a4 := Tryz.isAgg4
  z4 := Tryz.sizeOf4
  v4 := Tryz.zeroValue4
  t5 := Tryz.underlying5
  a5 := Tryz.isAgg5
  z5 := Tryz.sizeOf5
  v5 := Tryz.zeroValue5
  t9 := Tryz.underlying9
  a9 := Tryz.isAgg9
  z9 := Tryz.sizeOf9
  v9 := Tryz.zeroValue9
  t20 := Tryz.underlying20
  a20 := Tryz.isAgg20
  z20 := Tryz.sizeOf20
  v20 := Tryz.zeroValue20
  t37 := Tryz.underlying100
  a37 := Tryz.isAgg100
  z37 := Tryz.sizeOf100
  v37 := Tryz.zeroValue100
  t70 := Tryz.underlying124
  a70 := Tryz.isAgg124
  z70 := Tryz.sizeOf124
  v70 := Tryz.zeroValue124
  t72 := Tryz.underlying126
  a72 := Tryz.isAgg126
  z72 := Tryz.sizeOf126
  v72 := Tryz.zeroValue126
  t75 := Tryz.underlying128
  a75 := Tryz.isAgg128
  z75 := Tryz.sizeOf128
  v75 := Tryz.zeroValue128
  t164 := Tryz.underlying160
  a164 := Tryz.isAgg160
  z164 := Tryz.sizeOf160
  v164 := Tryz.zeroValue160 }
theorem bldLays166 : Go.Proofs.Lays.n166 Tryz.prog bldRen := {
  mixed := by kernel_rfl
  f166 := Tryz.func112.trans (congrArg some (by kernel_rfl))
  f240 := Tryz.func132.trans (congrArg some (by kernel_rfl))
  f276 := Tryz.func153.trans (congrArg some (by kernel_rfl))
  t0 := Tryz.underlying0
  a0 := Tryz.isAgg0
  z0 := Tryz.sizeOf0
  v0 := Tryz.zeroValue0
  t3 := Tryz.underlying3
  a3 := Tryz.isAgg3
  z3 := Tryz.sizeOf3
  v3 := Tryz.zeroValue3
  t4 := Tryz.underlying4
  a4 := Tryz.isAgg4
  z4 := Tryz.sizeOf4
  v4 := Tryz.zeroValue4
  t9 := Tryz.underlying9
  a9 := Tryz.isAgg9
  z9 := Tryz.sizeOf9
  v9 := Tryz.zeroValue9
  t20 := Tryz.underlying20
  a20 := Tryz.isAgg20
  z20 := Tryz.sizeOf20
  v20 := Tryz.zeroValue20
  t37 := Tryz.underlying100
  a37 := Tryz.isAgg100
  z37 := Tryz.sizeOf100
  v37 := Tryz.zeroValue100
  t70 := Tryz.underlying124
  a70 := Tryz.isAgg124
  z70 := Tryz.sizeOf124
  v70 := Tryz.zeroValue124
  t72 := Tryz.underlying126
  a72 := Tryz.isAgg126
  z72 := Tryz.sizeOf126
  v72 := Tryz.zeroValue126
  t75 := Tryz.underlying128
  a75 := Tryz.isAgg128
  z75 := Tryz.sizeOf128
  v75 := Tryz.zeroValue128
  t164 := Tryz.underlying160
  a164 := Tryz.isAgg160
  z164 := Tryz.sizeOf160
  v164 := Tryz.zeroValue160 }
theorem bldExtra : Builder.Extra Tryz.prog bldRen := {
  sizeBuilder := by kernel_rfl
  liesBuilder := by kernel_rfl
  t5 := Tryz.underlying5
  a5 := Tryz.isAgg5
  z5 := Tryz.sizeOf5
  v5 := Tryz.zeroValue5
  infoByte := by kernel_rfl
  cellsByte := by kernel_rfl
  sizeByte := by kernel_rfl
  neB5 := by decide }
def Bld (B b : Nat) (xs : List Int) (w : World) : Prop := Lib.IsBuilderF 126 5 B b (xs.map (Value.int .u8)) w
theorem Bld.new (w : World) : Bld w.heap.size w.heap.size [] (w.alloc (.cells #[.pointer none, .slice none 0 0] 126)) :=
  .inl ⟨Nat.le_refl _, .slice none 0 0, heap_alloc_new w _, World.ownsRowF_nil _ _ _ _, by simp [Value.ownBlock]⟩
theorem bld_WriteByte (B b : Nat) (xs : List Int) (c : Int) (w : World) (h : Bld B b xs w) (hl : xs.length ≤ 100000000) (hB : B ≤ w.heap.size) :
    Calls Tryz.prog 106 #[.pointer (some ⟨b, 0, none⟩), .int .u8 c] w fun e w' => e = .returned .nilIface ∧ Bld B b (xs ++ [c]) w' ∧ Below B w w' := by
  refine (Any.Builder_WriteByte_k bldLays167 bldExtra B b _ c w h (by rw [List.length_map]; omega) hB).mono ?_
  rintro e w' ⟨rfl, h1, h2, _⟩
  refine ⟨rfl, ?_, h2⟩
  unfold Bld
  rw [List.map_append]
  exact .inr h1
theorem bld_WriteString (B b : Nat) (xs : List Int) (s : ByteArray) (w : World) (h : Bld B b xs w) (hl : xs.length + s.size ≤ 100000000) (hB : B ≤ w.heap.size) :
    Calls Tryz.prog 112 #[.pointer (some ⟨b, 0, none⟩), .string s] w fun e w' => e = .returned (.tuple #[.int .i64 s.size, .nilIface]) ∧ Bld B b (xs ++ bytesOf s) w' ∧ Below B w w' := by
  refine (Any.Builder_WriteString_k bldLays166 bldExtra B b _ s w h (by rw [List.length_map]; omega) hB).mono ?_
  rintro e w' ⟨rfl, h1, h2, _⟩
  refine ⟨rfl, ?_, h2⟩
  unfold Bld
  rw [List.map_append]
  have e : (bytesOf s).map (Value.int .u8) = Lib.strCells s := by simp [bytesOf, Lib.strCells, Lib.byteCells, Function.comp_def]
  rw [e]
  exact .inr h1
theorem bld_String (B b : Nat) (xs : List Int) (w : World) (h : Bld B b xs w) (hr : ∀ x ∈ xs, 0 ≤ x ∧ x < 256) (hB : B ≤ w.heap.size) :
    Calls Tryz.prog 107 #[.pointer (some ⟨b, 0, none⟩)] w fun e w' => e = .returned (.string (strOfNums xs)) ∧ Bld B b xs w' ∧ Below B w w' := by
  have e : xs.map (Value.int .u8) = Lib.byteCells (xs.map fun x => UInt8.ofNat x.toNat) := by
    simp only [Lib.byteCells, List.map_map]
    refine List.map_congr_left fun x hx => ?_
    obtain ⟨h0, h1⟩ := hr x hx
    simp only [Function.comp_apply]
    congr 1
    rw [UInt8.toNat_ofNat_of_lt' (by simp [UInt8.size]; omega)]
    omega
  unfold Bld at h ⊢
  rw [e] at h ⊢
  refine (Tryz.Builder_String_any_k B b _ w h hB).mono ?_
  rintro e' w' ⟨rfl, h1, h2, _⟩
  exact ⟨rfl, h1, h2⟩
end Go.Proofs.YtkkpjonfaflkmaaGreatDoor.T

namespace Go.Proofs.YtkkpjonfaflkmaaGreatDoor.T
set_option linter.unusedSimpArgs false
set_option linter.unusedVariables false
open Go.RowKit
def Rc (fn : FuncId) (tmps : Array Value) (ps : Array Tmp) (assign body : Code) (D : Nat) (st : LoopState) (pend : Option Code) : Loop :=
  { state := st, pending := pend, fn := fn, tmps := tmps, params := ps, assign := assign, body := body, defers := D }
def rfWorld (w : World) (fn : FuncId) (tmps : Array Value) (ps : Array Tmp) (assign body : Code) : World :=
  (w.alloc (.deferred (some []))).alloc (.loop (Rc fn tmps ps assign body w.heap.size .ready none))
variable {F : Fence} {n : Nat} {P : Program}
theorem rf_enter {g : Operand} {ps : Array Tmp} {assign body : Code} {Q : Exit → Act → World → Prop} {a : Act} {w : World}
    (hro : F.round = none) (h1 : 1 ≤ n) {gf : Nat} {lb : Array Value} (hg : a.eval g = .func (.func gf) #[] lb) (hFg : F.fn gf) (eg : ∀ args w, (callFunc gf args).run P w = .ok (.enter gf args) w)
    (Rdy Dn : World → Prop)
    (hcall : ∀ fn rd X, F.fn fn → rd = Rc fn a.tmps ps assign body w.heap.size .ready none → X.heap.size = w.heap.size + 2 → Below w.heap.size w X → X.heap[w.heap.size]? = some (.deferred (some [])) → X.heap[w.heap.size + 1]? = some (.loop rd) →
      CallsIn F (n - 1) P gf (#[.func (.yield (w.heap.size + 1)) #[] #[]] ++ lb) X fun e Z => (∃ v, e = .returned v) ∧
        ((Z.heap[w.heap.size + 1]? = some (.loop rd) ∧ Rdy Z) ∨ (Z.heap[w.heap.size + 1]? = some (.loop { rd with state := .done, pending := some .ret }) ∧ Dn Z)))
    (hready : ∀ Z r, w.heap.size + 1 < Z.heap.size → Rdy Z → Q .normal { a with defers := { target := .collected w.heap.size, args := #[] } :: a.defers } (Z.putObj (w.heap.size + 1) (.loop r)))
    (hdone : ∀ Z r, w.heap.size + 1 < Z.heap.size → Dn Z → Code.ret.wpIn F n P Q { a with defers := { target := .collected w.heap.size, args := #[] } :: a.defers } (Z.putObj (w.heap.size + 1) (.loop r))) :
    (Code.rangeFunc g ps assign body).wpIn F n P Q a w := by
  refine wpIn_rangeFunc ?_
  intro fn hfn
  rw [hro]
  refine ⟨w.heap.size + 1, [{ target := .collected w.heap.size, args := #[] }], rfWorld w fn a.tmps ps assign body, { target := .fn (.func gf) lb, args := #[.func (.yield (w.heap.size + 1)) #[] #[]] }, rfWorld w fn a.tmps ps assign body, gf,
    #[.func (.yield (w.heap.size + 1)) #[] #[]] ++ lb, rfWorld w fn a.tmps ps assign body, ?_, ?_, ?_, ?_, fun _ => h1, ?_⟩
  · exact run_enterLoop_outer _ _ _ _ _
  · simp only [resolve, hg]
    simp [go_sem]
  · intro f' hf'
    simp [Target.leads] at hf'
    subst hf'
    exact hFg
  · simp [invoke, go_sem, eg]
  refine (hcall fn _ _ hfn rfl (by simp [rfWorld]) (((Below.refl _ w).alloc (Nat.le_refl _) _).alloc (by simp) _)
    ((Below.heap_alloc _ _ _ (by simp)).trans (World.alloc_heap_new w _)) (by have := World.alloc_heap_new (w.alloc (.deferred (some []))) (.loop (Rc fn a.tmps ps assign body w.heap.size .ready none)); rwa [World.size_alloc] at this)).mono ?_
  rintro e Z ⟨⟨v, rfl⟩, ⟨hb, hR⟩ | ⟨hb, hD⟩⟩
  · have hlt := (Array.getElem?_eq_some_iff.1 hb).1
    exact ⟨none, _, run_endLoop (P := P) hb (by simp [Rc]), hready _ _ hlt hR⟩
  · have hlt := (Array.getElem?_eq_some_iff.1 hb).1
    exact ⟨some .ret, _, run_endLoop (P := P) hb (by simp), hdone _ _ hlt hD⟩
def RoundEnd (l : Nat) (R : Ending → World → Prop) (e : Exit) (W : World) : Prop :=
  ∃ r, W.heap[l]? = some (.loop r) ∧ match e with
    | .normal => R (.returned (.bool true)) (W.putObj l (.loop { r with state := .ready, pending := none }))
    | .ret => R (.returned (.bool false)) (W.putObj l (.loop { r with state := .done, pending := some .ret }))
    | _ => False
theorem rf_round {l D : Nat} {r : Loop} {fn : FuncId} {tmps : Array Value} {ps : Array Tmp} {assign body : Code} {args : Array Value} {W : World} {R : Ending → World → Prop} (hrd : r = Rc fn tmps ps assign body D .ready none) (hF : F.fn fn) (hl : W.heap[l]? = some (.loop r)) (hs : args.size = ps.size)
    (h : assign.wpIn (F.inRound l) n P (Exit.then (fun a1 W1 => W1.heap[l]? = some (.loop r) ∧ body.wpIn (F.inRound l) n P (fun e _ W2 => RoundEnd l R e W2) a1 (W1.putObj l (.loop { r with state := .busy }))) (fun _ _ _ => False))
      { tmps := (ps.zip args).foldl (fun t (p, v) => t.setIfInBounds p v) tmps, defers := [] } W) : YieldAt F n P l args W R := by
  have e1 : r.fn = fn := by rw [hrd]; rfl
  have e2 : r.tmps = tmps := by rw [hrd]; rfl
  have e3 : r.params = ps := by rw [hrd]; rfl
  have e4 : r.assign = assign := by rw [hrd]; rfl
  have e5 : r.body = body := by rw [hrd]; rfl
  have e6 : r.state = .ready := by rw [hrd]; rfl
  clear hrd
  subst e1 e2 e3 e4 e5
  refine ⟨r.fn, _, r.assign, r.body, run_yield hl hs, roundIn_of_wpIn hF (wpIn_mono h ?_)⟩
  intro e a1 W1 he
  cases e with
  | normal =>
    obtain ⟨h1, h2⟩ := he
    refine ⟨_, run_beginRound h1 e6, wpIn_mono h2 ?_⟩
    rintro e2 a2 W2 ⟨r2, h3, h4⟩
    cases e2 with
    | normal => exact ⟨_, _, run_endRound (P := P) none h3, h4⟩
    | ret => exact ⟨_, _, run_endRound (P := P) (some .ret) h3, h4⟩
    | exit id => exact h4.elim
    | goto t => exact h4.elim
    | panic ch => exact h4.elim
    | outgrown => exact h4.elim
  | exit id => exact he.elim
  | goto t => exact he.elim
  | ret => exact he.elim
  | panic ch => exact he.elim
  | outgrown => exact he.elim
end Go.Proofs.YtkkpjonfaflkmaaGreatDoor.T

namespace Go.Proofs.YtkkpjonfaflkmaaGreatDoor.T
set_option linter.unusedSimpArgs false
set_option linter.unusedVariables false
open Go.RowKit Go.Proofs.YtkkpjonfaflkmaaGreatDoorW.PrintWords Go.Proofs.YtkkpjonfaflkmaaGreatDoorW.PrintLast Go.Proofs.YtkkpjonfaflkmaaGreatDoorW.PrintMore
attribute [local go_sem] Oper.semAt_some
def msrG (n : Nat) (v : Value) : Nat := n + 1 - (intOf v).toNat
set_option maxRecDepth 100000 in
set_option maxHeartbeats 2000000 in
theorem groups_in (n : Nat) (hn : 1 ≤ n) (l B1 B2 g N c ww : Nat) (hw : 0 < ww) (hN : N ≤ 1000000) (hww : ww ≤ 8) (hc : N ≤ c) (hc2 : c ≤ 9223372036854775807) (J : Nat → World → Prop) (Jx : World → Prop)
    (hJc : ∀ k A, J k A → A.cell? ⟨B1, 0, none⟩ = some (.int .i64 ww) ∧ A.cell? ⟨B2, 0, none⟩ = some (.slice (some ⟨g, 0, none⟩) N c))
    (hY : ∀ k W, k < N / ww → J k W → YieldAt Fence.wide (n - 1) Tryz.prog l #[.slice (some ⟨g, k * ww, none⟩) ww ww] W fun e W' => (e = .returned (.bool true) ∧ J (k + 1) W') ∨ (e = .returned (.bool false) ∧ Jx W'))
    (W : World) (h0 : J 0 W) :
    CallsIn Fence.wide n Tryz.prog 154 #[.func (.yield l) #[] #[], .pointer (some ⟨B1, 0, none⟩), .pointer (some ⟨B2, 0, none⟩)] W fun e W' => (∃ v, e = .returned v) ∧ (J (N / ww) W' ∨ Jx W') := by
  have HY := Aside0.mk hY
  have HJ0 := Aside0.mk h0
  have HJc := Aside0.mk hJc
  clear hY h0 hJc
  refine callsIn_of_wp Tryz.func154 rfl trivial ?_ rfl
  simp only [Tryz.ntmps154, List.size_toArray, List.length_cons, List.length_nil, Nat.reduceAdd, Nat.reduceSub, Array.replicate_succ, Array.replicate_zero, List.push_toArray, List.append_toArray, List.nil_append, List.cons_append]
  gi_wp2
  gi_loopw [4] (fun v wr => ∃ k i : Nat, k ≤ N / ww ∧ i = k * ww ∧ i ≤ N ∧ v = .int .i64 i ∧ Aside0 (J k wr))
    (fun v wr => msrG N v)
  case atStart => exact ⟨0, 0, Nat.zero_le _, by omega, Nat.zero_le _, rfl, HJ0⟩
  case round =>
    obtain ⟨k, i, hk, hi, hiN, rfl, HJ⟩ := hrel
    obtain ⟨c1, c2⟩ := HJc.out k wr HJ.out
    by_cases hlt : k < N / ww
    · have hfit : i + ww ≤ N := by
        have h1 : (k + 1) * ww ≤ N := by
          have := Nat.mul_le_of_le_div ww (k + 1) N hlt
          exact this
        rw [Nat.add_mul] at h1
        omega
      have g1 : decide ((i : Int) + (ww : Int) ≤ (N : Int)) = true := decide_eq_true (by omega)
      have g2 : (i : Int) + (ww : Int) ≤ (N : Int) := by omega
      have g3 : (0 : Int) ≤ (i : Int) := by omega
      have g4 : (i : Int) ≤ (i : Int) + (ww : Int) := by omega
      have hlim : i + ww ≤ 1000000 := by omega
      obtain ⟨fn, tmps, assign, body, hy, hR⟩ := HY.out k wr hlt HJ.out
      rw [← hi] at hy
      have HR := Lib.hid hR
      have HI := Aside0.mk hi
      clear hR hi
      gi_wp2
      refine HR.out.mono ?_
      rintro e W3 (⟨rfl, hJ3⟩ | ⟨rfl, hJx3⟩)
      · obtain ⟨c1', c2'⟩ := HJc.out _ _ hJ3
        gi_wp2
        go_roundw
        case rel => exact ⟨k + 1, i + ww, by omega, by rw [HI.out, Nat.add_mul]; omega, hfit, by go_num, ⟨hJ3⟩⟩
        case measure =>
          have e1 : msrG N (.int .i64 ((i : Int) + (ww : Int))) = N + 1 - ((i : Int) + (ww : Int)).toNat := rfl
          have e2 : msrG N (.int .i64 (i : Int)) = N + 1 - (i : Int).toNat := rfl
          first | (rw [e1, e2]; omega) | (show N + 1 - _ < N + 1 - _; omega)
      · gi_wp2
        refine bodyPost_ret (results_none rfl _ _ _) rfl ?_
        exact ⟨⟨_, rfl⟩, .inr hJx3⟩
    · have hkN : k = N / ww := by omega
      have hbig : N < i + ww := by
        have h1 := Nat.div_add_mod N ww
        have h2 := Nat.mod_lt N hw
        rw [← hkN, Nat.mul_comm] at h1
        omega
      have g1 : decide ((i : Int) + (ww : Int) ≤ (N : Int)) = false := decide_eq_false (by omega)
      have hlim : i + ww ≤ 1000010 := by omega
      clear hi
      gi_wp2
      go_end0
      exact ⟨⟨_, rfl⟩, .inl (by rw [← hkN]; exact HJ.out)⟩
theorem groups.calls (v : Value) (hv : ∃ A N c, v = .slice A N c) (ww : Int) (w : World) :
    Calls Tryz.prog 133 #[v, .int .i64 ww] w fun e w' => e = .returned (.func (.func 154) #[] #[.pointer (some ⟨w.heap.size + 1, 0, none⟩), .pointer (some ⟨w.heap.size, 0, none⟩)]) ∧ w' = (w.alloc (.cells #[v] 100)).alloc (.cells #[.int .i64 ww] 3) := by
  obtain ⟨A, N, c, rfl⟩ : ∃ A N c, v = .slice A N c := hv
  go_enter Tryz.func133, Tryz.ntmps133
  go_wp2
  go_ret
  exact ⟨rfl, rfl⟩
theorem groups_enters : ∀ args w, (callFunc 154 args).run Tryz.prog w = .ok (.enter 154 args) w := enters_of Tryz.func154 (by kernel_rfl) rfl
end Go.Proofs.YtkkpjonfaflkmaaGreatDoor.T

namespace Go.Proofs.YtkkpjonfaflkmaaGreatDoor.T
set_option linter.unusedSimpArgs false
set_option linter.unusedVariables false
open Go.RowKit Go.Proofs.YtkkpjonfaflkmaaGreatDoorW.PrintWords Go.Proofs.YtkkpjonfaflkmaaGreatDoorW.PrintLast Go.Proofs.YtkkpjonfaflkmaaGreatDoorW.PrintMore
def OwnM (base : Nat) (v : Value) (xs : List Int) (W : World) : Prop :=
  (v = .slice none 0 0 ∧ xs = []) ∨ ∃ g cap, v = .slice (some ⟨g, 0, none⟩) xs.length cap ∧ base ≤ g ∧ g < W.heap.size ∧ xs.length ≤ cap ∧ cap ≤ 9223372036854775807 ∧
    (∀ j, j < xs.length → W.cell? ⟨g, j, none⟩ = some (.int .u8 (xs.getD j 0))) ∧ ∀ j, j < cap → (W.cell? ⟨g, j, none⟩).isSome = true ∧ W.frozen? ⟨g, j, none⟩ = false
theorem OwnM.nil (base : Nat) (W : World) : OwnM base (.slice none 0 0) [] W := .inl ⟨rfl, rfl⟩
theorem OwnM.slice {base : Nat} {v : Value} {xs : List Int} {W : World} (h : OwnM base v xs W) : ∃ A c, v = .slice A xs.length c ∧ xs.length ≤ c := by
  rcases h with ⟨rfl, rfl⟩ | ⟨g, cap, rfl, _, _, h, _⟩
  · exact ⟨_, _, rfl, Nat.le_refl _⟩
  · exact ⟨_, _, rfl, h⟩
theorem OwnM.C {base : Nat} {A : Option Addr} {c : Nat} {xs : List Int} {W : World} (h : OwnM base (.slice A xs.length c) xs W) : Kd.C (Kd.int .u8) W A xs.length xs := by
  refine Kd.C_of_reads (d := (0 : Int)) (h1 := fun _ => rfl) ?_
  rcases h with ⟨h1, rfl⟩ | ⟨g, cap, h1, _, _, h2, h3, h4, _⟩
  · simp at h1
    obtain ⟨rfl, _⟩ := h1
    exact ⟨rfl, by decide, fun h => absurd h (by simp)⟩
  · simp at h1
    obtain ⟨rfl, rfl⟩ := h1
    exact ⟨rfl, by omega, fun _ => ⟨_, rfl, fun j hj => by rw [add_plain]; exact h4 j hj⟩⟩
theorem OwnM.mono {base base' : Nat} {v : Value} {xs : List Int} {W : World} (h : OwnM base v xs W) (hb : base' ≤ base) : OwnM base' v xs W :=
  h.imp id fun ⟨g, cap, h1, h2, h3⟩ => ⟨g, cap, h1, Nat.le_trans hb h2, h3⟩
theorem OwnM.below {base B : Nat} {v : Value} {xs : List Int} {W W' : World} (h : OwnM base v xs W) (hB : W.heap.size ≤ B) (hb : Below B W W') : OwnM base v xs W' := by
  rcases h with h | ⟨g, cap, h1, h2, h3, h4, h5, h6, h7⟩
  · exact .inl h
  · refine .inr ⟨g, cap, h1, h2, by have := hb.size; omega, h4, h5, fun j hj => ?_, fun j hj => ?_⟩
    · exact (hb.cell (p := ⟨g, j, none⟩) (by show g < B; omega)).trans (h6 j hj)
    · rw [hb.cell (p := ⟨g, j, none⟩) (by show g < B; omega), hb.frozen (p := ⟨g, j, none⟩) (by show g < B; omega)]
      exact h7 j hj
theorem OwnM.alloc {base : Nat} {v : Value} {xs : List Int} {W : World} (h : OwnM base v xs W) (o : Obj) : OwnM base v xs (W.alloc o) := h.below (Nat.le_refl _) (below_alloc (Below.refl _ _) o)
theorem OwnM.drewN {base : Nat} {v : Value} {xs : List Int} {W : World} (h : OwnM base v xs W) (n : Nat) : OwnM base v xs (W.drewN n) := h
theorem OwnM.conv {base : Nat} (W : World) (s : ByteArray) (hb : base ≤ W.heap.size) (hs : s.size ≤ 100000) : OwnM base (.slice (some ⟨W.heap.size, 0, none⟩) s.size (grownCap W s.size 0 5)) (bytesOf s) (Lib.bytesWorld W 5 s) := by
  have hB := Buf.new W s
  have hg : s.size ≤ grownCap W s.size 0 5 := grownCap_ge W s.size 0 5
  have hm : grownCap W s.size 0 5 ≤ maxLen := grownCap_le_maxLen W s.size 0 5 (by unfold maxLen; omega)
  unfold maxLen at hm
  have hz : (Lib.bytesCells W 5 s).size = grownCap W s.size 0 5 := by
    simp only [Lib.bytesCells, Array.size_append, Array.size_map, Array.size_replicate]
    have : s.data.size = s.size := rfl
    omega
  refine .inr ⟨W.heap.size, _, by rw [bytesOf_length], hb, by rw [Lib.bytesWorld_size]; omega, by rw [bytesOf_length]; exact hg, by omega, fun j hj => hB.cell j hj, fun j hj => ?_⟩
  have hn := Lib.bytesWorld_at_new W 5 s
  rw [hz] at hn
  constructor
  · simp only [World.cell?, hn]
    rw [Array.getElem?_eq_getElem (by rw [hz]; exact hj)]
    rfl
  · simp only [World.frozen?, hn]
    have : ¬ grownCap W s.size 0 5 ≤ j := by omega
    simp [this]
end Go.Proofs.YtkkpjonfaflkmaaGreatDoor.T
