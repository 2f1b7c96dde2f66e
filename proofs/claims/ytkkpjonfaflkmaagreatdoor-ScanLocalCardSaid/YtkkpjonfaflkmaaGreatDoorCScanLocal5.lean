/- Part 5 of the proof of ScanLocal: the functions that it calls return what their plain descriptions say. -/
import Derived.Test.YtkkpjonfaflkmaaGreatDoorCScanLocal4
import Derived.Deep.LoopGhost
import Derived.Lib.Hide
import Derived.Shelf.Abstract
import Derived.WalkMore
import Derived.BigQuiet

namespace Go.Proofs.YtkkpjonfaflkmaaGreatDoor.T
set_option linter.unusedSimpArgs false
open Go.RowKit Go.Proofs.YtkkpjonfaflkmaaGreatDoorW.PrintWords Go.Proofs.YtkkpjonfaflkmaaGreatDoorW.PrintLast Go.Proofs.YtkkpjonfaflkmaaGreatDoorW.PrintMore
attribute [local go_sem] max2_int min2_int max_two min_two max_three min_three max_four min_four   -- for this text's walks alone
set_option linter.unusedVariables false
set_option linter.unusedSimpArgs false
def scan_printable.f (a0 : Int) : Option (Bool) := if a0 ≥ 32 then (some (decide (a0 ≤ 126))) else (some false)
set_option maxHeartbeats 8000000 in
set_option maxRecDepth 100000 in
theorem scan_printable.calls (a0 : Int) (r : Bool) (w : World) (h : scan_printable.f a0 = some r) :
    Calls Tryz.prog 65 #[.int .u8 a0] w fun e w' => e = .returned (.bool r) ∧ Drawn0 w w' := by
  have H : (if a0 ≥ 32 then (some (decide (a0 ≤ 126))) else (some false)) = some r := h
  clear h
  by_cases c2 : a0 ≥ 32
  · rw [if_pos c2] at H
    have c2b0 : decide (32 ≤ a0) = true := decide_eq_true c2
    clear c2
    obtain rfl := Option.some.inj H
    go_enter Tryz.func65, Tryz.ntmps65
    go_wp2
    go_ret
    exact ⟨by first | rfl | (simp; done) | (simp [*]; done), by repeat (first | exact Drawn0.refl _ | apply Drawn0.step)⟩
  · rw [if_neg c2] at H
    have c2b0 : decide (32 ≤ a0) = false := decide_eq_false c2
    clear c2
    obtain rfl := Option.some.inj H
    go_enter Tryz.func65, Tryz.ntmps65
    go_wp2
    go_ret
    exact ⟨by first | rfl | (simp; done) | (simp [*]; done), by repeat (first | exact Drawn0.refl _ | apply Drawn0.step)⟩
end Go.Proofs.YtkkpjonfaflkmaaGreatDoor.T

namespace Go.Proofs.YtkkpjonfaflkmaaGreatDoor.T
set_option linter.unusedSimpArgs false
open Go.RowKit Go.Proofs.YtkkpjonfaflkmaaGreatDoorW.PrintWords Go.Proofs.YtkkpjonfaflkmaaGreatDoorW.PrintLast Go.Proofs.YtkkpjonfaflkmaaGreatDoorW.PrintMore
def idxI {α : Type} (p : α → Bool) (xs : List α) : Int := match xs.findIdx? p with
  | some i => (i : Int)
  | none => -1
theorem idxI_hit {α : Type} (p : α → Bool) (xs : List α) (z : α) (kk : Nat) (hlt : kk < xs.length) (hp : p (xs.getD kk z) = true) (hn : ∀ j, j < kk → p (xs.getD j z) = false) : idxI p xs = (kk : Int) := by
  have h : xs.findIdx? p = some kk := by
    rw [List.findIdx?_eq_some_iff_getElem]
    refine ⟨hlt, ?_, fun j hj => ?_⟩
    · have h1 : xs.getD kk z = xs[kk] := by simp [List.getD_eq_getElem?_getD, List.getElem?_eq_getElem hlt]
      rw [h1] at hp; exact hp
    · have h1 : xs.getD j z = xs[j] := by simp [List.getD_eq_getElem?_getD, List.getElem?_eq_getElem (show j < xs.length by omega)]
      have := hn j hj
      rw [h1] at this
      simp [this]
  simp [idxI, h]
theorem idxI_miss {α : Type} (p : α → Bool) (xs : List α) (z : α) (hn : ∀ j, j < xs.length → p (xs.getD j z) = false) : idxI p xs = -1 := by
  have h : xs.findIdx? p = none := by
    rw [List.findIdx?_eq_none_iff]
    intro x hx
    obtain ⟨j, hj, rfl⟩ := List.mem_iff_getElem.1 hx
    have := hn j hj
    simpa [List.getD_eq_getElem?_getD, List.getElem?_eq_getElem hj] using this
  simp [idxI, h]
theorem idxI_any {α : Type} (p : α → Bool) (xs : List α) : decide (0 ≤ idxI p xs) = xs.any p := by
  unfold idxI
  cases h : xs.findIdx? p with
  | none =>
    rw [List.findIdx?_eq_none_iff] at h
    have : xs.any p = false := by rw [List.any_eq_false]; intro x hx; simp [h x hx]
    rw [this]; rfl
  | some i =>
    rw [List.findIdx?_eq_some_iff_getElem] at h
    obtain ⟨hlt, hp, _⟩ := h
    have : xs.any p = true := by rw [List.any_eq_true]; exact ⟨_, List.getElem_mem hlt, hp⟩
    rw [this]
    exact decide_eq_true (show (0 : Int) ≤ (i : Int) by omega)
def Pays {α : Type} (g : Nat) (lb : Array Value) (enc : α → Value) (p : α → Bool) (D : α → Prop) (w : World) : Prop :=
  ∀ (W : World) (x : α), D x → Below w.heap.size w W → Calls Tryz.prog g (#[enc x] ++ lb) W fun e W' => e = .returned (.bool (p x)) ∧ Below W.heap.size W W'
theorem Pays.later {α : Type} {g : Nat} {lb : Array Value} {enc : α → Value} {p : α → Bool} {D : α → Prop} {w w' : World} (h : Pays g lb enc p D w) (hb : Below w.heap.size w w') : Pays g lb enc p D w' :=
  fun W x hx hW => h W x hx (below_step hb hW)
set_option maxHeartbeats 2000000 in
theorem idxB.calls (A : Option Addr) (c : Nat) (xs : List Int) (g : Nat) (lb : Array Value) (p : Int → Bool) (D : Int → Prop) (w : World)
    (eg : ∀ args w, (callFunc g args).run Tryz.prog w = .ok (.enter g args) w) (hr : Kd.C (Kd.int .u8) w A xs.length xs) (hD : ∀ x ∈ xs, D x) (hp : Pays g lb (fun x => Value.int .u8 x) p D w) :
    Calls Tryz.prog 104 #[.slice A xs.length c, .func (.func g) #[] lb] w fun e w' => e = .returned (.int .i64 (idxI p xs)) ∧ Below w.heap.size w w' := by
  have HR := Aside0.mk hr
  have HP := Aside0.mk hp
  have HD := Aside0.mk hD
  clear hr hp hD
  have hbig : xs.length ≤ 9223372036854775807 := Kd.C_max HR.out
  obtain ⟨n, hn⟩ : ∃ n, xs.length = n := ⟨_, rfl⟩
  have HN := Aside0.mk hn
  rw [hn] at hbig ⊢
  clear hn
  go_enter Tryz.func104, Tryz.ntmps104
  go_wp2
  go_loopg [5, 8] n (fun gg _ s8 wr => ∃ kk : Nat, kk ≤ n ∧ n - kk ≤ gg ∧ s8 = .int .i64 kk ∧ Aside0 (Below w.heap.size w wr) ∧ Aside0 (∀ j, j < kk → p (xs.getD j 0) = false))
  case atStart => exact ⟨0, Nat.zero_le _, by omega, rfl, ⟨Below.refl _ _⟩, ⟨fun j hj => absurd hj (Nat.not_lt_zero _)⟩⟩
  case round =>
    obtain ⟨kk, hkk, hg, rfl, HB, HA⟩ := hrel
    by_cases hlt : kk < n
    · have hltz : (kk : Int) < (n : Int) := by omega
      obtain ⟨ad, rfl, hcell0⟩ := Kd.at_int (Kd.C_below HR.out HB.out) (kk : Int) (by omega) (by have := HN.out; omega)
      have hy0 : rd xs (kk : Int) = xs.getD kk 0 := by simp [rd]
      rw [hy0] at hcell0
      have hmem : xs.getD kk 0 ∈ xs := by
        have hk : kk < xs.length := by have := HN.out; omega
        have h1 : xs.getD kk 0 = xs[kk] := by simp [List.getD_eq_getElem?_getD, List.getElem?_eq_getElem hk]
        rw [h1]; exact List.getElem_mem hk
      generalize hy : xs.getD kk 0 = y at hcell0 hmem
      have HY := Aside0.mk hy
      have hcell : wr.cell? (ad.add kk) = some (.int .u8 y) := by simpa using hcell0
      clear hy hy0 hcell0
      have hcall := HP.out wr y (HD.out y hmem) HB.out
      clear hmem
      cases hq : p y with
      | true =>
        rw [hq] at hcall
        have HC := Lib.hid hcall
        have HQ := Aside0.mk hq
        clear hcall hq
        go_wp2_with (go_at_fn g; refine HC.out.mono ?_; rintro e w' ⟨rfl, hb⟩)
        go_ret
        refine ⟨?_, below_step HB.out hb⟩
        rw [idxI_hit p xs 0 kk (by have := HN.out; omega) (by rw [HY.out]; exact HQ.out) HA.out]
        rfl
      | false =>
        rw [hq] at hcall
        have HC := Lib.hid hcall
        have HQ := Aside0.mk hq
        clear hcall hq
        go_wp2_with (go_at_fn g; refine HC.out.mono ?_; rintro e w' ⟨rfl, hb⟩)
        go_roundg (n - (kk + 1))
        case measure => omega
        case rel =>
          refine ⟨kk + 1, by omega, by omega, by go_num, ⟨below_step HB.out hb⟩, ⟨fun j hj => ?_⟩⟩
          by_cases e : j = kk
          · subst e
            rw [HY.out]; exact HQ.out
          · exact HA.out j (by omega)
    · have hltz : ¬ (kk : Int) < (n : Int) := by omega
      have hkn : kk = n := by omega
      subst hkn
      go_wp2
      go_ret
      refine ⟨?_, HB.out⟩
      rw [idxI_miss p xs 0 (by rw [HN.out]; exact HA.out)]
      rfl
set_option maxHeartbeats 1000000 in
theorem contB.calls (A : Option Addr) (c : Nat) (xs : List Int) (g : Nat) (lb : Array Value) (p : Int → Bool) (D : Int → Prop) (w : World)
    (eg : ∀ args w, (callFunc g args).run Tryz.prog w = .ok (.enter g args) w) (hr : Kd.C (Kd.int .u8) w A xs.length xs) (hD : ∀ x ∈ xs, D x) (hp : Pays g lb (fun x => Value.int .u8 x) p D w) :
    Calls Tryz.prog 63 #[.slice A xs.length c, .func (.func g) #[] lb] w fun e w' => e = .returned (.bool (xs.any p)) ∧ Below w.heap.size w w' := by
  rw [← idxI_any]
  have HC := Lib.hid (idxB.calls A c xs g lb p D w eg hr hD hp)
  clear hr hD hp
  obtain ⟨q, hq⟩ : ∃ q, idxI p xs = q := ⟨_, rfl⟩
  rw [hq] at HC ⊢
  clear hq
  go_enter Tryz.func63, Tryz.ntmps63
  go_wp2_with (go_at_call 104; refine HC.out.mono ?_; rintro e w' ⟨rfl, hb⟩)
  go_ret
  exact ⟨rfl, hb⟩
theorem prn_f (x : Int) : scan_printable.f x = some (S.prn x) := by
  unfold scan_printable.f S.prn
  by_cases h1 : 32 ≤ x <;> by_cases h2 : x ≤ 126 <;> simp [h1, h2]
theorem litNP_enters : ∀ args w, (callFunc 108 args).run Tryz.prog w = .ok (.enter 108 args) w := enters_of Tryz.func108 (by kernel_rfl) rfl
theorem LitNP_enters : ∀ args w, (callFunc 64 args).run Tryz.prog w = .ok (.enter 64 args) w := enters_of Tryz.func64 (by kernel_rfl) rfl
theorem litNP.pays (w : World) : Pays 108 #[] (fun x => Value.int .u8 x) (fun x => !S.prn x) (fun _ => True) w := by
  intro W x _ _
  show Calls Tryz.prog 108 #[.int .u8 x] W fun e W' => e = .returned (.bool (!S.prn x)) ∧ Below W.heap.size W W'
  have HC := Lib.hid (scan_printable.calls x (S.prn x) W (prn_f x))
  obtain ⟨q, hq⟩ : ∃ q, S.prn x = q := ⟨_, rfl⟩
  rw [hq] at HC ⊢
  clear hq
  go_enter Tryz.func108, Tryz.ntmps108
  go_wp2_with (go_at_call 65; refine HC.out.mono ?_; rintro e w' ⟨rfl, hb⟩)
  go_ret
  exact ⟨rfl, hb.below⟩
theorem LitNP.pays (w : World) : Pays 64 #[] (fun x => Value.int .u8 x) (fun x => !S.prn x) (fun _ => True) w := by
  intro W x _ _
  show Calls Tryz.prog 64 #[.int .u8 x] W fun e W' => e = .returned (.bool (!S.prn x)) ∧ Below W.heap.size W W'
  have HC := Lib.hid (scan_printable.calls x (S.prn x) W (prn_f x))
  obtain ⟨q, hq⟩ : ∃ q, S.prn x = q := ⟨_, rfl⟩
  rw [hq] at HC ⊢
  clear hq
  go_enter Tryz.func64, Tryz.ntmps64
  go_wp2_with (go_at_call 65; refine HC.out.mono ?_; rintro e w' ⟨rfl, hb⟩)
  go_ret
  exact ⟨rfl, hb.below⟩
end Go.Proofs.YtkkpjonfaflkmaaGreatDoor.T

namespace Go.Proofs.YtkkpjonfaflkmaaGreatDoor.T
set_option linter.unusedSimpArgs false
set_option linter.unusedVariables false
open Go.RowKit Go.Proofs.YtkkpjonfaflkmaaGreatDoorW.PrintWords Go.Proofs.YtkkpjonfaflkmaaGreatDoorW.PrintLast Go.Proofs.YtkkpjonfaflkmaaGreatDoorW.PrintMore
def nums (l : List UInt8) : List Int := l.map fun b => (b.toNat : Int)
theorem bytesOf_nums (s : ByteArray) : bytesOf s = nums s.data.toList := rfl
theorem u8_inj {a b : UInt8} (h : (a.toNat : Int) = (b.toNat : Int)) : a = b := UInt8.toNat_inj.1 (by omega)
theorem nums_inj : ∀ {a b : List UInt8}, nums a = nums b → a = b
  | [], [], _ => rfl
  | [], _ :: _, h => by simp [nums] at h
  | _ :: _, [], h => by simp [nums] at h
  | x :: a, y :: b, h => by
    simp only [nums, List.map_cons, List.cons.injEq] at h
    rw [u8_inj h.1, nums_inj (a := a) (b := b) h.2]
theorem bytesOf_inj {a b : ByteArray} (h : bytesOf a = bytesOf b) : a = b := by
  apply ByteArray.ext
  apply Array.toList_inj.1
  exact nums_inj h
theorem str_eq (s : ByteArray) (l : List UInt8) : (s.toList == l) = decide (bytesOf s = nums l) := by
  rw [Lib.toList_data, bytesOf_nums]
  by_cases h : s.data.toList = l
  · subst h; simp
  · have h2 : ¬ nums s.data.toList = nums l := fun e => h (nums_inj e)
    simp [h, h2]
theorem str_empty (s : ByteArray) : (s.toList == ([] : List UInt8)) = decide (bytesOf s = []) := str_eq s []
theorem bytesOf_rest (s : ByteArray) (k : Nat) : bytesOf (s.extract k s.size) = (bytesOf s).drop k := by
  simp only [bytesOf]
  rw [ByteArray.data_extract, Array.toList_extract, List.extract_eq_take_drop, List.take_of_length_le (by rw [List.length_drop, data_length]; exact Nat.le_refl _), List.map_drop]
theorem bytesOf_extract (s : ByteArray) (i j : Nat) : bytesOf (s.extract i j) = ((bytesOf s).drop i).take (j - i) := by
  simp only [bytesOf]
  rw [ByteArray.data_extract, Array.toList_extract, List.extract_eq_take_drop, List.map_take, List.map_drop]
theorem bytesOf_append (a b : ByteArray) : bytesOf (a ++ b) = bytesOf a ++ bytesOf b := by
  simp only [bytesOf]
  rw [ByteArray.data_append, Array.toList_append, List.map_append]
theorem prefix_nums : ∀ (p l : List UInt8), p.isPrefixOf l = (nums p).isPrefixOf (nums l)
  | [], _ => rfl
  | _ :: _, [] => rfl
  | x :: p, y :: l => by
    show (x == y && p.isPrefixOf l) = (((x.toNat : Int) == (y.toNat : Int)) && (nums p).isPrefixOf (nums l))
    rw [prefix_nums p l]
    congr 1
    by_cases h : x = y
    · subst h; simp
    · have : ¬ (x.toNat : Int) = (y.toNat : Int) := fun e => h (u8_inj e)
      rw [beq_eq_false_iff_ne.2 h, beq_eq_false_iff_ne.2 this]
theorem hasPrefix_nums (s p : ByteArray) : Lib.hasPrefix s.data.toList p.data.toList = (bytesOf p).isPrefixOf (bytesOf s) := prefix_nums _ _
theorem st2_prefix (a b : UInt8) (xs : List Int) : ([(a.toNat : Int), (b.toNat : Int)] : List Int).isPrefixOf xs = S.st2 a.toNat b.toNat xs := by
  rcases xs with _ | ⟨c, _ | ⟨d, t⟩⟩
  · rfl
  · simp [S.st2, List.isPrefixOf]
  · simp only [S.st2, List.isPrefixOf, Bool.and_true]
    by_cases h1 : c = (a.toNat : Int) <;> by_cases h2 : d = (b.toNat : Int) <;> simp [h1, h2] <;> omega
theorem prefix2.calls (rs : ByteArray) (a b : UInt8) (r : Bool) (hr : S.st2 a.toNat b.toNat (bytesOf rs) = r) (W : World) :
    Calls Tryz.prog 123 #[.string rs, .string ⟨#[a, b]⟩] W fun e W' => e = .returned (.bool r) ∧ W' = W := by
  have h := Tryz.strings_HasPrefix rs ⟨#[a, b]⟩ W
  rw [hasPrefix_nums] at h
  have e : bytesOf ⟨#[a, b]⟩ = [(a.toNat : Int), (b.toNat : Int)] := rfl
  rw [e, st2_prefix, hr] at h
  exact h
theorem first_byte (rs : ByteArray) (y : Int) (t : List Int) (h : bytesOf rs = y :: t) : ∃ hz : 0 < rs.size, ((rs[0]'hz).toNat : Int) = y := by
  have hz : 0 < rs.size := by rw [← bytesOf_length, h]; simp
  refine ⟨hz, ?_⟩
  have h1 := bt_getD rs 0 hz
  rw [h] at h1
  have h2 : bt rs ((0 : Nat) : Int) = ((rs[0]'hz).toNat : Int) := by simp [bt, hz]
  rw [h2] at h1
  simpa using h1
theorem nth_byte (rs : ByteArray) (k : Nat) (hz : k < rs.size) : ((rs[k]'hz).toNat : Int) = (bytesOf rs).getD k 0 := by
  have h1 := bt_getD rs k hz
  have h2 : bt rs (k : Int) = ((rs[k]'hz).toNat : Int) := by simp [bt, hz]
  rw [h2] at h1
  exact h1
theorem w64 (x : Int) (h0 : -9223372036854775808 ≤ x) (h1 : x ≤ 9223372036854775807) : IntKind.i64.wrap x = x := (i64_w _).trans (by unfold wrap64; omega)
theorem bytesOf_str (L : List Int) (h : ∀ x ∈ L, 0 ≤ x ∧ x < 256) : bytesOf (strOfNums L) = L := by
  have e : (strOfNums L).data.toList = L.map fun x => UInt8.ofNat x.toNat := by simp [strOfNums]
  rw [bytesOf_nums, e]
  unfold nums
  rw [List.map_map]
  refine (List.map_congr_left fun x hx => ?_).trans (List.map_id L)
  obtain ⟨h0, h1⟩ := h x hx
  simp only [Function.comp_apply]
  rw [UInt8.toNat_ofNat_of_lt' (by simp [UInt8.size]; omega)]
  show ((x.toNat : Nat) : Int) = x
  omega
theorem wp_region_cls {P : Program} {id : Nat} {Q : Exit → Act → World → Prop} {a : Act} {w : World} {l : List Oper} (C : World → Prop) (hm : P.follows .mixedOrders = true) (hB : Region.lexB .any l.toArray = true) (hC : C w.drew)
    (h : wpQuiet P l.toArray C (fun a' => ∀ w', C w' → Q .normal a' w') l a) : (Code.region id l.toArray true).wp P Q a w :=
  wp_region_quiet (C := C) hm hB hC (by simpa using h)
structure ScC (s : Nat) (src : ByteArray) (i line : Int) (m : Value) (w : World) where
  world : World
  sc : Sc s src i line m world
  but : But (· = s) w world
theorem ScC.c0 {s : Nat} {src : ByteArray} {i line : Int} {m : Value} {w : World} (x : ScC s src i line m w) : x.world.cell? ⟨s, 0, none⟩ = some (.string src) := x.sc.c0
theorem ScC.c1 {s : Nat} {src : ByteArray} {i line : Int} {m : Value} {w : World} (x : ScC s src i line m w) : x.world.cell? ⟨s, 1, none⟩ = some (.int .i64 i) := x.sc.c1
theorem ScC.c2 {s : Nat} {src : ByteArray} {i line : Int} {m : Value} {w : World} (x : ScC s src i line m w) : x.world.cell? ⟨s, 2, none⟩ = some (.int .i64 line) := x.sc.c2
theorem ScC.c3 {s : Nat} {src : ByteArray} {i line : Int} {m : Value} {w : World} (x : ScC s src i line m w) : x.world.cell? ⟨s, 3, none⟩ = some m := x.sc.c3
theorem ScC.ret {s : Nat} {src : ByteArray} {i line : Int} {m : Value} {w w' : World} (x : ScC s src i line m w) (hb : Below x.world.heap.size x.world w') : ∃ y : ScC s src i line m w, w' = y.world := ⟨⟨w', x.sc.below hb, x.but.then hb⟩, rfl⟩
end Go.Proofs.YtkkpjonfaflkmaaGreatDoor.T

namespace Go.Proofs.YtkkpjonfaflkmaaGreatDoor.T
set_option linter.unusedSimpArgs false
open Go.RowKit Go.Proofs.YtkkpjonfaflkmaaGreatDoorW.PrintWords Go.Proofs.YtkkpjonfaflkmaaGreatDoorW.PrintLast Go.Proofs.YtkkpjonfaflkmaaGreatDoorW.PrintMore
attribute [local go_sem] max2_int min2_int max_two min_two max_three min_three max_four min_four   -- for this text's walks alone
set_option linter.unusedVariables false
set_option linter.unusedSimpArgs false
def scan_symbolic.f (a0 : Int) : Option (Bool) := if a0 ≥ 97 then (if a0 ≤ 122 then (some true) else (if a0 ≥ 65 then (if a0 ≤ 90 then (some true) else (if a0 ≥ 48 then (if a0 ≤ 57 then (some true) else ((strings_IndexByte.f (⟨#[46, 95, 33, 63]⟩ : ByteArray) a0).bind fun t118 => (some (decide (t118 ≥ 0))))) else ((strings_IndexByte.f (⟨#[46, 95, 33, 63]⟩ : ByteArray) a0).bind fun t119 => (some (decide (t119 ≥ 0)))))) else (if a0 ≥ 48 then (if a0 ≤ 57 then (some true) else ((strings_IndexByte.f (⟨#[46, 95, 33, 63]⟩ : ByteArray) a0).bind fun t120 => (some (decide (t120 ≥ 0))))) else ((strings_IndexByte.f (⟨#[46, 95, 33, 63]⟩ : ByteArray) a0).bind fun t121 => (some (decide (t121 ≥ 0))))))) else (if a0 ≥ 65 then (if a0 ≤ 90 then (some true) else (if a0 ≥ 48 then (if a0 ≤ 57 then (some true) else ((strings_IndexByte.f (⟨#[46, 95, 33, 63]⟩ : ByteArray) a0).bind fun t122 => (some (decide (t122 ≥ 0))))) else ((strings_IndexByte.f (⟨#[46, 95, 33, 63]⟩ : ByteArray) a0).bind fun t123 => (some (decide (t123 ≥ 0)))))) else (if a0 ≥ 48 then (if a0 ≤ 57 then (some true) else ((strings_IndexByte.f (⟨#[46, 95, 33, 63]⟩ : ByteArray) a0).bind fun t124 => (some (decide (t124 ≥ 0))))) else ((strings_IndexByte.f (⟨#[46, 95, 33, 63]⟩ : ByteArray) a0).bind fun t125 => (some (decide (t125 ≥ 0))))))
set_option maxHeartbeats 8000000 in
set_option maxRecDepth 100000 in
theorem scan_symbolic.calls (a0 : Int) (r : Bool) (w : World) (h : scan_symbolic.f a0 = some r) :
    Calls Tryz.prog 55 #[.int .u8 a0] w fun e w' => e = .returned (.bool r) ∧ Drawn0 w w' := by
  have H : (if a0 ≥ 97 then (if a0 ≤ 122 then (some true) else (if a0 ≥ 65 then (if a0 ≤ 90 then (some true) else (if a0 ≥ 48 then (if a0 ≤ 57 then (some true) else ((strings_IndexByte.f (⟨#[46, 95, 33, 63]⟩ : ByteArray) a0).bind fun t118 => (some (decide (t118 ≥ 0))))) else ((strings_IndexByte.f (⟨#[46, 95, 33, 63]⟩ : ByteArray) a0).bind fun t119 => (some (decide (t119 ≥ 0)))))) else (if a0 ≥ 48 then (if a0 ≤ 57 then (some true) else ((strings_IndexByte.f (⟨#[46, 95, 33, 63]⟩ : ByteArray) a0).bind fun t120 => (some (decide (t120 ≥ 0))))) else ((strings_IndexByte.f (⟨#[46, 95, 33, 63]⟩ : ByteArray) a0).bind fun t121 => (some (decide (t121 ≥ 0))))))) else (if a0 ≥ 65 then (if a0 ≤ 90 then (some true) else (if a0 ≥ 48 then (if a0 ≤ 57 then (some true) else ((strings_IndexByte.f (⟨#[46, 95, 33, 63]⟩ : ByteArray) a0).bind fun t122 => (some (decide (t122 ≥ 0))))) else ((strings_IndexByte.f (⟨#[46, 95, 33, 63]⟩ : ByteArray) a0).bind fun t123 => (some (decide (t123 ≥ 0)))))) else (if a0 ≥ 48 then (if a0 ≤ 57 then (some true) else ((strings_IndexByte.f (⟨#[46, 95, 33, 63]⟩ : ByteArray) a0).bind fun t124 => (some (decide (t124 ≥ 0))))) else ((strings_IndexByte.f (⟨#[46, 95, 33, 63]⟩ : ByteArray) a0).bind fun t125 => (some (decide (t125 ≥ 0))))))) = some r := h
  clear h
  by_cases c2 : a0 ≥ 97
  · rw [if_pos c2] at H
    have c2b0 : decide (97 ≤ a0) = true := decide_eq_true c2
    clear c2
    by_cases c3 : a0 ≤ 122
    · rw [if_pos c3] at H
      have c3b0 : decide (a0 ≤ 122) = true := decide_eq_true c3
      clear c3
      obtain rfl := Option.some.inj H
      go_enter Tryz.func55, Tryz.ntmps55
      go_wp2
      go_ret
      exact ⟨by first | rfl | (simp; done) | (simp [*]; done), by repeat (first | exact Drawn0.refl _ | apply Drawn0.step)⟩
    · rw [if_neg c3] at H
      have c3b0 : decide (a0 ≤ 122) = false := decide_eq_false c3
      clear c3
      by_cases c4 : a0 ≥ 65
      · rw [if_pos c4] at H
        have c4b0 : decide (65 ≤ a0) = true := decide_eq_true c4
        clear c4
        by_cases c5 : a0 ≤ 90
        · rw [if_pos c5] at H
          have c5b0 : decide (a0 ≤ 90) = true := decide_eq_true c5
          clear c5
          obtain rfl := Option.some.inj H
          go_enter Tryz.func55, Tryz.ntmps55
          go_wp2
          go_ret
          exact ⟨by first | rfl | (simp; done) | (simp [*]; done), by repeat (first | exact Drawn0.refl _ | apply Drawn0.step)⟩
        · rw [if_neg c5] at H
          have c5b0 : decide (a0 ≤ 90) = false := decide_eq_false c5
          clear c5
          by_cases c6 : a0 ≥ 48
          · rw [if_pos c6] at H
            have c6b0 : decide (48 ≤ a0) = true := decide_eq_true c6
            clear c6
            by_cases c7 : a0 ≤ 57
            · rw [if_pos c7] at H
              have c7b0 : decide (a0 ≤ 57) = true := decide_eq_true c7
              clear c7
              obtain rfl := Option.some.inj H
              go_enter Tryz.func55, Tryz.ntmps55
              go_wp2
              go_ret
              exact ⟨by first | rfl | (simp; done) | (simp [*]; done), by repeat (first | exact Drawn0.refl _ | apply Drawn0.step)⟩
            · rw [if_neg c7] at H
              have c7b0 : decide (a0 ≤ 57) = false := decide_eq_false c7
              clear c7
              replace H := Option.bind_eq_some_iff.mp H
              obtain ⟨t118, A80, H⟩ := H
              replace H : (some (decide (t118 ≥ 0))) = some r := H
              have A8 := Aside0.mk A80
              clear A80
              obtain rfl := Option.some.inj H
              go_enter Tryz.func55, Tryz.ntmps55
              go_wp2_with (first | (go_at_call 93; (with_reducible refine (strings_IndexByte.calls (⟨#[46, 95, 33, 63]⟩ : ByteArray) a0 t118 _ A8.out).mono ?_); rintro e w' ⟨rfl, ⟨nd, rfl⟩⟩))
              go_ret
              exact ⟨by first | rfl | (simp; done) | (simp [*]; done), by repeat (first | exact Drawn0.refl _ | apply Drawn0.step)⟩
          · rw [if_neg c6] at H
            have c6b0 : decide (48 ≤ a0) = false := decide_eq_false c6
            clear c6
            replace H := Option.bind_eq_some_iff.mp H
            obtain ⟨t119, A90, H⟩ := H
            replace H : (some (decide (t119 ≥ 0))) = some r := H
            have A9 := Aside0.mk A90
            clear A90
            obtain rfl := Option.some.inj H
            go_enter Tryz.func55, Tryz.ntmps55
            go_wp2_with (first | (go_at_call 93; (with_reducible refine (strings_IndexByte.calls (⟨#[46, 95, 33, 63]⟩ : ByteArray) a0 t119 _ A9.out).mono ?_); rintro e w' ⟨rfl, ⟨nd, rfl⟩⟩))
            go_ret
            exact ⟨by first | rfl | (simp; done) | (simp [*]; done), by repeat (first | exact Drawn0.refl _ | apply Drawn0.step)⟩
      · rw [if_neg c4] at H
        have c4b0 : decide (65 ≤ a0) = false := decide_eq_false c4
        clear c4
        by_cases c10 : a0 ≥ 48
        · rw [if_pos c10] at H
          have c10b0 : decide (48 ≤ a0) = true := decide_eq_true c10
          clear c10
          by_cases c11 : a0 ≤ 57
          · rw [if_pos c11] at H
            have c11b0 : decide (a0 ≤ 57) = true := decide_eq_true c11
            clear c11
            obtain rfl := Option.some.inj H
            go_enter Tryz.func55, Tryz.ntmps55
            go_wp2
            go_ret
            exact ⟨by first | rfl | (simp; done) | (simp [*]; done), by repeat (first | exact Drawn0.refl _ | apply Drawn0.step)⟩
          · rw [if_neg c11] at H
            have c11b0 : decide (a0 ≤ 57) = false := decide_eq_false c11
            clear c11
            replace H := Option.bind_eq_some_iff.mp H
            obtain ⟨t120, A120, H⟩ := H
            replace H : (some (decide (t120 ≥ 0))) = some r := H
            have A12 := Aside0.mk A120
            clear A120
            obtain rfl := Option.some.inj H
            go_enter Tryz.func55, Tryz.ntmps55
            go_wp2_with (first | (go_at_call 93; (with_reducible refine (strings_IndexByte.calls (⟨#[46, 95, 33, 63]⟩ : ByteArray) a0 t120 _ A12.out).mono ?_); rintro e w' ⟨rfl, ⟨nd, rfl⟩⟩))
            go_ret
            exact ⟨by first | rfl | (simp; done) | (simp [*]; done), by repeat (first | exact Drawn0.refl _ | apply Drawn0.step)⟩
        · rw [if_neg c10] at H
          have c10b0 : decide (48 ≤ a0) = false := decide_eq_false c10
          clear c10
          replace H := Option.bind_eq_some_iff.mp H
          obtain ⟨t121, A130, H⟩ := H
          replace H : (some (decide (t121 ≥ 0))) = some r := H
          have A13 := Aside0.mk A130
          clear A130
          obtain rfl := Option.some.inj H
          go_enter Tryz.func55, Tryz.ntmps55
          go_wp2_with (first | (go_at_call 93; (with_reducible refine (strings_IndexByte.calls (⟨#[46, 95, 33, 63]⟩ : ByteArray) a0 t121 _ A13.out).mono ?_); rintro e w' ⟨rfl, ⟨nd, rfl⟩⟩))
          go_ret
          exact ⟨by first | rfl | (simp; done) | (simp [*]; done), by repeat (first | exact Drawn0.refl _ | apply Drawn0.step)⟩
  · rw [if_neg c2] at H
    have c2b0 : decide (97 ≤ a0) = false := decide_eq_false c2
    clear c2
    by_cases c14 : a0 ≥ 65
    · rw [if_pos c14] at H
      have c14b0 : decide (65 ≤ a0) = true := decide_eq_true c14
      clear c14
      by_cases c15 : a0 ≤ 90
      · rw [if_pos c15] at H
        have c15b0 : decide (a0 ≤ 90) = true := decide_eq_true c15
        clear c15
        obtain rfl := Option.some.inj H
        go_enter Tryz.func55, Tryz.ntmps55
        go_wp2
        go_ret
        exact ⟨by first | rfl | (simp; done) | (simp [*]; done), by repeat (first | exact Drawn0.refl _ | apply Drawn0.step)⟩
      · rw [if_neg c15] at H
        have c15b0 : decide (a0 ≤ 90) = false := decide_eq_false c15
        clear c15
        by_cases c16 : a0 ≥ 48
        · rw [if_pos c16] at H
          have c16b0 : decide (48 ≤ a0) = true := decide_eq_true c16
          clear c16
          by_cases c17 : a0 ≤ 57
          · rw [if_pos c17] at H
            have c17b0 : decide (a0 ≤ 57) = true := decide_eq_true c17
            clear c17
            obtain rfl := Option.some.inj H
            go_enter Tryz.func55, Tryz.ntmps55
            go_wp2
            go_ret
            exact ⟨by first | rfl | (simp; done) | (simp [*]; done), by repeat (first | exact Drawn0.refl _ | apply Drawn0.step)⟩
          · rw [if_neg c17] at H
            have c17b0 : decide (a0 ≤ 57) = false := decide_eq_false c17
            clear c17
            replace H := Option.bind_eq_some_iff.mp H
            obtain ⟨t122, A180, H⟩ := H
            replace H : (some (decide (t122 ≥ 0))) = some r := H
            have A18 := Aside0.mk A180
            clear A180
            obtain rfl := Option.some.inj H
            go_enter Tryz.func55, Tryz.ntmps55
            go_wp2_with (first | (go_at_call 93; (with_reducible refine (strings_IndexByte.calls (⟨#[46, 95, 33, 63]⟩ : ByteArray) a0 t122 _ A18.out).mono ?_); rintro e w' ⟨rfl, ⟨nd, rfl⟩⟩))
            go_ret
            exact ⟨by first | rfl | (simp; done) | (simp [*]; done), by repeat (first | exact Drawn0.refl _ | apply Drawn0.step)⟩
        · rw [if_neg c16] at H
          have c16b0 : decide (48 ≤ a0) = false := decide_eq_false c16
          clear c16
          replace H := Option.bind_eq_some_iff.mp H
          obtain ⟨t123, A190, H⟩ := H
          replace H : (some (decide (t123 ≥ 0))) = some r := H
          have A19 := Aside0.mk A190
          clear A190
          obtain rfl := Option.some.inj H
          go_enter Tryz.func55, Tryz.ntmps55
          go_wp2_with (first | (go_at_call 93; (with_reducible refine (strings_IndexByte.calls (⟨#[46, 95, 33, 63]⟩ : ByteArray) a0 t123 _ A19.out).mono ?_); rintro e w' ⟨rfl, ⟨nd, rfl⟩⟩))
          go_ret
          exact ⟨by first | rfl | (simp; done) | (simp [*]; done), by repeat (first | exact Drawn0.refl _ | apply Drawn0.step)⟩
    · rw [if_neg c14] at H
      have c14b0 : decide (65 ≤ a0) = false := decide_eq_false c14
      clear c14
      by_cases c20 : a0 ≥ 48
      · rw [if_pos c20] at H
        have c20b0 : decide (48 ≤ a0) = true := decide_eq_true c20
        clear c20
        by_cases c21 : a0 ≤ 57
        · rw [if_pos c21] at H
          have c21b0 : decide (a0 ≤ 57) = true := decide_eq_true c21
          clear c21
          obtain rfl := Option.some.inj H
          go_enter Tryz.func55, Tryz.ntmps55
          go_wp2
          go_ret
          exact ⟨by first | rfl | (simp; done) | (simp [*]; done), by repeat (first | exact Drawn0.refl _ | apply Drawn0.step)⟩
        · rw [if_neg c21] at H
          have c21b0 : decide (a0 ≤ 57) = false := decide_eq_false c21
          clear c21
          replace H := Option.bind_eq_some_iff.mp H
          obtain ⟨t124, A220, H⟩ := H
          replace H : (some (decide (t124 ≥ 0))) = some r := H
          have A22 := Aside0.mk A220
          clear A220
          obtain rfl := Option.some.inj H
          go_enter Tryz.func55, Tryz.ntmps55
          go_wp2_with (first | (go_at_call 93; (with_reducible refine (strings_IndexByte.calls (⟨#[46, 95, 33, 63]⟩ : ByteArray) a0 t124 _ A22.out).mono ?_); rintro e w' ⟨rfl, ⟨nd, rfl⟩⟩))
          go_ret
          exact ⟨by first | rfl | (simp; done) | (simp [*]; done), by repeat (first | exact Drawn0.refl _ | apply Drawn0.step)⟩
      · rw [if_neg c20] at H
        have c20b0 : decide (48 ≤ a0) = false := decide_eq_false c20
        clear c20
        replace H := Option.bind_eq_some_iff.mp H
        obtain ⟨t125, A230, H⟩ := H
        replace H : (some (decide (t125 ≥ 0))) = some r := H
        have A23 := Aside0.mk A230
        clear A230
        obtain rfl := Option.some.inj H
        go_enter Tryz.func55, Tryz.ntmps55
        go_wp2_with (first | (go_at_call 93; (with_reducible refine (strings_IndexByte.calls (⟨#[46, 95, 33, 63]⟩ : ByteArray) a0 t125 _ A23.out).mono ?_); rintro e w' ⟨rfl, ⟨nd, rfl⟩⟩))
        go_ret
        exact ⟨by first | rfl | (simp; done) | (simp [*]; done), by repeat (first | exact Drawn0.refl _ | apply Drawn0.step)⟩
end Go.Proofs.YtkkpjonfaflkmaaGreatDoor.T

namespace Go.Proofs.YtkkpjonfaflkmaaGreatDoor.T
set_option linter.unusedSimpArgs false
open Go.RowKit Go.Proofs.YtkkpjonfaflkmaaGreatDoorW.PrintWords Go.Proofs.YtkkpjonfaflkmaaGreatDoorW.PrintLast Go.Proofs.YtkkpjonfaflkmaaGreatDoorW.PrintMore
attribute [local go_sem] max2_int min2_int max_two min_two max_three min_three max_four min_four   -- for this text's walks alone
set_option linter.unusedVariables false
set_option linter.unusedSimpArgs false
def scan_digit.f (a0 : Int) : Option (Bool) := if a0 ≥ 48 then (some (decide (a0 ≤ 57))) else (some false)
set_option maxHeartbeats 8000000 in
set_option maxRecDepth 100000 in
theorem scan_digit.calls (a0 : Int) (r : Bool) (w : World) (h : scan_digit.f a0 = some r) :
    Calls Tryz.prog 96 #[.int .u8 a0] w fun e w' => e = .returned (.bool r) ∧ Drawn0 w w' := by
  have H : (if a0 ≥ 48 then (some (decide (a0 ≤ 57))) else (some false)) = some r := h
  clear h
  by_cases c2 : a0 ≥ 48
  · rw [if_pos c2] at H
    have c2b0 : decide (48 ≤ a0) = true := decide_eq_true c2
    clear c2
    obtain rfl := Option.some.inj H
    go_enter Tryz.func96, Tryz.ntmps96
    go_wp2
    go_ret
    exact ⟨by first | rfl | (simp; done) | (simp [*]; done), by repeat (first | exact Drawn0.refl _ | apply Drawn0.step)⟩
  · rw [if_neg c2] at H
    have c2b0 : decide (48 ≤ a0) = false := decide_eq_false c2
    clear c2
    obtain rfl := Option.some.inj H
    go_enter Tryz.func96, Tryz.ntmps96
    go_wp2
    go_ret
    exact ⟨by first | rfl | (simp; done) | (simp [*]; done), by repeat (first | exact Drawn0.refl _ | apply Drawn0.step)⟩
end Go.Proofs.YtkkpjonfaflkmaaGreatDoor.T

namespace Go.Proofs.YtkkpjonfaflkmaaGreatDoor.T
set_option linter.unusedSimpArgs false
open Go.RowKit Go.Proofs.YtkkpjonfaflkmaaGreatDoorW.PrintWords Go.Proofs.YtkkpjonfaflkmaaGreatDoorW.PrintLast Go.Proofs.YtkkpjonfaflkmaaGreatDoorW.PrintMore
attribute [local go_sem] max2_int min2_int max_two min_two max_three min_three max_four min_four   -- for this text's walks alone
set_option linter.unusedVariables false
set_option linter.unusedSimpArgs false
def scan_open.f (a0 : ByteArray) : Option (Bool) := (strings_TrimRight.f a0 (⟨#[69, 101]⟩ : ByteArray)).bind fun t130 => (if (t130.size : Int) = (wrap64 ((a0.size : Int) - 1)) then ((strings_Count.f t130 (⟨#[46]⟩ : ByteArray)).bind fun t131 => (if t131 > 1 then (some false) else ((strings_Trim.f t130 (⟨#[46]⟩ : ByteArray)).bind fun t132 => (if t132.toList = ([] : List UInt8) then (some false) else ((strings_Trim.f t130 (⟨#[48, 49, 50, 51, 52, 53, 54, 55, 56, 57, 46]⟩ : ByteArray)).bind fun t133 => (some (t133.toList == ([] : List UInt8)))))))) else (some false))
set_option maxHeartbeats 8000000 in
set_option maxRecDepth 100000 in
theorem scan_open.calls (a0 : ByteArray) (r : Bool) (w : World) (h : scan_open.f a0 = some r) :
    Calls Tryz.prog 95 #[.string a0] w fun e w' => e = .returned (.bool r) ∧ Below w.heap.size w w' := by
  have HB := Aside0.mk (Below.refl w.heap.size w)
  have H : ((strings_TrimRight.f a0 (⟨#[69, 101]⟩ : ByteArray)).bind fun t130 => (if (t130.size : Int) = (wrap64 ((a0.size : Int) - 1)) then ((strings_Count.f t130 (⟨#[46]⟩ : ByteArray)).bind fun t131 => (if t131 > 1 then (some false) else ((strings_Trim.f t130 (⟨#[46]⟩ : ByteArray)).bind fun t132 => (if t132.toList = ([] : List UInt8) then (some false) else ((strings_Trim.f t130 (⟨#[48, 49, 50, 51, 52, 53, 54, 55, 56, 57, 46]⟩ : ByteArray)).bind fun t133 => (some (t133.toList == ([] : List UInt8)))))))) else (some false))) = some r := h
  clear h
  replace H := Option.bind_eq_some_iff.mp H
  obtain ⟨t130, A20, H⟩ := H
  replace H : (if (t130.size : Int) = (wrap64 ((a0.size : Int) - 1)) then ((strings_Count.f t130 (⟨#[46]⟩ : ByteArray)).bind fun t131 => (if t131 > 1 then (some false) else ((strings_Trim.f t130 (⟨#[46]⟩ : ByteArray)).bind fun t132 => (if t132.toList = ([] : List UInt8) then (some false) else ((strings_Trim.f t130 (⟨#[48, 49, 50, 51, 52, 53, 54, 55, 56, 57, 46]⟩ : ByteArray)).bind fun t133 => (some (t133.toList == ([] : List UInt8)))))))) else (some false)) = some r := H
  have A2 := Aside0.mk A20
  clear A20
  by_cases c3 : (t130.size : Int) = (wrap64 ((a0.size : Int) - 1))
  · rw [if_pos c3] at H
    have c3b0 : ((t130.size : Int) == (wrap64 ((a0.size : Int) - 1))) = true := beq_iff_eq.mpr c3
    have c3b1 : ((t130.size : Int) != (wrap64 ((a0.size : Int) - 1))) = false := bne_eq_false_iff_eq.mpr c3
    clear c3
    replace H := Option.bind_eq_some_iff.mp H
    obtain ⟨t131, A40, H⟩ := H
    replace H : (if t131 > 1 then (some false) else ((strings_Trim.f t130 (⟨#[46]⟩ : ByteArray)).bind fun t132 => (if t132.toList = ([] : List UInt8) then (some false) else ((strings_Trim.f t130 (⟨#[48, 49, 50, 51, 52, 53, 54, 55, 56, 57, 46]⟩ : ByteArray)).bind fun t133 => (some (t133.toList == ([] : List UInt8))))))) = some r := H
    have A4 := Aside0.mk A40
    clear A40
    by_cases c5 : t131 > 1
    · rw [if_pos c5] at H
      have c5b0 : decide (1 < t131) = true := decide_eq_true c5
      clear c5
      obtain rfl := Option.some.inj H
      go_enter Tryz.func95, Tryz.ntmps95
      go_wp2_with (first | ((with_reducible refine gate_callee (f := 127) rfl ?_); refine goesL_ (some 5) rfl rfl Tryz.func127 (by kernel_rfl) rfl #[.string a0, .string (⟨#[69, 101]⟩ : ByteArray)] rfl (by (try simp only [List.map_toArray, List.map_cons, List.map_nil]); first | done | rfl | (simp only [List.length_drop, List.length_take]; rfl)) ?_; (with_reducible refine (strings_TrimRight.calls a0 (⟨#[69, 101]⟩ : ByteArray) t130 _ A2.out).mono ?_); rintro e w6 ⟨rfl, hb⟩; refine ⟨_, rfl, ?_⟩; have n0_ := Aside0.mk (below_step (by repeat (first | (with_reducible first | exact HB.out | apply below_alloc | apply pw_below_drewN | apply below_drew1) | exact HB.out)) hb); clear HB; have HB := n0_; clear n0_; (try clear hb); (try clear hb2); (try clear hk); (try clear hi)) | (go_at_call 77; (with_reducible refine (strings_Count.calls t130 (⟨#[46]⟩ : ByteArray) t131 _ A4.out).mono ?_); rintro e w' ⟨rfl, ⟨nd, rfl⟩⟩))
      go_ret
      exact ⟨by first | rfl | (simp [errW_none, errW_some] <;> rfl) | (simp [*, errW_none, errW_some] <;> rfl), by repeat (first | (with_reducible first | exact HB.out | apply below_alloc | apply pw_below_drewN | apply below_drew1) | exact HB.out)⟩
    · rw [if_neg c5] at H
      have c5b0 : decide (1 < t131) = false := decide_eq_false c5
      clear c5
      replace H := Option.bind_eq_some_iff.mp H
      obtain ⟨t132, A70, H⟩ := H
      replace H : (if t132.toList = ([] : List UInt8) then (some false) else ((strings_Trim.f t130 (⟨#[48, 49, 50, 51, 52, 53, 54, 55, 56, 57, 46]⟩ : ByteArray)).bind fun t133 => (some (t133.toList == ([] : List UInt8))))) = some r := H
      have A7 := Aside0.mk A70
      clear A70
      by_cases c8 : t132.toList = ([] : List UInt8)
      · rw [if_pos c8] at H
        have c8b0 : (t132.toList == ([] : List UInt8)) = true := beq_iff_eq.mpr c8
        have c8b1 : (t132.toList != ([] : List UInt8)) = false := bne_eq_false_iff_eq.mpr c8
        clear c8
        obtain rfl := Option.some.inj H
        go_enter Tryz.func95, Tryz.ntmps95
        go_wp2_with (first | ((with_reducible refine gate_callee (f := 127) rfl ?_); refine goesL_ (some 5) rfl rfl Tryz.func127 (by kernel_rfl) rfl #[.string a0, .string (⟨#[69, 101]⟩ : ByteArray)] rfl (by (try simp only [List.map_toArray, List.map_cons, List.map_nil]); first | done | rfl | (simp only [List.length_drop, List.length_take]; rfl)) ?_; (with_reducible refine (strings_TrimRight.calls a0 (⟨#[69, 101]⟩ : ByteArray) t130 _ A2.out).mono ?_); rintro e w9 ⟨rfl, hb⟩; refine ⟨_, rfl, ?_⟩; have n0_ := Aside0.mk (below_step (by repeat (first | (with_reducible first | exact HB.out | apply below_alloc | apply pw_below_drewN | apply below_drew1) | exact HB.out)) hb); clear HB; have HB := n0_; clear n0_; (try clear hb); (try clear hb2); (try clear hk); (try clear hi)) | (go_at_call 77; (with_reducible refine (strings_Count.calls t130 (⟨#[46]⟩ : ByteArray) t131 _ A4.out).mono ?_); rintro e w' ⟨rfl, ⟨nd, rfl⟩⟩) | (go_at_call 128; (with_reducible refine (strings_Trim.calls t130 (⟨#[46]⟩ : ByteArray) t132 _ A7.out).mono ?_); rintro e w10 ⟨rfl, hb⟩; have n0_ := Aside0.mk (below_step (by repeat (first | (with_reducible first | exact HB.out | apply below_alloc | apply pw_below_drewN | apply below_drew1) | exact HB.out)) hb); clear HB; have HB := n0_; clear n0_; (try clear hb); (try clear hb2); (try clear hk); (try clear hi)))
        go_ret
        exact ⟨by first | rfl | (simp [errW_none, errW_some] <;> rfl) | (simp [*, errW_none, errW_some] <;> rfl), by repeat (first | (with_reducible first | exact HB.out | apply below_alloc | apply pw_below_drewN | apply below_drew1) | exact HB.out)⟩
      · rw [if_neg c8] at H
        have c8b0 : (t132.toList == ([] : List UInt8)) = false := beq_eq_false_iff_ne.mpr c8
        have c8b1 : (t132.toList != ([] : List UInt8)) = true := bne_iff_ne.mpr c8
        replace H := Option.bind_eq_some_iff.mp H
        obtain ⟨t133, A110, H⟩ := H
        replace H : (some (t133.toList == ([] : List UInt8))) = some r := H
        have A11 := Aside0.mk A110
        clear A110
        obtain rfl := Option.some.inj H
        go_enter Tryz.func95, Tryz.ntmps95
        go_wp2_with (first | ((with_reducible refine gate_callee (f := 127) rfl ?_); refine goesL_ (some 5) rfl rfl Tryz.func127 (by kernel_rfl) rfl #[.string a0, .string (⟨#[69, 101]⟩ : ByteArray)] rfl (by (try simp only [List.map_toArray, List.map_cons, List.map_nil]); first | done | rfl | (simp only [List.length_drop, List.length_take]; rfl)) ?_; (with_reducible refine (strings_TrimRight.calls a0 (⟨#[69, 101]⟩ : ByteArray) t130 _ A2.out).mono ?_); rintro e w12 ⟨rfl, hb⟩; refine ⟨_, rfl, ?_⟩; have n0_ := Aside0.mk (below_step (by repeat (first | (with_reducible first | exact HB.out | apply below_alloc | apply pw_below_drewN | apply below_drew1) | exact HB.out)) hb); clear HB; have HB := n0_; clear n0_; (try clear hb); (try clear hb2); (try clear hk); (try clear hi)) | (go_at_call 77; (with_reducible refine (strings_Count.calls t130 (⟨#[46]⟩ : ByteArray) t131 _ A4.out).mono ?_); rintro e w' ⟨rfl, ⟨nd, rfl⟩⟩) | (go_at_call 128; (with_reducible refine (strings_Trim.calls t130 (⟨#[46]⟩ : ByteArray) t132 _ A7.out).mono ?_); rintro e w13 ⟨rfl, hb⟩; have n0_ := Aside0.mk (below_step (by repeat (first | (with_reducible first | exact HB.out | apply below_alloc | apply pw_below_drewN | apply below_drew1) | exact HB.out)) hb); clear HB; have HB := n0_; clear n0_; (try clear hb); (try clear hb2); (try clear hk); (try clear hi)) | ((with_reducible refine gate_callee (f := 128) rfl ?_); refine goesL_ (some 23) rfl rfl Tryz.func128 (by kernel_rfl) rfl #[.string t130, .string (⟨#[48, 49, 50, 51, 52, 53, 54, 55, 56, 57, 46]⟩ : ByteArray)] rfl (by (try simp only [List.map_toArray, List.map_cons, List.map_nil]); first | done | rfl | (simp only [List.length_drop, List.length_take]; rfl)) ?_; (with_reducible refine (strings_Trim.calls t130 (⟨#[48, 49, 50, 51, 52, 53, 54, 55, 56, 57, 46]⟩ : ByteArray) t133 _ A11.out).mono ?_); rintro e w14 ⟨rfl, hb⟩; refine ⟨_, rfl, ?_⟩; have n0_ := Aside0.mk (below_step (by repeat (first | (with_reducible first | exact HB.out | apply below_alloc | apply pw_below_drewN | apply below_drew1) | exact HB.out)) hb); clear HB; have HB := n0_; clear n0_; (try clear hb); (try clear hb2); (try clear hk); (try clear hi)))
        go_ret
        exact ⟨by first | rfl | (simp [errW_none, errW_some] <;> rfl) | (simp [*, errW_none, errW_some] <;> rfl), by repeat (first | (with_reducible first | exact HB.out | apply below_alloc | apply pw_below_drewN | apply below_drew1) | exact HB.out)⟩
  · rw [if_neg c3] at H
    have c3b0 : ((t130.size : Int) == (wrap64 ((a0.size : Int) - 1))) = false := beq_eq_false_iff_ne.mpr c3
    have c3b1 : ((t130.size : Int) != (wrap64 ((a0.size : Int) - 1))) = true := bne_iff_ne.mpr c3
    obtain rfl := Option.some.inj H
    go_enter Tryz.func95, Tryz.ntmps95
    go_wp2_with (first | ((with_reducible refine gate_callee (f := 127) rfl ?_); refine goesL_ (some 5) rfl rfl Tryz.func127 (by kernel_rfl) rfl #[.string a0, .string (⟨#[69, 101]⟩ : ByteArray)] rfl (by (try simp only [List.map_toArray, List.map_cons, List.map_nil]); first | done | rfl | (simp only [List.length_drop, List.length_take]; rfl)) ?_; (with_reducible refine (strings_TrimRight.calls a0 (⟨#[69, 101]⟩ : ByteArray) t130 _ A2.out).mono ?_); rintro e w15 ⟨rfl, hb⟩; refine ⟨_, rfl, ?_⟩; have n0_ := Aside0.mk (below_step (by repeat (first | (with_reducible first | exact HB.out | apply below_alloc | apply pw_below_drewN | apply below_drew1) | exact HB.out)) hb); clear HB; have HB := n0_; clear n0_; (try clear hb); (try clear hb2); (try clear hk); (try clear hi)))
    go_ret
    exact ⟨by first | rfl | (simp [errW_none, errW_some] <;> rfl) | (simp [*, errW_none, errW_some] <;> rfl), by repeat (first | (with_reducible first | exact HB.out | apply below_alloc | apply pw_below_drewN | apply below_drew1) | exact HB.out)⟩
end Go.Proofs.YtkkpjonfaflkmaaGreatDoor.T

namespace Go.Proofs.YtkkpjonfaflkmaaGreatDoor.T
set_option linter.unusedSimpArgs false
set_option linter.unusedVariables false
open Go.RowKit Go.Proofs.YtkkpjonfaflkmaaGreatDoorW.PrintWords Go.Proofs.YtkkpjonfaflkmaaGreatDoorW.PrintLast Go.Proofs.YtkkpjonfaflkmaaGreatDoorW.PrintMore
def upS (s : ByteArray) : ByteArray := strOfNums ((bytesOf s).map S.up)
def scan_upper.f (a0 : ByteArray) : Option ByteArray := if a0.size ≤ 1000000 then some (upS a0) else none
theorem wrapU8 (x : Int) (h0 : 0 ≤ x) (h1 : x < 256) : IntKind.u8.wrap x = x := by
  have : IntKind.u8.wrap x = x % 256 := rfl
  rw [this]; omega
theorem set_same (xs : List Int) (k : Nat) (h : k < xs.length) : xs.set k (xs.getD k 0) = xs := by
  have h1 : xs.getD k 0 = xs[k] := by simp [List.getD_eq_getElem?_getD, List.getElem?_eq_getElem h]
  rw [h1, List.set_getElem_self]
set_option maxHeartbeats 2000000 in
theorem scan_upper.calls (a0 : ByteArray) (r : ByteArray) (w : World) (h : scan_upper.f a0 = some r) :
    Calls Tryz.prog 98 #[.string a0] w fun e w' => e = .returned (.string r) ∧ Below w.heap.size w w' := by
  unfold scan_upper.f at h
  by_cases ha : a0.size ≤ 1000000
  · rw [if_pos ha] at h
    obtain rfl := Option.some.inj h
    unfold upS
    clear h
    obtain ⟨n, hn⟩ : ∃ n, a0.size = n := ⟨_, rfl⟩
    have HB0 := Aside0.mk (Buf.new w a0)
    have HL0 := Aside0.mk (bytes_below (Below.refl w.heap.size w) (Nat.le_refl _) 5 a0)
    have HN : Aside0 ((bytesOf a0).length = n) := ⟨by rw [bytesOf_length]; exact hn⟩
    have kb := fun W => print_bytes (P := Tryz.prog) 9 100 5 Tryz.underlying9 Tryz.underlying100 Tryz.underlying5 a0 W
    rw [hn] at kb ha
    have kc := fun W c => string_of_reads (P := Tryz.prog) (w := W) (src := 100) (dst := 9) (e := 5) (A := some ⟨w.heap.size, 0, none⟩) (n := n) (c := c) (xs := (bytesOf a0).map S.up) Tryz.underlying100 Tryz.underlying5 Tryz.underlying9
    go_enter Tryz.func98, Tryz.ntmps98
    go_wp2
    go_loopg [4, 5, 10] n (fun gg _ _ s10 wr => ∃ kk : Nat, kk ≤ n ∧ n - kk ≤ gg ∧ s10 = .int .i64 kk ∧ Aside0 (Below w.heap.size w wr) ∧ Aside0 (Buf w.heap.size (part_map S.up kk (bytesOf a0)) wr))
    case atStart => exact ⟨0, Nat.zero_le _, by omega, rfl, HL0, ⟨by rw [part_map_zero]; exact HB0.out⟩⟩
    case round =>
      obtain ⟨kk, hkk, hg, rfl, HB, HF⟩ := hrel
      by_cases hlt : kk < n
      · have hltz : (kk : Int) < (n : Int) := by omega
        have hl : kk < (bytesOf a0).length := by have := HN.out; omega
        have hcell0 := HF.out.cell kk (by rw [part_map_length]; exact hl)
        rw [part_map_at S.up kk _ hl] at hcell0
        obtain ⟨hx0, hx1⟩ := bo_range a0 _ (getD_mem _ kk hl)
        have HS : Aside0 (Buf w.heap.size ((part_map S.up kk (bytesOf a0)).set kk (S.up ((bytesOf a0).getD kk 0))) (wr.setCell ⟨w.heap.size, kk, none⟩ (.int .u8 (S.up ((bytesOf a0).getD kk 0))))) := ⟨HF.out.set kk _ (by rw [part_map_length]; exact hl)⟩
        have HQ := Aside0.mk (part_map_set S.up kk _ hl)
        have HG : Aside0 ((part_map S.up kk (bytesOf a0)).getD kk 0 = (bytesOf a0).getD kk 0) := ⟨part_map_at S.up kk _ hl⟩
        generalize (bytesOf a0).getD kk 0 = y at hcell0 hx0 hx1 HS HQ HG
        have hfree : wr.frozen? ⟨w.heap.size, kk, none⟩ = false := HF.out.free kk (by rw [part_map_length]; exact hl)
        by_cases c1 : 97 ≤ y
        · by_cases c2 : y ≤ 122
          · have d1 : decide (97 ≤ y) = true := decide_eq_true c1
            have d2 : decide (y ≤ 122) = true := decide_eq_true c2
            have hu : S.up y = y - 32 := by unfold S.up; rw [if_pos ⟨c1, c2⟩]
            rw [hu] at HS HQ
            have hw : IntKind.u8.wrap (y - 32) = y - 32 := wrapU8 _ (by omega) (by omega)
            clear c1 c2 hx0 hx1 hl hu
            go_wp2
            go_roundg (n - (kk + 1))
            case measure => omega
            case rel =>
              refine ⟨kk + 1, by omega, by omega, by go_num, ⟨below_set HB.out (Nat.le_refl _)⟩, ⟨?_⟩⟩
              rw [← HQ.out]
              exact HS.out
          · have d1 : decide (97 ≤ y) = true := decide_eq_true c1
            have d2 : decide (y ≤ 122) = false := decide_eq_false c2
            have HU : Aside0 (S.up y = y) := ⟨by unfold S.up; rw [if_neg (fun q => c2 q.2)]⟩
            clear c1 c2 hx0 hx1
            go_wp2
            go_roundg (n - (kk + 1))
            case measure => omega
            case rel =>
              refine ⟨kk + 1, by omega, by omega, by go_num, HB, ⟨?_⟩⟩
              rw [← HQ.out, HU.out, ← HG.out, set_same _ kk (by rw [part_map_length]; exact hl)]
              exact HF.out
        · have d1 : decide (97 ≤ y) = false := decide_eq_false c1
          have HU : Aside0 (S.up y = y) := ⟨by unfold S.up; rw [if_neg (fun q => c1 q.1)]⟩
          clear c1 hx0 hx1
          go_wp2
          go_roundg (n - (kk + 1))
          case measure => omega
          case rel =>
            refine ⟨kk + 1, by omega, by omega, by go_num, HB, ⟨?_⟩⟩
            rw [← HQ.out, HU.out, ← HG.out, set_same _ kk (by rw [part_map_length]; exact hl)]
            exact HF.out
      · obtain rfl : kk = n := by omega
        have HR : Aside0 (Buf w.heap.size ((bytesOf a0).map S.up) wr) := ⟨by have := HF.out; rw [← HN.out, part_map_all] at this; exact this⟩
        have hconv := fun c => kc wr c (by have := HR.out.reads (by simp; have := HN.out; omega); rw [List.length_map, HN.out] at this; exact this)
        go_wp2
        go_ret
        exact ⟨rfl, HB.out⟩
  · rw [if_neg ha] at h
    cases h
end Go.Proofs.YtkkpjonfaflkmaaGreatDoor.T

namespace Go.Proofs.YtkkpjonfaflkmaaGreatDoor.T
set_option linter.unusedSimpArgs false
set_option linter.unusedVariables false
open Go.RowKit Go.Proofs.YtkkpjonfaflkmaaGreatDoorW.PrintWords Go.Proofs.YtkkpjonfaflkmaaGreatDoorW.PrintLast Go.Proofs.YtkkpjonfaflkmaaGreatDoorW.PrintMore
theorem byte_all (P : Int → Prop) (h : ∀ n : Fin 256, P (n.val : Int)) (x : Int) (h0 : 0 ≤ x) (h1 : x < 256) : P x := by
  have := h ⟨x.toNat, by omega⟩
  simp only at this
  rwa [Int.toNat_of_nonneg h0] at this
theorem sym_f (x : Int) (h0 : 0 ≤ x) (h1 : x < 256) : scan_symbolic.f x = some (S.sym x) :=
  byte_all (fun x => scan_symbolic.f x = some (S.sym x)) (by decide +kernel) x h0 h1
theorem dig_f (x : Int) : scan_digit.f x = some (S.dig x) := by
  unfold scan_digit.f S.dig
  by_cases h1 : 48 ≤ x <;> by_cases h2 : x ≤ 57 <;> simp [h1, h2]
theorem sym_tells : Tells 55 S.sym := fun W x h0 h1 => scan_symbolic.calls x (S.sym x) W (sym_f x h0 h1)
theorem dig_tells : Tells 96 S.dig := fun W x h0 h1 => scan_digit.calls x (S.dig x) W (dig_f x)
theorem sym_enters : ∀ args w, (callFunc 55 args).run Tryz.prog w = .ok (.enter 55 args) w := enters_of Tryz.func55 (by kernel_rfl) rfl
theorem dig_enters : ∀ args w, (callFunc 96 args).run Tryz.prog w = .ok (.enter 96 args) w := enters_of Tryz.func96 (by kernel_rfl) rfl
theorem nums_all (l : List UInt8) (p : Int → Bool) : (nums l).all p = l.all (fun b => p (b.toNat : Int)) := by simp [nums, Function.comp_def]
theorem nums_any (l : List UInt8) (p : Int → Bool) : (nums l).any p = l.any (fun b => p (b.toNat : Int)) := by simp [nums, Function.comp_def]
theorem nums_count (l : List UInt8) (c : UInt8) : (nums l).count (c.toNat : Int) = l.count c := by
  induction l with
  | nil => rfl
  | cons x t ih =>
    simp only [nums, List.map_cons, List.count_cons]
    rw [show List.map (fun b : UInt8 => (b.toNat : Int)) t = nums t from rfl, ih]
    by_cases h : x = c
    · subst h; simp
    · have : ¬ (x.toNat : Int) = (c.toNat : Int) := fun e => h (u8_inj e)
      simp [h, this]
theorem drop_nil {α : Type} (p : α → Bool) : ∀ l : List α, l.dropWhile p = [] ↔ ∀ x ∈ l, p x = true
  | [] => by simp
  | x :: t => by
    by_cases h : p x = true
    · rw [List.dropWhile_cons_of_pos h, drop_nil p t]; simp [h]
    · rw [List.dropWhile_cons_of_neg h]; simp [h]
theorem take_mem {α : Type} (p : α → Bool) : ∀ (l : List α) (x : α), x ∈ l.takeWhile p → p x = true
  | [], _, h => by cases h
  | y :: t, x, h => by
    by_cases hy : p y = true
    · rw [List.takeWhile_cons_of_pos hy] at h
      rcases List.mem_cons.1 h with rfl | h
      · exact hy
      · exact take_mem p t x h
    · rw [List.takeWhile_cons_of_neg hy] at h; cases h
theorem trimS_empty (l cs : List UInt8) : (Lib.trimS l cs = []) ↔ ∀ b ∈ l, cs.contains b = true := by
  unfold Lib.trimS Lib.trimLeftS Lib.trimRightS
  constructor
  · intro h b hb
    have h1 : ∀ b ∈ (l.reverse.dropWhile (cs.contains ·)).reverse, cs.contains b = true := by
      have := (drop_nil _ _).1 h
      exact this
    by_cases hm : b ∈ l.reverse.dropWhile (cs.contains ·)
    · exact h1 b (by simpa using hm)
    · have hb' : b ∈ l.reverse := by simpa using hb
      rw [← List.takeWhile_append_dropWhile (p := (cs.contains ·)) (l := l.reverse)] at hb'
      rcases List.mem_append.1 hb' with h2 | h2
      · exact take_mem _ _ _ h2
      · exact absurd h2 hm
  · intro h
    have : l.reverse.dropWhile (cs.contains ·) = [] := by
      rw [drop_nil]
      intro b hb
      exact h b (by simpa using hb)
    rw [this]; rfl
end Go.Proofs.YtkkpjonfaflkmaaGreatDoor.T
