/- Part 4 of the proof of ScanSymbols: the functions that it calls return what their plain descriptions say. -/
import Derived.Test.YtkkpjonfaflkmaaGreatDoorCScanSymbols3

namespace Go.Proofs.YtkkpjonfaflkmaaGreatDoor.T
set_option linter.unusedSimpArgs false
set_option linter.unusedVariables false
open Go.RowKit Go.Proofs.YtkkpjonfaflkmaaGreatDoorW.PrintWords Go.Proofs.YtkkpjonfaflkmaaGreatDoorW.PrintLast Go.Proofs.YtkkpjonfaflkmaaGreatDoorW.PrintMore
def upS (s : ByteArray) : ByteArray := strOfNums ((bytesOf s).map S.up)
def scan_upper.f (a0 : ByteArray) : Option ByteArray := if a0.size ≤ 1000000 then some (upS a0) else none
def qanatref03_Upper.f (a0 : ByteArray) : Option ByteArray := if a0.size ≤ 1000000 then some (upS a0) else none
theorem wrapU8 (x : Int) (h0 : 0 ≤ x) (h1 : x < 256) : IntKind.u8.wrap x = x := by
  have : IntKind.u8.wrap x = x % 256 := rfl
  rw [this]; omega
theorem set_same (xs : List Int) (k : Nat) (h : k < xs.length) : xs.set k (xs.getD k 0) = xs := by
  have h1 : xs.getD k 0 = xs[k] := by simp [List.getD_eq_getElem?_getD, List.getElem?_eq_getElem h]
  rw [h1, List.set_getElem_self]
set_option maxHeartbeats 2000000 in
theorem scan_upper.calls (a0 : ByteArray) (r : ByteArray) (w : World) (h : scan_upper.f a0 = some r) :
    Calls Tryz.prog 98 #[.string a0] w fun e w' => e = .returned (.string r) ∧ Below w.heap.size w w' := by
  unfold scan_upper.f at h
  by_cases ha : a0.size ≤ 1000000
  · rw [if_pos ha] at h
    obtain rfl := Option.some.inj h
    unfold upS
    clear h
    obtain ⟨n, hn⟩ : ∃ n, a0.size = n := ⟨_, rfl⟩
    have HB0 := Aside0.mk (Buf.new w a0)
    have HL0 := Aside0.mk (bytes_below (Below.refl w.heap.size w) (Nat.le_refl _) 5 a0)
    have HN : Aside0 ((bytesOf a0).length = n) := ⟨by rw [bytesOf_length]; exact hn⟩
    have kb := fun W => print_bytes (P := Tryz.prog) 9 100 5 Tryz.underlying9 Tryz.underlying100 Tryz.underlying5 a0 W
    rw [hn] at kb ha
    have kc := fun W c => string_of_reads (P := Tryz.prog) (w := W) (src := 100) (dst := 9) (e := 5) (A := some ⟨w.heap.size, 0, none⟩) (n := n) (c := c) (xs := (bytesOf a0).map S.up) Tryz.underlying100 Tryz.underlying5 Tryz.underlying9
    go_enter Tryz.func98, Tryz.ntmps98
    go_wp2
    go_loopg [4, 5, 10] n (fun gg _ _ s10 wr => ∃ kk : Nat, kk ≤ n ∧ n - kk ≤ gg ∧ s10 = .int .i64 kk ∧ Aside0 (Below w.heap.size w wr) ∧ Aside0 (Buf w.heap.size (part_map S.up kk (bytesOf a0)) wr))
    case atStart => exact ⟨0, Nat.zero_le _, by omega, rfl, HL0, ⟨by rw [part_map_zero]; exact HB0.out⟩⟩
    case round =>
      obtain ⟨kk, hkk, hg, rfl, HB, HF⟩ := hrel
      by_cases hlt : kk < n
      · have hltz : (kk : Int) < (n : Int) := by omega
        have hl : kk < (bytesOf a0).length := by have := HN.out; omega
        have hcell0 := HF.out.cell kk (by rw [part_map_length]; exact hl)
        rw [part_map_at S.up kk _ hl] at hcell0
        obtain ⟨hx0, hx1⟩ := bo_range a0 _ (getD_mem _ kk hl)
        have HS : Aside0 (Buf w.heap.size ((part_map S.up kk (bytesOf a0)).set kk (S.up ((bytesOf a0).getD kk 0))) (wr.setCell ⟨w.heap.size, kk, none⟩ (.int .u8 (S.up ((bytesOf a0).getD kk 0))))) := ⟨HF.out.set kk _ (by rw [part_map_length]; exact hl)⟩
        have HQ := Aside0.mk (part_map_set S.up kk _ hl)
        have HG : Aside0 ((part_map S.up kk (bytesOf a0)).getD kk 0 = (bytesOf a0).getD kk 0) := ⟨part_map_at S.up kk _ hl⟩
        generalize (bytesOf a0).getD kk 0 = y at hcell0 hx0 hx1 HS HQ HG
        have hfree : wr.frozen? ⟨w.heap.size, kk, none⟩ = false := HF.out.free kk (by rw [part_map_length]; exact hl)
        by_cases c1 : 97 ≤ y
        · by_cases c2 : y ≤ 122
          · have d1 : decide (97 ≤ y) = true := decide_eq_true c1
            have d2 : decide (y ≤ 122) = true := decide_eq_true c2
            have hu : S.up y = y - 32 := by unfold S.up; rw [if_pos ⟨c1, c2⟩]
            rw [hu] at HS HQ
            have hw : IntKind.u8.wrap (y - 32) = y - 32 := wrapU8 _ (by omega) (by omega)
            clear c1 c2 hx0 hx1 hl hu
            go_wp2
            go_roundg (n - (kk + 1))
            case measure => omega
            case rel =>
              refine ⟨kk + 1, by omega, by omega, by go_num, ⟨below_set HB.out (Nat.le_refl _)⟩, ⟨?_⟩⟩
              rw [← HQ.out]
              exact HS.out
          · have d1 : decide (97 ≤ y) = true := decide_eq_true c1
            have d2 : decide (y ≤ 122) = false := decide_eq_false c2
            have HU : Aside0 (S.up y = y) := ⟨by unfold S.up; rw [if_neg (fun q => c2 q.2)]⟩
            clear c1 c2 hx0 hx1
            go_wp2
            go_roundg (n - (kk + 1))
            case measure => omega
            case rel =>
              refine ⟨kk + 1, by omega, by omega, by go_num, HB, ⟨?_⟩⟩
              rw [← HQ.out, HU.out, ← HG.out, set_same _ kk (by rw [part_map_length]; exact hl)]
              exact HF.out
        · have d1 : decide (97 ≤ y) = false := decide_eq_false c1
          have HU : Aside0 (S.up y = y) := ⟨by unfold S.up; rw [if_neg (fun q => c1 q.1)]⟩
          clear c1 hx0 hx1
          go_wp2
          go_roundg (n - (kk + 1))
          case measure => omega
          case rel =>
            refine ⟨kk + 1, by omega, by omega, by go_num, HB, ⟨?_⟩⟩
            rw [← HQ.out, HU.out, ← HG.out, set_same _ kk (by rw [part_map_length]; exact hl)]
            exact HF.out
      · obtain rfl : kk = n := by omega
        have HR : Aside0 (Buf w.heap.size ((bytesOf a0).map S.up) wr) := ⟨by have := HF.out; rw [← HN.out, part_map_all] at this; exact this⟩
        have hconv := fun c => kc wr c (by have := HR.out.reads (by simp; have := HN.out; omega); rw [List.length_map, HN.out] at this; exact this)
        go_wp2
        go_ret
        exact ⟨rfl, HB.out⟩
  · rw [if_neg ha] at h
    cases h
set_option maxHeartbeats 2000000 in
theorem qanatref03_Upper.calls (a0 : ByteArray) (r : ByteArray) (w : World) (h : qanatref03_Upper.f a0 = some r) :
    Calls Tryz.prog 101 #[.string a0] w fun e w' => e = .returned (.string r) ∧ Below w.heap.size w w' := by
  unfold qanatref03_Upper.f at h
  by_cases ha : a0.size ≤ 1000000
  · rw [if_pos ha] at h
    obtain rfl := Option.some.inj h
    unfold upS
    clear h
    obtain ⟨n, hn⟩ : ∃ n, a0.size = n := ⟨_, rfl⟩
    have HB0 := Aside0.mk (Buf.new w a0)
    have HL0 := Aside0.mk (bytes_below (Below.refl w.heap.size w) (Nat.le_refl _) 5 a0)
    have HN : Aside0 ((bytesOf a0).length = n) := ⟨by rw [bytesOf_length]; exact hn⟩
    have kb := fun W => print_bytes (P := Tryz.prog) 9 100 5 Tryz.underlying9 Tryz.underlying100 Tryz.underlying5 a0 W
    rw [hn] at kb ha
    have kc := fun W c => string_of_reads (P := Tryz.prog) (w := W) (src := 100) (dst := 9) (e := 5) (A := some ⟨w.heap.size, 0, none⟩) (n := n) (c := c) (xs := (bytesOf a0).map S.up) Tryz.underlying100 Tryz.underlying5 Tryz.underlying9
    go_enter Tryz.func101, Tryz.ntmps101
    go_wp2
    go_loopg [4] n (fun gg s10 wr => ∃ kk : Nat, kk ≤ n ∧ n - kk ≤ gg ∧ s10 = .int .i64 kk ∧ Aside0 (Below w.heap.size w wr) ∧ Aside0 (Buf w.heap.size (part_map S.up kk (bytesOf a0)) wr))
    case atStart => exact ⟨0, Nat.zero_le _, by omega, rfl, HL0, ⟨by rw [part_map_zero]; exact HB0.out⟩⟩
    case round =>
      obtain ⟨kk, hkk, hg, rfl, HB, HF⟩ := hrel
      by_cases hlt : kk < n
      · have hltz : (kk : Int) < (n : Int) := by omega
        have hl : kk < (bytesOf a0).length := by have := HN.out; omega
        have hcell0 := HF.out.cell kk (by rw [part_map_length]; exact hl)
        rw [part_map_at S.up kk _ hl] at hcell0
        obtain ⟨hx0, hx1⟩ := bo_range a0 _ (getD_mem _ kk hl)
        have HS : Aside0 (Buf w.heap.size ((part_map S.up kk (bytesOf a0)).set kk (S.up ((bytesOf a0).getD kk 0))) (wr.setCell ⟨w.heap.size, kk, none⟩ (.int .u8 (S.up ((bytesOf a0).getD kk 0))))) := ⟨HF.out.set kk _ (by rw [part_map_length]; exact hl)⟩
        have HQ := Aside0.mk (part_map_set S.up kk _ hl)
        have HG : Aside0 ((part_map S.up kk (bytesOf a0)).getD kk 0 = (bytesOf a0).getD kk 0) := ⟨part_map_at S.up kk _ hl⟩
        generalize (bytesOf a0).getD kk 0 = y at hcell0 hx0 hx1 HS HQ HG
        have hfree : wr.frozen? ⟨w.heap.size, kk, none⟩ = false := HF.out.free kk (by rw [part_map_length]; exact hl)
        by_cases c1 : 97 ≤ y
        · by_cases c2 : y ≤ 122
          · have d1 : decide (97 ≤ y) = true := decide_eq_true c1
            have d2 : decide (y ≤ 122) = true := decide_eq_true c2
            have hu : S.up y = y - 32 := by unfold S.up; rw [if_pos ⟨c1, c2⟩]
            rw [hu] at HS HQ
            have hw : IntKind.u8.wrap (y - 97) = y - 97 := wrapU8 _ (by omega) (by omega)
            have hw2 : IntKind.u8.wrap (y - 97 + 65) = y - 32 := by rw [wrapU8 _ (by omega) (by omega)]; omega
            clear c1 c2 hx0 hx1 hl hu
            go_wp2
            go_roundg (n - (kk + 1))
            case measure => omega
            case rel =>
              refine ⟨kk + 1, by omega, by omega, by go_num, ⟨below_set HB.out (Nat.le_refl _)⟩, ⟨?_⟩⟩
              rw [← HQ.out]
              exact HS.out
          · have d1 : decide (97 ≤ y) = true := decide_eq_true c1
            have d2 : decide (y ≤ 122) = false := decide_eq_false c2
            have HU : Aside0 (S.up y = y) := ⟨by unfold S.up; rw [if_neg (fun q => c2 q.2)]⟩
            clear c1 c2 hx0 hx1
            go_wp2
            go_roundg (n - (kk + 1))
            case measure => omega
            case rel =>
              refine ⟨kk + 1, by omega, by omega, by go_num, HB, ⟨?_⟩⟩
              rw [← HQ.out, HU.out, ← HG.out, set_same _ kk (by rw [part_map_length]; exact hl)]
              exact HF.out
        · have d1 : decide (97 ≤ y) = false := decide_eq_false c1
          have HU : Aside0 (S.up y = y) := ⟨by unfold S.up; rw [if_neg (fun q => c1 q.1)]⟩
          clear c1 hx0 hx1
          go_wp2
          go_roundg (n - (kk + 1))
          case measure => omega
          case rel =>
            refine ⟨kk + 1, by omega, by omega, by go_num, HB, ⟨?_⟩⟩
            rw [← HQ.out, HU.out, ← HG.out, set_same _ kk (by rw [part_map_length]; exact hl)]
            exact HF.out
      · obtain rfl : kk = n := by omega
        have HR : Aside0 (Buf w.heap.size ((bytesOf a0).map S.up) wr) := ⟨by have := HF.out; rw [← HN.out, part_map_all] at this; exact this⟩
        have hconv := fun c => kc wr c (by have := HR.out.reads (by simp; have := HN.out; omega); rw [List.length_map, HN.out] at this; exact this)
        go_wp2
        go_ret
        exact ⟨rfl, HB.out⟩
  · rw [if_neg ha] at h
    cases h
end Go.Proofs.YtkkpjonfaflkmaaGreatDoor.T
