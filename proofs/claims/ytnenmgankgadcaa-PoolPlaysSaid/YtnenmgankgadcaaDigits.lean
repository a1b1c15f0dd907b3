/- Decimal digits: wire.Digits and the document's. -/
import Derived.Test.YtnenmgankgadcaaOwn
import Derived.IntWalk
import Derived.StillTailTactics
namespace Go.Proofs.Ytnenmgankgadcaa
open Go.RowKit
theorem infoB : (Try.prog.info? 5).map (fun i => (i.zero, i.size, i.bytes)) = some (some (.int .u8 0), 1, 1) := by kernel_rfl
set_option linter.unusedVariables false

/-- the last n digits -/
def dgI : Nat → Int → List Int
  | 0, _ => []
  | n + 1, v => dgI n (v / 10) ++ [48 + v % 10]
theorem dgI_length (n : Nat) (v : Int) : (dgI n v).length = n := by
  induction n generalizing v with
  | zero => rfl
  | succ n ih => simp [dgI, ih]
theorem dgI_cons (n : Nat) (v : Int) : dgI (n + 1) v = (48 + v / 10 ^ n % 10) :: dgI n v := by
  induction n generalizing v with
  | zero => simp [dgI]
  | succ n ih =>
    rw [dgI, ih (v / 10)]
    show _ = _ :: (dgI n (v / 10) ++ [48 + v % 10])
    have e : v / 10 / 10 ^ n = v / 10 ^ (n + 1) := by
      rw [Int.ediv_ediv_of_nonneg (by omega), Int.pow_succ, Int.mul_comm]
    rw [e]; rfl
theorem div10_succ (v : Int) (j : Nat) : v / 10 ^ j / 10 = v / 10 ^ (j + 1) := by
  rw [Int.ediv_ediv_of_nonneg (Int.le_of_lt (Int.pow_pos (by omega))), Int.pow_succ]
theorem div10_bd (v : Int) (j : Nat) (h : 0 ≤ v ∧ v ≤ 9223372036854775808) : 0 ≤ v / 10 ^ j ∧ v / 10 ^ j ≤ 9223372036854775808 := by
  induction j with
  | zero => simpa using h
  | succ j ih => rw [← div10_succ]; omega
/-- how many digits a number has -/
def nd : Nat → Int → Nat
  | 0, _ => 1
  | f + 1, v => if v < 10 then 1 else nd f (v / 10) + 1
theorem nd_of (f j : Nat) (v : Int) (hj : 1 ≤ j) (hf : j ≤ f) (h0 : 0 ≤ v) (h1 : v / 10 ^ j = 0) (h2 : j = 1 ∨ v / 10 ^ (j - 1) ≠ 0) : nd f v = j := by
  induction f generalizing j v with
  | zero => omega
  | succ f ih =>
    unfold nd
    by_cases hv : v < 10
    · rw [if_pos hv]
      by_cases hj1 : j = 1
      · exact hj1.symm
      · exfalso
        apply h2.resolve_left hj1
        obtain ⟨m, hm⟩ : ∃ m, j - 1 = m + 1 := ⟨j - 2, by omega⟩
        rw [hm, Int.pow_succ, Int.mul_comm, ← Int.ediv_ediv_of_nonneg (by omega), show v / 10 = 0 from by omega]; simp
    · rw [if_neg hv]
      have hj2 : 2 ≤ j := by
        apply Classical.byContradiction; intro hc
        have : j = 1 := by omega
        subst this
        simp at h1; omega
      obtain ⟨m, rfl⟩ : ∃ m, j = m + 1 := ⟨j - 1, by omega⟩
      have e : ∀ m : Nat, v / 10 ^ (m + 1) = v / 10 / 10 ^ m := fun m => by rw [Int.pow_succ, Int.mul_comm, ← Int.ediv_ediv_of_nonneg (by omega)]
      have := ih m (v / 10) (by omega) (by omega) (by omega) (by rw [← e]; exact h1) (by
        rcases h2 with h2 | h2
        · omega
        · by_cases hm : m = 1
          · exact .inl hm
          · right
            obtain ⟨q, rfl⟩ : ∃ q, m = q + 1 := ⟨m - 1, by omega⟩
            rw [show q + 1 - 1 = q from rfl, ← e]
            exact h2)
      rw [this]
def absI (v : Int) : Int := if v < 0 then -v else v
def digI (v : Int) : List Int := (if v < 0 then [45] else []) ++ dgI (nd 25 (absI v)) (absI v)
def digL (v : Int) : List UInt8 := bytesOf (digI v)

/-- the row of 21 bytes behind j rounds -/
def dgRow (j : Nat) (v : Int) : List Int := List.replicate (21 - j) 0 ++ dgI j v
theorem dgRow_set (j : Nat) (v : Int) (h : j < 21) : (dgRow j v).set (20 - j) (48 + v / 10 ^ j % 10) = dgRow (j + 1) v := by
  unfold dgRow
  obtain ⟨d, hd⟩ : ∃ d, 21 - j = d + 1 := ⟨20 - j, by omega⟩
  rw [hd, show 20 - j = d from by omega, show 21 - (j + 1) = d from by omega, List.replicate_succ', List.append_assoc, List.set_append_right _ _ (by simp), dgI_cons]
  simp
theorem dg_few (v : Int) (j : Nat) (h : v ≤ 9223372036854775808) (h0 : 0 ≤ v) (hj : j = 0 ∨ v / 10 ^ j ≠ 0) : j ≤ 18 := by
  apply Classical.byContradiction; intro hc
  obtain ⟨m, rfl⟩ : ∃ m, j = 19 + m := ⟨j - 19, by omega⟩
  rcases hj with hj | hj
  · omega
  · apply hj
    rw [Int.pow_add, ← Int.ediv_ediv_of_nonneg (by omega), show v / 10 ^ 19 = 0 from Int.ediv_eq_zero_of_lt h0 (by omega)]; simp

theorem sl21 (g k : Nat) (hk : k ≤ 20) (w : World) :
    (Instr.sliceAt 77 (.pointer (some ⟨g, 0, none⟩)) (some (.int .i64 (k : Int))) none none).run Try.prog w = .ok (.slice (some ⟨g, k, none⟩) (21 - k) (21 - k)) w := by
  have ha : Try.prog.arrayLen 77 = 21 := by kernel_rfl
  have hs : (sizeOf (Try.prog.elem 77)).run Try.prog w = .ok 1 w := by kernel_rfl
  rw [run_sliceAt_array_l w 77 ⟨g, 0, none⟩ Try.underlying77 .i64 (k : Int) (by omega) (by rw [ha]; omega), hs, ha]
  simp only [Result.andThen, slicedAt, Int.toNat_natCast, Nat.mul_one]
  rw [if_neg (by omega)]
  unfold Addr.add
  by_cases h0 : k = 0
  · subst h0; rfl
  · rw [if_neg h0]; simp
theorem u64w (n : Int) : IntKind.u64.wrap n = n % 18446744073709551616 := by simp [IntKind.wrap, IntKind.bits, IntKind.signed]
theorem cells_set (xs : List Int) (i : Nat) (x : Int) (k : IntKind) : ((xs.map (Value.int k)).toArray).setIfInBounds i (.int k x) = ((xs.set i x).map (Value.int k)).toArray := by
  simp [List.map_set]

set_option maxRecDepth 100000 in
set_option maxHeartbeats 2000000 in
theorem digits_any (v : Int) (w : World) (v0 : -9223372036854775808 ≤ v) (v1 : v ≤ 9223372036854775807) :
    Calls Try.prog 28 #[.int .i64 v] w fun e w' => e = .returned (.string (B (digL v))) ∧ Fr [] w w' := by
  obtain ⟨N, hN⟩ : ∃ N, absI v = N := ⟨_, rfl⟩
  by_cases hneg : v < 0
  · have hN' : N = -v := by rw [← hN]; unfold absI; rw [if_pos hneg]
    have hN0 : 0 ≤ N := by omega
    have hN1 : N ≤ 9223372036854775808 := by omega
    have hw : IntKind.u64.wrap (-IntKind.u64.wrap v) = N := by
      rw [u64w, u64w]; omega
    have hdig : digL v = bytesOf (45 :: dgI (nd 25 N) N) := by unfold digL digI; rw [hN, if_pos hneg]; rfl
    have Hdig := Lib.hid hdig
    clear hN hN' hdig
    go_enter Try.func28, Try.ntmps28
    go_wp2
    clear hw
    go_loopw [3, 5] (fun nv iv wr => ∃ j : Nat, nv = .int .u64 (N / 10 ^ j) ∧ iv = .int .i64 (21 - (j : Int)) ∧ Blk wr w.heap.size (((dgRow j N).map (Value.int .u8)).toArray) 77 ∧ Fr [] w wr ∧ Hid (j = 0 ∨ N / 10 ^ j ≠ 0)) (fun _ iv _ => (intOf iv).toNat)
    case atStart => exact ⟨0, by simp, by simp, Blk.new _ _ _, (Fr.refl _ _).alloc _, .inl rfl⟩
    case round =>
      obtain ⟨j, rfl, rfl, hB, hF, hnz⟩ := hrel
      have hj18 := dg_few N j hN1 hN0 hnz.out
      obtain ⟨x0, x1⟩ := div10_bd N j ⟨hN0, hN1⟩
      have hds := div10_succ N j
      have hset := dgRow_set j N (by omega)
      obtain ⟨d, hd⟩ : ∃ d : Nat, d = 20 - j := ⟨_, rfl⟩
      have hd1 : (21 : Int) - (j : Int) = (d : Int) + 1 := by omega
      have hd2 : 2 ≤ d := by omega
      have hd3 : d ≤ 20 := by omega
      rw [← hd] at hset
      obtain ⟨x, hx⟩ : ∃ x, N / 10 ^ j = x := ⟨_, rfl⟩
      rw [hx] at x0 x1 hds hset
      have hlen : (dgRow j N).length = 21 := by simp [dgRow, dgI_length]; omega
      have hc := hB.c d (.int .u8 ((dgRow j N).getD d 0)) (by simp [List.getD, List.getElem?_eq_getElem (show d < (dgRow j N).length by omega)])
      have hf := hB.fz d
      have hB2 := hB.set d (.int .u8 (48 + x % 10))
      rw [cells_set, hset] at hB2
      have hF2 : Fr [] w (wr.setCell ⟨w.heap.size, d, none⟩ (.int .u8 (48 + x % 10))) := hF.setNew (Nat.le_refl _) _
      rw [hx, hd1]
      have Hds := Lib.hid hds
      have Hd := Lib.hid hd
      have Hx := Lib.hid hx
      have Hd1 := Lib.hid hd1
      clear hset hds hd hd1 hx hlen hB hF
      by_cases hz : x / 10 = 0
      · have hzb : (x / 10 == 0) = true := by rw [beq_iff_eq]; exact hz
        have hnd : nd 25 N = j + 1 := nd_of 25 (j + 1) N (by omega) (by omega) hN0 (by rw [← Hds.out]; exact hz) (by
          rcases hnz.out with h | h
          · exact .inl (by omega)
          · exact .inr h)
        have Hnd := Lib.hid hnd
        clear hnd hz
        have hsl := fun w' => sl21 w.heap.size (d - 1) (by omega) w'
        rw [show ((d - 1 : Nat) : Int) = (d : Int) - 1 from by omega] at hsl
        have hl2 : (dgRow (j + 1) N).length = 21 := by simp [dgRow, dgI_length]; omega
        have hc2 := hB2.c (d - 1) (.int .u8 ((dgRow (j + 1) N).getD (d - 1) 0)) (by simp [List.getD, List.getElem?_eq_getElem (show d - 1 < (dgRow (j + 1) N).length by omega)])
        have hf2 := hB2.fz (d - 1)
        have hB3 := hB2.set (d - 1) (.int .u8 45)
        rw [cells_set] at hB3
        have hF3 := hF2.setNew (p := ⟨w.heap.size, d - 1, none⟩) (Nat.le_refl _) (.int .u8 45)
        have hrow : ((dgRow (j + 1) N).set (d - 1) 45).drop (d - 1) = 45 :: dgI (j + 1) N := by
          unfold dgRow
          obtain ⟨q, hq⟩ : ∃ q, 21 - (j + 1) = q + 1 := ⟨d - 1, by have := Hd.out; omega⟩
          rw [hq, show d - 1 = q from by have := Hd.out; omega, List.replicate_succ', List.append_assoc, List.set_append_right _ _ (by simp), List.drop_append_of_le_length (by simp)]
          simp
        have hcv := run_convert_bytes_arg (P := Try.prog) (((wr.setCell ⟨w.heap.size, d, none⟩ (.int .u8 (48 + x % 10)))).setCell ⟨w.heap.size, d - 1, none⟩ (.int .u8 45)) 78 5 Try.underlying78 Try.underlying5 w.heap.size (d - 1) (21 - (d - 1)) (21 - (d - 1)) (45 :: dgI (j + 1) N)
          (by have := Hd.out; simp [dgI_length]; omega)
          (fun i hi => by
            rw [← hrow]
            refine hB3.c (d - 1 + i) _ ?_
            have hlt : d - 1 + i < ((dgRow (j + 1) N).set (d - 1) 45).length := by rw [List.length_set]; omega
            simp only [List.getElem?_toArray, List.getElem?_map, List.getElem?_eq_getElem hlt, Option.map_some, List.getD, List.getElem?_drop, Option.getD_some]) 9 Try.underlying9
        rw [strOfNums_eq] at hcv
        clear hrow hl2 hB3
        go_wp2
        go_ret
        exact ⟨rstr (by rw [Hdig.out, Hnd.out]), hF3⟩
      · have hzb : (x / 10 == 0) = false := by rw [beq_eq_false_iff_ne]; exact hz
        have Hz := Lib.hid hz
        clear hz
        go_wp2
        go_roundw
        case rel => exact ⟨j + 1, by rw [← Hds.out], by have := Hd1.out; congr 1; omega, hB2, hF2, .inr (by rw [← Hds.out]; exact Hz.out)⟩
        case measure => (simp [intOf]) <;> omega
  · have hN' : N = v := by rw [← hN]; unfold absI; rw [if_neg hneg]
    have hN0 : 0 ≤ N := by omega
    have hN1 : N ≤ 9223372036854775808 := by omega
    subst hN'
    have hdig : digL N = bytesOf (dgI (nd 25 N) N) := by unfold digL digI; rw [hN, if_neg hneg]; rfl
    have Hdig := Lib.hid hdig
    clear hN hdig
    go_enter Try.func28, Try.ntmps28
    go_wp2
    go_loopw [3, 5] (fun nv iv wr => ∃ j : Nat, nv = .int .u64 (N / 10 ^ j) ∧ iv = .int .i64 (21 - (j : Int)) ∧ Blk wr w.heap.size (((dgRow j N).map (Value.int .u8)).toArray) 77 ∧ Fr [] w wr ∧ Hid (j = 0 ∨ N / 10 ^ j ≠ 0)) (fun _ iv _ => (intOf iv).toNat)
    case atStart => exact ⟨0, by simp, by simp, Blk.new _ _ _, (Fr.refl _ _).alloc _, .inl rfl⟩
    case round =>
      obtain ⟨j, rfl, rfl, hB, hF, hnz⟩ := hrel
      have hj18 := dg_few N j hN1 hN0 hnz.out
      obtain ⟨x0, x1⟩ := div10_bd N j ⟨hN0, hN1⟩
      have hds := div10_succ N j
      have hset := dgRow_set j N (by omega)
      obtain ⟨d, hd⟩ : ∃ d : Nat, d = 20 - j := ⟨_, rfl⟩
      have hd1 : (21 : Int) - (j : Int) = (d : Int) + 1 := by omega
      have hd2 : 2 ≤ d := by omega
      have hd3 : d ≤ 20 := by omega
      rw [← hd] at hset
      obtain ⟨x, hx⟩ : ∃ x, N / 10 ^ j = x := ⟨_, rfl⟩
      rw [hx] at x0 x1 hds hset
      have hlen : (dgRow j N).length = 21 := by simp [dgRow, dgI_length]; omega
      have hc := hB.c d (.int .u8 ((dgRow j N).getD d 0)) (by simp [List.getD, List.getElem?_eq_getElem (show d < (dgRow j N).length by omega)])
      have hf := hB.fz d
      have hB2 := hB.set d (.int .u8 (48 + x % 10))
      rw [cells_set, hset] at hB2
      have hF2 : Fr [] w (wr.setCell ⟨w.heap.size, d, none⟩ (.int .u8 (48 + x % 10))) := hF.setNew (Nat.le_refl _) _
      rw [hx, hd1]
      have Hds := Lib.hid hds
      have Hd := Lib.hid hd
      have Hx := Lib.hid hx
      have Hd1 := Lib.hid hd1
      clear hset hds hd hd1 hx hlen hB hF
      by_cases hz : x / 10 = 0
      · have hzb : (x / 10 == 0) = true := by rw [beq_iff_eq]; exact hz
        have hnd : nd 25 N = j + 1 := nd_of 25 (j + 1) N (by omega) (by omega) hN0 (by rw [← Hds.out]; exact hz) (by
          rcases hnz.out with h | h
          · exact .inl (by omega)
          · exact .inr h)
        have Hnd := Lib.hid hnd
        clear hnd hz
        have hsl := fun w' => sl21 w.heap.size d (by omega) w'
        have hl2 : (dgRow (j + 1) N).length = 21 := by simp [dgRow, dgI_length]; omega
        have hrow : (dgRow (j + 1) N).drop d = dgI (j + 1) N := by
          unfold dgRow
          rw [show 21 - (j + 1) = d from by have := Hd.out; omega, List.drop_left' (by simp)]
        have hcv := run_convert_bytes_arg (P := Try.prog) (wr.setCell ⟨w.heap.size, d, none⟩ (.int .u8 (48 + x % 10))) 78 5 Try.underlying78 Try.underlying5 w.heap.size d (21 - d) (21 - d) (dgI (j + 1) N)
          (by have := Hd.out; simp [dgI_length]; omega)
          (fun i hi => by
            rw [← hrow]
            refine hB2.c (d + i) _ ?_
            have hlt : d + i < (dgRow (j + 1) N).length := by omega
            simp only [List.getElem?_toArray, List.getElem?_map, List.getElem?_eq_getElem hlt, Option.map_some, List.getD, List.getElem?_drop, Option.getD_some]) 9 Try.underlying9
        rw [strOfNums_eq] at hcv
        clear hrow hl2
        go_wp2
        go_ret
        exact ⟨rstr (by rw [Hdig.out, Hnd.out]), hF2⟩
      · have hzb : (x / 10 == 0) = false := by rw [beq_eq_false_iff_ne]; exact hz
        have Hz := Lib.hid hz
        clear hz
        go_wp2
        go_roundw
        case rel => exact ⟨j + 1, by rw [← Hds.out], by have := Hd1.out; congr 1; omega, hB2, hF2, .inr (by rw [← Hds.out]; exact Hz.out)⟩
        case measure => (simp [intOf]) <;> omega
end Go.Proofs.Ytnenmgankgadcaa
