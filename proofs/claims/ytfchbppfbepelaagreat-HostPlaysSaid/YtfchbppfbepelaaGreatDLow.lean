/- tollgateref1.Low, Two, Num in a seat without Wire1 (as LowA). -/
import Derived.Test.YtfchbppfbepelaaGreatEqEth
import Derived.Deep.OwnRows
namespace Go.Proofs.YtfchbppfbepelaaGreat
open Go.RowKit Go.Deep
set_option linter.unusedVariables false

def beI : Nat → Int → List Int
  | 0, _ => []
  | n + 1, v => beI n (v / 256) ++ [v % 256]
theorem beI_length (n : Nat) (v : Int) : (beI n v).length = n := by
  induction n generalizing v with
  | zero => rfl
  | succ n ih => simp [beI, ih]
theorem be_bytesOf (n : Nat) (v : Int) : be n v = bytesOf (beI n v) := by
  induction n generalizing v with
  | zero => rfl
  | succ n ih => simp [beI, be, ih, bytesOf]
theorem beI_cons (n : Nat) (v : Int) : beI (n + 1) v = (v / 256 ^ n % 256) :: beI n v := by
  induction n generalizing v with
  | zero => simp [beI]
  | succ n ih =>
    rw [beI, ih (v / 256)]
    show _ = _ :: (beI n (v / 256) ++ [v % 256])
    have e : v / 256 / 256 ^ n = v / 256 ^ (n + 1) := by
      rw [Int.ediv_ediv_of_nonneg (by omega), Int.pow_succ, Int.mul_comm]
    rw [e]; rfl
theorem div_pow_succ (v : Int) (j : Nat) : v / 256 ^ j / 256 = v / 256 ^ (j + 1) := by
  rw [Int.ediv_ediv_of_nonneg (Int.le_of_lt (Int.pow_pos (by omega))), Int.pow_succ]
theorem div_pow_bd (v : Int) (j : Nat) (h : -9223372036854775808 ≤ v ∧ v ≤ 9223372036854775807) : -9223372036854775808 ≤ v / 256 ^ j ∧ v / 256 ^ j ≤ 9223372036854775807 := by
  induction j with
  | zero => simpa using h
  | succ j ih => rw [← div_pow_succ]; omega
/-- the row behind j rounds -/
def lowRow (n j : Nat) (v : Int) : List Int := List.replicate (n - j) 0 ++ beI j v
theorem lowRow_set (n j : Nat) (v : Int) (h : j < n) : (lowRow n j v).set (n - 1 - j) (v / 256 ^ j % 256) = lowRow n (j + 1) v := by
  unfold lowRow
  obtain ⟨d, hd⟩ : ∃ d, n - j = d + 1 := ⟨n - j - 1, by omega⟩
  rw [hd, show n - 1 - j = d from by omega, show n - (j + 1) = d from by omega, List.replicate_succ', List.append_assoc, List.set_append_right _ _ (by simp), beI_cons]
  simp
theorem cells_set (xs : List Int) (i : Nat) (x : Int) (k : IntKind) : ((xs.map (Value.int k)).toArray).setIfInBounds i (.int k x) = ((xs.set i x).map (Value.int k)).toArray := by
  simp [List.map_set]

theorem info8 : (Tryz.prog.info? 5).map (fun i => (i.zero, i.size, i.bytes)) = some (some (.int .u8 0), 1, 1) := by kernel_rfl

theorem madeBytes (n : Nat) : madeCells #[Value.int .u8 0] n = ((List.replicate n (0 : Int)).map (Value.int .u8)).toArray := by
  apply Array.toList_inj.1
  rw [toList_madeCells_one]; simp

set_option maxHeartbeats 1000000 in
theorem low_any (v : Int) (n : Nat) (w : World) (hv : -9223372036854775808 ≤ v ∧ v ≤ 9223372036854775807) (hn : n ≤ 1000000) :
    Calls Tryz.prog 286 #[.int .i64 v, .int .i64 n] w fun e w' => e = .returned (.string (B (be n v))) ∧ Fr [] w w' := by
  have hmk := run_make_row' (P := Tryz.prog) 383 5 (.int .u8 0) 1 Tryz.underlying383 info8 rfl .i64 .i64 n (by omega) (by omega)
  go_enter Tryz.func286, Tryz.ntmps286
  go_wp2
  clear hmk
  go_loopw [0, 6] (fun x i wr => ∃ j : Nat, j ≤ n ∧ x = .int .i64 (v / 256 ^ j) ∧ i = .int .i64 ((n : Int) - 1 - j) ∧ Blk wr w.heap.size (((lowRow n j v).map (Value.int .u8)).toArray) 5 ∧ Fr [] w wr) (fun _ i _ => (intOf i + 1).toNat)
  case atStart =>
    refine ⟨0, Nat.zero_le _, by simp, by simp, ?_, (Fr.refl _ _).alloc _⟩
    rw [madeBytes]
    simpa [lowRow, beI] using Blk.new w ((lowRow n 0 v).map (Value.int .u8)).toArray 5
  case round =>
    obtain ⟨j, hj, rfl, rfl, hB, hF⟩ := hrel
    by_cases hlt : j < n
    · have hx := div_pow_bd v j hv
      have hds := div_pow_succ v j
      have hset := lowRow_set n j v hlt
      have hlen : (lowRow n j v).length = n := by simp [lowRow, beI_length]; omega
      obtain ⟨d, hd⟩ : ∃ d : Nat, (n : Int) - 1 - j = d ∧ d = n - 1 - j := ⟨n - 1 - j, by omega, rfl⟩
      obtain ⟨hd1, hd2⟩ := hd
      obtain ⟨x, hxe⟩ : ∃ x, v / 256 ^ j = x := ⟨_, rfl⟩
      rw [hxe] at hx hds hset
      have hc := hB.c d (.int .u8 ((lowRow n j v).getD d 0)) (by simp [List.getD, List.getElem?_eq_getElem (show d < (lowRow n j v).length by omega)])
      have hf := hB.fz d
      have Hset := Lib.hid hset
      have Hds := Lib.hid hds
      have Hd2 := Lib.hid hd2
      have Hlen := Lib.hid hlen
      have hdl : d < n := by omega
      have hdn : (d : Int) ≤ 1000000 := by omega
      obtain ⟨x0, x1⟩ := hx
      rw [hxe, hd1]
      have Hd1 := Lib.hid hd1
      clear hset hds hd2 hd1 hxe hlen
      go_wp2
      go_roundw
      case rel =>
        refine ⟨j + 1, by omega, by rw [← Hds.out], by have := Hd1.out; congr 1; omega, ?_, hF.setNew (Nat.le_refl _) _⟩
        have := hB.set d (.int .u8 (x % 256))
        rw [cells_set, show (lowRow n j v).set d (x % 256) = lowRow n (j + 1) v from by rw [Hd2.out]; exact Hset.out] at this
        exact this
      case measure => (simp [intOf]) <;> omega
    · have : j = n := by omega
      subst this
      have e : lowRow j j v = beI j v := by simp [lowRow]
      rw [e] at hB
      have hcv := run_str (P := Tryz.prog) (cap := j) Tryz.underlying383 Tryz.underlying5 Tryz.underlying9 (beI j v) hB j (beI_length j v).symm
      rw [show ((j : Int) - 1 - j) = -1 from by omega]
      clear e
      go_wp2
      go_ret
      exact ⟨rstr (be_bytesOf j v).symm, hF⟩

theorem rtwo_any (v : Int) (w : World) (hv : -9223372036854775808 ≤ v ∧ v ≤ 9223372036854775807) :
    Calls Tryz.prog 296 #[.int .i64 v] w fun e w' => e = .returned (.string (B (be 2 v))) ∧ Fr [] w w' := by
  go_enter Tryz.func296, Tryz.ntmps296
  go_wp2_with fail
  refine (low_any v 2 w hv (by omega)).mono ?_
  rintro e w1 ⟨rfl, hF⟩
  go_wp2
  go_ret
  exact ⟨rfl, hF⟩

end Go.Proofs.YtfchbppfbepelaaGreat
