/- Turning, the tables and the mixing of a step: the program's and the document's. -/
import Derived.Test.YtfchbppfbepelaaGreatDgLaw
namespace Go.Proofs.YtfchbppfbepelaaGreat
open Go.RowKit
set_option linter.unusedVariables false

theorem and31 (n : Int) : bits .and .i64 n 31 = n % 32 := by
  show IntKind.i64.wrap ((BitVec.ofInt 64 n &&& BitVec.ofInt 64 31).toNat : Int) = _
  have h31 : (BitVec.ofInt 64 31).toNat = 2 ^ 5 - 1 := by decide
  rw [BitVec.toNat_and, h31, Nat.and_two_pow_sub_one_eq_mod, BitVec.toNat_ofInt, IntKind.wrap_i64]
  simp only [Nat.reducePow]
  omega
theorem u64_in (n : Int) (h0 : 0 ≤ n) (h1 : n < 18446744073709551616) : IntKind.u64.wrap n = n := by rw [IntKind.wrap_u64]; omega

theorem rotate_any (x : Nat) (n : Int) (w : World) (hx : x < 4294967296) :
    Calls Tryz.prog 350 #[.int .u32 x, .int .i64 n] w fun e w' => e = .returned (.int .u32 (rotN (n % 32).toNat x : Nat)) ∧ w = w' := by
  go_enter Tryz.func350, Tryz.ntmps350
  go_wp2
  go_ret
  refine ⟨rint ?_, rfl⟩
  obtain ⟨k, hk⟩ : ∃ k : Nat, n % 32 = k := ⟨(n % 32).toNat, by omega⟩
  have h31 : k ≤ 31 := by omega
  have e1 : IntKind.u64.wrap (k : Int) = (k : Int) := u64_in _ (by omega) (by omega)
  have e2 : IntKind.u64.wrap (32 - (k : Int)) = ((32 - k : Nat) : Int) := by rw [u64_in _ (by omega) (by omega)]; omega
  rw [and31, hk, e1, e2, Int.toNat_natCast, Int.toNat_natCast, Nat.min_eq_left (by omega), Nat.min_eq_left (by omega), ← rot_or k x h31 hx]
  have h := (bits_nat .u32 32 (by decide) (fun n h0 h1 => by rw [IntKind.wrap_u32]; simp only [Int.reducePow] at h1; omega) (x * 2 ^ k % 4294967296) (x / 2 ^ (32 - k)) (Nat.mod_lt _ (by decide)) (Nat.lt_of_le_of_lt (Nat.div_le_self _ _) hx)).2
  rw [← h]
  congr 1

def rotI (n X : Int) : Int := ((rotN (n % 32).toNat X.toNat : Nat) : Int)
theorem rotI_bd (n X : Int) (h0 : 0 ≤ X) (h1 : X < 4294967296) : 0 ≤ rotI n X ∧ rotI n X < 4294967296 := by
  have := rotN_lt (n % 32).toNat (show X.toNat < 4294967296 by omega)
  unfold rotI; omega
theorem rotate_i (X n : Int) (w : World) (x0 : 0 ≤ X) (x1 : X < 4294967296) :
    Calls Tryz.prog 350 #[.int .u32 X, .int .i64 n] w fun e w' => e = .returned (.int .u32 (rotI n X)) ∧ w = w' := by
  obtain ⟨x, rfl⟩ : ∃ k : Nat, X = k := ⟨X.toNat, by omega⟩
  unfold rotI
  rw [Int.toNat_natCast]
  exact rotate_any x n w (by omega)
theorem rotI_tmod (n r X : Int) (h : n % 32 = r % 32) : rotI n X = rotI r X := by unfold rotI; rw [h]

end Go.Proofs.YtfchbppfbepelaaGreat
