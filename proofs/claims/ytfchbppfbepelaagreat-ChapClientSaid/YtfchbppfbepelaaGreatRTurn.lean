/- The document's turning. -/
import Derived.Test.YtfchbppfbepelaaGreatRot
namespace Go.Proofs.YtfchbppfbepelaaGreat
open Go.RowKit
set_option linter.unusedVariables false
theorem rturn_any (x n : Nat) (w : World) (hx : x < 4294967296) (hn : n ≤ 1000) :
    Calls Tryz.prog 322 #[.int .i64 x, .int .i64 n] w fun e w' => e = .returned (.int .i64 (rotN n x : Nat)) ∧ w = w' := by
  go_enter Tryz.func322, Tryz.ntmps322
  go_wp2
  go_loop [0, 5] (fun xv iv => ∃ i : Nat, i ≤ n ∧ iv = .int .i64 i ∧ xv = .int .i64 (rotN i x : Nat)) (fun _ iv => n - (intOf iv).toNat)
  case atStart => exact ⟨0, Nat.zero_le _, rfl, rfl⟩
  case round =>
    obtain ⟨i, hi, rfl, rfl⟩ := hrel
    have hs : rotN (i + 1) x = rot1 (rotN i x) := rfl
    obtain ⟨y, hy⟩ : ∃ y, rotN i x = y := ⟨_, rfl⟩
    have hy32 : y < 4294967296 := hy ▸ rotN_lt i hx
    rw [hy] at hs ⊢
    have Hs := Lib.hid hs
    clear hs hx
    by_cases hlt : i < n
    · clear hy
      have hy' : (y : Int) < 4294967296 := by omega
      clear hy32
      go_wp2
      go_round
      case rel => exact ⟨i + 1, by omega, by go_num, by rw [Hs.out]; unfold rot1; go_num⟩
      case measure => (simp [intOf]) <;> omega
    · have : i = n := by omega
      subst this
      have Hy := Lib.hid hy
      clear hy hy32
      go_wp2
      go_ret
      exact ⟨rint (by rw [Hy.out]), rfl⟩

theorem rturn_i (X n : Int) (w : World) (x0 : 0 ≤ X) (x1 : X < 4294967296) (h0 : 0 ≤ n) (h1 : n < 32) :
    Calls Tryz.prog 322 #[.int .i64 X, .int .i64 n] w fun e w' => e = .returned (.int .i64 (rotI n X)) ∧ w = w' := by
  obtain ⟨k, rfl⟩ : ∃ k : Nat, n = k := ⟨n.toNat, by omega⟩
  obtain ⟨x, rfl⟩ : ∃ k : Nat, X = k := ⟨X.toNat, by omega⟩
  have e : rotI k x = (rotN k x : Nat) := by unfold rotI; rw [Int.toNat_natCast, show ((k : Int) % 32).toNat = k from by omega]
  rw [e]
  exact rturn_any x k w (by omega) (by omega)
end Go.Proofs.YtfchbppfbepelaaGreat
