/- addresses compared. -/
import Derived.Test.YtnenmgankgadcaaPoolKey
import Derived.ChangeKeysEq
namespace Go.Proofs.Ytnenmgankgadcaa
open Go.RowKit Go.Maps
set_option linter.unusedVariables false
theorem infoOne : (Try.prog.info? 5).map (·.size) = some 1 := by kernel_rfl
theorem eqByte (x y : Int) (w : World) : (Op.equalIn 9999 5 (.int .u8 x) (.int .u8 y)).run Try.prog w = .ok (x == y) w := by
  have := run_equalIn_int (P := Try.prog) w 9998 5 .u8 .u8 x y Try.underlying5
  simpa using this
def adEq (x y : Ad) : Bool := decide (x = y)
theorem eq_ad (x y : Ad) (w : World) : (Op.equalIn 10000 23 (.agg (adC x)) (.agg (adC y))).run Try.prog w = .ok (adEq x y) w := by
  obtain ⟨i, hi⟩ : ∃ i, Try.prog.info? 5 = some i := by
    have := infoOne
    cases h : Try.prog.info? 5 with
    | none => rw [h] at this; simp at this
    | some i => exact ⟨i, rfl⟩
  have hc : Try.prog.cellsOf 5 = 1 := by kernel_rfl
  obtain ⟨a, b, c, d⟩ := x
  obtain ⟨a', b', c', d'⟩ := y
  have hp : ∀ (v : Ad) (j : Nat) (z : Int), (adC v)[j]? = some (.int .u8 z) → (part 5 (adC v) j).run Try.prog w = .ok (.int .u8 z) w := fun v j z hz =>
    run_part_plain (P := Try.prog) w (by kernel_rfl) hz
  rw [run_equalIn_array w 9999 _ _ Try.underlying23 hi, hc]
  have e : adEq (a, b, c, d) (a', b', c', d') = ((a == a') && ((b == b') && ((c == c') && (d == d')))) := by
    unfold adEq
    rw [Bool.eq_iff_iff]
    simp
  rw [e, show List.range 4 = [0, 1, 2, 3] from rfl]
  simp only [Op.eqItems, Nat.mul_one, Sem.run_bind, hp _ 0 _ rfl, Result.andThen_ok, eqByte]
  have h1 := hp (a, b, c, d) 1 b rfl
  have h2 := hp (a, b, c, d) 2 c rfl
  have h3 := hp (a, b, c, d) 3 d rfl
  have k1 := hp (a', b', c', d') 1 b' rfl
  have k2 := hp (a', b', c', d') 2 c' rfl
  have k3 := hp (a', b', c', d') 3 d' rfl
  cases (a == a') <;> cases hb : (b == b') <;> cases hc : (c == c') <;> cases hd : (d == d') <;> simp [h1, h2, h3, k1, k2, k3, eqByte, hb, hc, hd, Result.andThen]
end Go.Proofs.Ytnenmgankgadcaa
