/- the nil host: State. -/
import Derived.Test.YtcdencpkgfehlaaHost7
namespace Go.Proofs.Ytcdencpkgfehlaa
open Go.RowKit
set_option linter.unusedVariables false
section
variable {w : World}
set_option maxRecDepth 100000 in
theorem state_nil : Calls Try.prog 16 #[.pointer none] w fun e w' => e = .returned (.tuple #[.int .i64 0, .agg (mcL mc0).toArray, .int .i64 0]) ∧ Fr [] w w' := by
  go_enter Try.func16, Try.ntmps16
  go_wp2_with fail
  refine hnone_nil.mono ?_
  rintro e w1 ⟨rfl, rfl⟩
  go_wp2_with fail
  exact ret_cell3 2 3 4 28 rfl _ 28 #[.int .u8 0, .int .u8 0, .int .u8 0, .int .u8 0, .int .u8 0, .int .u8 0] _ (Blk.new w _ _) rfl Try.underlying28 rfl (by kernel_rfl) rfl ⟨rfl, (Fr.refl _ _).alloc _⟩
end
end Go.Proofs.Ytcdencpkgfehlaa
