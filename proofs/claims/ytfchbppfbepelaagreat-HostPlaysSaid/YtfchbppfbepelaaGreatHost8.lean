/- the nil host: State. -/
import Derived.Test.YtfchbppfbepelaaGreatHost7
namespace Go.Proofs.YtfchbppfbepelaaGreat
open Go.RowKit
set_option linter.unusedVariables false
section
variable {w : World}
set_option maxRecDepth 100000 in
theorem state_nil : Calls Tryz.prog 63 #[.pointer none] w fun e w' => e = .returned (.tuple #[.int .i64 0, .agg (mcL mc0).toArray, .int .i64 0]) ∧ Fr [] w w' := by
  go_enter Tryz.func63, Tryz.ntmps63
  go_wp2_with fail
  refine hnone_nil.mono ?_
  rintro e w1 ⟨rfl, rfl⟩
  go_wp2_with fail
  exact ret_cell3 2 3 4 104 rfl _ 104 #[.int .u8 0, .int .u8 0, .int .u8 0, .int .u8 0, .int .u8 0, .int .u8 0] _ (Blk.new w _ _) rfl Tryz.underlying104 rfl (by kernel_rfl) rfl ⟨rfl, (Fr.refl _ _).alloc _⟩
end
end Go.Proofs.YtfchbppfbepelaaGreat
