/- host: Frame of a nil host. -/
import Derived.Test.YtcdencpkgfehlaaHost9
namespace Go.Proofs.Ytcdencpkgfehlaa
open Go.RowKit
set_option linter.unusedVariables false
section
variable {w : World}
set_option maxRecDepth 100000 in
theorem frame_nil : Calls Try.prog 21 #[.pointer none, .string ⟨#[]⟩] w fun e w' => e = .returned (.tuple #[.agg #[.int .u8 0, .int .u8 0, .int .u8 0, .int .u8 0, .int .u8 0, .int .u8 0, .int .u8 0, .int .u8 0, .int .u8 0, .int .u8 0, .int .u8 0, .int .u8 0, .int .i64 0, .string ⟨#[]⟩], .int .i64 1]) ∧ Fr [] w w' := by
  have hF := (Fr.refl [] w).alloc (.cells #[.int .u8 0, .int .u8 0, .int .u8 0, .int .u8 0, .int .u8 0, .int .u8 0, .int .u8 0, .int .u8 0, .int .u8 0, .int .u8 0, .int .u8 0, .int .u8 0, .int .i64 0, .string ⟨#[]⟩] 35 (0, 0))
  have hN := Blk.new w #[.int .u8 0, .int .u8 0, .int .u8 0, .int .u8 0, .int .u8 0, .int .u8 0, .int .u8 0, .int .u8 0, .int .u8 0, .int .u8 0, .int .u8 0, .int .u8 0, .int .i64 0, .string ⟨#[]⟩] 35
  go_enter Try.func21, Try.ntmps21
  go_wp2_with fail
  refine hnone_nil.mono ?_
  rintro e w1 ⟨rfl, rfl⟩
  go_wp2_with fail
  exact ret_cell2 4 5 35 rfl w.heap.size 35 _ _ hN rfl Try.underlying35 rfl (by kernel_rfl) rfl ⟨rfl, hF⟩
end
end Go.Proofs.Ytcdencpkgfehlaa
