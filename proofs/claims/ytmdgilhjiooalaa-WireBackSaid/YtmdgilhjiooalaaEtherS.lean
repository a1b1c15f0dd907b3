/- A frame too short. -/
import Derived.Test.YtmdgilhjiooalaaGram2
namespace Go.Proofs.Ytmdgilhjiooalaa
open Go.RowKit
set_option linter.unusedVariables false

def eth0 : Value := .agg #[.int .u8 0, .int .u8 0, .int .u8 0, .int .u8 0, .int .u8 0, .int .u8 0, .int .u8 0, .int .u8 0, .int .u8 0, .int .u8 0, .int .u8 0, .int .u8 0, .int .i64 0, .string ⟨#[]⟩]
theorem getether_short (l : List UInt8) (w : World) (hl : l.length < 14) :
    Calls Try.prog 34 #[.string (B l)] w fun e w' => e = .returned (.tuple #[eth0, .int .i64 5]) ∧ Fr [] w w' := by
  have h1 : (l.length : Int) < 14 := by omega
  unfold eth0
  go_enter Try.func34, Try.ntmps34
  go_wp2
  refine bodyPost_ret (v := .tuple #[.agg #[.int .u8 0, .int .u8 0, .int .u8 0, .int .u8 0, .int .u8 0, .int .u8 0, .int .u8 0, .int .u8 0, .int .u8 0, .int .u8 0, .int .u8 0, .int .u8 0, .int .i64 0, .string ⟨#[]⟩], .int .i64 5]) (by simp [results, Try.results34, go_sem]) rfl ?_
  exact ⟨rfl, (Fr.refl _ _).alloc _⟩
end Go.Proofs.Ytmdgilhjiooalaa
