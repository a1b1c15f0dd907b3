/- The first call's answers. -/
import Derived.Test.YtgeoldcddfmgnaaSame
import Derived.Test.YtgeoldcddfmgnaaRot
namespace Go.Proofs.Ytgeoldcddfmgnaa
open Go.RowKit
set_option linter.unusedVariables false

theorem al2_rot : rotI 4 2147483649 = 24 := by decide +kernel
theorem al2_md5 : md5 [] = [212, 29, 140, 217, 143, 0, 178, 4, 233, 128, 9, 152, 236, 248, 66, 126] := by decide +kernel

set_option maxHeartbeats 1000000 in
theorem alive2 (w : World) : Calls Try.prog 15 #[] w fun e w' => e = .returned (.bool true) ∧ Fr [] w w' := by
  go_enter Try.func15, Try.ntmps15
  go_wp2_with fail
  refine (rotate_i 2147483649 4 w (by omega) (by omega)).mono ?_
  rw [al2_rot]
  rintro e w1 ⟨rfl, rfl⟩
  go_wp2_with fail
  refine (md5_any [] _ (by simp)).mono ?_
  rintro e w1 ⟨rfl, hF1⟩
  go_wp2_with fail
  refine (text_any (md5 []) _ (md5_length _)).mono ?_
  rw [al2_md5]
  rintro e w2 ⟨rfl, hF2⟩
  go_wp2_with fail
  refine (same_b [97] [97] _ (by simp) (by simp)).mono ?_
  rw [sameB_eq rfl]
  rintro e w3 ⟨rfl, n3, rfl⟩
  go_wp2_with fail
  refine (same_b [97] [98] _ (by simp) (by simp)).mono ?_
  rw [sameB_ne (by decide)]
  rintro e w3 ⟨rfl, n4, rfl⟩
  go_wp2
  go_ret
  exact ⟨rfl, (hF1.trans hF2).drewN _⟩
end Go.Proofs.Ytgeoldcddfmgnaa
