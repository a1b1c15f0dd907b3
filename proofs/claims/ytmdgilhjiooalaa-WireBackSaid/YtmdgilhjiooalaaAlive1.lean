import Derived.Test.YtmdgilhjiooalaaPpp
import Derived.Test.YtmdgilhjiooalaaHex
namespace Go.Proofs.Ytmdgilhjiooalaa
open Go.RowKit
set_option linter.unusedVariables false

theorem al1 : be 2 258 = [1, 2] := by decide +kernel
theorem al2 : getV [1, 2] 0 2 = 258 := by decide +kernel
theorem al3 : pppE [192, 33, 120] = 0 := by decide +kernel
theorem al4 : pppV [192, 33, 120] = 49185 := by decide +kernel
theorem al5 : pppL [192, 33, 120] = [120] := by decide +kernel
theorem al6 : fcs [49, 50, 51, 52, 53, 54, 55, 56, 57] = 36974 := by decide +kernel
theorem al7 : bytesOf (hexL [15, 160]) = [48, 102, 97, 48] := by decide +kernel

theorem alive1 (w : World) : Calls Try.prog 14 #[] w fun e w' => e = .returned (.bool true) ∧ Fr [] w w' := by
  go_enter Try.func14, Try.ntmps14
  go_wp2_with fail
  refine (put_2 258 w (by omega) (by omega)).mono ?_
  rw [al1]
  rintro e w1 ⟨rfl, hF1⟩
  go_wp2_with fail
  refine (get_2 [1, 2] 0 w1 (by simp) (by simp)).mono ?_
  rw [al2]
  rintro e w2 ⟨rfl, rfl⟩
  go_wp2_with fail
  refine (getppp_any [192, 33, 120] w1 (by simp)).mono ?_
  rw [al3, al4, al5]
  rintro e w3 ⟨rfl, hF3⟩
  go_wp2_with fail
  refine (fcs_any [49, 50, 51, 52, 53, 54, 55, 56, 57] w3 (by simp)).mono ?_
  rw [al6]
  rintro e w4 ⟨rfl, rfl⟩
  go_wp2_with fail
  refine (hex_any [15, 160] w3 (by simp)).mono ?_
  rw [al7]
  rintro e w5 ⟨rfl, hF5⟩
  go_wp2
  go_ret
  exact ⟨rfl, (hF1.trans hF3).trans hF5⟩
end Go.Proofs.Ytmdgilhjiooalaa
