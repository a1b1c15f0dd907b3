/- The first call's answers, chapter 6. -/
import Derived.Test.YtgeoldcddfmgnaaRCheck
namespace Go.Proofs.Ytgeoldcddfmgnaa
open Go.RowKit
set_option linter.unusedVariables false
attribute [local go_sem ↓] Go.wp_at_zero Go.wp_at_succ

theorem al6_bad : (sameB (md5 (cookL 1 [1, 0, 0, 0, 0, 0] [120] [115])) (md5 (cookL (192 / 64 - 1) [1, 0, 0, 0, 0, 0] [120] [115])) || sameB (md5 (cookL 1 [1, 0, 0, 0, 0, 0] [120] [115])) (md5 (cookL (192 / 64) [1, 0, 0, 0, 0, 0] [120] [115]))) = false := by decide +kernel
theorem al6_good2 : (sameB (md5 (cookL 1 [1, 0, 0, 0, 0, 0] [120] [115])) (md5 (cookL (191 / 64 - 1) [1, 0, 0, 0, 0, 0] [120] [115])) || sameB (md5 (cookL 1 [1, 0, 0, 0, 0, 0] [120] [115])) (md5 (cookL (191 / 64) [1, 0, 0, 0, 0, 0] [120] [115]))) = true := by decide +kernel

set_option maxHeartbeats 1000000 in
theorem alive6 (w : World) : Calls Try.prog 25 #[] w fun e w' => e = .returned (.bool true) ∧ Fr [] w w' := by
  have hgood := al6_good2
  have hbad := al6_bad
  have h16 := md5_length (cookL 1 [1, 0, 0, 0, 0, 0] [120] [115])
  have e1 : (100 : Int) / 64 = 1 := by decide
  obtain ⟨C, hC⟩ : ∃ C, md5 (cookL 1 [1, 0, 0, 0, 0, 0] [120] [115]) = C := ⟨_, rfl⟩
  rw [hC] at hgood hbad h16
  have lC : C.length ≤ 40000 := by omega
  have l16 : (C.length : Int) = 16 := by omega
  have Hgood := Lib.hid hgood
  have Hbad := Lib.hid hbad
  have HC := Lib.hid hC
  clear hgood hbad hC h16
  go_enter Try.func25, Try.ntmps25
  go_wp2_with fail
  refine (make_any [115] 1 0 0 0 0 0 [120] 100 _ (by omega) (by omega) (by simp) (by simp)).mono ?_
  rw [e1, HC.out]
  rintro e w1 ⟨rfl, hF1⟩
  go_wp2_with fail
  refine (epoch_any (-1) _ (by omega) (by omega)).mono ?_
  rintro e w2 ⟨rfl, rfl⟩
  go_wp2_with fail
  refine (epoch_any 64 _ (by omega) (by omega)).mono ?_
  rintro e w3 ⟨rfl, rfl⟩
  go_wp2_with fail
  refine (check_any [115] 1 0 0 0 0 0 [120] C 191 _ (by omega) (by omega) (by simp) (by simp) lC).mono ?_
  rw [Hgood.out]
  rintro e w4 ⟨rfl, hF4⟩
  go_wp2_with fail
  refine (check_any [115] 1 0 0 0 0 0 [120] C 192 _ (by omega) (by omega) (by simp) (by simp) lC).mono ?_
  rw [Hbad.out]
  rintro e w5 ⟨rfl, hF5⟩
  go_wp2
  go_ret
  exact ⟨rfl, (hF1.trans hF4).trans hF5⟩
end Go.Proofs.Ytgeoldcddfmgnaa
