/- CookieLasts, walked. Printed by tools/gen_lawc3.py. -/
import Derived.Test.YtgeoldcddfmgnaaLawC1
namespace Go.Proofs.Ytgeoldcddfmgnaa
open Go.RowKit
set_option linter.unusedVariables false
attribute [local go_sem ↓] Go.wp_at_zero Go.wp_at_succ

set_option maxHeartbeats 4000000 in
/-- Up to 64 ticks on. -/
theorem lasts_soon (w : World) (s : List UInt8) (m0 m1 m2 m3 m4 m5 : Int) (v : List UInt8) (t k : Int) (h1 : ¬ (3000 : Int) < (s.length : Int) + v.length) (h2 : ¬ 1152921504606846976 < t) (h3 : ¬ t < -1152921504606846976) (h4 : ¬ k < 0) (h5 : ¬ 1125899906842624 < k)
    (A0 Aa : Int) (D0 Da Db : List UInt8) (b : Bool) (M0 : ∀ W, Calls Try.prog 26 #[.string (B s), .agg #[.int .u8 m0, .int .u8 m1, .int .u8 m2, .int .u8 m3, .int .u8 m4, .int .u8 m5], .string (B v), .int .i64 t] W fun r w' => r = .returned (.string (B D0)) ∧ Fr [] W w') (Ma : ∀ W, Calls Try.prog 26 #[.string (B s), .agg #[.int .u8 m0, .int .u8 m1, .int .u8 m2, .int .u8 m3, .int .u8 m4, .int .u8 m5], .string (B v), .int .i64 (t + k)] W fun r w' => r = .returned (.string (B Da)) ∧ Fr [] W w') (Mb : ∀ W, Calls Try.prog 26 #[.string (B s), .agg #[.int .u8 m0, .int .u8 m1, .int .u8 m2, .int .u8 m3, .int .u8 m4, .int .u8 m5], .string (B v), .int .i64 (t + k - 64)] W fun r w' => r = .returned (.string (B Db)) ∧ Fr [] W w') (K : ∀ W, Calls Try.prog 28 #[.string (B s), .agg #[.int .u8 m0, .int .u8 m1, .int .u8 m2, .int .u8 m3, .int .u8 m4, .int .u8 m5], .string (B v), .string (B D0), .int .i64 (t + k)] W fun r w' => r = .returned (.bool b) ∧ Fr [] W w') (E0 : ∀ W, Calls Try.prog 30 #[.int .i64 t] W fun r w' => r = .returned (.int .i64 A0) ∧ W = w') (Ea : ∀ W, Calls Try.prog 30 #[.int .i64 (t + k)] W fun r w' => r = .returned (.int .i64 Aa) ∧ W = w') (hA0 : -9223372036854775808 ≤ A0 + 1) (hA1 : A0 + 1 ≤ 9223372036854775807) (h6 : k ≤ 64) (hb : b = true) :
    Calls Try.prog 9 #[.string (B s), .agg #[.int .u8 m0, .int .u8 m1, .int .u8 m2, .int .u8 m3, .int .u8 m4, .int .u8 m5], .string (B v), .int .i64 t, .int .i64 k] w fun e w' => e = .returned (.bool true) ∧ Below w.heap.size w w' := by
  have hw1 : IntKind.i64.wrap (t + k) = t + k := IntWalk.i64_in _ (by omega)
  have hw2 : IntKind.i64.wrap (t + k - 64) = t + k - 64 := IntWalk.i64_in _ (by omega)
  have hw3 : IntKind.i64.wrap (A0 + 1) = A0 + 1 := IntWalk.i64_in _ (by omega)
  subst hb
  have M0' := Lib.hid M0
  have Ma' := Lib.hid Ma
  have Mb' := Lib.hid Mb
  have K' := Lib.hid K
  have E0' := Lib.hid E0
  have Ea' := Lib.hid Ea
  clear M0 Ma Mb K E0 Ea
  go_enter Try.func9, Try.ntmps9
  go_wp2_with fail
  (with_reducible refine (M0'.out _).mono ?_)
  rintro e w1 ⟨rfl, hF1⟩
  have hB1 : Blk w1 w.heap.size #[.int .u8 m0, .int .u8 m1, .int .u8 m2, .int .u8 m3, .int .u8 m4, .int .u8 m5] 35 := hF1.blk (Blk.new _ _ _) (by simp)
  have hFa : Fr [] w w1 := ((Fr.refl _ _).alloc _).trans hF1
  obtain ⟨c0, c1, c2, c3, c4, c5, _, _⟩ := CkS.mk hB1 hFa
  go_wp2_with fail
  (with_reducible refine (K'.out _).mono ?_)
  rintro e w2 ⟨rfl, hF2⟩
  have hB : Blk w2 w.heap.size #[.int .u8 m0, .int .u8 m1, .int .u8 m2, .int .u8 m3, .int .u8 m4, .int .u8 m5] 35 := hF2.blk hB1 (by simp)
  have hF : Fr [] w w2 := hFa.trans hF2
  clear c0 c1 c2 c3 c4 c5 hF1 hF2 hB1 hFa M0' K'
  go_wp2_with fail
  (with_reducible refine (alive6 _).mono ?_)
  rintro r w3 ⟨rfl, hF3⟩
  have hB := hF3.blk hB (by simp)
  have hF := hF.trans hF3
  clear hF3
  obtain ⟨c0, c1, c2, c3, c4, c5, _, _⟩ := CkS.mk hB hF
  go_wp2_with fail
  go_ret
  exact ⟨rfl, hF.below (Nat.le_refl _) (by simp)⟩

set_option maxHeartbeats 4000000 in
/-- 128 ticks on, the first digest is the same. -/
theorem lasts_far_like (w : World) (s : List UInt8) (m0 m1 m2 m3 m4 m5 : Int) (v : List UInt8) (t k : Int) (h1 : ¬ (3000 : Int) < (s.length : Int) + v.length) (h2 : ¬ 1152921504606846976 < t) (h3 : ¬ t < -1152921504606846976) (h4 : ¬ k < 0) (h5 : ¬ 1125899906842624 < k)
    (A0 Aa : Int) (D0 Da Db : List UInt8) (b : Bool) (M0 : ∀ W, Calls Try.prog 26 #[.string (B s), .agg #[.int .u8 m0, .int .u8 m1, .int .u8 m2, .int .u8 m3, .int .u8 m4, .int .u8 m5], .string (B v), .int .i64 t] W fun r w' => r = .returned (.string (B D0)) ∧ Fr [] W w') (Ma : ∀ W, Calls Try.prog 26 #[.string (B s), .agg #[.int .u8 m0, .int .u8 m1, .int .u8 m2, .int .u8 m3, .int .u8 m4, .int .u8 m5], .string (B v), .int .i64 (t + k)] W fun r w' => r = .returned (.string (B Da)) ∧ Fr [] W w') (Mb : ∀ W, Calls Try.prog 26 #[.string (B s), .agg #[.int .u8 m0, .int .u8 m1, .int .u8 m2, .int .u8 m3, .int .u8 m4, .int .u8 m5], .string (B v), .int .i64 (t + k - 64)] W fun r w' => r = .returned (.string (B Db)) ∧ Fr [] W w') (K : ∀ W, Calls Try.prog 28 #[.string (B s), .agg #[.int .u8 m0, .int .u8 m1, .int .u8 m2, .int .u8 m3, .int .u8 m4, .int .u8 m5], .string (B v), .string (B D0), .int .i64 (t + k)] W fun r w' => r = .returned (.bool b) ∧ Fr [] W w') (E0 : ∀ W, Calls Try.prog 30 #[.int .i64 t] W fun r w' => r = .returned (.int .i64 A0) ∧ W = w') (Ea : ∀ W, Calls Try.prog 30 #[.int .i64 (t + k)] W fun r w' => r = .returned (.int .i64 Aa) ∧ W = w') (hA0 : -9223372036854775808 ≤ A0 + 1) (hA1 : A0 + 1 ≤ 9223372036854775807) (h6 : ¬ k ≤ 64) (h7 : 128 ≤ k) (hb : b = true) (hx : (D0 == Da) = true) :
    Calls Try.prog 9 #[.string (B s), .agg #[.int .u8 m0, .int .u8 m1, .int .u8 m2, .int .u8 m3, .int .u8 m4, .int .u8 m5], .string (B v), .int .i64 t, .int .i64 k] w fun e w' => e = .returned (.bool true) ∧ Below w.heap.size w w' := by
  have hw1 : IntKind.i64.wrap (t + k) = t + k := IntWalk.i64_in _ (by omega)
  have hw2 : IntKind.i64.wrap (t + k - 64) = t + k - 64 := IntWalk.i64_in _ (by omega)
  have hw3 : IntKind.i64.wrap (A0 + 1) = A0 + 1 := IntWalk.i64_in _ (by omega)
  subst hb
  have M0' := Lib.hid M0
  have Ma' := Lib.hid Ma
  have Mb' := Lib.hid Mb
  have K' := Lib.hid K
  have E0' := Lib.hid E0
  have Ea' := Lib.hid Ea
  clear M0 Ma Mb K E0 Ea
  go_enter Try.func9, Try.ntmps9
  go_wp2_with fail
  (with_reducible refine (M0'.out _).mono ?_)
  rintro e w1 ⟨rfl, hF1⟩
  have hB1 : Blk w1 w.heap.size #[.int .u8 m0, .int .u8 m1, .int .u8 m2, .int .u8 m3, .int .u8 m4, .int .u8 m5] 35 := hF1.blk (Blk.new _ _ _) (by simp)
  have hFa : Fr [] w w1 := ((Fr.refl _ _).alloc _).trans hF1
  obtain ⟨c0, c1, c2, c3, c4, c5, _, _⟩ := CkS.mk hB1 hFa
  go_wp2_with fail
  (with_reducible refine (K'.out _).mono ?_)
  rintro e w2 ⟨rfl, hF2⟩
  have hB : Blk w2 w.heap.size #[.int .u8 m0, .int .u8 m1, .int .u8 m2, .int .u8 m3, .int .u8 m4, .int .u8 m5] 35 := hF2.blk hB1 (by simp)
  have hF : Fr [] w w2 := hFa.trans hF2
  clear c0 c1 c2 c3 c4 c5 hF1 hF2 hB1 hFa M0' K'
  go_wp2_with fail
  (with_reducible refine (alive6 _).mono ?_)
  rintro r w3 ⟨rfl, hF3⟩
  have hB := hF3.blk hB (by simp)
  have hF := hF.trans hF3
  clear hF3
  obtain ⟨c0, c1, c2, c3, c4, c5, _, _⟩ := CkS.mk hB hF
  go_wp2_with fail
  (with_reducible refine (Ma'.out _).mono ?_)
  rintro r w3 ⟨rfl, hF3⟩
  have hB := hF3.blk hB (by simp)
  have hF := hF.trans hF3
  clear hF3
  obtain ⟨c0, c1, c2, c3, c4, c5, _, _⟩ := CkS.mk hB hF
  go_wp2_with fail
  go_ret
  exact ⟨rfl, hF.below (Nat.le_refl _) (by simp)⟩

set_option maxHeartbeats 4000000 in
/-- 128 ticks on, the first digest is another. -/
theorem lasts_far_other (w : World) (s : List UInt8) (m0 m1 m2 m3 m4 m5 : Int) (v : List UInt8) (t k : Int) (h1 : ¬ (3000 : Int) < (s.length : Int) + v.length) (h2 : ¬ 1152921504606846976 < t) (h3 : ¬ t < -1152921504606846976) (h4 : ¬ k < 0) (h5 : ¬ 1125899906842624 < k)
    (A0 Aa : Int) (D0 Da Db : List UInt8) (b : Bool) (M0 : ∀ W, Calls Try.prog 26 #[.string (B s), .agg #[.int .u8 m0, .int .u8 m1, .int .u8 m2, .int .u8 m3, .int .u8 m4, .int .u8 m5], .string (B v), .int .i64 t] W fun r w' => r = .returned (.string (B D0)) ∧ Fr [] W w') (Ma : ∀ W, Calls Try.prog 26 #[.string (B s), .agg #[.int .u8 m0, .int .u8 m1, .int .u8 m2, .int .u8 m3, .int .u8 m4, .int .u8 m5], .string (B v), .int .i64 (t + k)] W fun r w' => r = .returned (.string (B Da)) ∧ Fr [] W w') (Mb : ∀ W, Calls Try.prog 26 #[.string (B s), .agg #[.int .u8 m0, .int .u8 m1, .int .u8 m2, .int .u8 m3, .int .u8 m4, .int .u8 m5], .string (B v), .int .i64 (t + k - 64)] W fun r w' => r = .returned (.string (B Db)) ∧ Fr [] W w') (K : ∀ W, Calls Try.prog 28 #[.string (B s), .agg #[.int .u8 m0, .int .u8 m1, .int .u8 m2, .int .u8 m3, .int .u8 m4, .int .u8 m5], .string (B v), .string (B D0), .int .i64 (t + k)] W fun r w' => r = .returned (.bool b) ∧ Fr [] W w') (E0 : ∀ W, Calls Try.prog 30 #[.int .i64 t] W fun r w' => r = .returned (.int .i64 A0) ∧ W = w') (Ea : ∀ W, Calls Try.prog 30 #[.int .i64 (t + k)] W fun r w' => r = .returned (.int .i64 Aa) ∧ W = w') (hA0 : -9223372036854775808 ≤ A0 + 1) (hA1 : A0 + 1 ≤ 9223372036854775807) (h6 : ¬ k ≤ 64) (h7 : 128 ≤ k) (hb : b = (D0 == Db)) (hx : (D0 == Da) = false) :
    Calls Try.prog 9 #[.string (B s), .agg #[.int .u8 m0, .int .u8 m1, .int .u8 m2, .int .u8 m3, .int .u8 m4, .int .u8 m5], .string (B v), .int .i64 t, .int .i64 k] w fun e w' => e = .returned (.bool true) ∧ Below w.heap.size w w' := by
  have hw1 : IntKind.i64.wrap (t + k) = t + k := IntWalk.i64_in _ (by omega)
  have hw2 : IntKind.i64.wrap (t + k - 64) = t + k - 64 := IntWalk.i64_in _ (by omega)
  have hw3 : IntKind.i64.wrap (A0 + 1) = A0 + 1 := IntWalk.i64_in _ (by omega)
  subst hb
  have M0' := Lib.hid M0
  have Ma' := Lib.hid Ma
  have Mb' := Lib.hid Mb
  have K' := Lib.hid K
  have E0' := Lib.hid E0
  have Ea' := Lib.hid Ea
  clear M0 Ma Mb K E0 Ea
  go_enter Try.func9, Try.ntmps9
  go_wp2_with fail
  (with_reducible refine (M0'.out _).mono ?_)
  rintro e w1 ⟨rfl, hF1⟩
  have hB1 : Blk w1 w.heap.size #[.int .u8 m0, .int .u8 m1, .int .u8 m2, .int .u8 m3, .int .u8 m4, .int .u8 m5] 35 := hF1.blk (Blk.new _ _ _) (by simp)
  have hFa : Fr [] w w1 := ((Fr.refl _ _).alloc _).trans hF1
  obtain ⟨c0, c1, c2, c3, c4, c5, _, _⟩ := CkS.mk hB1 hFa
  go_wp2_with fail
  (with_reducible refine (K'.out _).mono ?_)
  rintro e w2 ⟨rfl, hF2⟩
  have hB : Blk w2 w.heap.size #[.int .u8 m0, .int .u8 m1, .int .u8 m2, .int .u8 m3, .int .u8 m4, .int .u8 m5] 35 := hF2.blk hB1 (by simp)
  have hF : Fr [] w w2 := hFa.trans hF2
  clear c0 c1 c2 c3 c4 c5 hF1 hF2 hB1 hFa M0' K'
  go_wp2_with fail
  (with_reducible refine (alive6 _).mono ?_)
  rintro r w3 ⟨rfl, hF3⟩
  have hB := hF3.blk hB (by simp)
  have hF := hF.trans hF3
  clear hF3
  obtain ⟨c0, c1, c2, c3, c4, c5, _, _⟩ := CkS.mk hB hF
  go_wp2_with fail
  (with_reducible refine (Ma'.out _).mono ?_)
  rintro r w3 ⟨rfl, hF3⟩
  have hB := hF3.blk hB (by simp)
  have hF := hF.trans hF3
  clear hF3
  obtain ⟨c0, c1, c2, c3, c4, c5, _, _⟩ := CkS.mk hB hF
  go_wp2_with fail
  (with_reducible refine (Mb'.out _).mono ?_)
  rintro r w3 ⟨rfl, hF3⟩
  have hB := hF3.blk hB (by simp)
  have hF := hF.trans hF3
  clear hF3
  obtain ⟨c0, c1, c2, c3, c4, c5, _, _⟩ := CkS.mk hB hF
  go_wp2_with fail
  go_ret
  exact ⟨rfl, hF.below (Nat.le_refl _) (by simp)⟩

set_option maxHeartbeats 4000000 in
/-- Between, one epoch on. -/
theorem lasts_mid_next (w : World) (s : List UInt8) (m0 m1 m2 m3 m4 m5 : Int) (v : List UInt8) (t k : Int) (h1 : ¬ (3000 : Int) < (s.length : Int) + v.length) (h2 : ¬ 1152921504606846976 < t) (h3 : ¬ t < -1152921504606846976) (h4 : ¬ k < 0) (h5 : ¬ 1125899906842624 < k)
    (A0 Aa : Int) (D0 Da Db : List UInt8) (b : Bool) (M0 : ∀ W, Calls Try.prog 26 #[.string (B s), .agg #[.int .u8 m0, .int .u8 m1, .int .u8 m2, .int .u8 m3, .int .u8 m4, .int .u8 m5], .string (B v), .int .i64 t] W fun r w' => r = .returned (.string (B D0)) ∧ Fr [] W w') (Ma : ∀ W, Calls Try.prog 26 #[.string (B s), .agg #[.int .u8 m0, .int .u8 m1, .int .u8 m2, .int .u8 m3, .int .u8 m4, .int .u8 m5], .string (B v), .int .i64 (t + k)] W fun r w' => r = .returned (.string (B Da)) ∧ Fr [] W w') (Mb : ∀ W, Calls Try.prog 26 #[.string (B s), .agg #[.int .u8 m0, .int .u8 m1, .int .u8 m2, .int .u8 m3, .int .u8 m4, .int .u8 m5], .string (B v), .int .i64 (t + k - 64)] W fun r w' => r = .returned (.string (B Db)) ∧ Fr [] W w') (K : ∀ W, Calls Try.prog 28 #[.string (B s), .agg #[.int .u8 m0, .int .u8 m1, .int .u8 m2, .int .u8 m3, .int .u8 m4, .int .u8 m5], .string (B v), .string (B D0), .int .i64 (t + k)] W fun r w' => r = .returned (.bool b) ∧ Fr [] W w') (E0 : ∀ W, Calls Try.prog 30 #[.int .i64 t] W fun r w' => r = .returned (.int .i64 A0) ∧ W = w') (Ea : ∀ W, Calls Try.prog 30 #[.int .i64 (t + k)] W fun r w' => r = .returned (.int .i64 Aa) ∧ W = w') (hA0 : -9223372036854775808 ≤ A0 + 1) (hA1 : A0 + 1 ≤ 9223372036854775807) (h6 : ¬ k ≤ 64) (h7 : ¬ 128 ≤ k) (hb : b = true) (hx : Aa ≤ A0 + 1) :
    Calls Try.prog 9 #[.string (B s), .agg #[.int .u8 m0, .int .u8 m1, .int .u8 m2, .int .u8 m3, .int .u8 m4, .int .u8 m5], .string (B v), .int .i64 t, .int .i64 k] w fun e w' => e = .returned (.bool true) ∧ Below w.heap.size w w' := by
  have hw1 : IntKind.i64.wrap (t + k) = t + k := IntWalk.i64_in _ (by omega)
  have hw2 : IntKind.i64.wrap (t + k - 64) = t + k - 64 := IntWalk.i64_in _ (by omega)
  have hw3 : IntKind.i64.wrap (A0 + 1) = A0 + 1 := IntWalk.i64_in _ (by omega)
  subst hb
  have M0' := Lib.hid M0
  have Ma' := Lib.hid Ma
  have Mb' := Lib.hid Mb
  have K' := Lib.hid K
  have E0' := Lib.hid E0
  have Ea' := Lib.hid Ea
  clear M0 Ma Mb K E0 Ea
  go_enter Try.func9, Try.ntmps9
  go_wp2_with fail
  (with_reducible refine (M0'.out _).mono ?_)
  rintro e w1 ⟨rfl, hF1⟩
  have hB1 : Blk w1 w.heap.size #[.int .u8 m0, .int .u8 m1, .int .u8 m2, .int .u8 m3, .int .u8 m4, .int .u8 m5] 35 := hF1.blk (Blk.new _ _ _) (by simp)
  have hFa : Fr [] w w1 := ((Fr.refl _ _).alloc _).trans hF1
  obtain ⟨c0, c1, c2, c3, c4, c5, _, _⟩ := CkS.mk hB1 hFa
  go_wp2_with fail
  (with_reducible refine (K'.out _).mono ?_)
  rintro e w2 ⟨rfl, hF2⟩
  have hB : Blk w2 w.heap.size #[.int .u8 m0, .int .u8 m1, .int .u8 m2, .int .u8 m3, .int .u8 m4, .int .u8 m5] 35 := hF2.blk hB1 (by simp)
  have hF : Fr [] w w2 := hFa.trans hF2
  clear c0 c1 c2 c3 c4 c5 hF1 hF2 hB1 hFa M0' K'
  go_wp2_with fail
  (with_reducible refine (alive6 _).mono ?_)
  rintro r w3 ⟨rfl, hF3⟩
  have hB := hF3.blk hB (by simp)
  have hF := hF.trans hF3
  clear hF3
  obtain ⟨c0, c1, c2, c3, c4, c5, _, _⟩ := CkS.mk hB hF
  go_wp2_with fail
  (with_reducible refine (Ea'.out _).mono ?_)
  rintro r w3 ⟨rfl, rfl⟩
  go_wp2_with fail
  (with_reducible refine (E0'.out _).mono ?_)
  rintro r w3 ⟨rfl, rfl⟩
  go_wp2_with fail
  go_ret
  exact ⟨rfl, hF.below (Nat.le_refl _) (by simp)⟩

set_option maxHeartbeats 4000000 in
/-- Between, two epochs on, the first digest is the same. -/
theorem lasts_mid_like (w : World) (s : List UInt8) (m0 m1 m2 m3 m4 m5 : Int) (v : List UInt8) (t k : Int) (h1 : ¬ (3000 : Int) < (s.length : Int) + v.length) (h2 : ¬ 1152921504606846976 < t) (h3 : ¬ t < -1152921504606846976) (h4 : ¬ k < 0) (h5 : ¬ 1125899906842624 < k)
    (A0 Aa : Int) (D0 Da Db : List UInt8) (b : Bool) (M0 : ∀ W, Calls Try.prog 26 #[.string (B s), .agg #[.int .u8 m0, .int .u8 m1, .int .u8 m2, .int .u8 m3, .int .u8 m4, .int .u8 m5], .string (B v), .int .i64 t] W fun r w' => r = .returned (.string (B D0)) ∧ Fr [] W w') (Ma : ∀ W, Calls Try.prog 26 #[.string (B s), .agg #[.int .u8 m0, .int .u8 m1, .int .u8 m2, .int .u8 m3, .int .u8 m4, .int .u8 m5], .string (B v), .int .i64 (t + k)] W fun r w' => r = .returned (.string (B Da)) ∧ Fr [] W w') (Mb : ∀ W, Calls Try.prog 26 #[.string (B s), .agg #[.int .u8 m0, .int .u8 m1, .int .u8 m2, .int .u8 m3, .int .u8 m4, .int .u8 m5], .string (B v), .int .i64 (t + k - 64)] W fun r w' => r = .returned (.string (B Db)) ∧ Fr [] W w') (K : ∀ W, Calls Try.prog 28 #[.string (B s), .agg #[.int .u8 m0, .int .u8 m1, .int .u8 m2, .int .u8 m3, .int .u8 m4, .int .u8 m5], .string (B v), .string (B D0), .int .i64 (t + k)] W fun r w' => r = .returned (.bool b) ∧ Fr [] W w') (E0 : ∀ W, Calls Try.prog 30 #[.int .i64 t] W fun r w' => r = .returned (.int .i64 A0) ∧ W = w') (Ea : ∀ W, Calls Try.prog 30 #[.int .i64 (t + k)] W fun r w' => r = .returned (.int .i64 Aa) ∧ W = w') (hA0 : -9223372036854775808 ≤ A0 + 1) (hA1 : A0 + 1 ≤ 9223372036854775807) (h6 : ¬ k ≤ 64) (h7 : ¬ 128 ≤ k) (hb : b = true) (hx : ¬ Aa ≤ A0 + 1) (hy : (D0 == Da) = true) :
    Calls Try.prog 9 #[.string (B s), .agg #[.int .u8 m0, .int .u8 m1, .int .u8 m2, .int .u8 m3, .int .u8 m4, .int .u8 m5], .string (B v), .int .i64 t, .int .i64 k] w fun e w' => e = .returned (.bool true) ∧ Below w.heap.size w w' := by
  have hw1 : IntKind.i64.wrap (t + k) = t + k := IntWalk.i64_in _ (by omega)
  have hw2 : IntKind.i64.wrap (t + k - 64) = t + k - 64 := IntWalk.i64_in _ (by omega)
  have hw3 : IntKind.i64.wrap (A0 + 1) = A0 + 1 := IntWalk.i64_in _ (by omega)
  subst hb
  have M0' := Lib.hid M0
  have Ma' := Lib.hid Ma
  have Mb' := Lib.hid Mb
  have K' := Lib.hid K
  have E0' := Lib.hid E0
  have Ea' := Lib.hid Ea
  clear M0 Ma Mb K E0 Ea
  go_enter Try.func9, Try.ntmps9
  go_wp2_with fail
  (with_reducible refine (M0'.out _).mono ?_)
  rintro e w1 ⟨rfl, hF1⟩
  have hB1 : Blk w1 w.heap.size #[.int .u8 m0, .int .u8 m1, .int .u8 m2, .int .u8 m3, .int .u8 m4, .int .u8 m5] 35 := hF1.blk (Blk.new _ _ _) (by simp)
  have hFa : Fr [] w w1 := ((Fr.refl _ _).alloc _).trans hF1
  obtain ⟨c0, c1, c2, c3, c4, c5, _, _⟩ := CkS.mk hB1 hFa
  go_wp2_with fail
  (with_reducible refine (K'.out _).mono ?_)
  rintro e w2 ⟨rfl, hF2⟩
  have hB : Blk w2 w.heap.size #[.int .u8 m0, .int .u8 m1, .int .u8 m2, .int .u8 m3, .int .u8 m4, .int .u8 m5] 35 := hF2.blk hB1 (by simp)
  have hF : Fr [] w w2 := hFa.trans hF2
  clear c0 c1 c2 c3 c4 c5 hF1 hF2 hB1 hFa M0' K'
  go_wp2_with fail
  (with_reducible refine (alive6 _).mono ?_)
  rintro r w3 ⟨rfl, hF3⟩
  have hB := hF3.blk hB (by simp)
  have hF := hF.trans hF3
  clear hF3
  obtain ⟨c0, c1, c2, c3, c4, c5, _, _⟩ := CkS.mk hB hF
  go_wp2_with fail
  (with_reducible refine (Ea'.out _).mono ?_)
  rintro r w3 ⟨rfl, rfl⟩
  go_wp2_with fail
  (with_reducible refine (E0'.out _).mono ?_)
  rintro r w3 ⟨rfl, rfl⟩
  go_wp2_with fail
  (with_reducible refine (Ma'.out _).mono ?_)
  rintro r w3 ⟨rfl, hF3⟩
  have hB := hF3.blk hB (by simp)
  have hF := hF.trans hF3
  clear hF3
  obtain ⟨c0, c1, c2, c3, c4, c5, _, _⟩ := CkS.mk hB hF
  go_wp2_with fail
  go_ret
  exact ⟨rfl, hF.below (Nat.le_refl _) (by simp)⟩

set_option maxHeartbeats 4000000 in
/-- Between, two epochs on, the first digest is another. -/
theorem lasts_mid_other (w : World) (s : List UInt8) (m0 m1 m2 m3 m4 m5 : Int) (v : List UInt8) (t k : Int) (h1 : ¬ (3000 : Int) < (s.length : Int) + v.length) (h2 : ¬ 1152921504606846976 < t) (h3 : ¬ t < -1152921504606846976) (h4 : ¬ k < 0) (h5 : ¬ 1125899906842624 < k)
    (A0 Aa : Int) (D0 Da Db : List UInt8) (b : Bool) (M0 : ∀ W, Calls Try.prog 26 #[.string (B s), .agg #[.int .u8 m0, .int .u8 m1, .int .u8 m2, .int .u8 m3, .int .u8 m4, .int .u8 m5], .string (B v), .int .i64 t] W fun r w' => r = .returned (.string (B D0)) ∧ Fr [] W w') (Ma : ∀ W, Calls Try.prog 26 #[.string (B s), .agg #[.int .u8 m0, .int .u8 m1, .int .u8 m2, .int .u8 m3, .int .u8 m4, .int .u8 m5], .string (B v), .int .i64 (t + k)] W fun r w' => r = .returned (.string (B Da)) ∧ Fr [] W w') (Mb : ∀ W, Calls Try.prog 26 #[.string (B s), .agg #[.int .u8 m0, .int .u8 m1, .int .u8 m2, .int .u8 m3, .int .u8 m4, .int .u8 m5], .string (B v), .int .i64 (t + k - 64)] W fun r w' => r = .returned (.string (B Db)) ∧ Fr [] W w') (K : ∀ W, Calls Try.prog 28 #[.string (B s), .agg #[.int .u8 m0, .int .u8 m1, .int .u8 m2, .int .u8 m3, .int .u8 m4, .int .u8 m5], .string (B v), .string (B D0), .int .i64 (t + k)] W fun r w' => r = .returned (.bool b) ∧ Fr [] W w') (E0 : ∀ W, Calls Try.prog 30 #[.int .i64 t] W fun r w' => r = .returned (.int .i64 A0) ∧ W = w') (Ea : ∀ W, Calls Try.prog 30 #[.int .i64 (t + k)] W fun r w' => r = .returned (.int .i64 Aa) ∧ W = w') (hA0 : -9223372036854775808 ≤ A0 + 1) (hA1 : A0 + 1 ≤ 9223372036854775807) (h6 : ¬ k ≤ 64) (h7 : ¬ 128 ≤ k) (hb : b = (D0 == Db)) (hx : ¬ Aa ≤ A0 + 1) (hy : (D0 == Da) = false) :
    Calls Try.prog 9 #[.string (B s), .agg #[.int .u8 m0, .int .u8 m1, .int .u8 m2, .int .u8 m3, .int .u8 m4, .int .u8 m5], .string (B v), .int .i64 t, .int .i64 k] w fun e w' => e = .returned (.bool true) ∧ Below w.heap.size w w' := by
  have hw1 : IntKind.i64.wrap (t + k) = t + k := IntWalk.i64_in _ (by omega)
  have hw2 : IntKind.i64.wrap (t + k - 64) = t + k - 64 := IntWalk.i64_in _ (by omega)
  have hw3 : IntKind.i64.wrap (A0 + 1) = A0 + 1 := IntWalk.i64_in _ (by omega)
  subst hb
  have M0' := Lib.hid M0
  have Ma' := Lib.hid Ma
  have Mb' := Lib.hid Mb
  have K' := Lib.hid K
  have E0' := Lib.hid E0
  have Ea' := Lib.hid Ea
  clear M0 Ma Mb K E0 Ea
  go_enter Try.func9, Try.ntmps9
  go_wp2_with fail
  (with_reducible refine (M0'.out _).mono ?_)
  rintro e w1 ⟨rfl, hF1⟩
  have hB1 : Blk w1 w.heap.size #[.int .u8 m0, .int .u8 m1, .int .u8 m2, .int .u8 m3, .int .u8 m4, .int .u8 m5] 35 := hF1.blk (Blk.new _ _ _) (by simp)
  have hFa : Fr [] w w1 := ((Fr.refl _ _).alloc _).trans hF1
  obtain ⟨c0, c1, c2, c3, c4, c5, _, _⟩ := CkS.mk hB1 hFa
  go_wp2_with fail
  (with_reducible refine (K'.out _).mono ?_)
  rintro e w2 ⟨rfl, hF2⟩
  have hB : Blk w2 w.heap.size #[.int .u8 m0, .int .u8 m1, .int .u8 m2, .int .u8 m3, .int .u8 m4, .int .u8 m5] 35 := hF2.blk hB1 (by simp)
  have hF : Fr [] w w2 := hFa.trans hF2
  clear c0 c1 c2 c3 c4 c5 hF1 hF2 hB1 hFa M0' K'
  go_wp2_with fail
  (with_reducible refine (alive6 _).mono ?_)
  rintro r w3 ⟨rfl, hF3⟩
  have hB := hF3.blk hB (by simp)
  have hF := hF.trans hF3
  clear hF3
  obtain ⟨c0, c1, c2, c3, c4, c5, _, _⟩ := CkS.mk hB hF
  go_wp2_with fail
  (with_reducible refine (Ea'.out _).mono ?_)
  rintro r w3 ⟨rfl, rfl⟩
  go_wp2_with fail
  (with_reducible refine (E0'.out _).mono ?_)
  rintro r w3 ⟨rfl, rfl⟩
  go_wp2_with fail
  (with_reducible refine (Ma'.out _).mono ?_)
  rintro r w3 ⟨rfl, hF3⟩
  have hB := hF3.blk hB (by simp)
  have hF := hF.trans hF3
  clear hF3
  obtain ⟨c0, c1, c2, c3, c4, c5, _, _⟩ := CkS.mk hB hF
  go_wp2_with fail
  (with_reducible refine (Mb'.out _).mono ?_)
  rintro r w3 ⟨rfl, hF3⟩
  have hB := hF3.blk hB (by simp)
  have hF := hF.trans hF3
  clear hF3
  obtain ⟨c0, c1, c2, c3, c4, c5, _, _⟩ := CkS.mk hB hF
  go_wp2_with fail
  go_ret
  exact ⟨congrArg (fun b => Ending.returned (.bool b)) (show ((D0 == Db) == (decide (Aa ≤ A0 + 1) || D0 == Db)) = true by rw [decide_eq_false (show ¬ Aa ≤ A0 + 1 by omega)]; simp), hF.below (Nat.le_refl _) (by simp)⟩

theorem good_near (A B : Int) (ms : List Int) (v s : List UInt8) (h : B = A ∨ B = A + 1) : (sameB (md5 (cookL A ms v s)) (md5 (cookL (B - 1) ms v s)) || sameB (md5 (cookL A ms v s)) (md5 (cookL B ms v s))) = true := by
  rcases h with rfl | rfl
  · simp [sameB]
  · rw [show A + 1 - 1 = A by omega]; simp [sameB]
theorem good_like (D Db Da : List UInt8) (h : (D == Da) = true) : (sameB D Db || sameB D Da) = true := by rw [← beq_same D Da, h, Bool.or_true]
theorem good_other (D Db Da : List UInt8) (h : (D == Da) = false) : (sameB D Db || sameB D Da) = (D == Db) := by rw [← beq_same D Da, h, Bool.or_false, beq_same]

set_option maxHeartbeats 2000000 in
theorem cookieLasts_walk (w : World) (s : ByteArray) (hs : s.size ≤ 140737488351232) (m0 m1 m2 m3 m4 m5 : Int) (v : ByteArray) (hv : v.size ≤ 140737488351232) (t : Int) (t0 : -9223372036854775808 ≤ t) (t1 : t ≤ 9223372036854775807) (k : Int) (k0 : -9223372036854775808 ≤ k) (k1 : k ≤ 9223372036854775807) :
    Calls Try.prog 9 #[.string s, .agg #[.int .u8 m0, .int .u8 m1, .int .u8 m2, .int .u8 m3, .int .u8 m4, .int .u8 m5], .string v, .int .i64 t, .int .i64 k] w fun e w' => e = .returned (.bool true) ∧ Below w.heap.size w w' := by
  obtain ⟨s, rfl⟩ : ∃ l, s = B l := ⟨_, B_of s⟩
  obtain ⟨v, rfl⟩ : ∃ l, v = B l := ⟨_, B_of v⟩
  rw [B_size] at hs hv
  by_cases h1 : (3000 : Int) < (s.length : Int) + v.length
  rotate_left
  by_cases h2 : 1152921504606846976 < t
  rotate_left
  by_cases h3 : t < -1152921504606846976
  rotate_left
  by_cases h4 : k < 0
  rotate_left
  by_cases h5 : 1125899906842624 < k
  rotate_left
  · have ls : s.length ≤ 40000 := by omega
    have lv : v.length ≤ 40000 := by omega
    have l0 : (md5 (cookL (t / 64) [m0, m1, m2, m3, m4, m5] v s)).length ≤ 40000 := by rw [md5_length]; omega
    have M0 := fun W => make_any s m0 m1 m2 m3 m4 m5 v t W t0 t1 ls lv
    have Ma := fun W => make_any s m0 m1 m2 m3 m4 m5 v (t + k) W (by omega) (by omega) ls lv
    have Mb := fun W => make_any s m0 m1 m2 m3 m4 m5 v (t + k - 64) W (by omega) (by omega) ls lv
    rw [show (t + k - 64) / 64 = (t + k) / 64 - 1 by omega] at Mb
    have K := fun W => check_any s m0 m1 m2 m3 m4 m5 v (md5 (cookL (t / 64) [m0, m1, m2, m3, m4, m5] v s)) (t + k) W (by omega) (by omega) ls lv l0
    have E0 := fun W => epoch_any t W t0 t1
    have Ea := fun W => epoch_any (t + k) W (by omega) (by omega)
    have a0 : -9223372036854775808 ≤ t / 64 + 1 := by omega
    have a1 : t / 64 + 1 ≤ 9223372036854775807 := by omega
    by_cases h6 : k ≤ 64
    · exact lasts_soon w s m0 m1 m2 m3 m4 m5 v t k h1 h2 h3 h4 h5 _ _ _ _ _ _ M0 Ma Mb K E0 Ea a0 a1 h6 (good_near _ _ _ _ _ (by omega))
    by_cases h7 : 128 ≤ k
    · cases hx : (md5 (cookL (t / 64) [m0, m1, m2, m3, m4, m5] v s)) == (md5 (cookL ((t + k) / 64) [m0, m1, m2, m3, m4, m5] v s)) with
      | true => exact lasts_far_like w s m0 m1 m2 m3 m4 m5 v t k h1 h2 h3 h4 h5 _ _ _ _ _ _ M0 Ma Mb K E0 Ea a0 a1 h6 h7 (good_like _ _ _ hx) hx
      | false => exact lasts_far_other w s m0 m1 m2 m3 m4 m5 v t k h1 h2 h3 h4 h5 _ _ _ _ _ _ M0 Ma Mb K E0 Ea a0 a1 h6 h7 (good_other _ _ _ hx) hx
    by_cases h8 : (t + k) / 64 ≤ t / 64 + 1
    · exact lasts_mid_next w s m0 m1 m2 m3 m4 m5 v t k h1 h2 h3 h4 h5 _ _ _ _ _ _ M0 Ma Mb K E0 Ea a0 a1 h6 h7 (good_near _ _ _ _ _ (by omega)) h8
    · cases hx : (md5 (cookL (t / 64) [m0, m1, m2, m3, m4, m5] v s)) == (md5 (cookL ((t + k) / 64) [m0, m1, m2, m3, m4, m5] v s)) with
      | true => exact lasts_mid_like w s m0 m1 m2 m3 m4 m5 v t k h1 h2 h3 h4 h5 _ _ _ _ _ _ M0 Ma Mb K E0 Ea a0 a1 h6 h7 (good_like _ _ _ hx) h8 hx
      | false => exact lasts_mid_other w s m0 m1 m2 m3 m4 m5 v t k h1 h2 h3 h4 h5 _ _ _ _ _ _ M0 Ma Mb K E0 Ea a0 a1 h6 h7 (good_other _ _ _ hx) h8 hx
  all_goals
    go_enter Try.func9, Try.ntmps9
    go_wp2_with fail
    refine (alive6 _).mono ?_
    rintro e w1 ⟨rfl, hF⟩
    go_wp2
    go_ret
    exact ⟨rfl, ((Fr.refl _ _).alloc _ |>.trans hF).below (Nat.le_refl _) (by simp)⟩

end Go.Proofs.Ytgeoldcddfmgnaa
