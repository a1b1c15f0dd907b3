/- Cookies checked: the program's and the document's. -/
import Derived.Test.YtgeoldcddfmgnaaMake
import Derived.Deep.DrawnRows
namespace Go.Proofs.Ytgeoldcddfmgnaa
open Go.RowKit
set_option linter.unusedVariables false
attribute [local go_sem ↓] Go.wp_at_zero Go.wp_at_succ

theorem same_f (a b : List UInt8) (w : World) (ha : a.length ≤ 140737488351232) (hb : b.length ≤ 140737488351232) :
    Calls Try.prog 22 #[.string (B a), .string (B b)] w fun e w' => e = .returned (.bool (sameB a b)) ∧ Fr [] w w' := by
  refine (same_b a b w ha hb).mono ?_
  rintro e w' ⟨rfl, n, rfl⟩
  exact ⟨rfl, (Fr.refl _ _).drewN n⟩
theorem beq_same (a b : List UInt8) : (a == b) = sameB a b := by unfold sameB; rw [Bool.eq_iff_iff, beq_iff_eq, decide_eq_true_eq]
set_option maxHeartbeats 2000000 in
theorem check_any (s : List UInt8) (m0 m1 m2 m3 m4 m5 : Int) (v c : List UInt8) (t : Int) (w : World) (t0 : -9223372036854775808 ≤ t) (t1 : t ≤ 9223372036854775807) (hs : s.length ≤ 40000) (hv : v.length ≤ 40000) (hc : c.length ≤ 40000) :
    Calls Try.prog 28 #[.string (B s), .agg #[.int .u8 m0, .int .u8 m1, .int .u8 m2, .int .u8 m3, .int .u8 m4, .int .u8 m5], .string (B v), .string (B c), .int .i64 t] w
      fun r w' => r = .returned (.bool (sameB c (md5 (cookL (t / 64 - 1) [m0, m1, m2, m3, m4, m5] v s)) || sameB c (md5 (cookL (t / 64) [m0, m1, m2, m3, m4, m5] v s)))) ∧ Fr [] w w' := by
  have e0 : -9223372036854775808 ≤ t / 64 := by omega
  have e1 : t / 64 ≤ 9223372036854775807 := by omega
  have e2 : -9223372036854775808 ≤ t / 64 - 1 := by omega
  have e3 : t / 64 - 1 ≤ 9223372036854775807 := by omega
  have hw1 : IntKind.i64.wrap (t / 64 - 1) = t / 64 - 1 := IntWalk.i64_in _ (by omega)
  have l0 : (md5 (cookL (t / 64) [m0, m1, m2, m3, m4, m5] v s)).length ≤ 140737488351232 := by rw [md5_length]; omega
  have l1 : (md5 (cookL (t / 64 - 1) [m0, m1, m2, m3, m4, m5] v s)).length ≤ 140737488351232 := by rw [md5_length]; omega
  obtain ⟨D0, hD0⟩ : ∃ D, md5 (cookL (t / 64) [m0, m1, m2, m3, m4, m5] v s) = D := ⟨_, rfl⟩
  obtain ⟨D1, hD1⟩ : ∃ D, md5 (cookL (t / 64 - 1) [m0, m1, m2, m3, m4, m5] v s) = D := ⟨_, rfl⟩
  rw [hD0] at l0 ⊢
  rw [hD1] at l1 ⊢
  have H0 := Lib.hid hD0
  have H1 := Lib.hid hD1
  clear hD0 hD1
  have of0 : ∀ W, Calls Try.prog 41 #[.string (B s), .agg #[.int .u8 m0, .int .u8 m1, .int .u8 m2, .int .u8 m3, .int .u8 m4, .int .u8 m5], .string (B v), .int .i64 (t / 64)] W fun r w' => r = .returned (.string (B D0)) ∧ Fr [] W w' := fun W => by rw [← H0.out]; exact of_any s m0 m1 m2 m3 m4 m5 v (t / 64) W e0 e1 hs hv
  have of1 : ∀ W, Calls Try.prog 41 #[.string (B s), .agg #[.int .u8 m0, .int .u8 m1, .int .u8 m2, .int .u8 m3, .int .u8 m4, .int .u8 m5], .string (B v), .int .i64 (t / 64 - 1)] W fun r w' => r = .returned (.string (B D1)) ∧ Fr [] W w' := fun W => by rw [← H1.out]; exact of_any s m0 m1 m2 m3 m4 m5 v (t / 64 - 1) W e2 e3 hs hv
  have Of0 := Lib.hid of0
  have Of1 := Lib.hid of1
  clear of0 of1
  have lc : c.length ≤ 140737488351232 := by omega
  cases hx1 : sameB c D1 with
  | false =>
    go_enter Try.func28, Try.ntmps28
    go_wp2_with fail
    obtain ⟨W, hW⟩ : ∃ W, w.alloc (.cells #[.int .u8 m0, .int .u8 m1, .int .u8 m2, .int .u8 m3, .int .u8 m4, .int .u8 m5] 35) = W := ⟨_, rfl⟩
    have hB : Blk W w.heap.size #[.int .u8 m0, .int .u8 m1, .int .u8 m2, .int .u8 m3, .int .u8 m4, .int .u8 m5] 35 := by rw [← hW]; exact Blk.new _ _ _
    have hF : Fr [] w W := by rw [← hW]; exact (Fr.refl _ _).alloc _
    rw [hW]
    clear hW
    have hG : CkS w m0 m1 m2 m3 m4 m5 W.drew := CkS.mk hB.drew hF.drew
    go_region_held3 (fun w' => w'.cell? ⟨w.heap.size, 0, none⟩ = some (.int .u8 m0) ∧ w'.cell? ⟨w.heap.size, 1, none⟩ = some (.int .u8 m1) ∧ w'.cell? ⟨w.heap.size, 2, none⟩ = some (.int .u8 m2) ∧ w'.cell? ⟨w.heap.size, 3, none⟩ = some (.int .u8 m3) ∧ w'.cell? ⟨w.heap.size, 4, none⟩ = some (.int .u8 m4) ∧ w'.cell? ⟨w.heap.size, 5, none⟩ = some (.int .u8 m5) ∧ Blk w' w.heap.size #[.int .u8 m0, .int .u8 m1, .int .u8 m2, .int .u8 m3, .int .u8 m4, .int .u8 m5] 35 ∧ Fr [] w w')
      (first | exact hG | assumption | exact CkS.call (by assumption) (by assumption))
      (first
        | (go_at_call 30; refine (epoch_any t _ t0 t1).mono ?_; rintro r w3 ⟨rfl, rfl⟩)
        | (go_at_call 41; refine (Of0.out _).mono ?_; rintro r w3 ⟨rfl, hF3⟩)
        | (go_at_call 22; refine (same_f c D0 _ lc l0).mono ?_; rintro r w3 ⟨rfl, hF3⟩))
    all_goals
      have hG2 : CkS w m0 m1 m2 m3 m4 m5 w3 := by assumption
      go_wp2_with fail
      have hG3 := CkS.mk (hG2.2.2.2.2.2.2.1.drew) (hG2.2.2.2.2.2.2.2.drew)
      clear hG hG2
      go_region_held3 (fun w' => w'.cell? ⟨w.heap.size, 0, none⟩ = some (.int .u8 m0) ∧ w'.cell? ⟨w.heap.size, 1, none⟩ = some (.int .u8 m1) ∧ w'.cell? ⟨w.heap.size, 2, none⟩ = some (.int .u8 m2) ∧ w'.cell? ⟨w.heap.size, 3, none⟩ = some (.int .u8 m3) ∧ w'.cell? ⟨w.heap.size, 4, none⟩ = some (.int .u8 m4) ∧ w'.cell? ⟨w.heap.size, 5, none⟩ = some (.int .u8 m5) ∧ Blk w' w.heap.size #[.int .u8 m0, .int .u8 m1, .int .u8 m2, .int .u8 m3, .int .u8 m4, .int .u8 m5] 35 ∧ Fr [] w w')
        (first | exact hG3 | assumption | exact CkS.call (by assumption) (by assumption))
        (first
          | (go_at_call 30; refine (epoch_any t _ t0 t1).mono ?_; rintro r w3 ⟨rfl, rfl⟩)
          | (go_at_call 41; refine (Of1.out _).mono ?_; rintro r w3 ⟨rfl, hF3⟩)
          | (go_at_call 22; refine (same_f c D1 _ lc l1).mono ?_; rintro r w3 ⟨rfl, hF3⟩))
      all_goals (go_wp2; go_ret; exact ⟨rfl, by go_split_ands; assumption⟩)
  | true =>
    go_enter Try.func28, Try.ntmps28
    go_wp2_with fail
    obtain ⟨W, hW⟩ : ∃ W, w.alloc (.cells #[.int .u8 m0, .int .u8 m1, .int .u8 m2, .int .u8 m3, .int .u8 m4, .int .u8 m5] 35) = W := ⟨_, rfl⟩
    have hB : Blk W w.heap.size #[.int .u8 m0, .int .u8 m1, .int .u8 m2, .int .u8 m3, .int .u8 m4, .int .u8 m5] 35 := by rw [← hW]; exact Blk.new _ _ _
    have hF : Fr [] w W := by rw [← hW]; exact (Fr.refl _ _).alloc _
    rw [hW]
    clear hW
    have hG : CkS w m0 m1 m2 m3 m4 m5 W.drew := CkS.mk hB.drew hF.drew
    go_region_held3 (fun w' => w'.cell? ⟨w.heap.size, 0, none⟩ = some (.int .u8 m0) ∧ w'.cell? ⟨w.heap.size, 1, none⟩ = some (.int .u8 m1) ∧ w'.cell? ⟨w.heap.size, 2, none⟩ = some (.int .u8 m2) ∧ w'.cell? ⟨w.heap.size, 3, none⟩ = some (.int .u8 m3) ∧ w'.cell? ⟨w.heap.size, 4, none⟩ = some (.int .u8 m4) ∧ w'.cell? ⟨w.heap.size, 5, none⟩ = some (.int .u8 m5) ∧ Blk w' w.heap.size #[.int .u8 m0, .int .u8 m1, .int .u8 m2, .int .u8 m3, .int .u8 m4, .int .u8 m5] 35 ∧ Fr [] w w')
      (first | exact hG | assumption | exact CkS.call (by assumption) (by assumption))
      (first
        | (go_at_call 30; refine (epoch_any t _ t0 t1).mono ?_; rintro r w3 ⟨rfl, rfl⟩)
        | (go_at_call 41; refine (Of0.out _).mono ?_; rintro r w3 ⟨rfl, hF3⟩)
        | (go_at_call 22; refine (same_f c D0 _ lc l0).mono ?_; rintro r w3 ⟨rfl, hF3⟩))
    all_goals
      have hG2 : CkS w m0 m1 m2 m3 m4 m5 w3 := by assumption
      go_wp2_with fail
      have hG3 := CkS.mk (hG2.2.2.2.2.2.2.1.drew) (hG2.2.2.2.2.2.2.2.drew)
      clear hG hG2
      obtain ⟨k0, k1, k2, k3, k4, k5, hBk, hFk⟩ := hG3
      first | (go_region_with (first
          | (go_at_call 30; refine (epoch_any t _ t0 t1).mono ?_; rintro r w5 ⟨rfl, rfl⟩)
          | (go_at_call 41; refine (Of1.out _).mono ?_; rintro r w6 ⟨rfl, hF6⟩)
          | (go_at_call 22; refine (same_f c D1 _ lc l1).mono ?_; rintro r w7 ⟨rfl, hF7⟩))) | fail
      all_goals (go_wp2; go_ret; exact ⟨rfl, (hFk.trans hF6).trans hF7⟩)
end Go.Proofs.Ytgeoldcddfmgnaa
