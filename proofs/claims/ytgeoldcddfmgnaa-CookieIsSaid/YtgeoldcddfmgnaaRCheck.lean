/- Cookies checked: the document's. -/
import Derived.Test.YtgeoldcddfmgnaaSkip
namespace Go.Proofs.Ytgeoldcddfmgnaa
open Go.RowKit
set_option linter.unusedVariables false
attribute [local go_sem ↓] Go.wp_at_zero Go.wp_at_succ

set_option maxHeartbeats 2000000 in
theorem rcheck_any (s : List UInt8) (m0 m1 m2 m3 m4 m5 : Int) (v c : List UInt8) (t : Int) (w : World) (t0 : -9223372036854775808 ≤ t) (t1 : t ≤ 9223372036854775807) (hs : s.length ≤ 40000) (hv : v.length ≤ 40000) (hc : c.length ≤ 40000) :
    Calls Try.prog 29 #[.string (B s), .agg #[.int .u8 m0, .int .u8 m1, .int .u8 m2, .int .u8 m3, .int .u8 m4, .int .u8 m5], .string (B v), .string (B c), .int .i64 t] w
      fun r w' => r = .returned (.bool (sameB c (md5 (cookL (t / 64 - 1) [m0, m1, m2, m3, m4, m5] v s)) || sameB c (md5 (cookL (t / 64) [m0, m1, m2, m3, m4, m5] v s)))) ∧ Fr [] w w' := by
  have e0 : -9223372036854775808 ≤ t / 64 := by omega
  have e1 : t / 64 ≤ 9223372036854775807 := by omega
  have e2 : -9223372036854775808 ≤ t / 64 - 1 := by omega
  have e3 : t / 64 - 1 ≤ 9223372036854775807 := by omega
  have hw1 : IntKind.i64.wrap (t / 64 - 1) = t / 64 - 1 := IntWalk.i64_in _ (by omega)
  have l0 : (md5 (cookL (t / 64) [m0, m1, m2, m3, m4, m5] v s)).length ≤ 140737488351232 := by rw [md5_length]; omega
  have l1 : (md5 (cookL (t / 64 - 1) [m0, m1, m2, m3, m4, m5] v s)).length ≤ 140737488351232 := by rw [md5_length]; omega
  obtain ⟨D0, hD0⟩ : ∃ D, md5 (cookL (t / 64) [m0, m1, m2, m3, m4, m5] v s) = D := ⟨_, rfl⟩
  obtain ⟨D1, hD1⟩ : ∃ D, md5 (cookL (t / 64 - 1) [m0, m1, m2, m3, m4, m5] v s) = D := ⟨_, rfl⟩
  rw [hD0] at l0 ⊢
  rw [hD1] at l1 ⊢
  have H0 := Lib.hid hD0
  have H1 := Lib.hid hD1
  clear hD0 hD1
  have of0 : ∀ W, Calls Try.prog 42 #[.string (B s), .agg #[.int .u8 m0, .int .u8 m1, .int .u8 m2, .int .u8 m3, .int .u8 m4, .int .u8 m5], .string (B v), .int .i64 (t / 64)] W fun r w' => r = .returned (.string (B D0)) ∧ Fr [] W w' := fun W => by rw [← H0.out]; exact rcookie_any s m0 m1 m2 m3 m4 m5 v (t / 64) W e0 e1 hs hv
  have of1 : ∀ W, Calls Try.prog 42 #[.string (B s), .agg #[.int .u8 m0, .int .u8 m1, .int .u8 m2, .int .u8 m3, .int .u8 m4, .int .u8 m5], .string (B v), .int .i64 (t / 64 - 1)] W fun r w' => r = .returned (.string (B D1)) ∧ Fr [] W w' := fun W => by rw [← H1.out]; exact rcookie_any s m0 m1 m2 m3 m4 m5 v (t / 64 - 1) W e2 e3 hs hv
  have Of0 := Lib.hid of0
  have Of1 := Lib.hid of1
  clear of0 of1
  rw [Bool.or_comm]
  have lc : c.length ≤ 140737488351232 := by omega
  cases hx0 : sameB c D0 with
  | false =>
    have hq : (c == D0) = false := by rw [beq_same]; exact hx0
    have hq2 : (c == D1) = sameB c D1 := beq_same c D1
    have Hq2 := Lib.hid hq2
    clear hx0 hq2
    go_enter Try.func29, Try.ntmps29
    go_wp2_with fail
    obtain ⟨W, hW⟩ : ∃ W, w.alloc (.cells #[.int .u8 m0, .int .u8 m1, .int .u8 m2, .int .u8 m3, .int .u8 m4, .int .u8 m5] 35) = W := ⟨_, rfl⟩
    have hB : Blk W w.heap.size #[.int .u8 m0, .int .u8 m1, .int .u8 m2, .int .u8 m3, .int .u8 m4, .int .u8 m5] 35 := by rw [← hW]; exact Blk.new _ _ _
    have hF : Fr [] w W := by rw [← hW]; exact (Fr.refl _ _).alloc _
    rw [hW]
    clear hW
    have hG : CkS w m0 m1 m2 m3 m4 m5 W.drew := CkS.mk hB.drew hF.drew
    go_region_held3 (fun w' => w'.cell? ⟨w.heap.size, 0, none⟩ = some (.int .u8 m0) ∧ w'.cell? ⟨w.heap.size, 1, none⟩ = some (.int .u8 m1) ∧ w'.cell? ⟨w.heap.size, 2, none⟩ = some (.int .u8 m2) ∧ w'.cell? ⟨w.heap.size, 3, none⟩ = some (.int .u8 m3) ∧ w'.cell? ⟨w.heap.size, 4, none⟩ = some (.int .u8 m4) ∧ w'.cell? ⟨w.heap.size, 5, none⟩ = some (.int .u8 m5) ∧ Blk w' w.heap.size #[.int .u8 m0, .int .u8 m1, .int .u8 m2, .int .u8 m3, .int .u8 m4, .int .u8 m5] 35 ∧ Fr [] w w')
      (first | exact hG | assumption | exact CkS.call (by assumption) (by assumption))
      (first
        | (go_at_call 31; refine (repoch_any t _ t0 t1).mono ?_; rintro r w3 ⟨rfl, rfl⟩)
        | (go_at_call 42; ((with_reducible refine (Of0.out _).mono ?_); rintro r w3 ⟨rfl, hF3⟩))
        | (go_at_call 42; ((with_reducible refine (Of1.out _).mono ?_); rintro r w3 ⟨rfl, hF3⟩)))
    all_goals
      have hfin : Fr [] w w3 := by go_split_ands; assumption
      clear hq Of0 Of1 H0 H1 hG hB hF
      go_wp2_with fail
      go_ret
      rw [Bool.false_or, ← Hq2.out]
      exact ⟨rfl, hfin⟩
  | true =>
    have hq : (c == D0) = true := by rw [beq_same]; exact hx0
    clear hx0 Of1 H0 H1
    obtain rfl : c = D0 := beq_iff_eq.mp hq
    clear hq lc l0 l1
    go_enter Try.func29, Try.ntmps29
    go_wp2_with fail
    obtain ⟨W, hW⟩ : ∃ W, w.alloc (.cells #[.int .u8 m0, .int .u8 m1, .int .u8 m2, .int .u8 m3, .int .u8 m4, .int .u8 m5] 35) = W := ⟨_, rfl⟩
    have hB : Blk W w.heap.size #[.int .u8 m0, .int .u8 m1, .int .u8 m2, .int .u8 m3, .int .u8 m4, .int .u8 m5] 35 := by rw [← hW]; exact Blk.new _ _ _
    have hF : Fr [] w W := by rw [← hW]; exact (Fr.refl _ _).alloc _
    rw [hW]
    clear hW
    have hG : CkS w m0 m1 m2 m3 m4 m5 W.drew := CkS.mk hB.drew hF.drew
    refine wp_region_held_drew (S := (fun w' => w'.cell? ⟨w.heap.size, 0, none⟩ = some (.int .u8 m0) ∧ w'.cell? ⟨w.heap.size, 1, none⟩ = some (.int .u8 m1) ∧ w'.cell? ⟨w.heap.size, 2, none⟩ = some (.int .u8 m2) ∧ w'.cell? ⟨w.heap.size, 3, none⟩ = some (.int .u8 m3) ∧ w'.cell? ⟨w.heap.size, 4, none⟩ = some (.int .u8 m4) ∧ w'.cell? ⟨w.heap.size, 5, none⟩ = some (.int .u8 m5) ∧ Blk w' w.heap.size #[.int .u8 m0, .int .u8 m1, .int .u8 m2, .int .u8 m3, .int .u8 m4, .int .u8 m5] 35 ∧ Fr [] w w')) (by kernel_rfl) ?_ (fun hHeld => ?_)
    · (try dsimp only); exact hG
    refine take_yes 0 11 rfl rfl (by kernel_rfl) (by kernel_rfl) (by kernel_rfl) (fun _ _ _ h => h) (by rfl) (by assumption) (v := ?_) ?_ ?_
    rotate_left
    · intro w hSw; (try dsimp only at hSw); go_simp; (try with_reducible rfl)
    try simp only [Act.put, List.setIfInBounds_toArray, List.set_cons_zero, List.set_cons_succ]
    refine take_yes 1 12 rfl rfl (by kernel_rfl) (by kernel_rfl) (by kernel_rfl) (fun _ _ _ h => h) (by rfl) (by assumption) (v := ?_) ?_ ?_
    rotate_left
    · intro w hSw; (try dsimp only at hSw); go_simp; (try with_reducible rfl)
    try simp only [Act.put, List.setIfInBounds_toArray, List.set_cons_zero, List.set_cons_succ]
    refine take_yes 2 13 rfl rfl (by kernel_rfl) (by kernel_rfl) (by kernel_rfl) (fun _ _ _ h => h) (by rfl) (by assumption) (v := ?_) ?_ ?_
    rotate_left
    · intro w hSw; (try dsimp only at hSw); go_simp; (try with_reducible rfl)
    try simp only [Act.put, List.setIfInBounds_toArray, List.set_cons_zero, List.set_cons_succ]
    refine take_yes 3 14 rfl rfl (by kernel_rfl) (by kernel_rfl) (by kernel_rfl) (fun _ _ _ h => h) (by rfl) (by assumption) (v := ?_) ?_ ?_
    rotate_left
    · intro w hSw; (try dsimp only at hSw); go_simp; (try with_reducible rfl)
    try simp only [Act.put, List.setIfInBounds_toArray, List.set_cons_zero, List.set_cons_succ]
    refine take_yes 4 15 rfl rfl (by kernel_rfl) (by kernel_rfl) (by kernel_rfl) (fun _ _ _ h => h) (by rfl) (by assumption) (v := ?_) ?_ ?_
    rotate_left
    · intro w hSw; (try dsimp only at hSw); go_simp; (try with_reducible rfl)
    try simp only [Act.put, List.setIfInBounds_toArray, List.set_cons_zero, List.set_cons_succ]
    refine wpAnyH_ready (rs := [5]) (by kernel_rfl) (by simp) ?_
    refine AllReadyH.cons (o := _) rfl (fun K hK => ?_) AllReadyH.nil
    go_simp
    refine (repoch_any t _ t0 t1).mono ?_
    rintro r w3 ⟨rfl, rfl⟩
    go_wp2_with fail
    refine hK.out _ _ ?_ (fun hHeld => ?_)
    · (try dsimp only); first | assumption | exact CkS.call (by assumption) (by assumption)
    clear hK K
    try simp only [Act.put, List.setIfInBounds_toArray, List.set_cons_zero, List.set_cons_succ]
    refine wpAnyH_ready (rs := [6]) (by kernel_rfl) (by simp) ?_
    refine AllReadyH.cons (o := _) rfl (fun K hK => ?_) AllReadyH.nil
    go_simp
    (with_reducible refine (Of0.out _).mono ?_)
    rintro r w3 ⟨rfl, hF3⟩
    go_wp2_with fail
    refine hK.out _ _ ?_ (fun hHeld => ?_)
    · (try dsimp only); first | assumption | exact CkS.call (by assumption) (by assumption)
    clear hK K
    try simp only [Act.put, List.setIfInBounds_toArray, List.set_cons_zero, List.set_cons_succ]
    refine take_yes 7 18 rfl rfl (by kernel_rfl) (by kernel_rfl) (by kernel_rfl) (fun _ _ _ h => h) (by rfl) (by assumption) (v := ?_) ?_ ?_
    rotate_left
    · intro w hSw; (try dsimp only at hSw); go_simp; (try with_reducible rfl)
    try simp only [Act.put, List.setIfInBounds_toArray, List.set_cons_zero, List.set_cons_succ]
    refine take_yes 8 19 rfl rfl (by kernel_rfl) (by kernel_rfl) (by kernel_rfl) (fun _ _ _ h => h) (by rfl) (by assumption) (v := ?_) ?_ ?_
    rotate_left
    · intro w hSw; (try dsimp only at hSw); go_simp; (try with_reducible rfl)
    try simp only [Act.put, List.setIfInBounds_toArray, List.set_cons_zero, List.set_cons_succ]
    refine take_no 9 20 rfl rfl (by kernel_rfl) (by kernel_rfl) (by kernel_rfl) (fun _ _ _ h => h) (by rfl) (by assumption) ?_
    try simp only [Act.put, List.setIfInBounds_toArray, List.set_cons_zero, List.set_cons_succ]
    refine take_no 10 21 rfl rfl (by kernel_rfl) (by kernel_rfl) (by kernel_rfl) (fun _ _ _ h => h) (by rfl) (by assumption) ?_
    try simp only [Act.put, List.setIfInBounds_toArray, List.set_cons_zero, List.set_cons_succ]
    refine take_no 11 22 rfl rfl (by kernel_rfl) (by kernel_rfl) (by kernel_rfl) (fun _ _ _ h => h) (by rfl) (by assumption) ?_
    try simp only [Act.put, List.setIfInBounds_toArray, List.set_cons_zero, List.set_cons_succ]
    refine take_no 12 23 rfl rfl (by kernel_rfl) (by kernel_rfl) (by kernel_rfl) (fun _ _ _ h => h) (by rfl) (by assumption) ?_
    try simp only [Act.put, List.setIfInBounds_toArray, List.set_cons_zero, List.set_cons_succ]
    refine take_no 13 24 rfl rfl (by kernel_rfl) (by kernel_rfl) (by kernel_rfl) (fun _ _ _ h => h) (by rfl) (by assumption) ?_
    try simp only [Act.put, List.setIfInBounds_toArray, List.set_cons_zero, List.set_cons_succ]
    refine take_no 14 25 rfl rfl (by kernel_rfl) (by kernel_rfl) (by kernel_rfl) (fun _ _ _ h => h) (by rfl) (by assumption) ?_
    try simp only [Act.put, List.setIfInBounds_toArray, List.set_cons_zero, List.set_cons_succ]
    refine take_no 15 26 rfl rfl (by kernel_rfl) (by kernel_rfl) (by kernel_rfl) (fun _ _ _ h => h) (by rfl) (by assumption) ?_
    try simp only [Act.put, List.setIfInBounds_toArray, List.set_cons_zero, List.set_cons_succ]
    refine take_no 16 27 rfl rfl (by kernel_rfl) (by kernel_rfl) (by kernel_rfl) (fun _ _ _ h => h) (by rfl) (by assumption) ?_
    try simp only [Act.put, List.setIfInBounds_toArray, List.set_cons_zero, List.set_cons_succ]
    refine take_no 17 28 rfl rfl (by kernel_rfl) (by kernel_rfl) (by kernel_rfl) (fun _ _ _ h => h) (by rfl) (by assumption) ?_
    try simp only [Act.put, List.setIfInBounds_toArray, List.set_cons_zero, List.set_cons_succ]
    refine take_yes 18 29 rfl rfl (by kernel_rfl) (by kernel_rfl) (by kernel_rfl) (fun _ _ _ h => h) (by rfl) (by assumption) (v := ?_) ?_ ?_
    rotate_left
    · intro w hSw; (try dsimp only at hSw); go_simp; (try with_reducible rfl)
    try simp only [Act.put, List.setIfInBounds_toArray, List.set_cons_zero, List.set_cons_succ]
    refine take_yes 19 10 rfl rfl (by kernel_rfl) (by kernel_rfl) (by kernel_rfl) (fun _ _ _ h => h) (by rfl) (by assumption) (v := ?_) ?_ ?_
    rotate_left
    · intro w hSw; (try dsimp only at hSw); go_simp; (try with_reducible rfl)
    try simp only [Act.put, List.setIfInBounds_toArray, List.set_cons_zero, List.set_cons_succ]
    refine wpAnyH_done (by kernel_rfl) ?_ _
    all_goals
      have hfin : Fr [] w w3 := by go_split_ands; assumption
      clear Of0 hG hB hF
      go_wp2_with fail
      go_ret
      exact ⟨rfl, hfin⟩
end Go.Proofs.Ytgeoldcddfmgnaa
