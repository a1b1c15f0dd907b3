/- CookieEpochs, walked. -/
import Derived.Test.YtgeoldcddfmgnaaLawC1
namespace Go.Proofs.Ytgeoldcddfmgnaa
open Go.RowKit
set_option linter.unusedVariables false
attribute [local go_sem ↓] Go.wp_at_zero Go.wp_at_succ

set_option maxHeartbeats 4000000 in
/-- Within one epoch. -/
theorem cookieEpochs_same (w : World) (s : List UInt8) (m0 m1 m2 m3 m4 m5 : Int) (v : List UInt8) (t k : Int) (h1 : ¬ (3000 : Int) < (s.length : Int) + v.length) (h2 : ¬ k < 0) (h3 : ¬ 63 < k) (h4 : ¬ 4611686018427387904 < t) (h5 : ¬ t < -4611686018427387904) (hd : (t + k) / 64 = t / 64) :
    Calls Try.prog 10 #[.string (B s), .agg #[.int .u8 m0, .int .u8 m1, .int .u8 m2, .int .u8 m3, .int .u8 m4, .int .u8 m5], .string (B v), .int .i64 t, .int .i64 k] w fun e w' => e = .returned (.bool true) ∧ Below w.heap.size w w' := by
  have ls : s.length ≤ 40000 := by omega
  have lv : v.length ≤ 40000 := by omega
  have hw1 : IntKind.i64.wrap (t + k) = t + k := IntWalk.i64_in _ (by omega)
  have hw2 : IntKind.i64.wrap (t + 64) = t + 64 := IntWalk.i64_in _ (by omega)
  obtain ⟨A, hA⟩ : ∃ A, t / 64 = A := ⟨_, rfl⟩
  have hA2 : (t + 64) / 64 = A + 1 := by omega
  have hw3 : IntKind.i64.wrap (A + 1) = A + 1 := IntWalk.i64_in _ (by omega)
  obtain ⟨D, hD⟩ : ∃ D, md5 (cookL A [m0, m1, m2, m3, m4, m5] v s) = D := ⟨_, rfl⟩
  have M : ∀ W, Calls Try.prog 26 #[.string (B s), .agg #[.int .u8 m0, .int .u8 m1, .int .u8 m2, .int .u8 m3, .int .u8 m4, .int .u8 m5], .string (B v), .int .i64 t] W fun r w' => r = .returned (.string (B D)) ∧ Fr [] W w' := fun W => by rw [← hD, ← hA]; exact make_any s m0 m1 m2 m3 m4 m5 v t W (by omega) (by omega) ls lv
  have N : ∀ W, Calls Try.prog 26 #[.string (B s), .agg #[.int .u8 m0, .int .u8 m1, .int .u8 m2, .int .u8 m3, .int .u8 m4, .int .u8 m5], .string (B v), .int .i64 (t + k)] W fun r w' => r = .returned (.string (B D)) ∧ Fr [] W w' := fun W => by rw [← hD, ← hA, ← hd]; exact make_any s m0 m1 m2 m3 m4 m5 v (t + k) W (by omega) (by omega) ls lv
  have E0 : ∀ W, Calls Try.prog 30 #[.int .i64 t] W fun r w' => r = .returned (.int .i64 A) ∧ W = w' := fun W => by rw [← hA]; exact epoch_any t W (by omega) (by omega)
  have E1 : ∀ W, Calls Try.prog 30 #[.int .i64 (t + k)] W fun r w' => r = .returned (.int .i64 A) ∧ W = w' := fun W => by rw [← hA, ← hd]; exact epoch_any (t + k) W (by omega) (by omega)
  have E2 : ∀ W, Calls Try.prog 30 #[.int .i64 (t + 64)] W fun r w' => r = .returned (.int .i64 (A + 1)) ∧ W = w' := fun W => by rw [← hA2]; exact epoch_any (t + 64) W (by omega) (by omega)
  have M' := Lib.hid M
  have N' := Lib.hid N
  have E0' := Lib.hid E0
  have E1' := Lib.hid E1
  have E2' := Lib.hid E2
  clear M N E0 E1 E2 hD hA hA2 hd
  go_enter Try.func10, Try.ntmps10
  go_wp2_with fail
  refine (E0'.out _).mono ?_
  rintro e w1 ⟨rfl, rfl⟩
  go_wp2_with fail
  refine (E1'.out _).mono ?_
  rintro e w1 ⟨rfl, rfl⟩
  go_wp2_with fail
  refine (E2'.out _).mono ?_
  rintro e w1 ⟨rfl, rfl⟩
  clear E0' E1' E2'
  go_wp2_with fail
  obtain ⟨W, hW⟩ : ∃ W, w.alloc (.cells #[.int .u8 m0, .int .u8 m1, .int .u8 m2, .int .u8 m3, .int .u8 m4, .int .u8 m5] 35) = W := ⟨_, rfl⟩
  have hB : Blk W w.heap.size #[.int .u8 m0, .int .u8 m1, .int .u8 m2, .int .u8 m3, .int .u8 m4, .int .u8 m5] 35 := by rw [← hW]; exact Blk.new _ _ _
  have hF : Fr [] w W := by rw [← hW]; exact (Fr.refl _ _).alloc _
  rw [hW]
  clear hW
  have hG : CkS w m0 m1 m2 m3 m4 m5 W.drew := CkS.mk hB.drew hF.drew
  go_region_held3 (fun w' => w'.cell? ⟨w.heap.size, 0, none⟩ = some (.int .u8 m0) ∧ w'.cell? ⟨w.heap.size, 1, none⟩ = some (.int .u8 m1) ∧ w'.cell? ⟨w.heap.size, 2, none⟩ = some (.int .u8 m2) ∧ w'.cell? ⟨w.heap.size, 3, none⟩ = some (.int .u8 m3) ∧ w'.cell? ⟨w.heap.size, 4, none⟩ = some (.int .u8 m4) ∧ w'.cell? ⟨w.heap.size, 5, none⟩ = some (.int .u8 m5) ∧ Blk w' w.heap.size #[.int .u8 m0, .int .u8 m1, .int .u8 m2, .int .u8 m3, .int .u8 m4, .int .u8 m5] 35 ∧ Fr [] w w')
    (first | exact hG | assumption | exact CkS.call (by assumption) (by assumption))
    (first
      | (go_at_call 25; ((with_reducible refine (alive6 _).mono ?_); rintro r w3 ⟨rfl, hF3⟩))
      | (go_at_call 26; ((with_reducible refine (M'.out _).mono ?_); rintro r w3 ⟨rfl, hF3⟩))
      | (go_at_call 26; ((with_reducible refine (N'.out _).mono ?_); rintro r w3 ⟨rfl, hF3⟩)))
  all_goals
    have hfin : Fr [] w w3 := by go_split_ands; assumption
    clear M' N' hG hB hF
    go_wp2_with fail
    go_ret
    exact ⟨rfl, hfin.below (Nat.le_refl _) (by simp)⟩

set_option maxHeartbeats 4000000 in
/-- From one epoch to the next. -/
theorem cookieEpochs_next (w : World) (s : List UInt8) (m0 m1 m2 m3 m4 m5 : Int) (v : List UInt8) (t k : Int) (h1 : ¬ (3000 : Int) < (s.length : Int) + v.length) (h2 : ¬ k < 0) (h3 : ¬ 63 < k) (h4 : ¬ 4611686018427387904 < t) (h5 : ¬ t < -4611686018427387904) (hd : (t + k) / 64 = t / 64 + 1) :
    Calls Try.prog 10 #[.string (B s), .agg #[.int .u8 m0, .int .u8 m1, .int .u8 m2, .int .u8 m3, .int .u8 m4, .int .u8 m5], .string (B v), .int .i64 t, .int .i64 k] w fun e w' => e = .returned (.bool true) ∧ Below w.heap.size w w' := by
  have hw1 : IntKind.i64.wrap (t + k) = t + k := IntWalk.i64_in _ (by omega)
  have hw2 : IntKind.i64.wrap (t + 64) = t + 64 := IntWalk.i64_in _ (by omega)
  obtain ⟨A, hA⟩ : ∃ A, t / 64 = A := ⟨_, rfl⟩
  have hA2 : (t + 64) / 64 = A + 1 := by omega
  have hw3 : IntKind.i64.wrap (A + 1) = A + 1 := IntWalk.i64_in _ (by omega)
  have hne : (A != A + 1) = true := by rw [bne_iff_ne]; omega
  have hne2 : (A + 1 != A) = true := by rw [bne_iff_ne]; omega
  have E0 : ∀ W, Calls Try.prog 30 #[.int .i64 t] W fun r w' => r = .returned (.int .i64 A) ∧ W = w' := fun W => by rw [← hA]; exact epoch_any t W (by omega) (by omega)
  have E1 : ∀ W, Calls Try.prog 30 #[.int .i64 (t + k)] W fun r w' => r = .returned (.int .i64 (A + 1)) ∧ W = w' := fun W => by rw [← hA, ← hd]; exact epoch_any (t + k) W (by omega) (by omega)
  have E2 : ∀ W, Calls Try.prog 30 #[.int .i64 (t + 64)] W fun r w' => r = .returned (.int .i64 (A + 1)) ∧ W = w' := fun W => by rw [← hA2]; exact epoch_any (t + 64) W (by omega) (by omega)
  have E0' := Lib.hid E0
  have E1' := Lib.hid E1
  have E2' := Lib.hid E2
  clear E0 E1 E2 hA hA2 hd
  go_enter Try.func10, Try.ntmps10
  go_wp2_with fail
  refine (E0'.out _).mono ?_
  rintro e w1 ⟨rfl, rfl⟩
  go_wp2_with fail
  refine (E1'.out _).mono ?_
  rintro e w1 ⟨rfl, rfl⟩
  go_wp2_with fail
  refine (E2'.out _).mono ?_
  rintro e w1 ⟨rfl, rfl⟩
  clear E0' E1' E2'
  go_wp2_with fail
  obtain ⟨W, hW⟩ : ∃ W, w.alloc (.cells #[.int .u8 m0, .int .u8 m1, .int .u8 m2, .int .u8 m3, .int .u8 m4, .int .u8 m5] 35) = W := ⟨_, rfl⟩
  have hB : Blk W w.heap.size #[.int .u8 m0, .int .u8 m1, .int .u8 m2, .int .u8 m3, .int .u8 m4, .int .u8 m5] 35 := by rw [← hW]; exact Blk.new _ _ _
  have hF : Fr [] w W := by rw [← hW]; exact (Fr.refl _ _).alloc _
  rw [hW]
  clear hW
  have hG : CkS w m0 m1 m2 m3 m4 m5 W.drew := CkS.mk hB.drew hF.drew
  refine wp_region_held_drew (S := (fun w' => w'.cell? ⟨w.heap.size, 0, none⟩ = some (.int .u8 m0) ∧ w'.cell? ⟨w.heap.size, 1, none⟩ = some (.int .u8 m1) ∧ w'.cell? ⟨w.heap.size, 2, none⟩ = some (.int .u8 m2) ∧ w'.cell? ⟨w.heap.size, 3, none⟩ = some (.int .u8 m3) ∧ w'.cell? ⟨w.heap.size, 4, none⟩ = some (.int .u8 m4) ∧ w'.cell? ⟨w.heap.size, 5, none⟩ = some (.int .u8 m5) ∧ Blk w' w.heap.size #[.int .u8 m0, .int .u8 m1, .int .u8 m2, .int .u8 m3, .int .u8 m4, .int .u8 m5] 35 ∧ Fr [] w w')) (by kernel_rfl) ?_ (fun hHeld => ?_)
  · (try dsimp only); exact hG
  refine wpAnyH_ready (rs := [0]) (by kernel_rfl) (by simp) ?_
  refine AllReadyH.cons (o := _) rfl (fun K hK => ?_) AllReadyH.nil
  go_simp
  (with_reducible refine (alive6 _).mono ?_)
  rintro r w3 ⟨rfl, hF3⟩
  go_wp2_with fail
  refine hK.out _ _ ?_ (fun hHeld => ?_)
  · (try dsimp only); first | assumption | exact CkS.call (by assumption) (by assumption)
  clear hK K
  try simp only [Act.put, List.setIfInBounds_toArray, List.set_cons_zero, List.set_cons_succ]
  refine take_yes 1 60 rfl rfl (by kernel_rfl) (by kernel_rfl) (by kernel_rfl) (fun _ _ _ h => h) (by rfl) (by assumption) (v := ?_) ?_ ?_
  rotate_left
  · intro w hSw; (try dsimp only at hSw); go_simp; (try with_reducible rfl)
  try simp only [Act.put, List.setIfInBounds_toArray, List.set_cons_zero, List.set_cons_succ]
  refine take_yes 2 61 rfl rfl (by kernel_rfl) (by kernel_rfl) (by kernel_rfl) (fun _ _ _ h => h) (by rfl) (by assumption) (v := ?_) ?_ ?_
  rotate_left
  · intro w hSw; (try dsimp only at hSw); go_simp; (try with_reducible rfl)
  try simp only [Act.put, List.setIfInBounds_toArray, List.set_cons_zero, List.set_cons_succ]
  refine take_yes 3 62 rfl rfl (by kernel_rfl) (by kernel_rfl) (by kernel_rfl) (fun _ _ _ h => h) (by rfl) (by assumption) (v := ?_) ?_ ?_
  rotate_left
  · intro w hSw; (try dsimp only at hSw); go_simp; (try with_reducible rfl)
  try simp only [Act.put, List.setIfInBounds_toArray, List.set_cons_zero, List.set_cons_succ]
  refine take_yes 4 63 rfl rfl (by kernel_rfl) (by kernel_rfl) (by kernel_rfl) (fun _ _ _ h => h) (by rfl) (by assumption) (v := ?_) ?_ ?_
  rotate_left
  · intro w hSw; (try dsimp only at hSw); go_simp; (try with_reducible rfl)
  try simp only [Act.put, List.setIfInBounds_toArray, List.set_cons_zero, List.set_cons_succ]
  refine take_yes 5 64 rfl rfl (by kernel_rfl) (by kernel_rfl) (by kernel_rfl) (fun _ _ _ h => h) (by rfl) (by assumption) (v := ?_) ?_ ?_
  rotate_left
  · intro w hSw; (try dsimp only at hSw); go_simp; (try with_reducible rfl)
  try simp only [Act.put, List.setIfInBounds_toArray, List.set_cons_zero, List.set_cons_succ]
  refine take_no 6 65 rfl rfl (by kernel_rfl) (by kernel_rfl) (by kernel_rfl) (fun _ _ _ h => h) (by rfl) (by assumption) ?_
  try simp only [Act.put, List.setIfInBounds_toArray, List.set_cons_zero, List.set_cons_succ]
  refine take_no 7 66 rfl rfl (by kernel_rfl) (by kernel_rfl) (by kernel_rfl) (fun _ _ _ h => h) (by rfl) (by assumption) ?_
  try simp only [Act.put, List.setIfInBounds_toArray, List.set_cons_zero, List.set_cons_succ]
  refine take_no 8 67 rfl rfl (by kernel_rfl) (by kernel_rfl) (by kernel_rfl) (fun _ _ _ h => h) (by rfl) (by assumption) ?_
  try simp only [Act.put, List.setIfInBounds_toArray, List.set_cons_zero, List.set_cons_succ]
  refine take_no 9 68 rfl rfl (by kernel_rfl) (by kernel_rfl) (by kernel_rfl) (fun _ _ _ h => h) (by rfl) (by assumption) ?_
  try simp only [Act.put, List.setIfInBounds_toArray, List.set_cons_zero, List.set_cons_succ]
  refine take_no 10 69 rfl rfl (by kernel_rfl) (by kernel_rfl) (by kernel_rfl) (fun _ _ _ h => h) (by rfl) (by assumption) ?_
  try simp only [Act.put, List.setIfInBounds_toArray, List.set_cons_zero, List.set_cons_succ]
  refine take_no 11 70 rfl rfl (by kernel_rfl) (by kernel_rfl) (by kernel_rfl) (fun _ _ _ h => h) (by rfl) (by assumption) ?_
  try simp only [Act.put, List.setIfInBounds_toArray, List.set_cons_zero, List.set_cons_succ]
  refine take_no 12 71 rfl rfl (by kernel_rfl) (by kernel_rfl) (by kernel_rfl) (fun _ _ _ h => h) (by rfl) (by assumption) ?_
  try simp only [Act.put, List.setIfInBounds_toArray, List.set_cons_zero, List.set_cons_succ]
  refine take_no 13 72 rfl rfl (by kernel_rfl) (by kernel_rfl) (by kernel_rfl) (fun _ _ _ h => h) (by rfl) (by assumption) ?_
  try simp only [Act.put, List.setIfInBounds_toArray, List.set_cons_zero, List.set_cons_succ]
  refine take_no 14 73 rfl rfl (by kernel_rfl) (by kernel_rfl) (by kernel_rfl) (fun _ _ _ h => h) (by rfl) (by assumption) ?_
  try simp only [Act.put, List.setIfInBounds_toArray, List.set_cons_zero, List.set_cons_succ]
  refine take_no 15 74 rfl rfl (by kernel_rfl) (by kernel_rfl) (by kernel_rfl) (fun _ _ _ h => h) (by rfl) (by assumption) ?_
  try simp only [Act.put, List.setIfInBounds_toArray, List.set_cons_zero, List.set_cons_succ]
  refine take_no 16 75 rfl rfl (by kernel_rfl) (by kernel_rfl) (by kernel_rfl) (fun _ _ _ h => h) (by rfl) (by assumption) ?_
  try simp only [Act.put, List.setIfInBounds_toArray, List.set_cons_zero, List.set_cons_succ]
  refine take_no 17 76 rfl rfl (by kernel_rfl) (by kernel_rfl) (by kernel_rfl) (fun _ _ _ h => h) (by rfl) (by assumption) ?_
  try simp only [Act.put, List.setIfInBounds_toArray, List.set_cons_zero, List.set_cons_succ]
  refine take_no 18 77 rfl rfl (by kernel_rfl) (by kernel_rfl) (by kernel_rfl) (fun _ _ _ h => h) (by rfl) (by assumption) ?_
  try simp only [Act.put, List.setIfInBounds_toArray, List.set_cons_zero, List.set_cons_succ]
  refine take_yes 19 78 rfl rfl (by kernel_rfl) (by kernel_rfl) (by kernel_rfl) (fun _ _ _ h => h) (by rfl) (by assumption) (v := ?_) ?_ ?_
  rotate_left
  · intro w hSw; (try dsimp only at hSw); go_simp; (try with_reducible rfl)
  try simp only [Act.put, List.setIfInBounds_toArray, List.set_cons_zero, List.set_cons_succ]
  refine take_yes 20 79 rfl rfl (by kernel_rfl) (by kernel_rfl) (by kernel_rfl) (fun _ _ _ h => h) (by rfl) (by assumption) (v := ?_) ?_ ?_
  rotate_left
  · intro w hSw; (try dsimp only at hSw); go_simp; (try with_reducible rfl)
  try simp only [Act.put, List.setIfInBounds_toArray, List.set_cons_zero, List.set_cons_succ]
  refine take_yes 21 10 rfl rfl (by kernel_rfl) (by kernel_rfl) (by kernel_rfl) (fun _ _ _ h => h) (by rfl) (by assumption) (v := ?_) ?_ ?_
  rotate_left
  · intro w hSw; (try dsimp only at hSw); go_simp; (try with_reducible rfl)
  try simp only [Act.put, List.setIfInBounds_toArray, List.set_cons_zero, List.set_cons_succ]
  refine wpAnyH_done (by kernel_rfl) ?_ _
  all_goals
    have hfin : Fr [] w w3 := by go_split_ands; assumption
    clear hG hB hF
    go_wp2_with fail
    go_ret
    exact ⟨rfl, hfin.below (Nat.le_refl _) (by simp)⟩

set_option maxHeartbeats 2000000 in
theorem cookieEpochs_walk (w : World) (s : ByteArray) (hs : s.size ≤ 140737488351232) (m0 m1 m2 m3 m4 m5 : Int) (v : ByteArray) (hv : v.size ≤ 140737488351232) (t : Int) (t0 : -9223372036854775808 ≤ t) (t1 : t ≤ 9223372036854775807) (k : Int) (k0 : -9223372036854775808 ≤ k) (k1 : k ≤ 9223372036854775807) :
    Calls Try.prog 10 #[.string s, .agg #[.int .u8 m0, .int .u8 m1, .int .u8 m2, .int .u8 m3, .int .u8 m4, .int .u8 m5], .string v, .int .i64 t, .int .i64 k] w fun e w' => e = .returned (.bool true) ∧ Below w.heap.size w w' := by
  obtain ⟨s, rfl⟩ : ∃ l, s = B l := ⟨_, B_of s⟩
  obtain ⟨v, rfl⟩ : ∃ l, v = B l := ⟨_, B_of v⟩
  rw [B_size] at hs hv
  by_cases h1 : (3000 : Int) < (s.length : Int) + v.length
  rotate_left
  by_cases h2 : k < 0
  rotate_left
  by_cases h3 : 63 < k
  rotate_left
  by_cases h4 : 4611686018427387904 < t
  rotate_left
  by_cases h5 : t < -4611686018427387904
  rotate_left
  · rcases (show (t + k) / 64 = t / 64 ∨ (t + k) / 64 = t / 64 + 1 by omega) with hd | hd
    · exact cookieEpochs_same w s m0 m1 m2 m3 m4 m5 v t k h1 h2 h3 h4 h5 hd
    · exact cookieEpochs_next w s m0 m1 m2 m3 m4 m5 v t k h1 h2 h3 h4 h5 hd
  all_goals
    go_enter Try.func10, Try.ntmps10
    go_wp2_with fail
    refine (alive6 _).mono ?_
    rintro e w1 ⟨rfl, hF⟩
    go_wp2
    go_ret
    exact ⟨rfl, ((Fr.refl _ _).alloc _ |>.trans hF).below (Nat.le_refl _) (by simp)⟩
end Go.Proofs.Ytgeoldcddfmgnaa
