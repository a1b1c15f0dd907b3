/- host: Take and Data of a nil host, and where nothing is for it (printed by tools/gen_host9.py). -/
import Derived.Test.YtcdencpkgfehlaaHostW
import Derived.Test.YtcdencpkgfehlaaHost8
import Derived.Test.YtcdencpkgfehlaaEqEth
import Derived.Test.YtcdencpkgfehlaaMgA
namespace Go.Proofs.Ytcdencpkgfehlaa
open Go.RowKit
set_option linter.unusedVariables false
section
variable {w : World}
set_option maxRecDepth 100000 in
set_option maxHeartbeats 4000000 in
theorem take_nil (f : Et) : Calls Try.prog 19 #[.pointer none, .agg (etC f)] w fun e w' => e = .returned (.slice none 0 0) ∧ Fr [] w w' := by
  obtain ⟨⟨k1, k2, k3, k4, k5, k6⟩, ⟨s1, s2, s3, s4, s5, s6⟩, ty, d⟩ := f
  unfold etC ethC
  simp only
  have hF := (Fr.refl [] w).alloc (.cells #[.int .u8 k1, .int .u8 k2, .int .u8 k3, .int .u8 k4, .int .u8 k5, .int .u8 k6, .int .u8 s1, .int .u8 s2, .int .u8 s3, .int .u8 s4, .int .u8 s5, .int .u8 s6, .int .i64 ty, .string (B d)] 35 (0, 0))
  have hN := Blk.new w #[.int .u8 k1, .int .u8 k2, .int .u8 k3, .int .u8 k4, .int .u8 k5, .int .u8 k6, .int .u8 s1, .int .u8 s2, .int .u8 s3, .int .u8 s4, .int .u8 s5, .int .u8 s6, .int .i64 ty, .string (B d)] 35
  go_enter Try.func19, Try.ntmps19
  go_wp2_with fail
  obtain ⟨q, hq⟩ : ∃ q, w.heap.size = q := ⟨_, rfl⟩
  obtain ⟨W3, hW3⟩ : ∃ W, w.alloc (.cells #[.int .u8 k1, .int .u8 k2, .int .u8 k3, .int .u8 k4, .int .u8 k5, .int .u8 k6, .int .u8 s1, .int .u8 s2, .int .u8 s3, .int .u8 s4, .int .u8 s5, .int .u8 s6, .int .i64 ty, .string (B d)] 35 (0, 0)) = W := ⟨_, rfl⟩
  rw [hq] at hN ⊢
  rw [hW3] at hN hF ⊢
  have HF3 := Lib.hid hF
  have HQ := Lib.hid hq
  have HX : Hid (∀ W, Fr [] W3 W → (fun W => (W.cell? ⟨q, 0, none⟩ = some (.int .u8 k1) ∧ W.cell? ⟨q, 1, none⟩ = some (.int .u8 k2) ∧ W.cell? ⟨q, 2, none⟩ = some (.int .u8 k3) ∧ W.cell? ⟨q, 3, none⟩ = some (.int .u8 k4) ∧ W.cell? ⟨q, 4, none⟩ = some (.int .u8 k5) ∧ W.cell? ⟨q, 5, none⟩ = some (.int .u8 k6) ∧ W.cell? ⟨q, 12, none⟩ = some (.int .i64 ty)) ∧ Fr [] W3 W) W) := Lib.hid fun W hW => by
    have hb := hW.blk hN (by simp)
    exact ⟨⟨hb.c 0 _ rfl, hb.c 1 _ rfl, hb.c 2 _ rfl, hb.c 3 _ rfl, hb.c 4 _ rfl, hb.c 5 _ rfl, hb.c 12 _ rfl⟩, hW⟩
  have hG0 := HX.out _ (Fr.refl [] W3).drew
  dsimp only at hG0
  clear hq hW3 hN hF HX
  refine wp_region_held_drew (S := (fun W => (W.cell? ⟨q, 0, none⟩ = some (.int .u8 k1) ∧ W.cell? ⟨q, 1, none⟩ = some (.int .u8 k2) ∧ W.cell? ⟨q, 2, none⟩ = some (.int .u8 k3) ∧ W.cell? ⟨q, 3, none⟩ = some (.int .u8 k4) ∧ W.cell? ⟨q, 4, none⟩ = some (.int .u8 k5) ∧ W.cell? ⟨q, 5, none⟩ = some (.int .u8 k6) ∧ W.cell? ⟨q, 12, none⟩ = some (.int .i64 ty)) ∧ Fr [] W3 W)) (by kernel_rfl) ?_ (fun hHeld => ?_)
  · (try dsimp only); exact hG0
  refine take_yes 0 9 rfl rfl (by kernel_rfl) (by kernel_rfl) (by kernel_rfl) (fun _ _ _ h => h) (by rfl) (by assumption) (v := ?_) ?_ ?_
  rotate_left
  · intro w hSw; (try dsimp only at hSw); go_simp; (try with_reducible rfl)
  try simp only [Act.put, List.setIfInBounds_toArray, List.set_cons_zero, List.set_cons_succ]
  refine wpAnyH_ready (rs := [1]) (by kernel_rfl) (by simp) ?_
  refine AllReadyH.cons (o := _) rfl (fun K hK => ?_) AllReadyH.nil
  go_simp
  refine hnone_nil.mono ?_
  rintro e w1 ⟨rfl, rfl⟩
  (try go_wp2_with fail)
  refine hK.out _ _ ?_ (fun hHeld => ?_)
  · (try dsimp only); assumption
  clear hK K
  try simp only [Act.put, List.setIfInBounds_toArray, List.set_cons_zero, List.set_cons_succ]
  refine take_yes 2 11 rfl rfl (by kernel_rfl) (by kernel_rfl) (by kernel_rfl) (fun _ _ _ h => h) (by rfl) (by assumption) (v := ?_) ?_ ?_
  rotate_left
  · intro w hSw; (try dsimp only at hSw); go_simp; (try with_reducible rfl)
  try simp only [Act.put, List.setIfInBounds_toArray, List.set_cons_zero, List.set_cons_succ]
  refine take_no 3 12 rfl rfl (by kernel_rfl) (by kernel_rfl) (by kernel_rfl) (fun _ _ _ h => h) (by rfl) (by assumption) ?_
  try simp only [Act.put, List.setIfInBounds_toArray, List.set_cons_zero, List.set_cons_succ]
  refine take_no 4 13 rfl rfl (by kernel_rfl) (by kernel_rfl) (by kernel_rfl) (fun _ _ _ h => h) (by rfl) (by assumption) ?_
  try simp only [Act.put, List.setIfInBounds_toArray, List.set_cons_zero, List.set_cons_succ]
  refine take_no 5 14 rfl rfl (by kernel_rfl) (by kernel_rfl) (by kernel_rfl) (fun _ _ _ h => h) (by rfl) (by assumption) ?_
  try simp only [Act.put, List.setIfInBounds_toArray, List.set_cons_zero, List.set_cons_succ]
  refine take_yes 6 15 rfl rfl (by kernel_rfl) (by kernel_rfl) (by kernel_rfl) (fun _ _ _ h => h) (by rfl) (by assumption) (v := ?_) ?_ ?_
  rotate_left
  · intro w hSw; (try dsimp only at hSw); go_simp; (try with_reducible rfl)
  try simp only [Act.put, List.setIfInBounds_toArray, List.set_cons_zero, List.set_cons_succ]
  refine take_yes 7 16 rfl rfl (by kernel_rfl) (by kernel_rfl) (by kernel_rfl) (fun _ _ _ h => h) (by rfl) (by assumption) (v := ?_) ?_ ?_
  rotate_left
  · intro w hSw; (try dsimp only at hSw); go_simp; (try with_reducible rfl)
  try simp only [Act.put, List.setIfInBounds_toArray, List.set_cons_zero, List.set_cons_succ]
  refine take_no 8 17 rfl rfl (by kernel_rfl) (by kernel_rfl) (by kernel_rfl) (fun _ _ _ h => h) (by rfl) (by assumption) ?_
  try simp only [Act.put, List.setIfInBounds_toArray, List.set_cons_zero, List.set_cons_succ]
  refine take_no 9 18 rfl rfl (by kernel_rfl) (by kernel_rfl) (by kernel_rfl) (fun _ _ _ h => h) (by rfl) (by assumption) ?_
  try simp only [Act.put, List.setIfInBounds_toArray, List.set_cons_zero, List.set_cons_succ]
  refine take_no 10 19 rfl rfl (by kernel_rfl) (by kernel_rfl) (by kernel_rfl) (fun _ _ _ h => h) (by rfl) (by assumption) ?_
  try simp only [Act.put, List.setIfInBounds_toArray, List.set_cons_zero, List.set_cons_succ]
  refine take_no 11 20 rfl rfl (by kernel_rfl) (by kernel_rfl) (by kernel_rfl) (fun _ _ _ h => h) (by rfl) (by assumption) ?_
  try simp only [Act.put, List.setIfInBounds_toArray, List.set_cons_zero, List.set_cons_succ]
  refine take_no 12 21 rfl rfl (by kernel_rfl) (by kernel_rfl) (by kernel_rfl) (fun _ _ _ h => h) (by rfl) (by assumption) ?_
  try simp only [Act.put, List.setIfInBounds_toArray, List.set_cons_zero, List.set_cons_succ]
  refine take_no 13 22 rfl rfl (by kernel_rfl) (by kernel_rfl) (by kernel_rfl) (fun _ _ _ h => h) (by rfl) (by assumption) ?_
  try simp only [Act.put, List.setIfInBounds_toArray, List.set_cons_zero, List.set_cons_succ]
  refine take_no 14 23 rfl rfl (by kernel_rfl) (by kernel_rfl) (by kernel_rfl) (fun _ _ _ h => h) (by rfl) (by assumption) ?_
  try simp only [Act.put, List.setIfInBounds_toArray, List.set_cons_zero, List.set_cons_succ]
  refine take_yes 15 24 rfl rfl (by kernel_rfl) (by kernel_rfl) (by kernel_rfl) (fun _ _ _ h => h) (by rfl) (by assumption) (v := ?_) ?_ ?_
  rotate_left
  · intro w hSw; (try dsimp only at hSw); go_simp; (try with_reducible rfl)
  try simp only [Act.put, List.setIfInBounds_toArray, List.set_cons_zero, List.set_cons_succ]
  refine wpAnyH_done (by kernel_rfl) ?_ _
  go_wp2_with fail
  go_ret
  exact ⟨rfl, HF3.out.trans (And.right (by assumption))⟩
set_option maxRecDepth 100000 in
set_option maxHeartbeats 4000000 in
theorem data_nil (f : Et) : Calls Try.prog 20 #[.pointer none, .agg (etC f)] w fun e w' => e = .returned (.tuple #[.string ⟨#[]⟩, .bool false]) ∧ Fr [] w w' := by
  obtain ⟨⟨k1, k2, k3, k4, k5, k6⟩, ⟨s1, s2, s3, s4, s5, s6⟩, ty, d⟩ := f
  unfold etC ethC
  simp only
  have hF := (Fr.refl [] w).alloc (.cells #[.int .u8 k1, .int .u8 k2, .int .u8 k3, .int .u8 k4, .int .u8 k5, .int .u8 k6, .int .u8 s1, .int .u8 s2, .int .u8 s3, .int .u8 s4, .int .u8 s5, .int .u8 s6, .int .i64 ty, .string (B d)] 35 (0, 0))
  have hN := Blk.new w #[.int .u8 k1, .int .u8 k2, .int .u8 k3, .int .u8 k4, .int .u8 k5, .int .u8 k6, .int .u8 s1, .int .u8 s2, .int .u8 s3, .int .u8 s4, .int .u8 s5, .int .u8 s6, .int .i64 ty, .string (B d)] 35
  go_enter Try.func20, Try.ntmps20
  go_wp2_with fail
  obtain ⟨q, hq⟩ : ∃ q, w.heap.size = q := ⟨_, rfl⟩
  obtain ⟨W3, hW3⟩ : ∃ W, w.alloc (.cells #[.int .u8 k1, .int .u8 k2, .int .u8 k3, .int .u8 k4, .int .u8 k5, .int .u8 k6, .int .u8 s1, .int .u8 s2, .int .u8 s3, .int .u8 s4, .int .u8 s5, .int .u8 s6, .int .i64 ty, .string (B d)] 35 (0, 0)) = W := ⟨_, rfl⟩
  rw [hq] at hN ⊢
  rw [hW3] at hN hF ⊢
  have HF3 := Lib.hid hF
  have HQ := Lib.hid hq
  have HX : Hid (∀ W, Fr [] W3 W → (fun W => (W.cell? ⟨q, 0, none⟩ = some (.int .u8 k1) ∧ W.cell? ⟨q, 1, none⟩ = some (.int .u8 k2) ∧ W.cell? ⟨q, 2, none⟩ = some (.int .u8 k3) ∧ W.cell? ⟨q, 3, none⟩ = some (.int .u8 k4) ∧ W.cell? ⟨q, 4, none⟩ = some (.int .u8 k5) ∧ W.cell? ⟨q, 5, none⟩ = some (.int .u8 k6) ∧ W.cell? ⟨q, 12, none⟩ = some (.int .i64 ty)) ∧ Fr [] W3 W) W) := Lib.hid fun W hW => by
    have hb := hW.blk hN (by simp)
    exact ⟨⟨hb.c 0 _ rfl, hb.c 1 _ rfl, hb.c 2 _ rfl, hb.c 3 _ rfl, hb.c 4 _ rfl, hb.c 5 _ rfl, hb.c 12 _ rfl⟩, hW⟩
  have hG0 := HX.out _ (Fr.refl [] W3).drew
  dsimp only at hG0
  clear hq hW3 hN hF HX
  refine wp_region_held_drew (S := (fun W => (W.cell? ⟨q, 0, none⟩ = some (.int .u8 k1) ∧ W.cell? ⟨q, 1, none⟩ = some (.int .u8 k2) ∧ W.cell? ⟨q, 2, none⟩ = some (.int .u8 k3) ∧ W.cell? ⟨q, 3, none⟩ = some (.int .u8 k4) ∧ W.cell? ⟨q, 4, none⟩ = some (.int .u8 k5) ∧ W.cell? ⟨q, 5, none⟩ = some (.int .u8 k6) ∧ W.cell? ⟨q, 12, none⟩ = some (.int .i64 ty)) ∧ Fr [] W3 W)) (by kernel_rfl) ?_ (fun hHeld => ?_)
  · (try dsimp only); exact hG0
  refine take_yes 0 8 rfl rfl (by kernel_rfl) (by kernel_rfl) (by kernel_rfl) (fun _ _ _ h => h) (by rfl) (by assumption) (v := ?_) ?_ ?_
  rotate_left
  · intro w hSw; (try dsimp only at hSw); go_simp; (try with_reducible rfl)
  try simp only [Act.put, List.setIfInBounds_toArray, List.set_cons_zero, List.set_cons_succ]
  refine wpAnyH_ready (rs := [1]) (by kernel_rfl) (by simp) ?_
  refine AllReadyH.cons (o := _) rfl (fun K hK => ?_) AllReadyH.nil
  go_simp
  refine hnone_nil.mono ?_
  rintro e w1 ⟨rfl, rfl⟩
  (try go_wp2_with fail)
  refine hK.out _ _ ?_ (fun hHeld => ?_)
  · (try dsimp only); assumption
  clear hK K
  try simp only [Act.put, List.setIfInBounds_toArray, List.set_cons_zero, List.set_cons_succ]
  refine take_yes 2 10 rfl rfl (by kernel_rfl) (by kernel_rfl) (by kernel_rfl) (fun _ _ _ h => h) (by rfl) (by assumption) (v := ?_) ?_ ?_
  rotate_left
  · intro w hSw; (try dsimp only at hSw); go_simp; (try with_reducible rfl)
  try simp only [Act.put, List.setIfInBounds_toArray, List.set_cons_zero, List.set_cons_succ]
  refine take_no 3 11 rfl rfl (by kernel_rfl) (by kernel_rfl) (by kernel_rfl) (fun _ _ _ h => h) (by rfl) (by assumption) ?_
  try simp only [Act.put, List.setIfInBounds_toArray, List.set_cons_zero, List.set_cons_succ]
  refine take_no 4 12 rfl rfl (by kernel_rfl) (by kernel_rfl) (by kernel_rfl) (fun _ _ _ h => h) (by rfl) (by assumption) ?_
  try simp only [Act.put, List.setIfInBounds_toArray, List.set_cons_zero, List.set_cons_succ]
  refine take_no 5 13 rfl rfl (by kernel_rfl) (by kernel_rfl) (by kernel_rfl) (fun _ _ _ h => h) (by rfl) (by assumption) ?_
  try simp only [Act.put, List.setIfInBounds_toArray, List.set_cons_zero, List.set_cons_succ]
  refine take_no 6 14 rfl rfl (by kernel_rfl) (by kernel_rfl) (by kernel_rfl) (fun _ _ _ h => h) (by rfl) (by assumption) ?_
  try simp only [Act.put, List.setIfInBounds_toArray, List.set_cons_zero, List.set_cons_succ]
  refine take_no 7 15 rfl rfl (by kernel_rfl) (by kernel_rfl) (by kernel_rfl) (fun _ _ _ h => h) (by rfl) (by assumption) ?_
  try simp only [Act.put, List.setIfInBounds_toArray, List.set_cons_zero, List.set_cons_succ]
  refine take_yes 8 16 rfl rfl (by kernel_rfl) (by kernel_rfl) (by kernel_rfl) (fun _ _ _ h => h) (by rfl) (by assumption) (v := ?_) ?_ ?_
  rotate_left
  · intro w hSw; (try dsimp only at hSw); go_simp; (try with_reducible rfl)
  try simp only [Act.put, List.setIfInBounds_toArray, List.set_cons_zero, List.set_cons_succ]
  refine take_yes 9 17 rfl rfl (by kernel_rfl) (by kernel_rfl) (by kernel_rfl) (fun _ _ _ h => h) (by rfl) (by assumption) (v := ?_) ?_ ?_
  rotate_left
  · intro w hSw; (try dsimp only at hSw); go_simp; (try with_reducible rfl)
  try simp only [Act.put, List.setIfInBounds_toArray, List.set_cons_zero, List.set_cons_succ]
  refine take_no 10 18 rfl rfl (by kernel_rfl) (by kernel_rfl) (by kernel_rfl) (fun _ _ _ h => h) (by rfl) (by assumption) ?_
  try simp only [Act.put, List.setIfInBounds_toArray, List.set_cons_zero, List.set_cons_succ]
  refine take_no 11 19 rfl rfl (by kernel_rfl) (by kernel_rfl) (by kernel_rfl) (fun _ _ _ h => h) (by rfl) (by assumption) ?_
  try simp only [Act.put, List.setIfInBounds_toArray, List.set_cons_zero, List.set_cons_succ]
  refine take_no 12 20 rfl rfl (by kernel_rfl) (by kernel_rfl) (by kernel_rfl) (fun _ _ _ h => h) (by rfl) (by assumption) ?_
  try simp only [Act.put, List.setIfInBounds_toArray, List.set_cons_zero, List.set_cons_succ]
  refine take_yes 13 21 rfl rfl (by kernel_rfl) (by kernel_rfl) (by kernel_rfl) (fun _ _ _ h => h) (by rfl) (by assumption) (v := ?_) ?_ ?_
  rotate_left
  · intro w hSw; (try dsimp only at hSw); go_simp; (try with_reducible rfl)
  try simp only [Act.put, List.setIfInBounds_toArray, List.set_cons_zero, List.set_cons_succ]
  refine take_yes 14 22 rfl rfl (by kernel_rfl) (by kernel_rfl) (by kernel_rfl) (fun _ _ _ h => h) (by rfl) (by assumption) (v := ?_) ?_ ?_
  rotate_left
  · intro w hSw; (try dsimp only at hSw); go_simp; (try with_reducible rfl)
  try simp only [Act.put, List.setIfInBounds_toArray, List.set_cons_zero, List.set_cons_succ]
  refine take_no 15 23 rfl rfl (by kernel_rfl) (by kernel_rfl) (by kernel_rfl) (fun _ _ _ h => h) (by rfl) (by assumption) ?_
  try simp only [Act.put, List.setIfInBounds_toArray, List.set_cons_zero, List.set_cons_succ]
  refine take_no 16 24 rfl rfl (by kernel_rfl) (by kernel_rfl) (by kernel_rfl) (fun _ _ _ h => h) (by rfl) (by assumption) ?_
  try simp only [Act.put, List.setIfInBounds_toArray, List.set_cons_zero, List.set_cons_succ]
  refine take_no 17 25 rfl rfl (by kernel_rfl) (by kernel_rfl) (by kernel_rfl) (fun _ _ _ h => h) (by rfl) (by assumption) ?_
  try simp only [Act.put, List.setIfInBounds_toArray, List.set_cons_zero, List.set_cons_succ]
  refine take_no 18 26 rfl rfl (by kernel_rfl) (by kernel_rfl) (by kernel_rfl) (fun _ _ _ h => h) (by rfl) (by assumption) ?_
  try simp only [Act.put, List.setIfInBounds_toArray, List.set_cons_zero, List.set_cons_succ]
  refine take_no 19 27 rfl rfl (by kernel_rfl) (by kernel_rfl) (by kernel_rfl) (fun _ _ _ h => h) (by rfl) (by assumption) ?_
  try simp only [Act.put, List.setIfInBounds_toArray, List.set_cons_zero, List.set_cons_succ]
  refine take_no 20 28 rfl rfl (by kernel_rfl) (by kernel_rfl) (by kernel_rfl) (fun _ _ _ h => h) (by rfl) (by assumption) ?_
  try simp only [Act.put, List.setIfInBounds_toArray, List.set_cons_zero, List.set_cons_succ]
  refine take_no 21 29 rfl rfl (by kernel_rfl) (by kernel_rfl) (by kernel_rfl) (fun _ _ _ h => h) (by rfl) (by assumption) ?_
  try simp only [Act.put, List.setIfInBounds_toArray, List.set_cons_zero, List.set_cons_succ]
  refine take_yes 22 30 rfl rfl (by kernel_rfl) (by kernel_rfl) (by kernel_rfl) (fun _ _ _ h => h) (by rfl) (by assumption) (v := ?_) ?_ ?_
  rotate_left
  · intro w hSw; (try dsimp only at hSw); go_simp; (try with_reducible rfl)
  try simp only [Act.put, List.setIfInBounds_toArray, List.set_cons_zero, List.set_cons_succ]
  refine take_yes 23 31 rfl rfl (by kernel_rfl) (by kernel_rfl) (by kernel_rfl) (fun _ _ _ h => h) (by rfl) (by assumption) (v := ?_) ?_ ?_
  rotate_left
  · intro w hSw; (try dsimp only at hSw); go_simp; (try with_reducible rfl)
  try simp only [Act.put, List.setIfInBounds_toArray, List.set_cons_zero, List.set_cons_succ]
  refine take_no 24 32 rfl rfl (by kernel_rfl) (by kernel_rfl) (by kernel_rfl) (fun _ _ _ h => h) (by rfl) (by assumption) ?_
  try simp only [Act.put, List.setIfInBounds_toArray, List.set_cons_zero, List.set_cons_succ]
  refine take_no 25 33 rfl rfl (by kernel_rfl) (by kernel_rfl) (by kernel_rfl) (fun _ _ _ h => h) (by rfl) (by assumption) ?_
  try simp only [Act.put, List.setIfInBounds_toArray, List.set_cons_zero, List.set_cons_succ]
  refine take_no 26 34 rfl rfl (by kernel_rfl) (by kernel_rfl) (by kernel_rfl) (fun _ _ _ h => h) (by rfl) (by assumption) ?_
  try simp only [Act.put, List.setIfInBounds_toArray, List.set_cons_zero, List.set_cons_succ]
  refine take_no 27 35 rfl rfl (by kernel_rfl) (by kernel_rfl) (by kernel_rfl) (fun _ _ _ h => h) (by rfl) (by assumption) ?_
  try simp only [Act.put, List.setIfInBounds_toArray, List.set_cons_zero, List.set_cons_succ]
  refine take_no 28 36 rfl rfl (by kernel_rfl) (by kernel_rfl) (by kernel_rfl) (fun _ _ _ h => h) (by rfl) (by assumption) ?_
  try simp only [Act.put, List.setIfInBounds_toArray, List.set_cons_zero, List.set_cons_succ]
  refine take_no 29 37 rfl rfl (by kernel_rfl) (by kernel_rfl) (by kernel_rfl) (fun _ _ _ h => h) (by rfl) (by assumption) ?_
  try simp only [Act.put, List.setIfInBounds_toArray, List.set_cons_zero, List.set_cons_succ]
  refine take_no 30 38 rfl rfl (by kernel_rfl) (by kernel_rfl) (by kernel_rfl) (fun _ _ _ h => h) (by rfl) (by assumption) ?_
  try simp only [Act.put, List.setIfInBounds_toArray, List.set_cons_zero, List.set_cons_succ]
  refine take_yes 31 39 rfl rfl (by kernel_rfl) (by kernel_rfl) (by kernel_rfl) (fun _ _ _ h => h) (by rfl) (by assumption) (v := ?_) ?_ ?_
  rotate_left
  · intro w hSw; (try dsimp only at hSw); go_simp; (try with_reducible rfl)
  try simp only [Act.put, List.setIfInBounds_toArray, List.set_cons_zero, List.set_cons_succ]
  refine wpAnyH_done (by kernel_rfl) ?_ _
  go_wp2_with fail
  go_ret2
  exact ⟨rfl, HF3.out.trans (And.right (by assumption))⟩
set_option maxRecDepth 100000 in
set_option maxHeartbeats 4000000 in
theorem take_ty {g : Nat} {h : Hs} {ck : Value} (f : Et) (hw : h.wt ≠ 0) (hx : f.ty ≠ 34915) (hB : Blk w g (hsC h ck) 92) : Calls Try.prog 19 #[.pointer (some ⟨g, 0, none⟩), .agg (etC f)] w fun e w' => e = .returned (.slice none 0 0) ∧ Fr [] w w' := by
  have HH := Lib.hid hB
  have NO := Lib.hid fun W (hW : Fr [] w W) => hnone_any (hW.blk hB (by simp))
  have hwt : (h.wt == 0) = false := by simpa using hw
  rw [hwt] at NO
  have hgl := hB.lt
  have hx1 : (f.ty != 34915) = true := by simpa using hx
  obtain ⟨⟨m1, m2, m3, m4, m5, m6⟩, sv, un, rt, wt, st, kk, sx, tk, ag⟩ := h
  obtain ⟨⟨k1, k2, k3, k4, k5, k6⟩, ⟨s1, s2, s3, s4, s5, s6⟩, ty, d⟩ := f
  simp only at hx
  clear hB hw hwt hx
  unfold etC ethC
  simp only
  have hF := (Fr.refl [] w).alloc (.cells #[.int .u8 k1, .int .u8 k2, .int .u8 k3, .int .u8 k4, .int .u8 k5, .int .u8 k6, .int .u8 s1, .int .u8 s2, .int .u8 s3, .int .u8 s4, .int .u8 s5, .int .u8 s6, .int .i64 ty, .string (B d)] 35 (0, 0))
  have hN := Blk.new w #[.int .u8 k1, .int .u8 k2, .int .u8 k3, .int .u8 k4, .int .u8 k5, .int .u8 k6, .int .u8 s1, .int .u8 s2, .int .u8 s3, .int .u8 s4, .int .u8 s5, .int .u8 s6, .int .i64 ty, .string (B d)] 35
  go_enter Try.func19, Try.ntmps19
  go_wp2_with fail
  obtain ⟨q, hq⟩ : ∃ q, w.heap.size = q := ⟨_, rfl⟩
  obtain ⟨W3, hW3⟩ : ∃ W, w.alloc (.cells #[.int .u8 k1, .int .u8 k2, .int .u8 k3, .int .u8 k4, .int .u8 k5, .int .u8 k6, .int .u8 s1, .int .u8 s2, .int .u8 s3, .int .u8 s4, .int .u8 s5, .int .u8 s6, .int .i64 ty, .string (B d)] 35 (0, 0)) = W := ⟨_, rfl⟩
  rw [hq] at hN ⊢
  rw [hW3] at hN hF ⊢
  have HF3 := Lib.hid hF
  have HQ := Lib.hid hq
  have HX : Hid (∀ W, Fr [] W3 W → (fun W => (W.cell? ⟨q, 0, none⟩ = some (.int .u8 k1) ∧ W.cell? ⟨q, 1, none⟩ = some (.int .u8 k2) ∧ W.cell? ⟨q, 2, none⟩ = some (.int .u8 k3) ∧ W.cell? ⟨q, 3, none⟩ = some (.int .u8 k4) ∧ W.cell? ⟨q, 4, none⟩ = some (.int .u8 k5) ∧ W.cell? ⟨q, 5, none⟩ = some (.int .u8 k6) ∧ W.cell? ⟨q, 12, none⟩ = some (.int .i64 ty) ∧ W.cell? ⟨g, 0, none⟩ = some (.int .u8 m1) ∧ W.cell? ⟨g, 1, none⟩ = some (.int .u8 m2) ∧ W.cell? ⟨g, 2, none⟩ = some (.int .u8 m3) ∧ W.cell? ⟨g, 3, none⟩ = some (.int .u8 m4) ∧ W.cell? ⟨g, 4, none⟩ = some (.int .u8 m5) ∧ W.cell? ⟨g, 5, none⟩ = some (.int .u8 m6) ∧ W.cell? ⟨g, 10, none⟩ = some (.int .i64 st)) ∧ Fr [] W3 W) W) := Lib.hid fun W hW => by
    have hb := hW.blk hN (by simp)
    have hh := (HF3.out.trans hW).blk HH.out (by simp)
    exact ⟨⟨hb.c 0 _ rfl, hb.c 1 _ rfl, hb.c 2 _ rfl, hb.c 3 _ rfl, hb.c 4 _ rfl, hb.c 5 _ rfl, hb.c 12 _ rfl, hh.c 0 _ rfl, hh.c 1 _ rfl, hh.c 2 _ rfl, hh.c 3 _ rfl, hh.c 4 _ rfl, hh.c 5 _ rfl, hh.c 10 _ rfl⟩, hW⟩
  have hG0 := HX.out _ (Fr.refl [] W3).drew
  dsimp only at hG0
  have N2 := Lib.hid fun W (hW : Fr [] W3 W) => NO.out W (HF3.out.trans hW)
  clear hq hW3 hN hF HX NO
  refine wp_region_held_drew (S := (fun W => (W.cell? ⟨q, 0, none⟩ = some (.int .u8 k1) ∧ W.cell? ⟨q, 1, none⟩ = some (.int .u8 k2) ∧ W.cell? ⟨q, 2, none⟩ = some (.int .u8 k3) ∧ W.cell? ⟨q, 3, none⟩ = some (.int .u8 k4) ∧ W.cell? ⟨q, 4, none⟩ = some (.int .u8 k5) ∧ W.cell? ⟨q, 5, none⟩ = some (.int .u8 k6) ∧ W.cell? ⟨q, 12, none⟩ = some (.int .i64 ty) ∧ W.cell? ⟨g, 0, none⟩ = some (.int .u8 m1) ∧ W.cell? ⟨g, 1, none⟩ = some (.int .u8 m2) ∧ W.cell? ⟨g, 2, none⟩ = some (.int .u8 m3) ∧ W.cell? ⟨g, 3, none⟩ = some (.int .u8 m4) ∧ W.cell? ⟨g, 4, none⟩ = some (.int .u8 m5) ∧ W.cell? ⟨g, 5, none⟩ = some (.int .u8 m6) ∧ W.cell? ⟨g, 10, none⟩ = some (.int .i64 st)) ∧ Fr [] W3 W)) (by kernel_rfl) ?_ (fun hHeld => ?_)
  · (try dsimp only); exact hG0
  refine take_yes 0 9 rfl rfl (by kernel_rfl) (by kernel_rfl) (by kernel_rfl) (fun _ _ _ h => h) (by rfl) (by assumption) (v := ?_) ?_ ?_
  rotate_left
  · intro w hSw; (try dsimp only at hSw); go_simp; (try with_reducible rfl)
  try simp only [Act.put, List.setIfInBounds_toArray, List.set_cons_zero, List.set_cons_succ]
  refine wpAnyH_ready (rs := [1]) (by kernel_rfl) (by simp) ?_
  refine AllReadyH.cons (o := _) rfl (fun K hK => ?_) AllReadyH.nil
  go_simp
  refine (N2.out _ (And.right (by assumption))).mono ?_
  rintro e w1 ⟨rfl, rfl⟩
  (try go_wp2_with fail)
  refine hK.out _ _ ?_ (fun hHeld => ?_)
  · (try dsimp only); assumption
  clear hK K
  try simp only [Act.put, List.setIfInBounds_toArray, List.set_cons_zero, List.set_cons_succ]
  refine take_yes 2 11 rfl rfl (by kernel_rfl) (by kernel_rfl) (by kernel_rfl) (fun _ _ _ h => h) (by rfl) (by assumption) (v := ?_) ?_ ?_
  rotate_left
  · intro w hSw; (try dsimp only at hSw); go_simp; (try with_reducible rfl)
  try simp only [Act.put, List.setIfInBounds_toArray, List.set_cons_zero, List.set_cons_succ]
  refine take_yes 3 12 rfl rfl (by kernel_rfl) (by kernel_rfl) (by kernel_rfl) (fun _ _ _ h => h) (by rfl) (by assumption) (v := ?_) ?_ ?_
  rotate_left
  · intro w hSw; (try dsimp only at hSw); go_simp; (try with_reducible rfl)
  try simp only [Act.put, List.setIfInBounds_toArray, List.set_cons_zero, List.set_cons_succ]
  refine take_yes 4 13 rfl rfl (by kernel_rfl) (by kernel_rfl) (by kernel_rfl) (fun _ _ _ h => h) (by rfl) (by assumption) (v := ?_) ?_ ?_
  rotate_left
  · intro w hSw; (try dsimp only at hSw); go_simp; (try with_reducible rfl)
  try simp only [Act.put, List.setIfInBounds_toArray, List.set_cons_zero, List.set_cons_succ]
  refine take_yes 5 14 rfl rfl (by kernel_rfl) (by kernel_rfl) (by kernel_rfl) (fun _ _ _ h => h) (by rfl) (by assumption) (v := ?_) ?_ ?_
  rotate_left
  · intro w hSw; (try dsimp only at hSw); go_simp; (try with_reducible rfl)
  try simp only [Act.put, List.setIfInBounds_toArray, List.set_cons_zero, List.set_cons_succ]
  refine take_yes 6 15 rfl rfl (by kernel_rfl) (by kernel_rfl) (by kernel_rfl) (fun _ _ _ h => h) (by rfl) (by assumption) (v := ?_) ?_ ?_
  rotate_left
  · intro w hSw; (try dsimp only at hSw); go_simp; (try with_reducible rfl)
  try simp only [Act.put, List.setIfInBounds_toArray, List.set_cons_zero, List.set_cons_succ]
  refine take_yes 7 16 rfl rfl (by kernel_rfl) (by kernel_rfl) (by kernel_rfl) (fun _ _ _ h => h) (by rfl) (by assumption) (v := ?_) ?_ ?_
  rotate_left
  · intro w hSw; (try dsimp only at hSw); go_simp; (try with_reducible rfl)
  try simp only [Act.put, List.setIfInBounds_toArray, List.set_cons_zero, List.set_cons_succ]
  refine take_no 8 17 rfl rfl (by kernel_rfl) (by kernel_rfl) (by kernel_rfl) (fun _ _ _ h => h) (by rfl) (by assumption) ?_
  try simp only [Act.put, List.setIfInBounds_toArray, List.set_cons_zero, List.set_cons_succ]
  refine take_no 9 18 rfl rfl (by kernel_rfl) (by kernel_rfl) (by kernel_rfl) (fun _ _ _ h => h) (by rfl) (by assumption) ?_
  try simp only [Act.put, List.setIfInBounds_toArray, List.set_cons_zero, List.set_cons_succ]
  refine take_no 10 19 rfl rfl (by kernel_rfl) (by kernel_rfl) (by kernel_rfl) (fun _ _ _ h => h) (by rfl) (by assumption) ?_
  try simp only [Act.put, List.setIfInBounds_toArray, List.set_cons_zero, List.set_cons_succ]
  refine take_no 11 20 rfl rfl (by kernel_rfl) (by kernel_rfl) (by kernel_rfl) (fun _ _ _ h => h) (by rfl) (by assumption) ?_
  try simp only [Act.put, List.setIfInBounds_toArray, List.set_cons_zero, List.set_cons_succ]
  refine take_no 12 21 rfl rfl (by kernel_rfl) (by kernel_rfl) (by kernel_rfl) (fun _ _ _ h => h) (by rfl) (by assumption) ?_
  try simp only [Act.put, List.setIfInBounds_toArray, List.set_cons_zero, List.set_cons_succ]
  refine take_no 13 22 rfl rfl (by kernel_rfl) (by kernel_rfl) (by kernel_rfl) (fun _ _ _ h => h) (by rfl) (by assumption) ?_
  try simp only [Act.put, List.setIfInBounds_toArray, List.set_cons_zero, List.set_cons_succ]
  refine take_no 14 23 rfl rfl (by kernel_rfl) (by kernel_rfl) (by kernel_rfl) (fun _ _ _ h => h) (by rfl) (by assumption) ?_
  try simp only [Act.put, List.setIfInBounds_toArray, List.set_cons_zero, List.set_cons_succ]
  refine take_yes 15 24 rfl rfl (by kernel_rfl) (by kernel_rfl) (by kernel_rfl) (fun _ _ _ h => h) (by rfl) (by assumption) (v := ?_) ?_ ?_
  rotate_left
  · intro w hSw; (try dsimp only at hSw); go_simp; (try with_reducible rfl)
  try simp only [Act.put, List.setIfInBounds_toArray, List.set_cons_zero, List.set_cons_succ]
  refine wpAnyH_done (by kernel_rfl) ?_ _
  go_wp2_with fail
  go_ret
  exact ⟨rfl, HF3.out.trans (And.right (by assumption))⟩
set_option maxRecDepth 100000 in
set_option maxHeartbeats 4000000 in
theorem take_km {g : Nat} {h : Hs} {ck : Value} (f : Et) (hw : h.wt ≠ 0) (hx : f.k ≠ h.m ∧ f.ty = 34915) (hB : Blk w g (hsC h ck) 92) : Calls Try.prog 19 #[.pointer (some ⟨g, 0, none⟩), .agg (etC f)] w fun e w' => e = .returned (.slice none 0 0) ∧ Fr [] w w' := by
  have HH := Lib.hid hB
  have NO := Lib.hid fun W (hW : Fr [] w W) => hnone_any (hW.blk hB (by simp))
  have hwt : (h.wt == 0) = false := by simpa using hw
  rw [hwt] at NO
  have hgl := hB.lt
  have hx1 : (f.ty != 34915) = false := by simpa using hx.2
  have heq : ∀ W, (Op.equalIn 10000 28 (.agg (mcL f.k).toArray) (.agg (mcL h.m).toArray)).run Try.prog W = .ok false W := fun W => by
    have h1 := eq_mac 9998 f.k h.m W
    have h2 : mcEq f.k h.m = false := by
      cases hc : mcEq f.k h.m with
      | false => rfl
      | true => exact absurd ((mcEq_iff _ _).1 hc) hx.1
    rwa [h2] at h1
  unfold mcL at heq
  obtain ⟨⟨m1, m2, m3, m4, m5, m6⟩, sv, un, rt, wt, st, kk, sx, tk, ag⟩ := h
  obtain ⟨⟨k1, k2, k3, k4, k5, k6⟩, ⟨s1, s2, s3, s4, s5, s6⟩, ty, d⟩ := f
  simp only at hx
  clear hB hw hwt hx
  unfold etC ethC
  simp only
  have hF := (Fr.refl [] w).alloc (.cells #[.int .u8 k1, .int .u8 k2, .int .u8 k3, .int .u8 k4, .int .u8 k5, .int .u8 k6, .int .u8 s1, .int .u8 s2, .int .u8 s3, .int .u8 s4, .int .u8 s5, .int .u8 s6, .int .i64 ty, .string (B d)] 35 (0, 0))
  have hN := Blk.new w #[.int .u8 k1, .int .u8 k2, .int .u8 k3, .int .u8 k4, .int .u8 k5, .int .u8 k6, .int .u8 s1, .int .u8 s2, .int .u8 s3, .int .u8 s4, .int .u8 s5, .int .u8 s6, .int .i64 ty, .string (B d)] 35
  go_enter Try.func19, Try.ntmps19
  go_wp2_with fail
  obtain ⟨q, hq⟩ : ∃ q, w.heap.size = q := ⟨_, rfl⟩
  obtain ⟨W3, hW3⟩ : ∃ W, w.alloc (.cells #[.int .u8 k1, .int .u8 k2, .int .u8 k3, .int .u8 k4, .int .u8 k5, .int .u8 k6, .int .u8 s1, .int .u8 s2, .int .u8 s3, .int .u8 s4, .int .u8 s5, .int .u8 s6, .int .i64 ty, .string (B d)] 35 (0, 0)) = W := ⟨_, rfl⟩
  rw [hq] at hN ⊢
  rw [hW3] at hN hF ⊢
  have HF3 := Lib.hid hF
  have HQ := Lib.hid hq
  have HX : Hid (∀ W, Fr [] W3 W → (fun W => (W.cell? ⟨q, 0, none⟩ = some (.int .u8 k1) ∧ W.cell? ⟨q, 1, none⟩ = some (.int .u8 k2) ∧ W.cell? ⟨q, 2, none⟩ = some (.int .u8 k3) ∧ W.cell? ⟨q, 3, none⟩ = some (.int .u8 k4) ∧ W.cell? ⟨q, 4, none⟩ = some (.int .u8 k5) ∧ W.cell? ⟨q, 5, none⟩ = some (.int .u8 k6) ∧ W.cell? ⟨q, 12, none⟩ = some (.int .i64 ty) ∧ W.cell? ⟨g, 0, none⟩ = some (.int .u8 m1) ∧ W.cell? ⟨g, 1, none⟩ = some (.int .u8 m2) ∧ W.cell? ⟨g, 2, none⟩ = some (.int .u8 m3) ∧ W.cell? ⟨g, 3, none⟩ = some (.int .u8 m4) ∧ W.cell? ⟨g, 4, none⟩ = some (.int .u8 m5) ∧ W.cell? ⟨g, 5, none⟩ = some (.int .u8 m6) ∧ W.cell? ⟨g, 10, none⟩ = some (.int .i64 st)) ∧ Fr [] W3 W) W) := Lib.hid fun W hW => by
    have hb := hW.blk hN (by simp)
    have hh := (HF3.out.trans hW).blk HH.out (by simp)
    exact ⟨⟨hb.c 0 _ rfl, hb.c 1 _ rfl, hb.c 2 _ rfl, hb.c 3 _ rfl, hb.c 4 _ rfl, hb.c 5 _ rfl, hb.c 12 _ rfl, hh.c 0 _ rfl, hh.c 1 _ rfl, hh.c 2 _ rfl, hh.c 3 _ rfl, hh.c 4 _ rfl, hh.c 5 _ rfl, hh.c 10 _ rfl⟩, hW⟩
  have hG0 := HX.out _ (Fr.refl [] W3).drew
  dsimp only at hG0
  have N2 := Lib.hid fun W (hW : Fr [] W3 W) => NO.out W (HF3.out.trans hW)
  clear hq hW3 hN hF HX NO
  refine wp_region_held_drew (S := (fun W => (W.cell? ⟨q, 0, none⟩ = some (.int .u8 k1) ∧ W.cell? ⟨q, 1, none⟩ = some (.int .u8 k2) ∧ W.cell? ⟨q, 2, none⟩ = some (.int .u8 k3) ∧ W.cell? ⟨q, 3, none⟩ = some (.int .u8 k4) ∧ W.cell? ⟨q, 4, none⟩ = some (.int .u8 k5) ∧ W.cell? ⟨q, 5, none⟩ = some (.int .u8 k6) ∧ W.cell? ⟨q, 12, none⟩ = some (.int .i64 ty) ∧ W.cell? ⟨g, 0, none⟩ = some (.int .u8 m1) ∧ W.cell? ⟨g, 1, none⟩ = some (.int .u8 m2) ∧ W.cell? ⟨g, 2, none⟩ = some (.int .u8 m3) ∧ W.cell? ⟨g, 3, none⟩ = some (.int .u8 m4) ∧ W.cell? ⟨g, 4, none⟩ = some (.int .u8 m5) ∧ W.cell? ⟨g, 5, none⟩ = some (.int .u8 m6) ∧ W.cell? ⟨g, 10, none⟩ = some (.int .i64 st)) ∧ Fr [] W3 W)) (by kernel_rfl) ?_ (fun hHeld => ?_)
  · (try dsimp only); exact hG0
  refine take_yes 0 9 rfl rfl (by kernel_rfl) (by kernel_rfl) (by kernel_rfl) (fun _ _ _ h => h) (by rfl) (by assumption) (v := ?_) ?_ ?_
  rotate_left
  · intro w hSw; (try dsimp only at hSw); go_simp; (try with_reducible rfl)
  try simp only [Act.put, List.setIfInBounds_toArray, List.set_cons_zero, List.set_cons_succ]
  refine wpAnyH_ready (rs := [1]) (by kernel_rfl) (by simp) ?_
  refine AllReadyH.cons (o := _) rfl (fun K hK => ?_) AllReadyH.nil
  go_simp
  refine (N2.out _ (And.right (by assumption))).mono ?_
  rintro e w1 ⟨rfl, rfl⟩
  (try go_wp2_with fail)
  refine hK.out _ _ ?_ (fun hHeld => ?_)
  · (try dsimp only); assumption
  clear hK K
  try simp only [Act.put, List.setIfInBounds_toArray, List.set_cons_zero, List.set_cons_succ]
  refine take_yes 2 11 rfl rfl (by kernel_rfl) (by kernel_rfl) (by kernel_rfl) (fun _ _ _ h => h) (by rfl) (by assumption) (v := ?_) ?_ ?_
  rotate_left
  · intro w hSw; (try dsimp only at hSw); go_simp; (try with_reducible rfl)
  try simp only [Act.put, List.setIfInBounds_toArray, List.set_cons_zero, List.set_cons_succ]
  refine take_yes 3 12 rfl rfl (by kernel_rfl) (by kernel_rfl) (by kernel_rfl) (fun _ _ _ h => h) (by rfl) (by assumption) (v := ?_) ?_ ?_
  rotate_left
  · intro w hSw; (try dsimp only at hSw); go_simp; (try with_reducible rfl)
  try simp only [Act.put, List.setIfInBounds_toArray, List.set_cons_zero, List.set_cons_succ]
  refine take_yes 4 13 rfl rfl (by kernel_rfl) (by kernel_rfl) (by kernel_rfl) (fun _ _ _ h => h) (by rfl) (by assumption) (v := ?_) ?_ ?_
  rotate_left
  · intro w hSw; (try dsimp only at hSw); go_simp; (try with_reducible rfl)
  try simp only [Act.put, List.setIfInBounds_toArray, List.set_cons_zero, List.set_cons_succ]
  refine take_yes 5 14 rfl rfl (by kernel_rfl) (by kernel_rfl) (by kernel_rfl) (fun _ _ _ h => h) (by rfl) (by assumption) (v := ?_) ?_ ?_
  rotate_left
  · intro w hSw; (try dsimp only at hSw); go_simp; (try with_reducible rfl)
  try simp only [Act.put, List.setIfInBounds_toArray, List.set_cons_zero, List.set_cons_succ]
  refine take_yes 6 15 rfl rfl (by kernel_rfl) (by kernel_rfl) (by kernel_rfl) (fun _ _ _ h => h) (by rfl) (by assumption) (v := ?_) ?_ ?_
  rotate_left
  · intro w hSw; (try dsimp only at hSw); go_simp; (try with_reducible rfl)
  try simp only [Act.put, List.setIfInBounds_toArray, List.set_cons_zero, List.set_cons_succ]
  refine take_yes 7 16 rfl rfl (by kernel_rfl) (by kernel_rfl) (by kernel_rfl) (fun _ _ _ h => h) (by rfl) (by assumption) (v := ?_) ?_ ?_
  rotate_left
  · intro w hSw; (try dsimp only at hSw); go_simp; (try with_reducible rfl)
  try simp only [Act.put, List.setIfInBounds_toArray, List.set_cons_zero, List.set_cons_succ]
  refine take_yes 8 17 rfl rfl (by kernel_rfl) (by kernel_rfl) (by kernel_rfl) (fun _ _ _ h => h) (by rfl) (by assumption) (v := ?_) ?_ ?_
  rotate_left
  · intro w hSw; (try dsimp only at hSw); go_simp; (try with_reducible rfl)
  try simp only [Act.put, List.setIfInBounds_toArray, List.set_cons_zero, List.set_cons_succ]
  refine take_yes 9 18 rfl rfl (by kernel_rfl) (by kernel_rfl) (by kernel_rfl) (fun _ _ _ h => h) (by rfl) (by assumption) (v := ?_) ?_ ?_
  rotate_left
  · intro w hSw; (try dsimp only at hSw); go_simp; (try with_reducible rfl)
  try simp only [Act.put, List.setIfInBounds_toArray, List.set_cons_zero, List.set_cons_succ]
  refine take_yes 10 19 rfl rfl (by kernel_rfl) (by kernel_rfl) (by kernel_rfl) (fun _ _ _ h => h) (by rfl) (by assumption) (v := ?_) ?_ ?_
  rotate_left
  · intro w hSw; (try dsimp only at hSw); go_simp; (try with_reducible rfl)
  try simp only [Act.put, List.setIfInBounds_toArray, List.set_cons_zero, List.set_cons_succ]
  refine take_yes 11 20 rfl rfl (by kernel_rfl) (by kernel_rfl) (by kernel_rfl) (fun _ _ _ h => h) (by rfl) (by assumption) (v := ?_) ?_ ?_
  rotate_left
  · intro w hSw; (try dsimp only at hSw); go_simp; (try with_reducible rfl)
  try simp only [Act.put, List.setIfInBounds_toArray, List.set_cons_zero, List.set_cons_succ]
  refine take_yes 12 21 rfl rfl (by kernel_rfl) (by kernel_rfl) (by kernel_rfl) (fun _ _ _ h => h) (by rfl) (by assumption) (v := ?_) ?_ ?_
  rotate_left
  · intro w hSw; (try dsimp only at hSw); go_simp; (try with_reducible rfl)
  try simp only [Act.put, List.setIfInBounds_toArray, List.set_cons_zero, List.set_cons_succ]
  refine take_yes 13 22 rfl rfl (by kernel_rfl) (by kernel_rfl) (by kernel_rfl) (fun _ _ _ h => h) (by rfl) (by assumption) (v := ?_) ?_ ?_
  rotate_left
  · intro w hSw; (try dsimp only at hSw); go_simp; (try with_reducible rfl)
  try simp only [Act.put, List.setIfInBounds_toArray, List.set_cons_zero, List.set_cons_succ]
  refine take_yes 14 23 rfl rfl (by kernel_rfl) (by kernel_rfl) (by kernel_rfl) (fun _ _ _ h => h) (by rfl) (by assumption) (v := ?_) ?_ ?_
  rotate_left
  · intro w hSw; (try dsimp only at hSw); go_simp; (try with_reducible rfl)
  try simp only [Act.put, List.setIfInBounds_toArray, List.set_cons_zero, List.set_cons_succ]
  refine take_yes 15 24 rfl rfl (by kernel_rfl) (by kernel_rfl) (by kernel_rfl) (fun _ _ _ h => h) (by rfl) (by assumption) (v := ?_) ?_ ?_
  rotate_left
  · intro w hSw; (try dsimp only at hSw); go_simp; (try with_reducible rfl)
  try simp only [Act.put, List.setIfInBounds_toArray, List.set_cons_zero, List.set_cons_succ]
  refine wpAnyH_done (by kernel_rfl) ?_ _
  go_wp2_with fail
  go_ret
  exact ⟨rfl, HF3.out.trans (And.right (by assumption))⟩
set_option maxRecDepth 100000 in
set_option maxHeartbeats 4000000 in
theorem data_off {g : Nat} {h : Hs} {ck : Value} (f : Et) (hw : h.wt ≠ 0) (hx : h.st ≠ 3) (hB : Blk w g (hsC h ck) 92) : Calls Try.prog 20 #[.pointer (some ⟨g, 0, none⟩), .agg (etC f)] w fun e w' => e = .returned (.tuple #[.string ⟨#[]⟩, .bool false]) ∧ Fr [] w w' := by
  have HH := Lib.hid hB
  have NO := Lib.hid fun W (hW : Fr [] w W) => hnone_any (hW.blk hB (by simp))
  have hwt : (h.wt == 0) = false := by simpa using hw
  rw [hwt] at NO
  have hgl := hB.lt
  have hx1 : (h.st != 3) = true := by simpa using hx
  obtain ⟨⟨m1, m2, m3, m4, m5, m6⟩, sv, un, rt, wt, st, kk, sx, tk, ag⟩ := h
  obtain ⟨⟨k1, k2, k3, k4, k5, k6⟩, ⟨s1, s2, s3, s4, s5, s6⟩, ty, d⟩ := f
  simp only at hx
  clear hB hw hwt hx
  unfold etC ethC
  simp only
  have hF := (Fr.refl [] w).alloc (.cells #[.int .u8 k1, .int .u8 k2, .int .u8 k3, .int .u8 k4, .int .u8 k5, .int .u8 k6, .int .u8 s1, .int .u8 s2, .int .u8 s3, .int .u8 s4, .int .u8 s5, .int .u8 s6, .int .i64 ty, .string (B d)] 35 (0, 0))
  have hN := Blk.new w #[.int .u8 k1, .int .u8 k2, .int .u8 k3, .int .u8 k4, .int .u8 k5, .int .u8 k6, .int .u8 s1, .int .u8 s2, .int .u8 s3, .int .u8 s4, .int .u8 s5, .int .u8 s6, .int .i64 ty, .string (B d)] 35
  go_enter Try.func20, Try.ntmps20
  go_wp2_with fail
  obtain ⟨q, hq⟩ : ∃ q, w.heap.size = q := ⟨_, rfl⟩
  obtain ⟨W3, hW3⟩ : ∃ W, w.alloc (.cells #[.int .u8 k1, .int .u8 k2, .int .u8 k3, .int .u8 k4, .int .u8 k5, .int .u8 k6, .int .u8 s1, .int .u8 s2, .int .u8 s3, .int .u8 s4, .int .u8 s5, .int .u8 s6, .int .i64 ty, .string (B d)] 35 (0, 0)) = W := ⟨_, rfl⟩
  rw [hq] at hN ⊢
  rw [hW3] at hN hF ⊢
  have HF3 := Lib.hid hF
  have HQ := Lib.hid hq
  have HX : Hid (∀ W, Fr [] W3 W → (fun W => (W.cell? ⟨q, 0, none⟩ = some (.int .u8 k1) ∧ W.cell? ⟨q, 1, none⟩ = some (.int .u8 k2) ∧ W.cell? ⟨q, 2, none⟩ = some (.int .u8 k3) ∧ W.cell? ⟨q, 3, none⟩ = some (.int .u8 k4) ∧ W.cell? ⟨q, 4, none⟩ = some (.int .u8 k5) ∧ W.cell? ⟨q, 5, none⟩ = some (.int .u8 k6) ∧ W.cell? ⟨q, 12, none⟩ = some (.int .i64 ty) ∧ W.cell? ⟨g, 0, none⟩ = some (.int .u8 m1) ∧ W.cell? ⟨g, 1, none⟩ = some (.int .u8 m2) ∧ W.cell? ⟨g, 2, none⟩ = some (.int .u8 m3) ∧ W.cell? ⟨g, 3, none⟩ = some (.int .u8 m4) ∧ W.cell? ⟨g, 4, none⟩ = some (.int .u8 m5) ∧ W.cell? ⟨g, 5, none⟩ = some (.int .u8 m6) ∧ W.cell? ⟨g, 10, none⟩ = some (.int .i64 st)) ∧ Fr [] W3 W) W) := Lib.hid fun W hW => by
    have hb := hW.blk hN (by simp)
    have hh := (HF3.out.trans hW).blk HH.out (by simp)
    exact ⟨⟨hb.c 0 _ rfl, hb.c 1 _ rfl, hb.c 2 _ rfl, hb.c 3 _ rfl, hb.c 4 _ rfl, hb.c 5 _ rfl, hb.c 12 _ rfl, hh.c 0 _ rfl, hh.c 1 _ rfl, hh.c 2 _ rfl, hh.c 3 _ rfl, hh.c 4 _ rfl, hh.c 5 _ rfl, hh.c 10 _ rfl⟩, hW⟩
  have hG0 := HX.out _ (Fr.refl [] W3).drew
  dsimp only at hG0
  have N2 := Lib.hid fun W (hW : Fr [] W3 W) => NO.out W (HF3.out.trans hW)
  clear hq hW3 hN hF HX NO
  refine wp_region_held_drew (S := (fun W => (W.cell? ⟨q, 0, none⟩ = some (.int .u8 k1) ∧ W.cell? ⟨q, 1, none⟩ = some (.int .u8 k2) ∧ W.cell? ⟨q, 2, none⟩ = some (.int .u8 k3) ∧ W.cell? ⟨q, 3, none⟩ = some (.int .u8 k4) ∧ W.cell? ⟨q, 4, none⟩ = some (.int .u8 k5) ∧ W.cell? ⟨q, 5, none⟩ = some (.int .u8 k6) ∧ W.cell? ⟨q, 12, none⟩ = some (.int .i64 ty) ∧ W.cell? ⟨g, 0, none⟩ = some (.int .u8 m1) ∧ W.cell? ⟨g, 1, none⟩ = some (.int .u8 m2) ∧ W.cell? ⟨g, 2, none⟩ = some (.int .u8 m3) ∧ W.cell? ⟨g, 3, none⟩ = some (.int .u8 m4) ∧ W.cell? ⟨g, 4, none⟩ = some (.int .u8 m5) ∧ W.cell? ⟨g, 5, none⟩ = some (.int .u8 m6) ∧ W.cell? ⟨g, 10, none⟩ = some (.int .i64 st)) ∧ Fr [] W3 W)) (by kernel_rfl) ?_ (fun hHeld => ?_)
  · (try dsimp only); exact hG0
  refine take_yes 0 8 rfl rfl (by kernel_rfl) (by kernel_rfl) (by kernel_rfl) (fun _ _ _ h => h) (by rfl) (by assumption) (v := ?_) ?_ ?_
  rotate_left
  · intro w hSw; (try dsimp only at hSw); go_simp; (try with_reducible rfl)
  try simp only [Act.put, List.setIfInBounds_toArray, List.set_cons_zero, List.set_cons_succ]
  refine wpAnyH_ready (rs := [1]) (by kernel_rfl) (by simp) ?_
  refine AllReadyH.cons (o := _) rfl (fun K hK => ?_) AllReadyH.nil
  go_simp
  refine (N2.out _ (And.right (by assumption))).mono ?_
  rintro e w1 ⟨rfl, rfl⟩
  (try go_wp2_with fail)
  refine hK.out _ _ ?_ (fun hHeld => ?_)
  · (try dsimp only); assumption
  clear hK K
  try simp only [Act.put, List.setIfInBounds_toArray, List.set_cons_zero, List.set_cons_succ]
  refine take_yes 2 10 rfl rfl (by kernel_rfl) (by kernel_rfl) (by kernel_rfl) (fun _ _ _ h => h) (by rfl) (by assumption) (v := ?_) ?_ ?_
  rotate_left
  · intro w hSw; (try dsimp only at hSw); go_simp; (try with_reducible rfl)
  try simp only [Act.put, List.setIfInBounds_toArray, List.set_cons_zero, List.set_cons_succ]
  refine take_yes 3 11 rfl rfl (by kernel_rfl) (by kernel_rfl) (by kernel_rfl) (fun _ _ _ h => h) (by rfl) (by assumption) (v := ?_) ?_ ?_
  rotate_left
  · intro w hSw; (try dsimp only at hSw); go_simp; (try with_reducible rfl)
  try simp only [Act.put, List.setIfInBounds_toArray, List.set_cons_zero, List.set_cons_succ]
  refine take_yes 4 12 rfl rfl (by kernel_rfl) (by kernel_rfl) (by kernel_rfl) (fun _ _ _ h => h) (by rfl) (by assumption) (v := ?_) ?_ ?_
  rotate_left
  · intro w hSw; (try dsimp only at hSw); go_simp; (try with_reducible rfl)
  try simp only [Act.put, List.setIfInBounds_toArray, List.set_cons_zero, List.set_cons_succ]
  refine take_yes 5 13 rfl rfl (by kernel_rfl) (by kernel_rfl) (by kernel_rfl) (fun _ _ _ h => h) (by rfl) (by assumption) (v := ?_) ?_ ?_
  rotate_left
  · intro w hSw; (try dsimp only at hSw); go_simp; (try with_reducible rfl)
  try simp only [Act.put, List.setIfInBounds_toArray, List.set_cons_zero, List.set_cons_succ]
  refine take_yes 6 14 rfl rfl (by kernel_rfl) (by kernel_rfl) (by kernel_rfl) (fun _ _ _ h => h) (by rfl) (by assumption) (v := ?_) ?_ ?_
  rotate_left
  · intro w hSw; (try dsimp only at hSw); go_simp; (try with_reducible rfl)
  try simp only [Act.put, List.setIfInBounds_toArray, List.set_cons_zero, List.set_cons_succ]
  refine take_yes 7 15 rfl rfl (by kernel_rfl) (by kernel_rfl) (by kernel_rfl) (fun _ _ _ h => h) (by rfl) (by assumption) (v := ?_) ?_ ?_
  rotate_left
  · intro w hSw; (try dsimp only at hSw); go_simp; (try with_reducible rfl)
  try simp only [Act.put, List.setIfInBounds_toArray, List.set_cons_zero, List.set_cons_succ]
  refine take_yes 8 16 rfl rfl (by kernel_rfl) (by kernel_rfl) (by kernel_rfl) (fun _ _ _ h => h) (by rfl) (by assumption) (v := ?_) ?_ ?_
  rotate_left
  · intro w hSw; (try dsimp only at hSw); go_simp; (try with_reducible rfl)
  try simp only [Act.put, List.setIfInBounds_toArray, List.set_cons_zero, List.set_cons_succ]
  refine take_yes 9 17 rfl rfl (by kernel_rfl) (by kernel_rfl) (by kernel_rfl) (fun _ _ _ h => h) (by rfl) (by assumption) (v := ?_) ?_ ?_
  rotate_left
  · intro w hSw; (try dsimp only at hSw); go_simp; (try with_reducible rfl)
  try simp only [Act.put, List.setIfInBounds_toArray, List.set_cons_zero, List.set_cons_succ]
  refine take_no 10 18 rfl rfl (by kernel_rfl) (by kernel_rfl) (by kernel_rfl) (fun _ _ _ h => h) (by rfl) (by assumption) ?_
  try simp only [Act.put, List.setIfInBounds_toArray, List.set_cons_zero, List.set_cons_succ]
  refine take_no 11 19 rfl rfl (by kernel_rfl) (by kernel_rfl) (by kernel_rfl) (fun _ _ _ h => h) (by rfl) (by assumption) ?_
  try simp only [Act.put, List.setIfInBounds_toArray, List.set_cons_zero, List.set_cons_succ]
  refine take_no 12 20 rfl rfl (by kernel_rfl) (by kernel_rfl) (by kernel_rfl) (fun _ _ _ h => h) (by rfl) (by assumption) ?_
  try simp only [Act.put, List.setIfInBounds_toArray, List.set_cons_zero, List.set_cons_succ]
  refine take_yes 13 21 rfl rfl (by kernel_rfl) (by kernel_rfl) (by kernel_rfl) (fun _ _ _ h => h) (by rfl) (by assumption) (v := ?_) ?_ ?_
  rotate_left
  · intro w hSw; (try dsimp only at hSw); go_simp; (try with_reducible rfl)
  try simp only [Act.put, List.setIfInBounds_toArray, List.set_cons_zero, List.set_cons_succ]
  refine take_yes 14 22 rfl rfl (by kernel_rfl) (by kernel_rfl) (by kernel_rfl) (fun _ _ _ h => h) (by rfl) (by assumption) (v := ?_) ?_ ?_
  rotate_left
  · intro w hSw; (try dsimp only at hSw); go_simp; (try with_reducible rfl)
  try simp only [Act.put, List.setIfInBounds_toArray, List.set_cons_zero, List.set_cons_succ]
  refine take_no 15 23 rfl rfl (by kernel_rfl) (by kernel_rfl) (by kernel_rfl) (fun _ _ _ h => h) (by rfl) (by assumption) ?_
  try simp only [Act.put, List.setIfInBounds_toArray, List.set_cons_zero, List.set_cons_succ]
  refine take_no 16 24 rfl rfl (by kernel_rfl) (by kernel_rfl) (by kernel_rfl) (fun _ _ _ h => h) (by rfl) (by assumption) ?_
  try simp only [Act.put, List.setIfInBounds_toArray, List.set_cons_zero, List.set_cons_succ]
  refine take_no 17 25 rfl rfl (by kernel_rfl) (by kernel_rfl) (by kernel_rfl) (fun _ _ _ h => h) (by rfl) (by assumption) ?_
  try simp only [Act.put, List.setIfInBounds_toArray, List.set_cons_zero, List.set_cons_succ]
  refine take_no 18 26 rfl rfl (by kernel_rfl) (by kernel_rfl) (by kernel_rfl) (fun _ _ _ h => h) (by rfl) (by assumption) ?_
  try simp only [Act.put, List.setIfInBounds_toArray, List.set_cons_zero, List.set_cons_succ]
  refine take_no 19 27 rfl rfl (by kernel_rfl) (by kernel_rfl) (by kernel_rfl) (fun _ _ _ h => h) (by rfl) (by assumption) ?_
  try simp only [Act.put, List.setIfInBounds_toArray, List.set_cons_zero, List.set_cons_succ]
  refine take_no 20 28 rfl rfl (by kernel_rfl) (by kernel_rfl) (by kernel_rfl) (fun _ _ _ h => h) (by rfl) (by assumption) ?_
  try simp only [Act.put, List.setIfInBounds_toArray, List.set_cons_zero, List.set_cons_succ]
  refine take_no 21 29 rfl rfl (by kernel_rfl) (by kernel_rfl) (by kernel_rfl) (fun _ _ _ h => h) (by rfl) (by assumption) ?_
  try simp only [Act.put, List.setIfInBounds_toArray, List.set_cons_zero, List.set_cons_succ]
  refine take_yes 22 30 rfl rfl (by kernel_rfl) (by kernel_rfl) (by kernel_rfl) (fun _ _ _ h => h) (by rfl) (by assumption) (v := ?_) ?_ ?_
  rotate_left
  · intro w hSw; (try dsimp only at hSw); go_simp; (try with_reducible rfl)
  try simp only [Act.put, List.setIfInBounds_toArray, List.set_cons_zero, List.set_cons_succ]
  refine take_yes 23 31 rfl rfl (by kernel_rfl) (by kernel_rfl) (by kernel_rfl) (fun _ _ _ h => h) (by rfl) (by assumption) (v := ?_) ?_ ?_
  rotate_left
  · intro w hSw; (try dsimp only at hSw); go_simp; (try with_reducible rfl)
  try simp only [Act.put, List.setIfInBounds_toArray, List.set_cons_zero, List.set_cons_succ]
  refine take_no 24 32 rfl rfl (by kernel_rfl) (by kernel_rfl) (by kernel_rfl) (fun _ _ _ h => h) (by rfl) (by assumption) ?_
  try simp only [Act.put, List.setIfInBounds_toArray, List.set_cons_zero, List.set_cons_succ]
  refine take_no 25 33 rfl rfl (by kernel_rfl) (by kernel_rfl) (by kernel_rfl) (fun _ _ _ h => h) (by rfl) (by assumption) ?_
  try simp only [Act.put, List.setIfInBounds_toArray, List.set_cons_zero, List.set_cons_succ]
  refine take_no 26 34 rfl rfl (by kernel_rfl) (by kernel_rfl) (by kernel_rfl) (fun _ _ _ h => h) (by rfl) (by assumption) ?_
  try simp only [Act.put, List.setIfInBounds_toArray, List.set_cons_zero, List.set_cons_succ]
  refine take_no 27 35 rfl rfl (by kernel_rfl) (by kernel_rfl) (by kernel_rfl) (fun _ _ _ h => h) (by rfl) (by assumption) ?_
  try simp only [Act.put, List.setIfInBounds_toArray, List.set_cons_zero, List.set_cons_succ]
  refine take_no 28 36 rfl rfl (by kernel_rfl) (by kernel_rfl) (by kernel_rfl) (fun _ _ _ h => h) (by rfl) (by assumption) ?_
  try simp only [Act.put, List.setIfInBounds_toArray, List.set_cons_zero, List.set_cons_succ]
  refine take_no 29 37 rfl rfl (by kernel_rfl) (by kernel_rfl) (by kernel_rfl) (fun _ _ _ h => h) (by rfl) (by assumption) ?_
  try simp only [Act.put, List.setIfInBounds_toArray, List.set_cons_zero, List.set_cons_succ]
  refine take_no 30 38 rfl rfl (by kernel_rfl) (by kernel_rfl) (by kernel_rfl) (fun _ _ _ h => h) (by rfl) (by assumption) ?_
  try simp only [Act.put, List.setIfInBounds_toArray, List.set_cons_zero, List.set_cons_succ]
  refine take_yes 31 39 rfl rfl (by kernel_rfl) (by kernel_rfl) (by kernel_rfl) (fun _ _ _ h => h) (by rfl) (by assumption) (v := ?_) ?_ ?_
  rotate_left
  · intro w hSw; (try dsimp only at hSw); go_simp; (try with_reducible rfl)
  try simp only [Act.put, List.setIfInBounds_toArray, List.set_cons_zero, List.set_cons_succ]
  refine wpAnyH_done (by kernel_rfl) ?_ _
  go_wp2_with fail
  go_ret2
  exact ⟨rfl, HF3.out.trans (And.right (by assumption))⟩
theorem take_other {g : Nat} {h : Hs} {ck : Value} (f : Et) (hw : h.wt ≠ 0) (hx : f.k ≠ h.m) (hB : Blk w g (hsC h ck) 92) : Calls Try.prog 19 #[.pointer (some ⟨g, 0, none⟩), .agg (etC f)] w fun e w' => e = .returned (.slice none 0 0) ∧ Fr [] w w' := by
  by_cases ht : f.ty = 34915
  · exact take_km f hw ⟨hx, ht⟩ hB
  · exact take_ty f hw ht hB
end
end Go.Proofs.Ytcdencpkgfehlaa
