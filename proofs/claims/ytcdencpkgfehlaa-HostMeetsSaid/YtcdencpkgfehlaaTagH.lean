/- tag.Get of what tag.Put laid. -/
import Derived.Test.YtcdencpkgfehlaaTagG
import Derived.Test.YtcdencpkgfehlaaEqEth
namespace Go.Proofs.Ytcdencpkgfehlaa
open Go.RowKit
set_option linter.unusedVariables false
section
variable {w : World}
set_option maxRecDepth 100000 in
set_option maxHeartbeats 8000000 in
theorem tget_ok (c ss : Int) (d : List UInt8) (hc0 : 0 ≤ c) (hc1 : c ≤ 255) (hs0 : 0 ≤ ss) (hs1 : ss ≤ 65535) (hd : d.length ≤ 1494) :
    Calls Try.prog 40 #[.string (Go.Proofs.Ytcdencpkgfehlaa.B (discB c ss d))] w fun e w' => e = .returned (.tuple #[.agg #[.int .i64 c, .int .i64 ss, .string (Go.Proofs.Ytcdencpkgfehlaa.B d)], .int .i64 0]) ∧ Fr [] w w' := by
  obtain ⟨R, hR⟩ : ∃ R, be 2 ss ++ (be 2 (d.length : Int) ++ d) = R := ⟨_, rfl⟩
  obtain ⟨cb, hcb⟩ : ∃ x, UInt8.ofNat c.toNat = x := ⟨_, rfl⟩
  have hL : discB c ss d = 17 :: cb :: R := by rw [← hR, ← hcb]; rfl
  have hRl : R.length = d.length + 4 := by rw [← hR]; simp [be_length]; omega
  have hcn : (cb.toNat : Int) = c := by rw [← hcb, UInt8.toNat_ofNat']; omega
  have hLl : (17 :: cb :: R).length = d.length + 6 := by simp [hRl]
  have N2 : Hid (∀ (v : Int) W, v = 2 → Calls Try.prog 67 #[.string (Go.Proofs.Ytcdencpkgfehlaa.B (17 :: cb :: R)), .int .i64 v] W fun e w' => e = .returned (.int .i64 ss) ∧ w' = W) := Lib.hid fun v W hv => hv ▸
    num_at _ [17, cb] (be 2 (d.length : Int) ++ d) ss 2 W (by rw [← hR]; rfl) rfl hs0 (by omega) (by omega)
  have N4 : Hid (∀ (v : Int) W, v = 4 → Calls Try.prog 67 #[.string (Go.Proofs.Ytcdencpkgfehlaa.B (17 :: cb :: R)), .int .i64 v] W fun e w' => e = .returned (.int .i64 (d.length : Int)) ∧ w' = W) := Lib.hid fun v W hv => hv ▸
    num_at _ (17 :: cb :: be 2 ss) d (d.length : Int) 4 W (by rw [← hR]; simp) (by simp [be_length]) (by omega) (by omega) (by omega)
  have hdrop : (17 :: cb :: R).drop 6 = d := by
    rw [← hR]
    show (be 2 ss ++ (be 2 (d.length : Int) ++ d)).drop 4 = d
    rw [← List.append_assoc, List.drop_append_of_le_length (by simp [be_length]), List.drop_of_length_le (by simp [be_length]), List.nil_append]
  have CL : Hid (∀ s W, s = Go.Proofs.Ytcdencpkgfehlaa.B d → Calls Try.prog 35 #[.string s] W fun e w' => e = .returned (.string (Go.Proofs.Ytcdencpkgfehlaa.B d)) ∧ Fr [] W w') := Lib.hid fun s W hs => by
    subst hs; exact clone_any d W (by omega)
  have hd4 : R.drop 4 = d := by have := hdrop; simpa using this
  have HD : Hid (Go.Proofs.Ytcdencpkgfehlaa.B (List.take d.length (List.drop 4 R)) = Go.Proofs.Ytcdencpkgfehlaa.B d) := Lib.hid (by rw [hd4, List.take_length])
  have hw : wrap64 (cb.toNat : Int) = c := by rw [hcn]; unfold wrap64; omega
  have hwi : IntKind.i64.wrap (cb.toNat : Int) = c := by rw [hcn, IntKind.wrap_i64]; omega
  have hle : ¬ (d.length : Int) > 1494 := by omega
  have f1 : IntKind.i64.wrap (6 + (d.length : Int)) = 6 + (d.length : Int) := by rw [IntKind.wrap_i64]; omega
  have f0 : wrap64 (6 + (d.length : Int)) = 6 + (d.length : Int) := by unfold wrap64; omega
  have f2 : (6 : Int) + (d.length : Int) ≤ (d.length : Int) + 4 + 1 + 1 := by omega
  have f6 : (1 : Int) < (d.length : Int) + 4 + 1 + 1 := by omega
  have f3 : (0 : Int) ≤ 6 + (d.length : Int) := by omega
  have f4 : (6 : Int) ≤ 6 + (d.length : Int) := by omega
  have f5 : (6 + (d.length : Int)).toNat = 6 + d.length := by omega
  rw [hL]
  clear hd4 hR hcb hL hdrop hcn hLl hs0 hs1 hc0 hc1
  have hF := (Fr.refl [] w).alloc (.cells #[.int .i64 0, .int .i64 0, .string ⟨#[]⟩] 72 (0, 0))
  have hN := Blk.new w #[.int .i64 0, .int .i64 0, .string ⟨#[]⟩] 72
  go_enter Try.func40, Try.ntmps40
  go_wp2_with fail
  refine (N4.out _ _ (by with_reducible rfl)).mono ?_
  rintro e w1 ⟨rfl, rfl⟩
  go_wp2_with fail
  refine (N4.out _ _ (by with_reducible rfl)).mono ?_
  rintro e w1 ⟨rfl, rfl⟩
  go_wp2_with fail
  obtain ⟨q, hq⟩ : ∃ q, w.heap.size = q := ⟨_, rfl⟩
  obtain ⟨W3, hW3⟩ : ∃ W, w.alloc (.cells #[.int .i64 0, .int .i64 0, .string ⟨#[]⟩] 72 (0, 0)) = W := ⟨_, rfl⟩
  rw [hq] at hN ⊢
  rw [hW3] at hN hF ⊢
  have HF := Lib.hid hF
  have HQ := Lib.hid hq
  clear hq hW3 hF
  refine wp_region_held_drew (S := fun W => Fr [q] W3 W) (by kernel_rfl) ?_ (fun hHeld => ?_)
  · (try dsimp only); exact (Fr.refl _ _).drew
  have hN1 : Blk W3.drew q #[.int .i64 0, .int .i64 0, .string ⟨#[]⟩] 72 := hN.drew
  obtain ⟨v0, hv⟩ : ∃ V, W3.drew = V := ⟨_, rfl⟩
  have hF1 : Fr [] W3 v0 := by rw [← hv]; exact (Fr.refl _ _).drew
  rw [hv] at hHeld hN1 ⊢
  clear hv hN
  refine take_yes 0 27 rfl rfl (by kernel_rfl) (by kernel_rfl) (by kernel_rfl) (fun _ _ _ h => h) (by rfl) (by assumption) (v := ?_) ?_ ?_
  rotate_left
  · intro w hSw; (try dsimp only at hSw); go_simp; (try with_reducible rfl)
  try simp only [Act.put, List.setIfInBounds_toArray, List.set_cons_zero, List.set_cons_succ]
  refine take_yes 1 28 rfl rfl (by kernel_rfl) (by kernel_rfl) (by kernel_rfl) (fun _ _ _ h => h) (by rfl) (by assumption) (v := ?_) ?_ ?_
  rotate_left
  · intro w hSw; (try dsimp only at hSw); go_simp; (try with_reducible rfl)
  try simp only [Act.put, List.setIfInBounds_toArray, List.set_cons_zero, List.set_cons_succ]
  refine take_yes 2 29 rfl rfl (by kernel_rfl) (by kernel_rfl) (by kernel_rfl) (fun _ _ _ h => h) (by rfl) (by assumption) (v := ?_) ?_ ?_
  rotate_left
  · intro w hSw; (try dsimp only at hSw); go_simp; (try with_reducible rfl)
  try simp only [Act.put, List.setIfInBounds_toArray, List.set_cons_zero, List.set_cons_succ]
  refine take_yes 3 30 rfl rfl (by kernel_rfl) (by kernel_rfl) (by kernel_rfl) (fun _ _ _ h => h) (by rfl) (by assumption) (v := ?_) ?_ ?_
  rotate_left
  · intro w hSw; (try dsimp only at hSw); go_simp; (try with_reducible rfl)
  try simp only [Act.put, List.setIfInBounds_toArray, List.set_cons_zero, List.set_cons_succ]
  refine take_yes 5 32 rfl rfl (by kernel_rfl) (by kernel_rfl) (by kernel_rfl) (fun _ _ _ h => h) (by rfl) (by assumption) (v := ?_) ?_ ?_
  rotate_left
  · intro w hSw; (try dsimp only at hSw); go_simp; (try with_reducible rfl)
  try simp only [Act.put, List.setIfInBounds_toArray, List.set_cons_zero, List.set_cons_succ]
  refine take_yes 6 33 rfl rfl (by kernel_rfl) (by kernel_rfl) (by kernel_rfl) (fun _ _ _ h => h) (by rfl) (by assumption) (v := ?_) ?_ ?_
  rotate_left
  · intro w hSw; (try dsimp only at hSw); go_simp; (try with_reducible rfl)
  try simp only [Act.put, List.setIfInBounds_toArray, List.set_cons_zero, List.set_cons_succ]
  refine wpAnyH_ready (rs := [4]) (by kernel_rfl) (by simp) ?_
  refine AllReadyH.cons (o := _) rfl (fun K hK => ?_) AllReadyH.nil
  go_simp
  refine (N2.out _ _ (by with_reducible rfl)).mono ?_
  rintro e w4 ⟨rfl, rfl⟩
  (try go_wp2_with fail)
  refine hK.out _ _ ?_ (fun hHeld => ?_)
  · (try dsimp only); assumption
  clear hK K
  try simp only [Act.put, List.setIfInBounds_toArray, List.set_cons_zero, List.set_cons_succ]
  refine wpAnyH_ready (rs := [7]) (by kernel_rfl) (by simp) ?_
  refine AllReadyH.cons (o := _) rfl (fun K hK => ?_) AllReadyH.nil
  go_simp
  refine (N4.out _ _ (by with_reducible rfl)).mono ?_
  rintro e w4 ⟨rfl, rfl⟩
  (try go_wp2_with fail)
  refine hK.out _ _ ?_ (fun hHeld => ?_)
  · (try dsimp only); assumption
  clear hK K
  try simp only [Act.put, List.setIfInBounds_toArray, List.set_cons_zero, List.set_cons_succ]
  refine take_yes 8 35 rfl rfl (by kernel_rfl) (by kernel_rfl) (by kernel_rfl) (fun _ _ _ h => h) (by rfl) (by assumption) (v := ?_) ?_ ?_
  rotate_left
  · intro w hSw; (try dsimp only at hSw); go_simp; (try with_reducible rfl)
  try simp only [Act.put, List.setIfInBounds_toArray, List.set_cons_zero, List.set_cons_succ]
  refine take_yes 9 36 rfl rfl (by kernel_rfl) (by kernel_rfl) (by kernel_rfl) (fun _ _ _ h => h) (by rfl) (by assumption) (v := ?_) ?_ ?_
  rotate_left
  · intro w hSw; (try dsimp only at hSw); go_simp; (try with_reducible rfl)
  try simp only [Act.put, List.setIfInBounds_toArray, List.set_cons_zero, List.set_cons_succ]
  refine wpAnyH_ready (rs := [10]) (by kernel_rfl) (by simp) ?_
  refine AllReadyH.cons (o := _) rfl (fun K hK => ?_) AllReadyH.nil
  go_simp
  refine (CL.out _ _ (by rw [HD.out])).mono ?_
  rintro e w5 ⟨rfl, hF5⟩
  (try go_wp2_with fail)
  refine hK.out _ _ ?_ (fun hHeld => ?_)
  · (try dsimp only); exact Fr.mono (hF1.trans hF5) (by simp)
  clear hK K
  try simp only [Act.put, List.setIfInBounds_toArray, List.set_cons_zero, List.set_cons_succ]
  have hN5 := hF5.blk hN1 (by simp)
  have hF6 := hF1.trans hF5
  refine take_yes 11 38 rfl rfl (by kernel_rfl) (by kernel_rfl) (by kernel_rfl) (fun _ _ _ h => h) (by rfl) (by assumption) (v := ?_) ?_ ?_
  rotate_left
  · intro w hSw; (try dsimp only at hSw); go_simp; (try with_reducible rfl)
  try simp only [Act.put, List.setIfInBounds_toArray, List.set_cons_zero, List.set_cons_succ]
  refine wpAnyH_ready (rs := [12]) (by kernel_rfl) (by simp) ?_
  refine AllReadyH.cons (o := _) rfl (fun K hK => ?_) AllReadyH.nil
  rw [if_pos (by rfl)]
  refine wp_store_mid 72 (.tmp 2) (.tmp 38) rfl q 0 #[.int .i64 c, .int .i64 ss, .string (Go.Proofs.Ytcdencpkgfehlaa.B d)] rfl rfl (hN5.there _ (by exact Nat.le_refl _)) (by kernel_rfl) (by simp [Value.oneCell']) ?_
  have hN7 := hN5.setCells #[.int .i64 c, .int .i64 ss, .string (Go.Proofs.Ytcdencpkgfehlaa.B d)] rfl
  have hF7 : Fr [q] W3 (w5.setCells q 0 (#[.int .i64 c, .int .i64 ss, .string (Go.Proofs.Ytcdencpkgfehlaa.B d)] : Array Value).toList) := (hF6.mono (S' := [q]) (by simp)).setCells _ _ _ (Or.inr (by simp))
  obtain ⟨w7, hw7⟩ : ∃ V, w5.setCells q 0 (#[.int .i64 c, .int .i64 ss, .string (Go.Proofs.Ytcdencpkgfehlaa.B d)] : Array Value).toList = V := ⟨_, rfl⟩
  rw [hw7] at hN7 hF7 ⊢
  refine hK.out _ _ ?_ (fun hHeld => ?_)
  · (try dsimp only); exact hF7
  clear hK K
  try simp only [Act.put, List.setIfInBounds_toArray, List.set_cons_zero, List.set_cons_succ]
  refine take_yes 13 3 rfl rfl (by kernel_rfl) (by kernel_rfl) (by kernel_rfl) (fun _ _ _ h => h) (by rfl) (by assumption) (v := ?_) ?_ ?_
  rotate_left
  · intro w hSw; (try dsimp only at hSw); go_simp; (try with_reducible rfl)
  try simp only [Act.put, List.setIfInBounds_toArray, List.set_cons_zero, List.set_cons_succ]
  refine wpAnyH_done (by kernel_rfl) ?_ _
  have HFE := Lib.hid (HF.out.fresh1 hF7 (by have := HQ.out; omega))
  have HN7 := Lib.hid hN7
  go_wp2_with fail
  exact ret_cell2 2 3 72 rfl q 72 _ _ HN7.out rfl Try.underlying72 rfl (by kernel_rfl) rfl ⟨rfl, HFE.out⟩
end
end Go.Proofs.Ytcdencpkgfehlaa
