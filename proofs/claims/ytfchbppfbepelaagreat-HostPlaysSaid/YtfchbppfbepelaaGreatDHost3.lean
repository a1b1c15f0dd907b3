/- the document's packet of discovery: Put (printed by tools/gen_dhost3.py). -/
import Derived.Test.YtfchbppfbepelaaGreatDHost2
import Derived.Test.YtfchbppfbepelaaGreatDLow
namespace Go.Proofs.YtfchbppfbepelaaGreat
open Go.RowKit
set_option linter.unusedVariables false
set_option maxRecDepth 100000 in
set_option maxHeartbeats 8000000 in
theorem rdput_ok (w : World) (c ss : Int) (d : List UInt8) (hc0 : 0 ≤ c) (hc1 : c ≤ 255) (hs0 : 0 ≤ ss) (hs1 : ss ≤ 65535) (hd : d.length ≤ 1494) :
    Calls Tryz.prog 204 #[.agg #[.int .i64 c, .int .i64 ss, .string (B d)]] w fun e w' => e = .returned (.tuple #[.string (B (discB c ss d)), .int .i64 0]) ∧ Fr [] w w' := by
  obtain ⟨BC, hBC⟩ : ∃ x, be 1 c = x := ⟨_, rfl⟩
  obtain ⟨BT, hBT⟩ : ∃ x, be 2 ss = x := ⟨_, rfl⟩
  obtain ⟨BL, hBL⟩ : ∃ x, be 2 (d.length : Int) = x := ⟨_, rfl⟩
  have hbc : BC.length = 1 := by rw [← hBC, be_length]
  have hbt : BT.length = 2 := by rw [← hBT, be_length]
  have hbl : BL.length = 2 := by rw [← hBL, be_length]
  have T0 : Hid (∀ v W, v = c → Calls Tryz.prog 286 #[.int .i64 v, .int .i64 1] W fun e w' => e = .returned (.string (Go.Proofs.YtfchbppfbepelaaGreat.B BC)) ∧ Fr [] W w') := Lib.hid fun v W hv => by
    subst hv
    rw [← hBC]; exact low_any _ 1 _ (by omega) (by omega)
  have T1 : Hid (∀ v W, v = ss → Calls Tryz.prog 296 #[.int .i64 v] W fun e w' => e = .returned (.string (Go.Proofs.YtfchbppfbepelaaGreat.B BT)) ∧ Fr [] W w') := Lib.hid fun v W hv => by
    subst hv
    rw [← hBT]; exact rtwo_any _ _ (by omega)
  have T2 : Hid (∀ v W, v = (d.length : Int) → Calls Tryz.prog 296 #[.int .i64 v] W fun e w' => e = .returned (.string (Go.Proofs.YtfchbppfbepelaaGreat.B BL)) ∧ Fr [] W w') := Lib.hid fun v W hv => by
    subst hv
    rw [← hBL]; exact rtwo_any _ _ (by omega)
  have hHE : discB c ss d = bytesOf [17] ++ (BC ++ (BT ++ (BL ++ d))) := by
    have e1 : bytesOf [17, c] = bytesOf [17] ++ BC := by
      rw [← hBC]
      have hcm : c % 256 = c := by omega
      simp [bytesOf, be, hcm]
    unfold discB
    rw [hBT, hBL, e1, List.append_assoc]
  obtain ⟨B7, hB7⟩ : ∃ x, bytesOf [17] = x := ⟨_, rfl⟩
  rw [hB7] at hHE
  have HE := Lib.hid hHE
  have hb7 : B7.length = 1 := by rw [← hB7]; rfl
  have hs17 : (⟨#[17]⟩ : ByteArray) = Go.Proofs.YtfchbppfbepelaaGreat.B B7 := by rw [← hB7]; rfl
  have h6 : ¬ 9223372036854775807 < 6 + d.length := by omega
  have h8 : ¬ 9223372036854775807 < 1 + 1 + 2 + 2 + d.length := by omega
  clear hB7
  have n1 : ¬ c < 0 := by omega
  have n2 : ¬ 255 < c := by omega
  have n3 : ¬ ss < 0 := by omega
  have n4 : ¬ 65535 < ss := by omega
  have n5 : ¬ (1494 : Int) < d.length := by omega
  have hB := Blk.new w #[.int .i64 c, .int .i64 ss, .string (Go.Proofs.YtfchbppfbepelaaGreat.B d)] 259
  have hF := (Fr.refl [] w).alloc (.cells #[.int .i64 c, .int .i64 ss, .string (Go.Proofs.YtfchbppfbepelaaGreat.B d)] 259 (0, 0))
  clear hs0 hs1 hBT hBL hBC hHE hc0 hc1
  go_enter Tryz.func204, Tryz.ntmps204
  go_wp2_with fail
  obtain ⟨q, hq⟩ : ∃ q, w.heap.size = q := ⟨_, rfl⟩
  obtain ⟨W3, hW3⟩ : ∃ W, w.alloc (.cells #[.int .i64 c, .int .i64 ss, .string (Go.Proofs.YtfchbppfbepelaaGreat.B d)] 259 (0, 0)) = W := ⟨_, rfl⟩
  rw [hq] at hB ⊢
  rw [hW3] at hB hF ⊢
  have HF3 := Lib.hid hF
  have HX : Hid (∀ W, Fr [] W3 W → (W.cell? ⟨q, 0, none⟩ = some (.int .i64 c) ∧ W.cell? ⟨q, 1, none⟩ = some (.int .i64 ss) ∧ W.cell? ⟨q, 2, none⟩ = some (.string (Go.Proofs.YtfchbppfbepelaaGreat.B d))) ∧ Fr [] W3 W) := Lib.hid fun W hW => ⟨⟨(hW.blk hB (by simp)).c 0 _ rfl, (hW.blk hB (by simp)).c 1 _ rfl, (hW.blk hB (by simp)).c 2 _ rfl⟩, hW⟩
  have hG0 := HX.out _ (Fr.refl [] W3).drew
  clear hq hW3 hB hF
  refine wp_region_held_drew (S := (fun W => (W.cell? ⟨q, 0, none⟩ = some (.int .i64 c) ∧ W.cell? ⟨q, 1, none⟩ = some (.int .i64 ss) ∧ W.cell? ⟨q, 2, none⟩ = some (.string (Go.Proofs.YtfchbppfbepelaaGreat.B d))) ∧ Fr [] W3 W)) (by kernel_rfl) ?_ (fun hHeld => ?_)
  · (try dsimp only); exact hG0
  obtain ⟨v0, hv⟩ : ∃ V, W3.drew = V := ⟨_, rfl⟩
  rw [hv] at hHeld ⊢
  clear hv hG0
  refine take_yes 0 26 rfl rfl (by kernel_rfl) (by kernel_rfl) (by kernel_rfl) (fun _ _ _ h => h) (by rfl) (by assumption) (v := ?_) ?_ ?_
  rotate_left
  · intro w hSw; (try dsimp only at hSw); go_simp; (try with_reducible rfl)
  try simp only [Act.put, List.setIfInBounds_toArray, List.set_cons_zero, List.set_cons_succ]
  refine take_yes 1 27 rfl rfl (by kernel_rfl) (by kernel_rfl) (by kernel_rfl) (fun _ _ _ h => h) (by rfl) (by assumption) (v := ?_) ?_ ?_
  rotate_left
  · intro w hSw; (try dsimp only at hSw); go_simp; (try with_reducible rfl)
  try simp only [Act.put, List.setIfInBounds_toArray, List.set_cons_zero, List.set_cons_succ]
  refine take_yes 4 30 rfl rfl (by kernel_rfl) (by kernel_rfl) (by kernel_rfl) (fun _ _ _ h => h) (by rfl) (by assumption) (v := ?_) ?_ ?_
  rotate_left
  · intro w hSw; (try dsimp only at hSw); go_simp; (try with_reducible rfl)
  try simp only [Act.put, List.setIfInBounds_toArray, List.set_cons_zero, List.set_cons_succ]
  refine take_yes 5 31 rfl rfl (by kernel_rfl) (by kernel_rfl) (by kernel_rfl) (fun _ _ _ h => h) (by rfl) (by assumption) (v := ?_) ?_ ?_
  rotate_left
  · intro w hSw; (try dsimp only at hSw); go_simp; (try with_reducible rfl)
  try simp only [Act.put, List.setIfInBounds_toArray, List.set_cons_zero, List.set_cons_succ]
  refine take_yes 8 34 rfl rfl (by kernel_rfl) (by kernel_rfl) (by kernel_rfl) (fun _ _ _ h => h) (by rfl) (by assumption) (v := ?_) ?_ ?_
  rotate_left
  · intro w hSw; (try dsimp only at hSw); go_simp; (try with_reducible rfl)
  try simp only [Act.put, List.setIfInBounds_toArray, List.set_cons_zero, List.set_cons_succ]
  refine take_yes 9 35 rfl rfl (by kernel_rfl) (by kernel_rfl) (by kernel_rfl) (fun _ _ _ h => h) (by rfl) (by assumption) (v := ?_) ?_ ?_
  rotate_left
  · intro w hSw; (try dsimp only at hSw); go_simp; (try with_reducible rfl)
  try simp only [Act.put, List.setIfInBounds_toArray, List.set_cons_zero, List.set_cons_succ]
  refine take_yes 10 36 rfl rfl (by kernel_rfl) (by kernel_rfl) (by kernel_rfl) (fun _ _ _ h => h) (by rfl) (by assumption) (v := ?_) ?_ ?_
  rotate_left
  · intro w hSw; (try dsimp only at hSw); go_simp; (try with_reducible rfl)
  try simp only [Act.put, List.setIfInBounds_toArray, List.set_cons_zero, List.set_cons_succ]
  refine take_yes 13 39 rfl rfl (by kernel_rfl) (by kernel_rfl) (by kernel_rfl) (fun _ _ _ h => h) (by rfl) (by assumption) (v := ?_) ?_ ?_
  rotate_left
  · intro w hSw; (try dsimp only at hSw); go_simp; (try with_reducible rfl)
  try simp only [Act.put, List.setIfInBounds_toArray, List.set_cons_zero, List.set_cons_succ]
  refine take_yes 14 40 rfl rfl (by kernel_rfl) (by kernel_rfl) (by kernel_rfl) (fun _ _ _ h => h) (by rfl) (by assumption) (v := ?_) ?_ ?_
  rotate_left
  · intro w hSw; (try dsimp only at hSw); go_simp; (try with_reducible rfl)
  try simp only [Act.put, List.setIfInBounds_toArray, List.set_cons_zero, List.set_cons_succ]
  refine wpAnyH_ready (rs := [2]) (by kernel_rfl) (by simp) ?_
  refine AllReadyH.cons (o := _) rfl (fun K hK => ?_) AllReadyH.nil
  go_simp
  refine (T0.out _ _ (by with_reducible rfl)).mono ?_
  rintro r v1 ⟨rfl, hF5⟩
  (try go_wp2_with fail)
  refine hK.out _ _ ?_ (fun hHeld => ?_)
  · (try dsimp only); refine HX.out _ (Fr.trans ?_ hF5); exact And.right (by assumption)
  clear hK K hF5
  try simp only [Act.put, List.setIfInBounds_toArray, List.set_cons_zero, List.set_cons_succ]
  refine take_yes 3 29 rfl rfl (by kernel_rfl) (by kernel_rfl) (by kernel_rfl) (fun _ _ _ h => h) (by rfl) (by assumption) (v := ?_) ?_ ?_
  rotate_left
  · intro w hSw; (try dsimp only at hSw); go_simp; (try with_reducible rfl)
  try simp only [Act.put, List.setIfInBounds_toArray, List.set_cons_zero, List.set_cons_succ]
  refine wpAnyH_ready (rs := [6]) (by kernel_rfl) (by simp) ?_
  refine AllReadyH.cons (o := _) rfl (fun K hK => ?_) AllReadyH.nil
  go_simp
  refine (T1.out _ _ (by with_reducible rfl)).mono ?_
  rintro r v2 ⟨rfl, hF5⟩
  (try go_wp2_with fail)
  refine hK.out _ _ ?_ (fun hHeld => ?_)
  · (try dsimp only); refine HX.out _ (Fr.trans ?_ hF5); exact And.right (by assumption)
  clear hK K hF5
  try simp only [Act.put, List.setIfInBounds_toArray, List.set_cons_zero, List.set_cons_succ]
  refine take_yes 7 33 rfl rfl (by kernel_rfl) (by kernel_rfl) (by kernel_rfl) (fun _ _ _ h => h) (by rfl) (by assumption) (v := ?_) ?_ ?_
  rotate_left
  · intro w hSw; (try dsimp only at hSw); go_simp; (try with_reducible rfl)
  try simp only [Act.put, List.setIfInBounds_toArray, List.set_cons_zero, List.set_cons_succ]
  refine wpAnyH_ready (rs := [11]) (by kernel_rfl) (by simp) ?_
  refine AllReadyH.cons (o := _) rfl (fun K hK => ?_) AllReadyH.nil
  go_simp
  refine (T2.out _ _ (by with_reducible rfl)).mono ?_
  rintro r v3 ⟨rfl, hF5⟩
  (try go_wp2_with fail)
  refine hK.out _ _ ?_ (fun hHeld => ?_)
  · (try dsimp only); refine HX.out _ (Fr.trans ?_ hF5); exact And.right (by assumption)
  clear hK K hF5
  try simp only [Act.put, List.setIfInBounds_toArray, List.set_cons_zero, List.set_cons_succ]
  refine take_yes 12 38 rfl rfl (by kernel_rfl) (by kernel_rfl) (by kernel_rfl) (fun _ _ _ h => h) (by rfl) (by assumption) (v := ?_) ?_ ?_
  rotate_left
  · intro w hSw; (try dsimp only at hSw); go_simp; (try with_reducible rfl)
  try simp only [Act.put, List.setIfInBounds_toArray, List.set_cons_zero, List.set_cons_succ]
  refine take_yes 15 41 rfl rfl (by kernel_rfl) (by kernel_rfl) (by kernel_rfl) (fun _ _ _ h => h) (by rfl) (by assumption) (v := ?_) ?_ ?_
  rotate_left
  · intro w hSw; (try dsimp only at hSw); go_simp; (try with_reducible rfl)
  try simp only [Act.put, List.setIfInBounds_toArray, List.set_cons_zero, List.set_cons_succ]
  refine take_yes 16 2 rfl rfl (by kernel_rfl) (by kernel_rfl) (by kernel_rfl) (fun _ _ _ h => h) (by rfl) (by assumption) (v := ?_) ?_ ?_
  rotate_left
  · intro w hSw; (try dsimp only at hSw); go_simp; (try with_reducible rfl)
  try simp only [Act.put, List.setIfInBounds_toArray, List.set_cons_zero, List.set_cons_succ]
  refine take_yes 17 3 rfl rfl (by kernel_rfl) (by kernel_rfl) (by kernel_rfl) (fun _ _ _ h => h) (by rfl) (by assumption) (v := ?_) ?_ ?_
  rotate_left
  · intro w hSw; (try dsimp only at hSw); go_simp; (try with_reducible rfl)
  try simp only [Act.put, List.setIfInBounds_toArray, List.set_cons_zero, List.set_cons_succ]
  refine wpAnyH_done (by kernel_rfl) ?_ _
  clear HX T0 T1 T2
  go_wp2_with fail
  go_ret2
  refine ⟨by rw [HE.out]; rfl, HF3.out.trans ?_⟩
  exact And.right (by assumption)
end Go.Proofs.YtfchbppfbepelaaGreat
