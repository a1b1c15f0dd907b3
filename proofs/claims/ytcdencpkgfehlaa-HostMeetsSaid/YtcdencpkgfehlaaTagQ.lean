/- tag.PutTags, tag.Put, where they have room. -/
import Derived.Test.YtcdencpkgfehlaaTagP
import Derived.Test.YtcdencpkgfehlaaMgA
namespace Go.Proofs.Ytcdencpkgfehlaa
open Go.RowKit
set_option linter.unusedVariables false
section
variable {w : World}
set_option maxRecDepth 100000 in
set_option maxHeartbeats 8000000 in
theorem puttags_ok {A : Option Addr} {cap : Nat} {l : List Tg} (h : TgAt w A l) (hok : ∀ t, t ∈ l → TgOk t) (hl : l.length ≤ 20) (hc : l.length ≤ cap) (hm : cap ≤ maxLen) (hs : (tgsB l).length ≤ 1494) :
    Calls Try.prog 54 #[.slice A l.length cap] w fun e w' => e = .returned (.tuple #[.string (B (tgsB l)), .int .i64 0]) ∧ Fr [] w w' := by
  have CF := Lib.hid (contains_any h hok hl hc hm)
  have H := Lib.hid h
  have HOK := Lib.hid hok
  have hl1 : ¬ (20 : Int) < l.length := by omega
  have HS := Lib.hid hs
  unfold maxLen at hm
  clear h hok hs
  go_enter Try.func54, Try.ntmps54
  go_wp2_with fail
  refine CF.out.mono ?_
  rintro e w1 ⟨rfl, hF1⟩
  clear CF
  go_wp2_with fail
  go_loopw [4, 16] (fun sv iv wr => ∃ j : Nat, j ≤ l.length ∧ iv = .int .i64 j ∧ sv = .string (B (tgsB (l.take j))) ∧ Fr [] w wr) (fun _ iv _ => l.length - (intOf iv).toNat)
  case atStart => exact ⟨0, by omega, rfl, rfl, hF1⟩
  case round =>
    clear hF1
    obtain ⟨j, hj, rfl, rfl, hF⟩ := hrel
    by_cases hjl : j < l.length
    · obtain ⟨⟨t, s⟩, ht⟩ : ∃ t, l[j]? = some t := ⟨_, List.getElem?_eq_getElem hjl⟩
      obtain ⟨b, off, rfl, hb, hcell⟩ := H.out j _ ht
      obtain ⟨c0, c1⟩ := hcell _ hF
      simp only at c0 c1
      have hOk := HOK.out _ (List.mem_of_getElem? ht)
      have hsn := tgsB_snoc ht
      have hle := tgsB_le l (j + 1)
      rw [← hsn, List.length_append, tgB_len] at hle
      obtain ⟨P, hP⟩ : ∃ P, tgsB (l.take j) = P := ⟨_, rfl⟩
      rw [hP] at hsn hle ⊢
      have hbig := HS.out
      have h0 : (0 : Int) ≤ t := by have := hOk.1; simp only at this; omega
      have h1 : t < 65536 := by have := hOk.2; simp only at this; omega
      have h2 : (0 : Int) ≤ (s.length : Int) := by omega
      have h3 : (s.length : Int) < 65536 := by simp only at hle; omega
      have h4 : ¬ (1494 : Int) < s.length := by simp only at hle; omega
      have h5 : ¬ (1494 : Int) < (P.length : Int) + s.length + 4 := by simp only at hle; omega
      have hjb : (j : Int) ≤ 20 := by omega
      have HSn := Lib.hid hsn
      have HF := Lib.hid hF
      obtain ⟨BT, hBT⟩ : ∃ x, be 2 t = x := ⟨_, rfl⟩
      obtain ⟨BL, hBL⟩ : ∃ x, be 2 (s.length : Int) = x := ⟨_, rfl⟩
      have hbt : BT.length = 2 := by rw [← hBT, be_length]
      have hbl : BL.length = 2 := by rw [← hBL, be_length]
      have T1 : Hid (∀ v W, v = t → Calls Try.prog 62 #[.int .i64 v] W fun e w' => e = .returned (.string (B BT)) ∧ Fr [] W w') := Lib.hid fun v W hv => by
        subst hv
        rw [← hBT]; exact two_any _ _ h0 h1
      have T2 : Hid (∀ v W, v = (s.length : Int) → Calls Try.prog 62 #[.int .i64 v] W fun e w' => e = .returned (.string (B BL)) ∧ Fr [] W w') := Lib.hid fun v W hv => by
        subst hv
        rw [← hBL]; exact two_any _ _ h2 h3
      have HSn : Hid (P ++ (BT ++ BL ++ s) = tgsB (l.take (j + 1))) := Lib.hid (by rw [← HSn.out, ← hBT, ← hBL]; simp [tgB])
      clear hBT hBL
      have h6 : ¬ 9223372036854775807 < 4 + s.length := by omega
      have h7 : ¬ 9223372036854775807 < P.length + (2 + (2 + s.length)) := by omega
      clear h0 h1 h2 h3 hcell ht hb hOk hsn hle hP hbig hF
      go_wp2_with fail
      have hN := Blk.new wr #[.int .i64 t, .string (B s)] 54
      have hFA := (Fr.refl [] wr).alloc (.cells #[.int .i64 t, .string (B s)] 54 (0, 0))
      have HF3 := Lib.hid (HF.out.trans hFA)
      obtain ⟨q, hq⟩ : ∃ q, wr.heap.size = q := ⟨_, rfl⟩
      obtain ⟨W3, hW3⟩ : ∃ W, wr.alloc (.cells #[.int .i64 t, .string (B s)] 54 (0, 0)) = W := ⟨_, rfl⟩
      rw [hq] at hN ⊢
      rw [hW3] at hN HF3 ⊢
      have HX : Hid (∀ W, Fr [] W3 W → (W.cell? ⟨q, 0, none⟩ = some (.int .i64 t) ∧ W.cell? ⟨q, 1, none⟩ = some (.string (B s))) ∧ Fr [] W3 W) := Lib.hid fun W hW => ⟨⟨(hW.blk hN (by simp)).c 0 _ rfl, (hW.blk hN (by simp)).c 1 _ rfl⟩, hW⟩
      have hG0 := HX.out _ (Fr.refl [] W3).drew
      clear hq hW3 hFA hN c0 c1 HF
      go_region_held3 (fun W => (W.cell? ⟨q, 0, none⟩ = some (.int .i64 t) ∧ W.cell? ⟨q, 1, none⟩ = some (.string (B s))) ∧ Fr [] W3 W)
        (first | exact hG0 | assumption | (refine HX.out _ (Fr.trans ?_ hF5); exact And.right (by assumption)))
        (first | (go_at_call 62; refine (T1.out _ _ (by with_reducible rfl)).mono ?_; rintro e w5 ⟨rfl, hF5⟩) | (go_at_call 62; refine (T2.out _ _ (by with_reducible rfl)).mono ?_; rintro e w5 ⟨rfl, hF5⟩))
      all_goals
        have hF9 : Fr [] W3 w5 := And.right (by assumption)
        have HF6 := Lib.hid (HF3.out.trans hF9)
        clear hG0 hF9
        go_wp2_with fail
        go_roundw
        case rel => exact ⟨j + 1, by omega, by go_num, by rw [← HSn.out, List.append_assoc], HF6.out⟩
        case measure => (simp [intOf]) <;> omega
    · obtain rfl : j = l.length := by omega
      have hge : ¬ (l.length : Int) < l.length := by omega
      rw [List.take_length]
      clear hj hjl
      go_wp2_with fail
      go_ret2
      exact ⟨rfl, hF⟩
def discB (c ss : Int) (d : List UInt8) : List UInt8 := bytesOf [17, c] ++ (be 2 ss ++ (be 2 (d.length : Int) ++ d))
set_option maxRecDepth 100000 in
set_option maxHeartbeats 8000000 in
theorem tput_ok (c ss : Int) (d : List UInt8) (hc0 : 0 ≤ c) (hc1 : c ≤ 255) (hs0 : 0 ≤ ss) (hs1 : ss ≤ 65535) (hd : d.length ≤ 1494) :
    Calls Try.prog 30 #[.agg #[.int .i64 c, .int .i64 ss, .string (B d)]] w fun e w' => e = .returned (.tuple #[.string (B (discB c ss d)), .int .i64 0]) ∧ Fr [] w w' := by
  have i1 : inB c 0 255 = true := by unfold inB; exact decide_eq_true ⟨hc0, hc1⟩
  have i2 : inB ss 0 65535 = true := by unfold inB; exact decide_eq_true ⟨hs0, hs1⟩
  have I1 := Lib.hid fun W => tin_any c 0 255 W
  have I2 := Lib.hid fun W => tin_any ss 0 65535 W
  rw [i1] at I1
  rw [i2] at I2
  obtain ⟨BT, hBT⟩ : ∃ x, be 2 ss = x := ⟨_, rfl⟩
  obtain ⟨BL, hBL⟩ : ∃ x, be 2 (d.length : Int) = x := ⟨_, rfl⟩
  have hbt : BT.length = 2 := by rw [← hBT, be_length]
  have hbl : BL.length = 2 := by rw [← hBL, be_length]
  have T1 : Hid (∀ v W, v = ss → Calls Try.prog 62 #[.int .i64 v] W fun e w' => e = .returned (.string (Go.Proofs.Ytcdencpkgfehlaa.B BT)) ∧ Fr [] W w') := Lib.hid fun v W hv => by
    subst hv
    rw [← hBT]; exact two_any _ _ hs0 (by omega)
  have T2 : Hid (∀ v W, v = (d.length : Int) → Calls Try.prog 62 #[.int .i64 v] W fun e w' => e = .returned (.string (Go.Proofs.Ytcdencpkgfehlaa.B BL)) ∧ Fr [] W w') := Lib.hid fun v W hv => by
    subst hv
    rw [← hBL]; exact two_any _ _ (by omega) (by omega)
  obtain ⟨B0, hB0⟩ : ∃ x, bytesOf [17, c] = x := ⟨_, rfl⟩
  have hb0 : B0.length = 2 := by rw [← hB0]; rfl
  have HE : Hid (discB c ss d = B0 ++ (BT ++ (BL ++ d))) := Lib.hid (by unfold discB; rw [hBT, hBL, hB0])
  have h8 : ¬ 9223372036854775807 < 6 + d.length := by omega
  have hcm : IntKind.u8.wrap c = c := by rw [IntKind.wrap_u8]; omega
  have hcm2 : c % 256 = c := by omega
  have h4 : ¬ (1494 : Int) < d.length := by omega
  have h6 : ¬ 9223372036854775807 < 4 + d.length := by omega
  have hB := Blk.new w #[.int .i64 c, .int .i64 ss, .string (Go.Proofs.Ytcdencpkgfehlaa.B d)] 72
  have hF := (Fr.refl [] w).alloc (.cells #[.int .i64 c, .int .i64 ss, .string (Go.Proofs.Ytcdencpkgfehlaa.B d)] 72 (0, 0))
  clear hs0 hs1 hBT hBL i1 i2
  go_enter Try.func30, Try.ntmps30
  go_wp2_with fail
  refine (I1.out _).mono ?_
  rintro e w1 ⟨rfl, rfl⟩
  go_wp2_with fail
  refine (I2.out _).mono ?_
  rintro e w1 ⟨rfl, rfl⟩
  go_wp2_with fail
  obtain ⟨q, hq⟩ : ∃ q, w.heap.size = q := ⟨_, rfl⟩
  obtain ⟨W3, hW3⟩ : ∃ W, w.alloc (.cells #[.int .i64 c, .int .i64 ss, .string (Go.Proofs.Ytcdencpkgfehlaa.B d)] 72 (0, 0)) = W := ⟨_, rfl⟩
  rw [hq] at hB ⊢
  rw [hW3] at hB hF ⊢
  have HF3 := Lib.hid hF
  have HX : Hid (∀ W, Fr [] W3 W → (W.cell? ⟨q, 0, none⟩ = some (.int .i64 c) ∧ W.cell? ⟨q, 1, none⟩ = some (.int .i64 ss) ∧ W.cell? ⟨q, 2, none⟩ = some (.string (Go.Proofs.Ytcdencpkgfehlaa.B d))) ∧ Fr [] W3 W) := Lib.hid fun W hW => ⟨⟨(hW.blk hB (by simp)).c 0 _ rfl, (hW.blk hB (by simp)).c 1 _ rfl, (hW.blk hB (by simp)).c 2 _ rfl⟩, hW⟩
  have hG0 := HX.out _ (Fr.refl [] W3).drew
  have HCV : Hid (∀ W g, Blk W g #[.int .u8 17, .int .u8 c] 5 → (convert 57 9 (.slice (some ⟨g, 0, none⟩) 2 2)).run Try.prog W = .ok (.string (Go.Proofs.Ytcdencpkgfehlaa.B B0)) W) := Lib.hid fun W g h => hB0 ▸ run_str Try.underlying57 Try.underlying5 Try.underlying9 [17, c] h 2 rfl
  -- printed by tools/gen_tagq.py
  clear hq hW3 hB hF hB0
  refine wp_region_held_drew (S := (fun W => (W.cell? ⟨q, 0, none⟩ = some (.int .i64 c) ∧ W.cell? ⟨q, 1, none⟩ = some (.int .i64 ss) ∧ W.cell? ⟨q, 2, none⟩ = some (.string (Go.Proofs.Ytcdencpkgfehlaa.B d))) ∧ Fr [] W3 W)) (by kernel_rfl) ?_ (fun hHeld => ?_)
  · (try dsimp only); exact hG0
  obtain ⟨v0, hv⟩ : ∃ V, W3.drew = V := ⟨_, rfl⟩
  rw [hv] at hHeld ⊢
  clear hv hG0
  refine take_yes 0 20 rfl rfl (by kernel_rfl) (by kernel_rfl) (by kernel_rfl) (fun _ _ _ h => h) (by rfl) (by assumption) (v := ?_) ?_ ?_
  rotate_left
  · intro w hSw; (try dsimp only at hSw); go_simp; (try with_reducible rfl)
  try simp only [Act.put, List.setIfInBounds_toArray, List.set_cons_zero, List.set_cons_succ]
  refine take_yes 1 21 rfl rfl (by kernel_rfl) (by kernel_rfl) (by kernel_rfl) (fun _ _ _ h => h) (by rfl) (by assumption) (v := ?_) ?_ ?_
  rotate_left
  · intro w hSw; (try dsimp only at hSw); go_simp; (try with_reducible rfl)
  try simp only [Act.put, List.setIfInBounds_toArray, List.set_cons_zero, List.set_cons_succ]
  refine take_yes 2 22 rfl rfl (by kernel_rfl) (by kernel_rfl) (by kernel_rfl) (fun _ _ _ h => h) (by rfl) (by assumption) (v := .int .u8 c) ?_ ?_
  · intro w hSw; (try dsimp only at hSw); go_simp
  try simp only [Act.put, List.setIfInBounds_toArray, List.set_cons_zero, List.set_cons_succ]
  refine take_yes 5 25 rfl rfl (by kernel_rfl) (by kernel_rfl) (by kernel_rfl) (fun _ _ _ h => h) (by rfl) (by assumption) (v := ?_) ?_ ?_
  rotate_left
  · intro w hSw; (try dsimp only at hSw); go_simp; (try with_reducible rfl)
  try simp only [Act.put, List.setIfInBounds_toArray, List.set_cons_zero, List.set_cons_succ]
  refine take_yes 6 26 rfl rfl (by kernel_rfl) (by kernel_rfl) (by kernel_rfl) (fun _ _ _ h => h) (by rfl) (by assumption) (v := ?_) ?_ ?_
  rotate_left
  · intro w hSw; (try dsimp only at hSw); go_simp; (try with_reducible rfl)
  try simp only [Act.put, List.setIfInBounds_toArray, List.set_cons_zero, List.set_cons_succ]
  refine take_yes 9 29 rfl rfl (by kernel_rfl) (by kernel_rfl) (by kernel_rfl) (fun _ _ _ h => h) (by rfl) (by assumption) (v := ?_) ?_ ?_
  rotate_left
  · intro w hSw; (try dsimp only at hSw); go_simp; (try with_reducible rfl)
  try simp only [Act.put, List.setIfInBounds_toArray, List.set_cons_zero, List.set_cons_succ]
  refine take_yes 10 30 rfl rfl (by kernel_rfl) (by kernel_rfl) (by kernel_rfl) (fun _ _ _ h => h) (by rfl) (by assumption) (v := ?_) ?_ ?_
  rotate_left
  · intro w hSw; (try dsimp only at hSw); go_simp; (try with_reducible rfl)
  try simp only [Act.put, List.setIfInBounds_toArray, List.set_cons_zero, List.set_cons_succ]
  refine take_yes 11 31 rfl rfl (by kernel_rfl) (by kernel_rfl) (by kernel_rfl) (fun _ _ _ h => h) (by rfl) (by assumption) (v := ?_) ?_ ?_
  rotate_left
  · intro w hSw; (try dsimp only at hSw); go_simp; (try with_reducible rfl)
  try simp only [Act.put, List.setIfInBounds_toArray, List.set_cons_zero, List.set_cons_succ]
  refine take_yes 14 34 rfl rfl (by kernel_rfl) (by kernel_rfl) (by kernel_rfl) (fun _ _ _ h => h) (by rfl) (by assumption) (v := ?_) ?_ ?_
  rotate_left
  · intro w hSw; (try dsimp only at hSw); go_simp; (try with_reducible rfl)
  try simp only [Act.put, List.setIfInBounds_toArray, List.set_cons_zero, List.set_cons_succ]
  refine take_yes 15 35 rfl rfl (by kernel_rfl) (by kernel_rfl) (by kernel_rfl) (fun _ _ _ h => h) (by rfl) (by assumption) (v := ?_) ?_ ?_
  rotate_left
  · intro w hSw; (try dsimp only at hSw); go_simp; (try with_reducible rfl)
  try simp only [Act.put, List.setIfInBounds_toArray, List.set_cons_zero, List.set_cons_succ]
  refine wpAnyH_ready (rs := [3, 7]) (by kernel_rfl) (by simp) ?_
  refine AllReadyH.cons (o := _) rfl (fun K hK => ?_) ?_
  · go_simp
    (try go_wp2_with fail)
    refine hK.out _ _ ?_ (fun hHeld => ?_)
    · (try dsimp only); refine HX.out _ (Fr.alloc ?_ _); exact And.right (by assumption)
    clear hK K
    try simp only [Act.put, List.setIfInBounds_toArray, List.set_cons_zero, List.set_cons_succ]
    have hBb : Blk (v0.alloc (.cells #[.int .u8 17, .int .u8 c] 5 (0, 0))) v0.heap.size #[.int .u8 17, .int .u8 c] 5 := Blk.new _ _ _
    obtain ⟨v1, hV⟩ : ∃ V, v0.alloc (.cells #[.int .u8 17, .int .u8 c] 5 (0, 0)) = V := ⟨_, rfl⟩
    obtain ⟨bb, hb⟩ : ∃ b, v0.heap.size = b := ⟨_, rfl⟩
    rw [hV] at hBb hHeld ⊢
    rw [hb] at hBb ⊢
    clear hV hb
    refine wpAnyH_ready (rs := [4, 7]) (by kernel_rfl) (by simp) ?_
    refine AllReadyH.cons (o := _) rfl (fun K hK => ?_) ?_
    · have hr := HCV.out _ _ hBb
      go_simp
      (try go_wp2_with fail)
      refine hK.out _ _ ?_ (fun hHeld => ?_)
      · (try dsimp only); assumption
      clear hK K hr hBb
      try simp only [Act.put, List.setIfInBounds_toArray, List.set_cons_zero, List.set_cons_succ]
      refine wpAnyH_ready (rs := [7]) (by kernel_rfl) (by simp) ?_
      refine AllReadyH.cons (o := _) rfl (fun K hK => ?_) AllReadyH.nil
      go_simp
      refine (T1.out _ _ (by with_reducible rfl)).mono ?_
      rintro r v2 ⟨rfl, hF5⟩
      (try go_wp2_with fail)
      refine hK.out _ _ ?_ (fun hHeld => ?_)
      · (try dsimp only); refine HX.out _ (Fr.trans ?_ hF5); exact And.right (by assumption)
      clear hK K
      try simp only [Act.put, List.setIfInBounds_toArray, List.set_cons_zero, List.set_cons_succ]
      clear hF5
      refine take_yes 8 28 rfl rfl (by kernel_rfl) (by kernel_rfl) (by kernel_rfl) (fun _ _ _ h => h) (by rfl) (by assumption) (v := ?_) ?_ ?_
      rotate_left
      · intro w hSw; (try dsimp only at hSw); go_simp; (try with_reducible rfl)
      try simp only [Act.put, List.setIfInBounds_toArray, List.set_cons_zero, List.set_cons_succ]
      refine wpAnyH_ready (rs := [12]) (by kernel_rfl) (by simp) ?_
      refine AllReadyH.cons (o := _) rfl (fun K hK => ?_) AllReadyH.nil
      go_simp
      refine (T2.out _ _ (by with_reducible rfl)).mono ?_
      rintro r v3 ⟨rfl, hF5⟩
      (try go_wp2_with fail)
      refine hK.out _ _ ?_ (fun hHeld => ?_)
      · (try dsimp only); refine HX.out _ (Fr.trans ?_ hF5); exact And.right (by assumption)
      clear hK K
      try simp only [Act.put, List.setIfInBounds_toArray, List.set_cons_zero, List.set_cons_succ]
      clear hF5
      refine take_yes 13 33 rfl rfl (by kernel_rfl) (by kernel_rfl) (by kernel_rfl) (fun _ _ _ h => h) (by rfl) (by assumption) (v := ?_) ?_ ?_
      rotate_left
      · intro w hSw; (try dsimp only at hSw); go_simp; (try with_reducible rfl)
      try simp only [Act.put, List.setIfInBounds_toArray, List.set_cons_zero, List.set_cons_succ]
      refine take_yes 16 36 rfl rfl (by kernel_rfl) (by kernel_rfl) (by kernel_rfl) (fun _ _ _ h => h) (by rfl) (by assumption) (v := ?_) ?_ ?_
      rotate_left
      · intro w hSw; (try dsimp only at hSw); go_simp; (try with_reducible rfl)
      try simp only [Act.put, List.setIfInBounds_toArray, List.set_cons_zero, List.set_cons_succ]
      refine take_yes 17 2 rfl rfl (by kernel_rfl) (by kernel_rfl) (by kernel_rfl) (fun _ _ _ h => h) (by rfl) (by assumption) (v := ?_) ?_ ?_
      rotate_left
      · intro w hSw; (try dsimp only at hSw); go_simp; (try with_reducible rfl)
      try simp only [Act.put, List.setIfInBounds_toArray, List.set_cons_zero, List.set_cons_succ]
      refine take_yes 18 3 rfl rfl (by kernel_rfl) (by kernel_rfl) (by kernel_rfl) (fun _ _ _ h => h) (by rfl) (by assumption) (v := ?_) ?_ ?_
      rotate_left
      · intro w hSw; (try dsimp only at hSw); go_simp; (try with_reducible rfl)
      try simp only [Act.put, List.setIfInBounds_toArray, List.set_cons_zero, List.set_cons_succ]
      refine wpAnyH_done (by kernel_rfl) ?_ _
      clear HX T1 T2 HCV
      go_wp2_with fail
      go_ret2
      refine ⟨by rw [HE.out]; rfl, HF3.out.trans ?_⟩
      exact And.right (by assumption)
    refine AllReadyH.cons (o := _) rfl (fun K hK => ?_) AllReadyH.nil
    go_simp
    refine (T1.out _ _ (by with_reducible rfl)).mono ?_
    rintro r v2 ⟨rfl, hF5⟩
    (try go_wp2_with fail)
    refine hK.out _ _ ?_ (fun hHeld => ?_)
    · (try dsimp only); refine HX.out _ (Fr.trans ?_ hF5); exact And.right (by assumption)
    clear hK K
    try simp only [Act.put, List.setIfInBounds_toArray, List.set_cons_zero, List.set_cons_succ]
    replace hBb := hF5.blk hBb (by simp)
    clear hF5
    refine wpAnyH_ready (rs := [4, 12]) (by kernel_rfl) (by simp) ?_
    refine AllReadyH.cons (o := _) rfl (fun K hK => ?_) ?_
    · have hr := HCV.out _ _ hBb
      go_simp
      (try go_wp2_with fail)
      refine hK.out _ _ ?_ (fun hHeld => ?_)
      · (try dsimp only); assumption
      clear hK K hr hBb
      try simp only [Act.put, List.setIfInBounds_toArray, List.set_cons_zero, List.set_cons_succ]
      refine take_yes 8 28 rfl rfl (by kernel_rfl) (by kernel_rfl) (by kernel_rfl) (fun _ _ _ h => h) (by rfl) (by assumption) (v := ?_) ?_ ?_
      rotate_left
      · intro w hSw; (try dsimp only at hSw); go_simp; (try with_reducible rfl)
      try simp only [Act.put, List.setIfInBounds_toArray, List.set_cons_zero, List.set_cons_succ]
      refine wpAnyH_ready (rs := [12]) (by kernel_rfl) (by simp) ?_
      refine AllReadyH.cons (o := _) rfl (fun K hK => ?_) AllReadyH.nil
      go_simp
      refine (T2.out _ _ (by with_reducible rfl)).mono ?_
      rintro r v3 ⟨rfl, hF5⟩
      (try go_wp2_with fail)
      refine hK.out _ _ ?_ (fun hHeld => ?_)
      · (try dsimp only); refine HX.out _ (Fr.trans ?_ hF5); exact And.right (by assumption)
      clear hK K
      try simp only [Act.put, List.setIfInBounds_toArray, List.set_cons_zero, List.set_cons_succ]
      clear hF5
      refine take_yes 13 33 rfl rfl (by kernel_rfl) (by kernel_rfl) (by kernel_rfl) (fun _ _ _ h => h) (by rfl) (by assumption) (v := ?_) ?_ ?_
      rotate_left
      · intro w hSw; (try dsimp only at hSw); go_simp; (try with_reducible rfl)
      try simp only [Act.put, List.setIfInBounds_toArray, List.set_cons_zero, List.set_cons_succ]
      refine take_yes 16 36 rfl rfl (by kernel_rfl) (by kernel_rfl) (by kernel_rfl) (fun _ _ _ h => h) (by rfl) (by assumption) (v := ?_) ?_ ?_
      rotate_left
      · intro w hSw; (try dsimp only at hSw); go_simp; (try with_reducible rfl)
      try simp only [Act.put, List.setIfInBounds_toArray, List.set_cons_zero, List.set_cons_succ]
      refine take_yes 17 2 rfl rfl (by kernel_rfl) (by kernel_rfl) (by kernel_rfl) (fun _ _ _ h => h) (by rfl) (by assumption) (v := ?_) ?_ ?_
      rotate_left
      · intro w hSw; (try dsimp only at hSw); go_simp; (try with_reducible rfl)
      try simp only [Act.put, List.setIfInBounds_toArray, List.set_cons_zero, List.set_cons_succ]
      refine take_yes 18 3 rfl rfl (by kernel_rfl) (by kernel_rfl) (by kernel_rfl) (fun _ _ _ h => h) (by rfl) (by assumption) (v := ?_) ?_ ?_
      rotate_left
      · intro w hSw; (try dsimp only at hSw); go_simp; (try with_reducible rfl)
      try simp only [Act.put, List.setIfInBounds_toArray, List.set_cons_zero, List.set_cons_succ]
      refine wpAnyH_done (by kernel_rfl) ?_ _
      clear HX T1 T2 HCV
      go_wp2_with fail
      go_ret2
      refine ⟨by rw [HE.out]; rfl, HF3.out.trans ?_⟩
      exact And.right (by assumption)
    refine AllReadyH.cons (o := _) rfl (fun K hK => ?_) AllReadyH.nil
    go_simp
    refine (T2.out _ _ (by with_reducible rfl)).mono ?_
    rintro r v3 ⟨rfl, hF5⟩
    (try go_wp2_with fail)
    refine hK.out _ _ ?_ (fun hHeld => ?_)
    · (try dsimp only); refine HX.out _ (Fr.trans ?_ hF5); exact And.right (by assumption)
    clear hK K
    try simp only [Act.put, List.setIfInBounds_toArray, List.set_cons_zero, List.set_cons_succ]
    replace hBb := hF5.blk hBb (by simp)
    clear hF5
    refine wpAnyH_ready (rs := [4]) (by kernel_rfl) (by simp) ?_
    refine AllReadyH.cons (o := _) rfl (fun K hK => ?_) AllReadyH.nil
    have hr := HCV.out _ _ hBb
    go_simp
    (try go_wp2_with fail)
    refine hK.out _ _ ?_ (fun hHeld => ?_)
    · (try dsimp only); assumption
    clear hK K hr hBb
    try simp only [Act.put, List.setIfInBounds_toArray, List.set_cons_zero, List.set_cons_succ]
    refine take_yes 8 28 rfl rfl (by kernel_rfl) (by kernel_rfl) (by kernel_rfl) (fun _ _ _ h => h) (by rfl) (by assumption) (v := ?_) ?_ ?_
    rotate_left
    · intro w hSw; (try dsimp only at hSw); go_simp; (try with_reducible rfl)
    try simp only [Act.put, List.setIfInBounds_toArray, List.set_cons_zero, List.set_cons_succ]
    refine take_yes 13 33 rfl rfl (by kernel_rfl) (by kernel_rfl) (by kernel_rfl) (fun _ _ _ h => h) (by rfl) (by assumption) (v := ?_) ?_ ?_
    rotate_left
    · intro w hSw; (try dsimp only at hSw); go_simp; (try with_reducible rfl)
    try simp only [Act.put, List.setIfInBounds_toArray, List.set_cons_zero, List.set_cons_succ]
    refine take_yes 16 36 rfl rfl (by kernel_rfl) (by kernel_rfl) (by kernel_rfl) (fun _ _ _ h => h) (by rfl) (by assumption) (v := ?_) ?_ ?_
    rotate_left
    · intro w hSw; (try dsimp only at hSw); go_simp; (try with_reducible rfl)
    try simp only [Act.put, List.setIfInBounds_toArray, List.set_cons_zero, List.set_cons_succ]
    refine take_yes 17 2 rfl rfl (by kernel_rfl) (by kernel_rfl) (by kernel_rfl) (fun _ _ _ h => h) (by rfl) (by assumption) (v := ?_) ?_ ?_
    rotate_left
    · intro w hSw; (try dsimp only at hSw); go_simp; (try with_reducible rfl)
    try simp only [Act.put, List.setIfInBounds_toArray, List.set_cons_zero, List.set_cons_succ]
    refine take_yes 18 3 rfl rfl (by kernel_rfl) (by kernel_rfl) (by kernel_rfl) (fun _ _ _ h => h) (by rfl) (by assumption) (v := ?_) ?_ ?_
    rotate_left
    · intro w hSw; (try dsimp only at hSw); go_simp; (try with_reducible rfl)
    try simp only [Act.put, List.setIfInBounds_toArray, List.set_cons_zero, List.set_cons_succ]
    refine wpAnyH_done (by kernel_rfl) ?_ _
    clear HX T1 T2 HCV
    go_wp2_with fail
    go_ret2
    refine ⟨by rw [HE.out]; rfl, HF3.out.trans ?_⟩
    exact And.right (by assumption)
  refine AllReadyH.cons (o := _) rfl (fun K hK => ?_) AllReadyH.nil
  go_simp
  refine (T1.out _ _ (by with_reducible rfl)).mono ?_
  rintro r v1 ⟨rfl, hF5⟩
  (try go_wp2_with fail)
  refine hK.out _ _ ?_ (fun hHeld => ?_)
  · (try dsimp only); refine HX.out _ (Fr.trans ?_ hF5); exact And.right (by assumption)
  clear hK K
  try simp only [Act.put, List.setIfInBounds_toArray, List.set_cons_zero, List.set_cons_succ]
  clear hF5
  refine wpAnyH_ready (rs := [3, 12]) (by kernel_rfl) (by simp) ?_
  refine AllReadyH.cons (o := _) rfl (fun K hK => ?_) ?_
  · go_simp
    (try go_wp2_with fail)
    refine hK.out _ _ ?_ (fun hHeld => ?_)
    · (try dsimp only); refine HX.out _ (Fr.alloc ?_ _); exact And.right (by assumption)
    clear hK K
    try simp only [Act.put, List.setIfInBounds_toArray, List.set_cons_zero, List.set_cons_succ]
    have hBb : Blk (v1.alloc (.cells #[.int .u8 17, .int .u8 c] 5 (0, 0))) v1.heap.size #[.int .u8 17, .int .u8 c] 5 := Blk.new _ _ _
    obtain ⟨v2, hV⟩ : ∃ V, v1.alloc (.cells #[.int .u8 17, .int .u8 c] 5 (0, 0)) = V := ⟨_, rfl⟩
    obtain ⟨bb, hb⟩ : ∃ b, v1.heap.size = b := ⟨_, rfl⟩
    rw [hV] at hBb hHeld ⊢
    rw [hb] at hBb ⊢
    clear hV hb
    refine wpAnyH_ready (rs := [4, 12]) (by kernel_rfl) (by simp) ?_
    refine AllReadyH.cons (o := _) rfl (fun K hK => ?_) ?_
    · have hr := HCV.out _ _ hBb
      go_simp
      (try go_wp2_with fail)
      refine hK.out _ _ ?_ (fun hHeld => ?_)
      · (try dsimp only); assumption
      clear hK K hr hBb
      try simp only [Act.put, List.setIfInBounds_toArray, List.set_cons_zero, List.set_cons_succ]
      refine take_yes 8 28 rfl rfl (by kernel_rfl) (by kernel_rfl) (by kernel_rfl) (fun _ _ _ h => h) (by rfl) (by assumption) (v := ?_) ?_ ?_
      rotate_left
      · intro w hSw; (try dsimp only at hSw); go_simp; (try with_reducible rfl)
      try simp only [Act.put, List.setIfInBounds_toArray, List.set_cons_zero, List.set_cons_succ]
      refine wpAnyH_ready (rs := [12]) (by kernel_rfl) (by simp) ?_
      refine AllReadyH.cons (o := _) rfl (fun K hK => ?_) AllReadyH.nil
      go_simp
      refine (T2.out _ _ (by with_reducible rfl)).mono ?_
      rintro r v3 ⟨rfl, hF5⟩
      (try go_wp2_with fail)
      refine hK.out _ _ ?_ (fun hHeld => ?_)
      · (try dsimp only); refine HX.out _ (Fr.trans ?_ hF5); exact And.right (by assumption)
      clear hK K
      try simp only [Act.put, List.setIfInBounds_toArray, List.set_cons_zero, List.set_cons_succ]
      clear hF5
      refine take_yes 13 33 rfl rfl (by kernel_rfl) (by kernel_rfl) (by kernel_rfl) (fun _ _ _ h => h) (by rfl) (by assumption) (v := ?_) ?_ ?_
      rotate_left
      · intro w hSw; (try dsimp only at hSw); go_simp; (try with_reducible rfl)
      try simp only [Act.put, List.setIfInBounds_toArray, List.set_cons_zero, List.set_cons_succ]
      refine take_yes 16 36 rfl rfl (by kernel_rfl) (by kernel_rfl) (by kernel_rfl) (fun _ _ _ h => h) (by rfl) (by assumption) (v := ?_) ?_ ?_
      rotate_left
      · intro w hSw; (try dsimp only at hSw); go_simp; (try with_reducible rfl)
      try simp only [Act.put, List.setIfInBounds_toArray, List.set_cons_zero, List.set_cons_succ]
      refine take_yes 17 2 rfl rfl (by kernel_rfl) (by kernel_rfl) (by kernel_rfl) (fun _ _ _ h => h) (by rfl) (by assumption) (v := ?_) ?_ ?_
      rotate_left
      · intro w hSw; (try dsimp only at hSw); go_simp; (try with_reducible rfl)
      try simp only [Act.put, List.setIfInBounds_toArray, List.set_cons_zero, List.set_cons_succ]
      refine take_yes 18 3 rfl rfl (by kernel_rfl) (by kernel_rfl) (by kernel_rfl) (fun _ _ _ h => h) (by rfl) (by assumption) (v := ?_) ?_ ?_
      rotate_left
      · intro w hSw; (try dsimp only at hSw); go_simp; (try with_reducible rfl)
      try simp only [Act.put, List.setIfInBounds_toArray, List.set_cons_zero, List.set_cons_succ]
      refine wpAnyH_done (by kernel_rfl) ?_ _
      clear HX T1 T2 HCV
      go_wp2_with fail
      go_ret2
      refine ⟨by rw [HE.out]; rfl, HF3.out.trans ?_⟩
      exact And.right (by assumption)
    refine AllReadyH.cons (o := _) rfl (fun K hK => ?_) AllReadyH.nil
    go_simp
    refine (T2.out _ _ (by with_reducible rfl)).mono ?_
    rintro r v3 ⟨rfl, hF5⟩
    (try go_wp2_with fail)
    refine hK.out _ _ ?_ (fun hHeld => ?_)
    · (try dsimp only); refine HX.out _ (Fr.trans ?_ hF5); exact And.right (by assumption)
    clear hK K
    try simp only [Act.put, List.setIfInBounds_toArray, List.set_cons_zero, List.set_cons_succ]
    replace hBb := hF5.blk hBb (by simp)
    clear hF5
    refine wpAnyH_ready (rs := [4]) (by kernel_rfl) (by simp) ?_
    refine AllReadyH.cons (o := _) rfl (fun K hK => ?_) AllReadyH.nil
    have hr := HCV.out _ _ hBb
    go_simp
    (try go_wp2_with fail)
    refine hK.out _ _ ?_ (fun hHeld => ?_)
    · (try dsimp only); assumption
    clear hK K hr hBb
    try simp only [Act.put, List.setIfInBounds_toArray, List.set_cons_zero, List.set_cons_succ]
    refine take_yes 8 28 rfl rfl (by kernel_rfl) (by kernel_rfl) (by kernel_rfl) (fun _ _ _ h => h) (by rfl) (by assumption) (v := ?_) ?_ ?_
    rotate_left
    · intro w hSw; (try dsimp only at hSw); go_simp; (try with_reducible rfl)
    try simp only [Act.put, List.setIfInBounds_toArray, List.set_cons_zero, List.set_cons_succ]
    refine take_yes 13 33 rfl rfl (by kernel_rfl) (by kernel_rfl) (by kernel_rfl) (fun _ _ _ h => h) (by rfl) (by assumption) (v := ?_) ?_ ?_
    rotate_left
    · intro w hSw; (try dsimp only at hSw); go_simp; (try with_reducible rfl)
    try simp only [Act.put, List.setIfInBounds_toArray, List.set_cons_zero, List.set_cons_succ]
    refine take_yes 16 36 rfl rfl (by kernel_rfl) (by kernel_rfl) (by kernel_rfl) (fun _ _ _ h => h) (by rfl) (by assumption) (v := ?_) ?_ ?_
    rotate_left
    · intro w hSw; (try dsimp only at hSw); go_simp; (try with_reducible rfl)
    try simp only [Act.put, List.setIfInBounds_toArray, List.set_cons_zero, List.set_cons_succ]
    refine take_yes 17 2 rfl rfl (by kernel_rfl) (by kernel_rfl) (by kernel_rfl) (fun _ _ _ h => h) (by rfl) (by assumption) (v := ?_) ?_ ?_
    rotate_left
    · intro w hSw; (try dsimp only at hSw); go_simp; (try with_reducible rfl)
    try simp only [Act.put, List.setIfInBounds_toArray, List.set_cons_zero, List.set_cons_succ]
    refine take_yes 18 3 rfl rfl (by kernel_rfl) (by kernel_rfl) (by kernel_rfl) (fun _ _ _ h => h) (by rfl) (by assumption) (v := ?_) ?_ ?_
    rotate_left
    · intro w hSw; (try dsimp only at hSw); go_simp; (try with_reducible rfl)
    try simp only [Act.put, List.setIfInBounds_toArray, List.set_cons_zero, List.set_cons_succ]
    refine wpAnyH_done (by kernel_rfl) ?_ _
    clear HX T1 T2 HCV
    go_wp2_with fail
    go_ret2
    refine ⟨by rw [HE.out]; rfl, HF3.out.trans ?_⟩
    exact And.right (by assumption)
  refine AllReadyH.cons (o := _) rfl (fun K hK => ?_) AllReadyH.nil
  go_simp
  refine (T2.out _ _ (by with_reducible rfl)).mono ?_
  rintro r v2 ⟨rfl, hF5⟩
  (try go_wp2_with fail)
  refine hK.out _ _ ?_ (fun hHeld => ?_)
  · (try dsimp only); refine HX.out _ (Fr.trans ?_ hF5); exact And.right (by assumption)
  clear hK K
  try simp only [Act.put, List.setIfInBounds_toArray, List.set_cons_zero, List.set_cons_succ]
  clear hF5
  refine wpAnyH_ready (rs := [3]) (by kernel_rfl) (by simp) ?_
  refine AllReadyH.cons (o := _) rfl (fun K hK => ?_) AllReadyH.nil
  go_simp
  (try go_wp2_with fail)
  refine hK.out _ _ ?_ (fun hHeld => ?_)
  · (try dsimp only); refine HX.out _ (Fr.alloc ?_ _); exact And.right (by assumption)
  clear hK K
  try simp only [Act.put, List.setIfInBounds_toArray, List.set_cons_zero, List.set_cons_succ]
  have hBb : Blk (v2.alloc (.cells #[.int .u8 17, .int .u8 c] 5 (0, 0))) v2.heap.size #[.int .u8 17, .int .u8 c] 5 := Blk.new _ _ _
  obtain ⟨v3, hV⟩ : ∃ V, v2.alloc (.cells #[.int .u8 17, .int .u8 c] 5 (0, 0)) = V := ⟨_, rfl⟩
  obtain ⟨bb, hb⟩ : ∃ b, v2.heap.size = b := ⟨_, rfl⟩
  rw [hV] at hBb hHeld ⊢
  rw [hb] at hBb ⊢
  clear hV hb
  refine wpAnyH_ready (rs := [4]) (by kernel_rfl) (by simp) ?_
  refine AllReadyH.cons (o := _) rfl (fun K hK => ?_) AllReadyH.nil
  have hr := HCV.out _ _ hBb
  go_simp
  (try go_wp2_with fail)
  refine hK.out _ _ ?_ (fun hHeld => ?_)
  · (try dsimp only); assumption
  clear hK K hr hBb
  try simp only [Act.put, List.setIfInBounds_toArray, List.set_cons_zero, List.set_cons_succ]
  refine take_yes 8 28 rfl rfl (by kernel_rfl) (by kernel_rfl) (by kernel_rfl) (fun _ _ _ h => h) (by rfl) (by assumption) (v := ?_) ?_ ?_
  rotate_left
  · intro w hSw; (try dsimp only at hSw); go_simp; (try with_reducible rfl)
  try simp only [Act.put, List.setIfInBounds_toArray, List.set_cons_zero, List.set_cons_succ]
  refine take_yes 13 33 rfl rfl (by kernel_rfl) (by kernel_rfl) (by kernel_rfl) (fun _ _ _ h => h) (by rfl) (by assumption) (v := ?_) ?_ ?_
  rotate_left
  · intro w hSw; (try dsimp only at hSw); go_simp; (try with_reducible rfl)
  try simp only [Act.put, List.setIfInBounds_toArray, List.set_cons_zero, List.set_cons_succ]
  refine take_yes 16 36 rfl rfl (by kernel_rfl) (by kernel_rfl) (by kernel_rfl) (fun _ _ _ h => h) (by rfl) (by assumption) (v := ?_) ?_ ?_
  rotate_left
  · intro w hSw; (try dsimp only at hSw); go_simp; (try with_reducible rfl)
  try simp only [Act.put, List.setIfInBounds_toArray, List.set_cons_zero, List.set_cons_succ]
  refine take_yes 17 2 rfl rfl (by kernel_rfl) (by kernel_rfl) (by kernel_rfl) (fun _ _ _ h => h) (by rfl) (by assumption) (v := ?_) ?_ ?_
  rotate_left
  · intro w hSw; (try dsimp only at hSw); go_simp; (try with_reducible rfl)
  try simp only [Act.put, List.setIfInBounds_toArray, List.set_cons_zero, List.set_cons_succ]
  refine take_yes 18 3 rfl rfl (by kernel_rfl) (by kernel_rfl) (by kernel_rfl) (fun _ _ _ h => h) (by rfl) (by assumption) (v := ?_) ?_ ?_
  rotate_left
  · intro w hSw; (try dsimp only at hSw); go_simp; (try with_reducible rfl)
  try simp only [Act.put, List.setIfInBounds_toArray, List.set_cons_zero, List.set_cons_succ]
  refine wpAnyH_done (by kernel_rfl) ?_ _
  clear HX T1 T2 HCV
  go_wp2_with fail
  go_ret2
  refine ⟨by rw [HE.out]; rfl, HF3.out.trans ?_⟩
  exact And.right (by assumption)
  -- printed so far
end
end Go.Proofs.Ytcdencpkgfehlaa
