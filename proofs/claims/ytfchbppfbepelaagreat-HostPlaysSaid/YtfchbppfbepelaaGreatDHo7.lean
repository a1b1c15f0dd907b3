/- the document's tags laid into bytes, and a frame of them (printed by tools/gen_dho7.py). -/
import Derived.Test.YtfchbppfbepelaaGreatMgB
import Derived.Test.YtfchbppfbepelaaGreatPHo1
namespace Go.Proofs.YtfchbppfbepelaaGreat
open Go.RowKit
set_option linter.unusedVariables false
section
variable {w : World}
set_option maxRecDepth 100000 in
set_option maxHeartbeats 8000000 in
theorem dputtags_long {A : Option Addr} {cap : Nat} {l : List Tg} (h : TgAt w A l) (hok : ∀ t, t ∈ l → TgOk t) (hl : l.length ≤ 20) (hc : l.length ≤ cap) (hm : cap ≤ maxLen) (hs : (tgsB l).length ≤ 100000) (hx : 1494 < (tgsB l).length) :
    Calls Tryz.prog 291 #[.slice A l.length cap] w fun e w' => e = .returned (.tuple #[.string (B []), .int .i64 2]) ∧ Fr [] w w' := by
  have HX := Lib.hid hx
  clear hx
  have H := Lib.hid h
  have HOK := Lib.hid hok
  have HS := Lib.hid hs
  have hl1 : ¬ (20 : Int) < l.length := by omega
  unfold maxLen at hm
  clear h hok hs
  go_enter Tryz.func291, Tryz.ntmps291
  go_wp2_with fail
  go_loopw [4, 5] (fun nv iv wr => ∃ j : Nat, j ≤ l.length ∧ iv = .int .i64 j ∧ nv = .int .i64 ((tgsB (l.take j)).length : Int) ∧ Fr [] w wr) (fun _ iv _ => l.length - (intOf iv).toNat)
  case atStart => exact ⟨0, by omega, rfl, by simp [tgsB], Fr.refl _ _⟩
  case round =>
    obtain ⟨j, hj, rfl, rfl, hF⟩ := hrel
    by_cases hjl : j < l.length
    · obtain ⟨⟨t, s⟩, ht⟩ : ∃ t, l[j]? = some t := ⟨_, List.getElem?_eq_getElem hjl⟩
      obtain ⟨b, off, rfl, hb, hcell⟩ := H.out j _ ht
      obtain ⟨c0, c1⟩ := hcell _ hF
      simp only at c0 c1
      have hOk := HOK.out _ (List.mem_of_getElem? ht)
      have hn : (tgsB (l.take (j + 1))).length = (tgsB (l.take j)).length + s.length + 4 := by rw [← tgsB_snoc ht, List.length_append, tgB_len]; simp only; omega
      have hle := tgsB_le l (j + 1)
      have hbig := HS.out
      have h0 : ¬ t < 1 := by have := hOk.1; simp only at this; omega
      have h1 : ¬ 65535 < t := by have := hOk.2; simp only at this; omega
      have hjb : (j : Int) ≤ 20 := by omega
      have hsb : (s.length : Int) ≤ 100000 := by omega
      obtain ⟨n, hnn⟩ : ∃ n, (tgsB (l.take j)).length = n := ⟨_, rfl⟩
      rw [hnn] at hn ⊢
      have hnb : (n : Int) ≤ 100000 := by omega
      have HN := Lib.hid (show ((n : Int) + 4 + s.length) = (((tgsB (l.take (j + 1))).length : Nat) : Int) from by rw [hn]; omega)
      have HF := Lib.hid hF
      clear hcell ht hb hOk hn hle hbig hnn hF
      go_wp2_with fail
      go_roundw
      case rel => exact ⟨j + 1, by omega, by go_num, by rw [← HN.out], HF.out⟩
      case measure => (simp [intOf]) <;> omega
    · obtain rfl : j = l.length := by omega
      have hge : ¬ (l.length : Int) < l.length := by omega
      rw [List.take_length]
      have hbig := HS.out
      have hx := HX.out
      obtain ⟨n, hnn⟩ : ∃ n, (tgsB l).length = n := ⟨_, rfl⟩
      rw [hnn] at hx hbig ⊢
      have hx1 : (1494 : Int) < n := by omega
      have HF := Lib.hid hF
      clear hnn hx hj hjl hF hbig
      go_wp2_with fail
      go_ret2
      exact ⟨rfl, HF.out⟩
set_option maxRecDepth 100000 in
set_option maxHeartbeats 8000000 in
theorem dputtags_ok {A : Option Addr} {cap : Nat} {l : List Tg} (h : TgAt w A l) (hok : ∀ t, t ∈ l → TgOk t) (hl : l.length ≤ 20) (hc : l.length ≤ cap) (hm : cap ≤ maxLen) (hs : (tgsB l).length ≤ 1494) :
    Calls Tryz.prog 291 #[.slice A l.length cap] w fun e w' => e = .returned (.tuple #[.string (B (tgsB l)), .int .i64 0]) ∧ Fr [] w w' := by
  have H := Lib.hid h
  have HOK := Lib.hid hok
  have HS := Lib.hid hs
  have hl1 : ¬ (20 : Int) < l.length := by omega
  unfold maxLen at hm
  clear h hok hs
  go_enter Tryz.func291, Tryz.ntmps291
  go_wp2_with fail
  go_loopw [4, 5] (fun nv iv wr => ∃ j : Nat, j ≤ l.length ∧ iv = .int .i64 j ∧ nv = .int .i64 ((tgsB (l.take j)).length : Int) ∧ Fr [] w wr) (fun _ iv _ => l.length - (intOf iv).toNat)
  case atStart => exact ⟨0, by omega, rfl, by simp [tgsB], Fr.refl _ _⟩
  case round =>
    obtain ⟨j, hj, rfl, rfl, hF⟩ := hrel
    by_cases hjl : j < l.length
    · obtain ⟨⟨t, s⟩, ht⟩ : ∃ t, l[j]? = some t := ⟨_, List.getElem?_eq_getElem hjl⟩
      obtain ⟨b, off, rfl, hb, hcell⟩ := H.out j _ ht
      obtain ⟨c0, c1⟩ := hcell _ hF
      simp only at c0 c1
      have hOk := HOK.out _ (List.mem_of_getElem? ht)
      have hn : (tgsB (l.take (j + 1))).length = (tgsB (l.take j)).length + s.length + 4 := by rw [← tgsB_snoc ht, List.length_append, tgB_len]; simp only; omega
      have hle := tgsB_le l (j + 1)
      have hbig := HS.out
      have h0 : ¬ t < 1 := by have := hOk.1; simp only at this; omega
      have h1 : ¬ 65535 < t := by have := hOk.2; simp only at this; omega
      have hjb : (j : Int) ≤ 20 := by omega
      have hsb : (s.length : Int) ≤ 100000 := by omega
      obtain ⟨n, hnn⟩ : ∃ n, (tgsB (l.take j)).length = n := ⟨_, rfl⟩
      rw [hnn] at hn ⊢
      have hnb : (n : Int) ≤ 100000 := by omega
      have HN := Lib.hid (show ((n : Int) + 4 + s.length) = (((tgsB (l.take (j + 1))).length : Nat) : Int) from by rw [hn]; omega)
      have HF := Lib.hid hF
      clear hcell ht hb hOk hn hle hbig hnn hF
      go_wp2_with fail
      go_roundw
      case rel => exact ⟨j + 1, by omega, by go_num, by rw [← HN.out], HF.out⟩
      case measure => (simp [intOf]) <;> omega
    · obtain rfl : j = l.length := by omega
      have hge : ¬ (l.length : Int) < l.length := by omega
      rw [List.take_length]
      have hbig := HS.out
      obtain ⟨n, hnn⟩ : ∃ n, (tgsB l).length = n := ⟨_, rfl⟩
      rw [hnn] at hbig ⊢
      have hx1 : ¬ (1494 : Int) < n := by omega
      have HF0 := Lib.hid hF
      clear hnn hj hjl hF hbig hge
      go_wp2_with fail
      go_loopw [6, 7] (fun sv iv wr => ∃ j : Nat, j ≤ l.length ∧ iv = .int .i64 j ∧ sv = .string (B (tgsB (l.take j))) ∧ Fr [] w wr) (fun _ iv _ => l.length - (intOf iv).toNat)
      case atStart => exact ⟨0, by omega, rfl, rfl, HF0.out⟩
      case round =>
        clear HF0
        obtain ⟨j, hj, rfl, rfl, hF⟩ := hrel
        by_cases hjl : j < l.length
        · obtain ⟨⟨t, s⟩, ht⟩ : ∃ t, l[j]? = some t := ⟨_, List.getElem?_eq_getElem hjl⟩
          obtain ⟨b, off, rfl, hb, hcell⟩ := H.out j _ ht
          have HC := Lib.hid hcell
          have hOk := HOK.out _ (List.mem_of_getElem? ht)
          have hsn := tgsB_snoc ht
          have hle := tgsB_le l (j + 1)
          rw [← hsn, List.length_append, tgB_len] at hle
          obtain ⟨P, hP⟩ : ∃ P, tgsB (l.take j) = P := ⟨_, rfl⟩
          rw [hP] at hsn hle ⊢
          have hbig := HS.out
          have h0 : (0 : Int) ≤ t := by have := hOk.1; simp only at this; omega
          have h1 : t ≤ 65535 := hOk.2
          have h3 : (s.length : Int) < 65536 := by simp only at hle; omega
          have hjb : (j : Int) ≤ 20 := by omega
          have HSn := Lib.hid hsn
          have HF := Lib.hid hF
          obtain ⟨BT, hBT⟩ : ∃ x, be 2 t = x := ⟨_, rfl⟩
          obtain ⟨BL, hBL⟩ : ∃ x, be 2 (s.length : Int) = x := ⟨_, rfl⟩
          have hbt : BT.length = 2 := by rw [← hBT, be_length]
          have hbl : BL.length = 2 := by rw [← hBL, be_length]
          have T1 : Hid (∀ v W, v = t → Calls Tryz.prog 296 #[.int .i64 v] W fun e w' => e = .returned (.string (B BT)) ∧ Fr [] W w') := Lib.hid fun v W hv => by
            subst hv
            rw [← hBT]; exact rtwo_any _ _ (by omega)
          have T2 : Hid (∀ v W, v = (s.length : Int) → Calls Tryz.prog 296 #[.int .i64 v] W fun e w' => e = .returned (.string (B BL)) ∧ Fr [] W w') := Lib.hid fun v W hv => by
            subst hv
            rw [← hBL]; exact rtwo_any _ _ (by omega)
          have HSn : Hid (P ++ BT ++ BL ++ s = tgsB (l.take (j + 1))) := Lib.hid (by rw [← HSn.out, ← hBT, ← hBL]; simp [tgB])
          clear hBT hBL
          have h6 : ¬ 9223372036854775807 < P.length + 2 := by simp only at hle; omega
          have h7 : ¬ 9223372036854775807 < P.length + 2 + 2 := by simp only at hle; omega
          have h8 : ¬ 9223372036854775807 < P.length + 2 + 2 + s.length := by simp only at hle; omega
          have HX : Hid (∀ W, Fr [] wr W → (W.cell? ⟨b, off + j * 2, none⟩ = some (.int .i64 t) ∧ W.cell? ⟨b, off + j * 2 + 1, none⟩ = some (.string (B s))) ∧ Fr [] wr W) := Lib.hid fun W hW => ⟨HC.out W (HF.out.trans hW), hW⟩
          have hG0 := HX.out _ (Fr.refl [] wr).drew
          clear h0 h1 h3 hcell ht hb hOk hsn hle hP hbig hF HC
          go_wp2_with fail
          go_region_held3 (fun W => (W.cell? ⟨b, off + j * 2, none⟩ = some (.int .i64 t) ∧ W.cell? ⟨b, off + j * 2 + 1, none⟩ = some (.string (B s))) ∧ Fr [] wr W)
            (first | exact hG0 | assumption | (refine HX.out _ (Fr.trans ?_ hF5); exact And.right (by assumption)))
            (first | (go_at_call 296; refine (T1.out _ _ (by with_reducible rfl)).mono ?_; rintro e w5 ⟨rfl, hF5⟩) | (go_at_call 296; refine (T2.out _ _ (by with_reducible rfl)).mono ?_; rintro e w5 ⟨rfl, hF5⟩))
          all_goals
            have hF9 : Fr [] wr w5 := And.right (by assumption)
            have HF6 := Lib.hid (HF.out.trans hF9)
            clear hG0 hF9
            go_wp2_with fail
            go_roundw
            case rel => exact ⟨j + 1, by omega, by go_num, by rw [← HSn.out]; simp only [List.append_assoc], HF6.out⟩
            case measure => (simp [intOf]) <;> omega
        · obtain rfl : j = l.length := by omega
          have hge : ¬ (l.length : Int) < l.length := by omega
          rw [List.take_length]
          clear hj hjl
          go_wp2_with fail
          go_ret2
          exact ⟨rfl, hF⟩
theorem dall_any (W : World) : Calls Tryz.prog 236 #[] W fun e w' => e = .returned (.agg (mcL mcF).toArray) ∧ Fr [] W w' := by
  have hN := Blk.new W #[.int .u8 255, .int .u8 255, .int .u8 255, .int .u8 255, .int .u8 255, .int .u8 255] 104
  have hF := (Fr.refl [] W).alloc (.cells #[.int .u8 255, .int .u8 255, .int .u8 255, .int .u8 255, .int .u8 255, .int .u8 255] 104 (0, 0))
  go_enter Tryz.func236, Tryz.ntmps236
  go_wp2_with fail
  exact ret_cell1 0 104 rfl W.heap.size 104 _ _ hN rfl Tryz.underlying104 rfl (by kernel_rfl) rfl ⟨rfl, hF⟩
set_option maxRecDepth 100000 in
set_option maxHeartbeats 8000000 in
theorem dsend_long {A : Option Addr} {cap : Nat} {l : List Tg} (m k : Mc) (c ss : Int) (hT : TgAt w A l) (hok : ∀ t, t ∈ l → TgOk t) (hl : l.length ≤ 20) (hc : l.length ≤ cap) (hm : cap ≤ maxLen) (hs : (tgsB l).length ≤ 100000) (hx : 1494 < (tgsB l).length) :
    Calls Tryz.prog 200 #[.agg (mcL m).toArray, .agg (mcL k).toArray, .int .i64 c, .int .i64 ss, .slice A l.length cap] w fun e w' => e = .returned (.slice none 0 0) ∧ Fr [] w w' := by
  have P1 := Lib.hid fun W (hW : Fr [] w W) => dputtags_long (hT.fr0 hW) hok hl hc hm hs hx
  obtain ⟨m1, m2, m3, m4, m5, m6⟩ := m
  obtain ⟨k1, k2, k3, k4, k5, k6⟩ := k
  unfold mcL
  simp only
  have hF0 := ((Fr.refl [] w).alloc (.cells #[.int .u8 m1, .int .u8 m2, .int .u8 m3, .int .u8 m4, .int .u8 m5, .int .u8 m6] 104 (0, 0))).alloc (.cells #[.int .u8 k1, .int .u8 k2, .int .u8 k3, .int .u8 k4, .int .u8 k5, .int .u8 k6] 104 (0, 0))
  clear hT hok hl hc hm hs hx
  go_enter Tryz.func200, Tryz.ntmps200
  go_wp2_with fail
  refine (P1.out _ hF0).mono ?_
  rintro e w1 ⟨rfl, hG1⟩
  have hF1 := hF0.trans hG1
  clear hF0 hG1
  go_wp2_with fail
  go_ret
  exact ⟨rfl, hF1⟩
set_option maxRecDepth 100000 in
set_option maxHeartbeats 8000000 in
theorem dsend_ok {A : Option Addr} {cap : Nat} {l : List Tg} (m k : Mc) (c ss : Int) (hT : TgAt w A l) (hok : ∀ t, t ∈ l → TgOk t) (hl : l.length ≤ 20) (hc : l.length ≤ cap) (hm : cap ≤ maxLen) (hs : (tgsB l).length ≤ 1494) (c0 : 0 ≤ c) (c1 : c ≤ 255) (s0 : 0 ≤ ss) (s1 : ss ≤ 65535) :
    Calls Tryz.prog 200 #[.agg (mcL m).toArray, .agg (mcL k).toArray, .int .i64 c, .int .i64 ss, .slice A l.length cap] w (OneP w k m 34915 (discB c ss (tgsB l)) []) := by
  have P1 := Lib.hid fun W (hW : Fr [] w W) => dputtags_ok (hT.fr0 hW) hok hl hc hm hs
  have P2 := Lib.hid fun W => rdput_ok W c ss (tgsB l) c0 c1 s0 s1 hs
  obtain ⟨D, hD⟩ : ∃ D, discB c ss (tgsB l) = D := ⟨_, rfl⟩
  obtain ⟨E, hE⟩ : ∃ E, tgsB l = E := ⟨_, rfl⟩
  rw [hD] at P2 ⊢
  rw [hE] at P1 P2
  obtain ⟨m1, m2, m3, m4, m5, m6⟩ := m
  obtain ⟨k1, k2, k3, k4, k5, k6⟩ := k
  unfold mcL
  simp only
  have hF0 := ((Fr.refl [] w).alloc (.cells #[.int .u8 m1, .int .u8 m2, .int .u8 m3, .int .u8 m4, .int .u8 m5, .int .u8 m6] 104 (0, 0))).alloc (.cells #[.int .u8 k1, .int .u8 k2, .int .u8 k3, .int .u8 k4, .int .u8 k5, .int .u8 k6] 104 (0, 0))
  have hM0 := (Blk.new w #[.int .u8 m1, .int .u8 m2, .int .u8 m3, .int .u8 m4, .int .u8 m5, .int .u8 m6] 104).alloc (.cells #[.int .u8 k1, .int .u8 k2, .int .u8 k3, .int .u8 k4, .int .u8 k5, .int .u8 k6] 104 (0, 0))
  have hK0 := Blk.new (w.alloc (.cells #[.int .u8 m1, .int .u8 m2, .int .u8 m3, .int .u8 m4, .int .u8 m5, .int .u8 m6] 104 (0, 0))) #[.int .u8 k1, .int .u8 k2, .int .u8 k3, .int .u8 k4, .int .u8 k5, .int .u8 k6] 104
  rw [show (w.alloc (.cells #[.int .u8 m1, .int .u8 m2, .int .u8 m3, .int .u8 m4, .int .u8 m5, .int .u8 m6] 104 (0, 0))).heap.size = w.heap.size + 1 from by simp] at hK0
  clear hD hE hT hok hl hc hm hs c0 c1 s0 s1
  go_enter Tryz.func200, Tryz.ntmps200
  go_wp2_with fail
  refine (P1.out _ hF0).mono ?_
  rintro e w1 ⟨rfl, hG1⟩
  have hF1 := hF0.trans hG1
  have hM1 := hG1.blk hM0 (by simp)
  have hK1 := hG1.blk hK0 (by simp)
  clear hF0 hG1 hM0 hK0
  go_wp2_with fail
  refine (P2.out _).mono ?_
  rintro e w2 ⟨rfl, hG2⟩
  have hF2 := hF1.trans hG2
  have hM2 := hG2.blk hM1 (by simp)
  have hK2 := hG2.blk hK1 (by simp)
  have a0 : w2.cell? ⟨w.heap.size, 0, none⟩ = some (.int .u8 m1) := hM2.c 0 _ rfl
  have a1 : w2.cell? ⟨w.heap.size, 1, none⟩ = some (.int .u8 m2) := hM2.c 1 _ rfl
  have a2 : w2.cell? ⟨w.heap.size, 2, none⟩ = some (.int .u8 m3) := hM2.c 2 _ rfl
  have a3 : w2.cell? ⟨w.heap.size, 3, none⟩ = some (.int .u8 m4) := hM2.c 3 _ rfl
  have a4 : w2.cell? ⟨w.heap.size, 4, none⟩ = some (.int .u8 m5) := hM2.c 4 _ rfl
  have a5 : w2.cell? ⟨w.heap.size, 5, none⟩ = some (.int .u8 m6) := hM2.c 5 _ rfl
  have b0 : w2.cell? ⟨w.heap.size + 1, 0, none⟩ = some (.int .u8 k1) := hK2.c 0 _ rfl
  have b1 : w2.cell? ⟨w.heap.size + 1, 1, none⟩ = some (.int .u8 k2) := hK2.c 1 _ rfl
  have b2 : w2.cell? ⟨w.heap.size + 1, 2, none⟩ = some (.int .u8 k3) := hK2.c 2 _ rfl
  have b3 : w2.cell? ⟨w.heap.size + 1, 3, none⟩ = some (.int .u8 k4) := hK2.c 3 _ rfl
  have b4 : w2.cell? ⟨w.heap.size + 1, 4, none⟩ = some (.int .u8 k5) := hK2.c 4 _ rfl
  have b5 : w2.cell? ⟨w.heap.size + 1, 5, none⟩ = some (.int .u8 k6) := hK2.c 5 _ rfl
  have HF2 := Lib.hid hF2
  obtain ⟨q0, hq0⟩ : ∃ q, w.heap.size = q := ⟨_, rfl⟩
  rw [hq0] at a0 a1 a2 a3 a4 a5 b0 b1 b2 b3 b4 b5 ⊢
  have HQ := Lib.hid hq0
  clear hF1 hG2 hF2 hM1 hK1 hM2 hK2 P1 P2 hq0
  go_wp2_with fail
  go_ret
  exact ⟨w2.heap.size, rfl, HF2.out.size, Blk.new w2 _ _, HF2.out.alloc _⟩
theorem dsend_out {A : Option Addr} {cap : Nat} {l : List Tg} (m k : Mc) (c ss : Int) (hT : TgAt w A l) (hok : ∀ t, t ∈ l → TgOk t) (hl : l.length ≤ 20) (hc : l.length ≤ cap) (hm : cap ≤ maxLen) (hs : (tgsB l).length ≤ 100000) (c0 : 0 ≤ c) (c1 : c ≤ 255) (s0 : 0 ≤ ss) (s1 : ss ≤ 65535) :
    Calls Tryz.prog 200 #[.agg (mcL m).toArray, .agg (mcL k).toArray, .int .i64 c, .int .i64 ss, .slice A l.length cap] w (OutP w (frameL k m c ss l) []) := by
  unfold frameL
  by_cases hx : (tgsB l).length ≤ 1494
  · rw [if_pos hx]
    exact (dsend_ok m k c ss hT hok hl hc hm hx c0 c1 s0 s1).mono fun e w' hh => OutP.one hh
  · rw [if_neg hx]
    exact (dsend_long m k c ss hT hok hl hc hm hs (by omega)).mono fun e w' hh => by obtain ⟨rfl, hF⟩ := hh; exact OutP.none_ hF
end
end Go.Proofs.YtfchbppfbepelaaGreat
