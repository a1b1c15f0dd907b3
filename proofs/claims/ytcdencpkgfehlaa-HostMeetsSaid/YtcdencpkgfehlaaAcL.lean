/- ac: Take (printed by tools/gen_acf.py). -/
import Derived.Test.YtcdencpkgfehlaaAcF
import Derived.Test.YtcdencpkgfehlaaMgC
namespace Go.Proofs.Ytcdencpkgfehlaa
open Go.RowKit Go.Maps
set_option linter.unusedVariables false
set_option maxRecDepth 100000 in
theorem everyone_any (w : World) : Calls Try.prog 50 #[] w fun e w' => e = .returned (.agg #[.int .u8 255, .int .u8 255, .int .u8 255, .int .u8 255, .int .u8 255, .int .u8 255]) ∧ Fr [] w w' := by
  go_enter Try.func50, Try.ntmps50
  have hN := Blk.new w #[.int .u8 0, .int .u8 0, .int .u8 0, .int .u8 0, .int .u8 0, .int .u8 0] 28
  have hF := (Fr.refl [] w).alloc (.cells #[.int .u8 0, .int .u8 0, .int .u8 0, .int .u8 0, .int .u8 0, .int .u8 0] 28 (0, 0))
  go_wp2_with fail
  exact ret_cell1 0 28 rfl w.heap.size 28 #[.int .u8 255, .int .u8 255, .int .u8 255, .int .u8 255, .int .u8 255, .int .u8 255] _ (Blk.new w _ _) rfl Try.underlying28 rfl (by kernel_rfl) rfl ⟨rfl, (Fr.refl _ _).alloc _⟩
section
variable {w : World} {g : Nat} {c : Cn} {S : List Ses} {G : List Idk}
set_option maxRecDepth 100000 in
set_option maxHeartbeats 8000000 in
theorem take_padi (R : Value → World → Prop) (to : Mc) (tags : List Tg) (t : Int) (hne : to ≠ c.m) (hok : ∀ x, x ∈ tags → TgOk x ∧ x.2.length ≤ 1494) (hl : tags.length ≤ 20) (hs : (tgsB tags).length ≤ 1494) (hn : findN tags 257 = 1)
    (GR : ∀ W A cap, TgAt W A tags → tags.length ≤ cap → cap ≤ maxLen → Fr [] w W → Calls Try.prog 51 #[.pointer (some ⟨g, 0, none⟩), .agg (mcL to).toArray, .string (B (findS tags 257)), .slice A tags.length cap, .int .i64 t] W fun e w' => ∃ v, e = .returned v ∧ R v w')
    (h : CnIs w g c S G) : Calls Try.prog 24 #[.pointer (some ⟨g, 0, none⟩), .agg (ethC mcF to 34915 (discB 9 0 (tgsB tags))), .int .i64 t] w fun e w' => ∃ v, e = .returned v ∧ R v w' := by
  have H := Lib.hid h
  have TG := Lib.hid fun W => tget_ok (w := W) 9 0 (tgsB tags) (by decide) (by decide) (by omega) (by omega) hs
  have TT := Lib.hid fun W => gettags_ok (w := W) tags hok hl hs
  have TF := Lib.hid fun W A cap (h1 : TgAt W A tags) (h2 : tags.length ≤ cap) (h3 : cap ≤ maxLen) => find_any (w := W) 257 h1 hl h2 h3
  have HLN := Lib.hid hl
  have hEX : ∀ A, (Value.agg (mcL to).toArray) = A → True := fun _ _ => trivial
  have heq1 := fun W => eq_mac 9998 to c.m W
  rw [show mcEq to c.m = false from by cases hc : mcEq to c.m with | false => rfl | true => exact absurd ((mcEq_iff _ _).1 hc) hne] at heq1
  have heq2 := fun W => eq_mac 9998 mcF mcF W
  rw [mcEq_self] at heq2
  rw [hn] at TF
  obtain ⟨sv, hsv⟩ : ∃ x, findS tags 257 = x := ⟨_, rfl⟩
  rw [hsv] at TF GR
  have GRH := Lib.hid GR
  obtain ⟨D, hD⟩ : ∃ x, discB 9 0 (tgsB tags) = x := ⟨_, rfl⟩
  rw [hD] at TG ⊢
  obtain ⟨TB, hTB⟩ : ∃ x, tgsB tags = x := ⟨_, rfl⟩
  rw [hTB] at TG TT
  clear hD hTB hok hs
  have N0 := Lib.hid fun W (hW : Fr [] w W) => cnone_any (hW.blk h.st (by simp))
  have hcM : ∀ W, Fr [] w W → W.cell? ⟨g, 0, none⟩ = some (.int .u8 c.m.a) ∧ W.cell? ⟨g, 1, none⟩ = some (.int .u8 c.m.b) ∧ W.cell? ⟨g, 2, none⟩ = some (.int .u8 c.m.c) ∧ W.cell? ⟨g, 3, none⟩ = some (.int .u8 c.m.d) ∧ W.cell? ⟨g, 4, none⟩ = some (.int .u8 c.m.e) ∧ W.cell? ⟨g, 5, none⟩ = some (.int .u8 c.m.f) := fun W hW => by have hb := hW.blk h.st (by simp); exact ⟨hb.c 0 _ rfl, hb.c 1 _ rfl, hb.c 2 _ rfl, hb.c 3 _ rfl, hb.c 4 _ rfl, hb.c 5 _ rfl⟩
  have hgl := h.st.lt
  clear h hne hl GR hsv hn hEX
  obtain ⟨⟨m1, m2, m3, m4, m5, m6⟩, nmx, secx, svx, mostx, atx, tkx, lastx, gonex⟩ := c
  obtain ⟨t1, t2, t3, t4, t5, t6⟩ := to
  simp only at hcM
  have HCM := Lib.hid hcM
  unfold mcL at heq1 heq2
  unfold mcF at heq2
  simp only at heq1 heq2
  unfold mcL at GRH
  simp only at GRH
  unfold ethC mcF
  simp only
  clear hcM
  have hF := (Fr.refl [] w).alloc (.cells #[.int .u8 255, .int .u8 255, .int .u8 255, .int .u8 255, .int .u8 255, .int .u8 255, .int .u8 t1, .int .u8 t2, .int .u8 t3, .int .u8 t4, .int .u8 t5, .int .u8 t6, .int .i64 34915, .string (B D)] 35 (0, 0))
  have hN := Blk.new w #[.int .u8 255, .int .u8 255, .int .u8 255, .int .u8 255, .int .u8 255, .int .u8 255, .int .u8 t1, .int .u8 t2, .int .u8 t3, .int .u8 t4, .int .u8 t5, .int .u8 t6, .int .i64 34915, .string (B D)] 35
  go_enter Try.func24, Try.ntmps24
  go_wp2_with fail
  obtain ⟨q, hq⟩ : ∃ q, w.heap.size = q := ⟨_, rfl⟩
  obtain ⟨W3, hW3⟩ : ∃ W, w.alloc (.cells #[.int .u8 255, .int .u8 255, .int .u8 255, .int .u8 255, .int .u8 255, .int .u8 255, .int .u8 t1, .int .u8 t2, .int .u8 t3, .int .u8 t4, .int .u8 t5, .int .u8 t6, .int .i64 34915, .string (B D)] 35 (0, 0)) = W := ⟨_, rfl⟩
  rw [hq] at hN ⊢
  rw [hW3] at hN hF ⊢
  have HF3 := Lib.hid hF
  have HQ := Lib.hid hq
  have HX : Hid (∀ W, Fr [] W3 W → (fun W => (W.cell? ⟨q, 0, none⟩ = some (.int .u8 255) ∧ W.cell? ⟨q, 1, none⟩ = some (.int .u8 255) ∧ W.cell? ⟨q, 2, none⟩ = some (.int .u8 255) ∧ W.cell? ⟨q, 3, none⟩ = some (.int .u8 255) ∧ W.cell? ⟨q, 4, none⟩ = some (.int .u8 255) ∧ W.cell? ⟨q, 5, none⟩ = some (.int .u8 255) ∧ W.cell? ⟨q, 6, none⟩ = some (.int .u8 t1) ∧ W.cell? ⟨q, 7, none⟩ = some (.int .u8 t2) ∧ W.cell? ⟨q, 8, none⟩ = some (.int .u8 t3) ∧ W.cell? ⟨q, 9, none⟩ = some (.int .u8 t4) ∧ W.cell? ⟨q, 10, none⟩ = some (.int .u8 t5) ∧ W.cell? ⟨q, 11, none⟩ = some (.int .u8 t6) ∧ W.cell? ⟨q, 12, none⟩ = some (.int .i64 34915) ∧ W.cell? ⟨q, 13, none⟩ = some (.string (B D)) ∧ W.cell? ⟨g, 0, none⟩ = some (.int .u8 m1) ∧ W.cell? ⟨g, 1, none⟩ = some (.int .u8 m2) ∧ W.cell? ⟨g, 2, none⟩ = some (.int .u8 m3) ∧ W.cell? ⟨g, 3, none⟩ = some (.int .u8 m4) ∧ W.cell? ⟨g, 4, none⟩ = some (.int .u8 m5) ∧ W.cell? ⟨g, 5, none⟩ = some (.int .u8 m6)) ∧ Fr [] W3 W) W) := Lib.hid fun W hW => by
    have hb := hW.blk hN (by simp)
    have hm := HCM.out W (HF3.out.trans hW)
    exact ⟨⟨hb.c 0 _ rfl, hb.c 1 _ rfl, hb.c 2 _ rfl, hb.c 3 _ rfl, hb.c 4 _ rfl, hb.c 5 _ rfl, hb.c 6 _ rfl, hb.c 7 _ rfl, hb.c 8 _ rfl, hb.c 9 _ rfl, hb.c 10 _ rfl, hb.c 11 _ rfl, hb.c 12 _ rfl, hb.c 13 _ rfl, hm⟩, hW⟩
  have hG0 := HX.out _ (Fr.refl [] W3).drew
  dsimp only at hG0
  have N2 := Lib.hid fun W (hW : Fr [] W3 W) => N0.out W (HF3.out.trans hW)
  clear hq hW3 hN hF N0
  go_region_held3 (fun W => (W.cell? ⟨q, 0, none⟩ = some (.int .u8 255) ∧ W.cell? ⟨q, 1, none⟩ = some (.int .u8 255) ∧ W.cell? ⟨q, 2, none⟩ = some (.int .u8 255) ∧ W.cell? ⟨q, 3, none⟩ = some (.int .u8 255) ∧ W.cell? ⟨q, 4, none⟩ = some (.int .u8 255) ∧ W.cell? ⟨q, 5, none⟩ = some (.int .u8 255) ∧ W.cell? ⟨q, 6, none⟩ = some (.int .u8 t1) ∧ W.cell? ⟨q, 7, none⟩ = some (.int .u8 t2) ∧ W.cell? ⟨q, 8, none⟩ = some (.int .u8 t3) ∧ W.cell? ⟨q, 9, none⟩ = some (.int .u8 t4) ∧ W.cell? ⟨q, 10, none⟩ = some (.int .u8 t5) ∧ W.cell? ⟨q, 11, none⟩ = some (.int .u8 t6) ∧ W.cell? ⟨q, 12, none⟩ = some (.int .i64 34915) ∧ W.cell? ⟨q, 13, none⟩ = some (.string (B D)) ∧ W.cell? ⟨g, 0, none⟩ = some (.int .u8 m1) ∧ W.cell? ⟨g, 1, none⟩ = some (.int .u8 m2) ∧ W.cell? ⟨g, 2, none⟩ = some (.int .u8 m3) ∧ W.cell? ⟨g, 3, none⟩ = some (.int .u8 m4) ∧ W.cell? ⟨g, 4, none⟩ = some (.int .u8 m5) ∧ W.cell? ⟨g, 5, none⟩ = some (.int .u8 m6)) ∧ Fr [] W3 W)
    (first | exact hG0 | assumption)
    (first | (go_at_call 48; refine (N2.out _ (And.right (by assumption))).mono ?_; rintro e w1 ⟨rfl, rfl⟩))
  all_goals
    have hS4 := hG0
    obtain ⟨V4, hV4⟩ : ∃ V, W3.drew = V := ⟨_, rfl⟩
    rw [hV4] at hS4 ⊢
    obtain ⟨⟨a0, a1, a2, a3, a4, a5, a6, a7, a8, a9, a10, a11, a12, a13, g0, g1, g2, g3, g4, g5⟩, hF4⟩ := hS4
    clear hG0 hV4 N2
    go_wp2_with fail
    refine (TG.out _).mono ?_
    rintro e w5 ⟨rfl, hF5⟩
    have hF6 := (hF4.trans hF5).alloc (.cells #[.int .i64 9, .int .i64 0, .string (B TB)] 72 (0, 0))
    have hD6 := Blk.new w5 #[.int .i64 9, .int .i64 0, .string (B TB)] 72
    go_wp2_with fail
    obtain ⟨qd, hqd⟩ : ∃ x, w5.heap.size = x := ⟨_, rfl⟩
    obtain ⟨W6, hW6⟩ : ∃ x, w5.alloc (.cells #[.int .i64 9, .int .i64 0, .string (B TB)] 72 (0, 0)) = x := ⟨_, rfl⟩
    rw [hW6] at hF6 hD6 ⊢
    rw [hqd] at hD6 ⊢
    clear hF5 hqd hW6 TG hF4 a0 a1 a2 a3 a4 a5 a6 a7 a8 a9 a10 a11 a12 a13 g0 g1 g2 g3 g4 g5
    refine (TT.out _).mono ?_
    rintro e w7 ⟨A, cap, rfl, hT7, hc7, hm7, hF7⟩
    have TF2 := Lib.hid (TF.out _ _ _ hT7 hc7 hm7)
    have hF8 := hF6.trans hF7
    have hD8 := hF7.blk hD6 (by simp)
    have HT7 := Lib.hid (And.intro hT7 (And.intro hc7 hm7))
    clear hT7 hc7 hm7 hF6 hF7 hD6 TT TF
    go_wp2_with fail
    refine TF2.out.mono ?_
    rintro e w9 ⟨rfl, hF9⟩
    have hF10 := hF8.trans hF9
    have hD10 := hF9.blk hD8 (by simp)
    have hT10 := HT7.out.1.fr0 hF9
    have HT10 := Lib.hid (And.intro hT10 HT7.out.2)
    clear hF8 hD8 hF9 hT10 HT7 TF2
    go_wp2_with fail
    have HY : Hid (∀ W, Fr [] w9 W → (fun W => (W.cell? ⟨qd, 0, none⟩ = some (.int .i64 9) ∧ W.cell? ⟨qd, 1, none⟩ = some (.int .i64 0) ∧ W.cell? ⟨q, 0, none⟩ = some (.int .u8 255) ∧ W.cell? ⟨q, 1, none⟩ = some (.int .u8 255) ∧ W.cell? ⟨q, 2, none⟩ = some (.int .u8 255) ∧ W.cell? ⟨q, 3, none⟩ = some (.int .u8 255) ∧ W.cell? ⟨q, 4, none⟩ = some (.int .u8 255) ∧ W.cell? ⟨q, 5, none⟩ = some (.int .u8 255) ∧ W.cell? ⟨q, 6, none⟩ = some (.int .u8 t1) ∧ W.cell? ⟨q, 7, none⟩ = some (.int .u8 t2) ∧ W.cell? ⟨q, 8, none⟩ = some (.int .u8 t3) ∧ W.cell? ⟨q, 9, none⟩ = some (.int .u8 t4) ∧ W.cell? ⟨q, 10, none⟩ = some (.int .u8 t5) ∧ W.cell? ⟨q, 11, none⟩ = some (.int .u8 t6) ∧ W.cell? ⟨q, 12, none⟩ = some (.int .i64 34915) ∧ W.cell? ⟨q, 13, none⟩ = some (.string (B D)) ∧ W.cell? ⟨g, 0, none⟩ = some (.int .u8 m1) ∧ W.cell? ⟨g, 1, none⟩ = some (.int .u8 m2) ∧ W.cell? ⟨g, 2, none⟩ = some (.int .u8 m3) ∧ W.cell? ⟨g, 3, none⟩ = some (.int .u8 m4) ∧ W.cell? ⟨g, 4, none⟩ = some (.int .u8 m5) ∧ W.cell? ⟨g, 5, none⟩ = some (.int .u8 m6)) ∧ Fr [] w9 W) W) := Lib.hid fun W hW => by
      have hb := hW.blk hD10 (by simp)
      obtain ⟨⟨b0, b1, b2, b3, b4, b5, b6, b7, b8, b9, b10, b11, b12, b13, hm⟩, _⟩ := HX.out W (hF10.trans hW)
      exact ⟨⟨hb.c 0 _ rfl, hb.c 1 _ rfl, b0, b1, b2, b3, b4, b5, b6, b7, b8, b9, b10, b11, b12, b13, hm⟩, hW⟩
    have hG1 := HY.out _ (Fr.refl [] w9).drew
    dsimp only at hG1
    have HF10 := Lib.hid (HF3.out.trans hF10)
    clear hD10 hF10 HX
    have EV := Lib.hid fun W => everyone_any W
    go_region_held3 (fun W => (W.cell? ⟨qd, 0, none⟩ = some (.int .i64 9) ∧ W.cell? ⟨qd, 1, none⟩ = some (.int .i64 0) ∧ W.cell? ⟨q, 0, none⟩ = some (.int .u8 255) ∧ W.cell? ⟨q, 1, none⟩ = some (.int .u8 255) ∧ W.cell? ⟨q, 2, none⟩ = some (.int .u8 255) ∧ W.cell? ⟨q, 3, none⟩ = some (.int .u8 255) ∧ W.cell? ⟨q, 4, none⟩ = some (.int .u8 255) ∧ W.cell? ⟨q, 5, none⟩ = some (.int .u8 255) ∧ W.cell? ⟨q, 6, none⟩ = some (.int .u8 t1) ∧ W.cell? ⟨q, 7, none⟩ = some (.int .u8 t2) ∧ W.cell? ⟨q, 8, none⟩ = some (.int .u8 t3) ∧ W.cell? ⟨q, 9, none⟩ = some (.int .u8 t4) ∧ W.cell? ⟨q, 10, none⟩ = some (.int .u8 t5) ∧ W.cell? ⟨q, 11, none⟩ = some (.int .u8 t6) ∧ W.cell? ⟨q, 12, none⟩ = some (.int .i64 34915) ∧ W.cell? ⟨q, 13, none⟩ = some (.string (B D)) ∧ W.cell? ⟨g, 0, none⟩ = some (.int .u8 m1) ∧ W.cell? ⟨g, 1, none⟩ = some (.int .u8 m2) ∧ W.cell? ⟨g, 2, none⟩ = some (.int .u8 m3) ∧ W.cell? ⟨g, 3, none⟩ = some (.int .u8 m4) ∧ W.cell? ⟨g, 4, none⟩ = some (.int .u8 m5) ∧ W.cell? ⟨g, 5, none⟩ = some (.int .u8 m6)) ∧ Fr [] w9 W)
      (first | exact hG1 | assumption | (refine HY.out _ (Fr.trans ?_ hFE); exact And.right (by assumption)))
      (first | (go_at_call 50; refine (EV.out _).mono ?_; rintro e wE ⟨rfl, hFE⟩))
    all_goals
      have hZ1 : Fr [] w9 wE := And.right (by assumption)
      obtain ⟨⟨d0, d1, a0, a1, a2, a3, a4, a5, a6, a7, a8, a9, a10, a11, a12, a13, g0, g1, g2, g3, g4, g5⟩, hFh⟩ := HY.out _ hZ1
      have GR2 := Lib.hid (GRH.out _ _ _ (HT10.out.1.fr0 hZ1) HT10.out.2.1 HT10.out.2.2 (HF10.out.trans hZ1))
      clear GRH hFh hZ1 HY hG1 EV hFE
      go_wp2_with fail
      refine GR2.out.mono ?_
      rintro e w11 ⟨v, rfl, hR⟩
      have HR := Lib.hid hR
      clear hR GR2
      go_wp2_with fail
      go_ret
      exact ⟨_, rfl, HR.out⟩
end
end Go.Proofs.Ytcdencpkgfehlaa
