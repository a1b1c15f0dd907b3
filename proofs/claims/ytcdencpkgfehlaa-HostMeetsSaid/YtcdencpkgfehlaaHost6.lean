/- host: Tick while it asks. -/
import Derived.Test.YtcdencpkgfehlaaMgC
namespace Go.Proofs.Ytcdencpkgfehlaa
open Go.RowKit
set_option linter.unusedVariables false
theorem pow_small (n : Nat) (h : n ≤ 10) : 1 ≤ (2 : Int) ^ n ∧ (2 : Int) ^ n ≤ 1024 := by
  have : ∀ k : Fin 11, 1 ≤ (2 : Int) ^ k.val ∧ (2 : Int) ^ k.val ≤ 1024 := by decide
  exact this ⟨n, by omega⟩
theorem shl_small (wt ag : Int) (w0 : 1 ≤ wt) (w1 : wt ≤ 100) (a0 : 0 ≤ ag) (a1 : ag ≤ 10) : wrap64 (wt * 2 ^ ag.toNat) = wt * 2 ^ ag.toNat ∧ 1 ≤ wt * 2 ^ ag.toNat ∧ wt * 2 ^ ag.toNat ≤ 102400 := by
  obtain ⟨p0, p1⟩ := pow_small ag.toNat (by omega)
  obtain ⟨P, hP⟩ : ∃ P : Int, (2 : Int) ^ ag.toNat = P := ⟨_, rfl⟩
  rw [hP] at p0 p1 ⊢
  have h1 : wt * P ≤ 100 * 1024 := Int.mul_le_mul w1 p1 (by omega) (by omega)
  have h2 : 1 * 1 ≤ wt * P := Int.mul_le_mul w0 p0 (by omega) (by omega)
  obtain ⟨X, hX⟩ : ∃ X : Int, wt * P = X := ⟨_, rfl⟩
  rw [hX] at h1 h2 ⊢
  refine ⟨?_, by omega, by omega⟩
  unfold wrap64; omega
section
variable {w : World} {g : Nat} {h : Hs} {ck : Value}
set_option maxRecDepth 100000 in
theorem tick_no (hw : h.wt ≠ 0) (h0 : h.st ≠ 1) (h4 : h.st ≠ 2) (hB : Blk w g (hsC h ck) 92) :
    Calls Try.prog 17 #[.pointer (some ⟨g, 0, none⟩)] w fun e w' => e = .returned (.slice none 0 0) ∧ w' = w := by
  have d10 : w.cell? ⟨g, 10, none⟩ = some (.int .i64 h.st) := hB.c 10 _ rfl
  have NO := Lib.hid (hnone_any hB)
  have hwt : (h.wt == 0) = false := by simpa using hw
  rw [hwt] at NO
  have n0 : (h.st != 1) = true := by simpa using h0
  have n4 : (h.st != 2) = true := by simpa using h4
  clear hwt hw hB
  go_enter Try.func17, Try.ntmps17
  go_wp2_with fail
  refine NO.out.mono ?_
  rintro e w1 ⟨rfl, rfl⟩
  go_wp2_with fail
  go_ret
  exact ⟨rfl, rfl⟩
set_option maxRecDepth 100000 in
set_option maxHeartbeats 4000000 in
theorem tick_wait (hw : 1 ≤ h.wt ∧ h.wt ≤ 100) (hst : h.st = 1) (ht : 0 ≤ h.tk ∧ h.tk ≤ 1000000) (ha : 0 ≤ h.ag ∧ h.ag ≤ 10) (hlt : h.tk + 1 < h.wt * 2 ^ h.ag.toNat) (hB : Blk w g (hsC h ck) 92) :
    Calls Try.prog 17 #[.pointer (some ⟨g, 0, none⟩)] w fun e w' => e = .returned (.slice none 0 0) ∧ Blk w' g (hsC { h with tk := h.tk + 1 } ck) 92 ∧ Fr [g] w w' := by
  have d10 : w.cell? ⟨g, 10, none⟩ = some (.int .i64 1) := by have := hB.c 10 (.int .i64 h.st) rfl; rw [hst] at this; exact this
  have d19 : w.cell? ⟨g, 19, none⟩ = some (.int .i64 h.tk) := hB.c 19 _ rfl
  have f19 := hB.fz 19
  have NO := Lib.hid (hnone_any hB)
  have hwt : (h.wt == 0) = false := by rw [beq_eq_false_iff_ne]; omega
  rw [hwt] at NO
  have hB1 : Blk (w.setCell ⟨g, 19, none⟩ (.int .i64 (h.tk + 1))) g (hsC { h with tk := h.tk + 1 } ck) 92 := by
    have := hB.set 19 (.int .i64 (h.tk + 1))
    simpa [hsC] using this
  have hF1 := (Fr.refl [g] w).setCell (p := ⟨g, 19, none⟩) (by simp) (.int .i64 (h.tk + 1))
  obtain ⟨W1, hW1⟩ : ∃ W, w.setCell ⟨g, 19, none⟩ (.int .i64 (h.tk + 1)) = W := ⟨_, rfl⟩
  rw [hW1] at hB1 hF1
  have x19 : W1.cell? ⟨g, 19, none⟩ = some (.int .i64 (h.tk + 1)) := hB1.c 19 _ rfl
  have x9 : W1.cell? ⟨g, 9, none⟩ = some (.int .i64 h.wt) := hB1.c 9 _ rfl
  have x20 : W1.cell? ⟨g, 20, none⟩ = some (.int .i64 h.ag) := hB1.c 20 _ rfl
  have HB1 := Lib.hid hB1
  have HF1 := Lib.hid hF1
  obtain ⟨hsw, hx0, hx1⟩ := shl_small h.wt h.ag hw.1 hw.2 ha.1 ha.2
  obtain ⟨X, hX⟩ : ∃ X : Int, h.wt * 2 ^ h.ag.toNat = X := ⟨_, rfl⟩
  rw [hX] at hx0 hx1 hlt
  have hsw : wrap64 (h.wt * 2 ^ h.ag.toNat) = X := hsw.trans hX
  obtain ⟨t0, t1⟩ := ht
  obtain ⟨a0, a1⟩ := ha
  clear hwt hB hB1 hF1 hX hw
  go_enter Try.func17, Try.ntmps17
  go_wp2_with fail
  refine NO.out.mono ?_
  rintro e w1 ⟨rfl, rfl⟩
  go_wp2_with fail
  go_quiet (fail)
  go_wp2_with fail
  go_ret
  exact ⟨rfl, HB1.out.drewN _, HF1.out.drewN _⟩
set_option maxRecDepth 100000 in
set_option maxHeartbeats 4000000 in
theorem tick_fail (hw : 1 ≤ h.wt ∧ h.wt ≤ 100) (hst : h.st = 1) (ht : 0 ≤ h.tk ∧ h.tk ≤ 1000000) (ha : 0 ≤ h.ag ∧ h.ag ≤ 10) (hlt : ¬ h.tk + 1 < h.wt * 2 ^ h.ag.toNat) (hrt : h.rt ≤ h.ag) (hB : Blk w g (hsC h ck) 92) :
    Calls Try.prog 17 #[.pointer (some ⟨g, 0, none⟩)] w fun e w' => e = .returned (.slice none 0 0) ∧ Blk w' g (hsC (entered h 4) (.slice none 0 0)) 92 ∧ Fr [g] w w' := by
  have d10 : w.cell? ⟨g, 10, none⟩ = some (.int .i64 1) := by have := hB.c 10 (.int .i64 h.st) rfl; rw [hst] at this; exact this
  have d19 : w.cell? ⟨g, 19, none⟩ = some (.int .i64 h.tk) := hB.c 19 _ rfl
  have f19 := hB.fz 19
  have NO := Lib.hid (hnone_any hB)
  have hwt : (h.wt == 0) = false := by rw [beq_eq_false_iff_ne]; omega
  rw [hwt] at NO
  have hB1 : Blk (w.setCell ⟨g, 19, none⟩ (.int .i64 (h.tk + 1))) g (hsC { h with tk := h.tk + 1 } ck) 92 := by
    have := hB.set 19 (.int .i64 (h.tk + 1))
    simpa [hsC] using this
  have hF1 := (Fr.refl [g] w).setCell (p := ⟨g, 19, none⟩) (by simp) (.int .i64 (h.tk + 1))
  obtain ⟨W1, hW1⟩ : ∃ W, w.setCell ⟨g, 19, none⟩ (.int .i64 (h.tk + 1)) = W := ⟨_, rfl⟩
  rw [hW1] at hB1 hF1
  have x19 : W1.cell? ⟨g, 19, none⟩ = some (.int .i64 (h.tk + 1)) := hB1.c 19 _ rfl
  have x9 : W1.cell? ⟨g, 9, none⟩ = some (.int .i64 h.wt) := hB1.c 9 _ rfl
  have x20 : W1.cell? ⟨g, 20, none⟩ = some (.int .i64 h.ag) := hB1.c 20 _ rfl
  have x8 : W1.cell? ⟨g, 8, none⟩ = some (.int .i64 h.rt) := hB1.c 8 _ rfl
  have EN := Lib.hid fun W (hW : Fr [] W1 W) => enter_off 4 (by decide) (by decide) (hW.blk hB1 (by simp))
  have HB1 := Lib.hid hB1
  have HF1 := Lib.hid hF1
  obtain ⟨hsw, hx0, hx1⟩ := shl_small h.wt h.ag hw.1 hw.2 ha.1 ha.2
  obtain ⟨X, hX⟩ : ∃ X : Int, h.wt * 2 ^ h.ag.toNat = X := ⟨_, rfl⟩
  rw [hX] at hx0 hx1 hlt
  have hsw : wrap64 (h.wt * 2 ^ h.ag.toNat) = X := hsw.trans hX
  obtain ⟨t0, t1⟩ := ht
  obtain ⟨a0, a1⟩ := ha
  clear hwt hB hB1 hF1 hX hw
  go_enter Try.func17, Try.ntmps17
  go_wp2_with fail
  refine NO.out.mono ?_
  rintro e w1 ⟨rfl, rfl⟩
  go_wp2_with fail
  go_quiet (fail)
  go_wp2_with fail
  go_quiet (fail)
  go_wp2_with fail
  refine (EN.out _ ((Fr.refl [] W1).drewN _)).mono ?_
  rintro e w2 ⟨rfl, hB2, hF2⟩
  have HX := Lib.hid (And.intro hB2 ((HF1.out.drewN _).trans hF2))
  clear hB2 hF2 EN
  go_wp2_with fail
  go_ret
  exact ⟨rfl, HX.out.1, HX.out.2⟩
set_option maxRecDepth 100000 in
set_option maxHeartbeats 4000000 in
theorem tick_again (hw : 1 ≤ h.wt ∧ h.wt ≤ 100) (hst : h.st = 1) (ht : 0 ≤ h.tk ∧ h.tk ≤ 1000000) (ha : 0 ≤ h.ag ∧ h.ag ≤ 10) (hlt : ¬ h.tk + 1 < h.wt * 2 ^ h.ag.toNat) (hrt : ¬ h.rt ≤ h.ag) (hk : HsOk h) (hB : Blk w g (hsC h ck) 92) :
    Calls Try.prog 17 #[.pointer (some ⟨g, 0, none⟩)] w (SayP w g h { h with tk := 0, ag := h.ag + 1 } ck) := by
  have d10 : w.cell? ⟨g, 10, none⟩ = some (.int .i64 1) := by have := hB.c 10 (.int .i64 h.st) rfl; rw [hst] at this; exact this
  have d19 : w.cell? ⟨g, 19, none⟩ = some (.int .i64 h.tk) := hB.c 19 _ rfl
  have f19 := hB.fz 19
  have NO := Lib.hid (hnone_any hB)
  have hwt : (h.wt == 0) = false := by rw [beq_eq_false_iff_ne]; omega
  rw [hwt] at NO
  have hB1 : Blk (w.setCell ⟨g, 19, none⟩ (.int .i64 (h.tk + 1))) g (hsC { h with tk := h.tk + 1 } ck) 92 := by
    have := hB.set 19 (.int .i64 (h.tk + 1))
    simpa [hsC] using this
  have hF1 := (Fr.refl [g] w).setCell (p := ⟨g, 19, none⟩) (by simp) (.int .i64 (h.tk + 1))
  obtain ⟨W1, hW1⟩ : ∃ W, w.setCell ⟨g, 19, none⟩ (.int .i64 (h.tk + 1)) = W := ⟨_, rfl⟩
  rw [hW1] at hB1 hF1
  have x19 : W1.cell? ⟨g, 19, none⟩ = some (.int .i64 (h.tk + 1)) := hB1.c 19 _ rfl
  have x9 : W1.cell? ⟨g, 9, none⟩ = some (.int .i64 h.wt) := hB1.c 9 _ rfl
  have x20 : W1.cell? ⟨g, 20, none⟩ = some (.int .i64 h.ag) := hB1.c 20 _ rfl
  have x8 : W1.cell? ⟨g, 8, none⟩ = some (.int .i64 h.rt) := hB1.c 8 _ rfl
  have HS2 : Hid (∀ W, Fr [] W1 W → Blk (W.setCell ⟨g, 20, none⟩ (.int .i64 (h.ag + 1))) g (hsC { h with tk := h.tk + 1, ag := h.ag + 1 } ck) 92) := Lib.hid fun W hW => by
    have := (hW.blk hB1 (by simp)).set 20 (.int .i64 (h.ag + 1))
    simpa [hsC] using this
  have HC : Hid (∀ W, Fr [] W1 W → W.cell? ⟨g, 8, none⟩ = some (.int .i64 h.rt) ∧ W.cell? ⟨g, 20, none⟩ = some (.int .i64 h.ag) ∧ W.frozen? ⟨g, 20, none⟩ = false) := Lib.hid fun W hW => ⟨(hW.blk hB1 (by simp)).c 8 _ rfl, (hW.blk hB1 (by simp)).c 20 _ rfl, (hW.blk hB1 (by simp)).fz 20⟩
  have SA := Lib.hid fun W (hW : Fr [] W1 W) => say_asked (h := { h with tk := h.tk + 1, ag := h.ag + 1 }) hk hst (HS2.out W hW)
  have HB1 := Lib.hid hB1
  have HF1 := Lib.hid hF1
  obtain ⟨hsw, hx0, hx1⟩ := shl_small h.wt h.ag hw.1 hw.2 ha.1 ha.2
  obtain ⟨X, hX⟩ : ∃ X : Int, h.wt * 2 ^ h.ag.toNat = X := ⟨_, rfl⟩
  rw [hX] at hx0 hx1 hlt
  have hsw : wrap64 (h.wt * 2 ^ h.ag.toNat) = X := hsw.trans hX
  obtain ⟨t0, t1⟩ := ht
  obtain ⟨a0, a1⟩ := ha
  clear hwt hB hB1 hF1 hX hw
  go_enter Try.func17, Try.ntmps17
  go_wp2_with fail
  refine NO.out.mono ?_
  rintro e w1 ⟨rfl, rfl⟩
  go_wp2_with fail
  go_quiet (fail)
  obtain ⟨V1, hV1⟩ : ∃ W, W1.drewN nq = W := ⟨_, rfl⟩
  have hZ1 : Fr [] W1 V1 := by rw [← hV1]; exact (Fr.refl [] W1).drewN nq
  rw [hV1]
  obtain ⟨y8, y20, _⟩ := HC.out _ hZ1
  clear hV1 x19 x9 x20 x8
  go_wp2_with fail
  go_quiet (fail)
  obtain ⟨V2, hV2⟩ : ∃ W, V1.drewN nq = W := ⟨_, rfl⟩
  have hZ2 : Fr [] W1 V2 := by rw [← hV2]; exact hZ1.drewN nq
  rw [hV2]
  obtain ⟨z8, z20, zf⟩ := HC.out _ hZ2
  have SB := Lib.hid (SA.out _ hZ2)
  have HF2 := Lib.hid ((HF1.out.trans (hZ2.mono (S' := [g]) (by simp))).setCell (p := ⟨g, 20, none⟩) (by simp) (.int .i64 (h.ag + 1)))
  clear hV2 y8 y20 hZ1 hZ2 SA HC HS2
  go_wp2_with fail
  refine SB.out.mono ?_
  rintro e w3 ⟨⟨q, rfl, hq, hN, hF3⟩, hB3⟩
  have HX : Hid (SayP w1 g h { h with tk := 0, ag := h.ag + 1 } ck (.returned (.slice (some ⟨q, 0, none⟩) 1 1)) w3) := Lib.hid ⟨⟨q, rfl, Nat.le_trans HF2.out.size hq, hN, HF2.out.trans hF3⟩, hB3⟩
  clear SB hq hN hF3 hB3
  go_wp2_with fail
  go_ret
  exact HX.out
end
end Go.Proofs.Ytcdencpkgfehlaa
