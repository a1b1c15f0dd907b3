/- HostAgain. -/
import Derived.Test.YtcdencpkgfehlaaAlive8
import Derived.Below
namespace Go.Proofs.Ytcdencpkgfehlaa
open Go.RowKit
set_option linter.unusedVariables false
def hZ (rt wt st tk : Int) : Hs := ⟨⟨1, 0, 0, 0, 0, 0⟩, [], [], rt, wt, st, mc0, 0, tk, 0⟩
set_option maxRecDepth 100000 in
set_option maxHeartbeats 8000000 in
theorem hostAgain_walk (w : World) (rt : Int) (_ : -9223372036854775808 ≤ rt) (_ : rt ≤ 9223372036854775807) (wt : Int) (_ : -9223372036854775808 ≤ wt) (_ : wt ≤ 9223372036854775807) (ts : Int) (_ : -9223372036854775808 ≤ ts) (_ : ts ≤ 9223372036854775807) :
    Calls Try.prog 4 #[.int .i64 rt, .int .i64 wt, .int .i64 ts] w fun e w' => e = .returned (.bool true) ∧ Below w.heap.size w w' := by
  by_cases hb : 0 ≤ rt ∧ rt ≤ 5 ∧ 1 ≤ wt ∧ wt ≤ 20 ∧ 0 ≤ ts ∧ ts < wt
  · have HB := Lib.hid hb
    have n1 : ¬ rt < 0 := by omega
    have n2 : ¬ 5 < rt := by omega
    have n3 : ¬ wt < 1 := by omega
    have n4 : ¬ 20 < wt := by omega
    have n5 : ¬ ts < 0 := by omega
    have n6 : ¬ wt ≤ ts := by omega
    have NW := Lib.hid (hnew_ok (w := w) mc1 [] [] rt wt (by simp) (by simp) (by omega) (by omega) (by omega) (by omega))
    unfold mcL mc1 B at NW
    simp only at NW
    clear hb
    go_enter Try.func4, Try.ntmps4
    go_wp2_with fail
    refine NW.out.mono ?_
    rintro e w1 ⟨g, rfl, hg, hB, hF⟩
    have ST := Lib.hid (start_yes (by unfold HsOk hs0; simp) (by unfold hs0; simp only; omega) (Or.inl rfl) hB)
    have HF := Lib.hid hF
    have HGL := Lib.hid hB.lt
    clear NW hB hF
    go_wp2_with fail
    refine ST.out.mono ?_
    rintro e w2 ⟨⟨q1, rfl, hq1, hN1, hF2⟩, hB2⟩
    have HF2 := Lib.hid (HF.out.fresh1 hF2 hg)
    have HGW := Lib.hid hg
    have HN1 := Lib.hid hN1
    have HQ1 : Hid (q1 ∉ [g]) := Lib.hid (by have := HGL.out; simp; omega)
    have HS1 : Hid (w1.heap.size ≤ w2.heap.size) := Lib.hid hF2.size
    clear ST hq1 hN1 hF2 hg
    go_wp2_with fail
    go_loopw [10] (fun iv wr => ∃ j : Int, 0 ≤ j ∧ j ≤ ts ∧ iv = .int .i64 j ∧ Blk wr g (hsC (hZ rt wt 1 j) (.slice none 0 0)) 92 ∧ Fr [g] w2 wr) (fun iv _ => ts.toNat - (intOf iv).toNat)
    case atStart => exact ⟨0, by omega, by omega, rfl, hB2, Fr.refl _ _⟩
    case round =>
      clear hB2
      obtain ⟨j, j0, j1, rfl, hB, hF⟩ := hrel
      have HFw := Lib.hid hF
      have j2 : j ≤ 20 := by omega
      by_cases hix : j < ts
      · have TW := Lib.hid (tick_wait (h := hZ rt wt 1 j) (by unfold hZ; simp only; omega) rfl (by unfold hZ; simp only; omega) (by unfold hZ; simp) (by unfold hZ; simp; omega) hB)
        clear hB hF
        go_wp2_with fail
        refine TW.out.mono ?_
        rintro e w3 ⟨rfl, hB3, hF3⟩
        have HB3 := Lib.hid hB3
        have HF3 := Lib.hid (HFw.out.trans hF3)
        clear TW hB3 hF3
        go_wp2_with fail
        go_roundw
        case rel => exact ⟨j + 1, by omega, by omega, by go_num, HB3.out, HF3.out⟩
        case measure => (simp [intOf]) <;> omega
      · obtain rfl : j = ts := by omega
        have SN := Lib.hid (start_no (h := hZ rt wt 1 j) (by unfold hZ; simp only; omega) (by unfold hZ; simp) (by unfold hZ; simp) hB)
        have SO := Lib.hid (stop_off (h := hZ rt wt 1 j) (by unfold hZ; simp only; omega) (by unfold hZ; simp) hB)
        clear hB hF
        go_wp2_with fail
        refine SN.out.mono ?_
        rintro e w3 ⟨rfl, rfl⟩
        go_wp2_with fail
        refine SO.out.mono ?_
        rintro e w4 ⟨rfl, hB4, hF4⟩
        have SA : Hid (Calls Try.prog 16 #[.pointer (some ⟨g, 0, none⟩)] w4 fun e w' => e = .returned (.tuple #[.int .i64 0, .agg #[.int .u8 0, .int .u8 0, .int .u8 0, .int .u8 0, .int .u8 0, .int .u8 0], .int .i64 0]) ∧ Fr [] w4 w') := Lib.hid (hstate_any (by unfold hZ entered; simp only; omega) hB4)
        have SY := Lib.hid fun W (hW : Fr [] w4 W) => start_yes (h := entered (hZ rt wt 1 j) 0) (by unfold HsOk hZ entered; simp) (by unfold hZ entered; simp only; omega) (Or.inl rfl) (hW.blk hB4 (by simp))
        have HF4 := Lib.hid (HFw.out.trans hF4)
        clear SN SO hB4 hF4 HFw
        go_wp2_with fail
        refine SA.out.mono ?_
        rintro e w5 ⟨rfl, hF5⟩
        have SY2 := Lib.hid (SY.out _ (hF5.alloc (.cells #[.int .u8 0, .int .u8 0, .int .u8 0, .int .u8 0, .int .u8 0, .int .u8 0] 28 (0, 0))))
        have HF5 := Lib.hid (HF4.out.trans ((hF5.alloc (.cells #[.int .u8 0, .int .u8 0, .int .u8 0, .int .u8 0, .int .u8 0, .int .u8 0] 28 (0, 0))).mono (S' := [g]) (by simp)))
        clear SA SY hF5 HF4
        go_wp2_with fail
        refine SY2.out.mono ?_
        rintro e w9 ⟨⟨q2, rfl, hq2, hN2, hF9⟩, hB9⟩
        have hgw := HGW.out
        have b1 := (HF5.out.trans hF9).blk HN1.out HQ1.out
        have HFF := Lib.hid (HF2.out.fresh1 (HF5.out.trans hF9) hgw)
        obtain ⟨D, hD⟩ : ∃ D, askD (hZ 0 0 0 0) = D := ⟨_, rfl⟩
        replace b1 : Blk w9 q1 (ethC mcF ⟨1, 0, 0, 0, 0, 0⟩ 34915 D) 35 := by rw [← hD]; exact b1
        replace hN2 : Blk w9 q2 (ethC mcF ⟨1, 0, 0, 0, 0, 0⟩ 34915 D) 35 := by rw [← hD]; exact hN2
        have HS : Hid (∀ W, Fr [] w9 W → (W.cell? ⟨q1, 0, none⟩ = some (.int .u8 255) ∧ W.cell? ⟨q1, 1, none⟩ = some (.int .u8 255) ∧ W.cell? ⟨q1, 2, none⟩ = some (.int .u8 255) ∧ W.cell? ⟨q1, 3, none⟩ = some (.int .u8 255) ∧ W.cell? ⟨q1, 4, none⟩ = some (.int .u8 255) ∧ W.cell? ⟨q1, 5, none⟩ = some (.int .u8 255) ∧ W.cell? ⟨q1, 6, none⟩ = some (.int .u8 1) ∧ W.cell? ⟨q1, 7, none⟩ = some (.int .u8 0) ∧ W.cell? ⟨q1, 8, none⟩ = some (.int .u8 0) ∧ W.cell? ⟨q1, 9, none⟩ = some (.int .u8 0) ∧ W.cell? ⟨q1, 10, none⟩ = some (.int .u8 0) ∧ W.cell? ⟨q1, 11, none⟩ = some (.int .u8 0) ∧ W.cell? ⟨q1, 12, none⟩ = some (.int .i64 34915) ∧ W.cell? ⟨q1, 13, none⟩ = some (.string (B D)) ∧ W.cell? ⟨q2, 0, none⟩ = some (.int .u8 255) ∧ W.cell? ⟨q2, 1, none⟩ = some (.int .u8 255) ∧ W.cell? ⟨q2, 2, none⟩ = some (.int .u8 255) ∧ W.cell? ⟨q2, 3, none⟩ = some (.int .u8 255) ∧ W.cell? ⟨q2, 4, none⟩ = some (.int .u8 255) ∧ W.cell? ⟨q2, 5, none⟩ = some (.int .u8 255) ∧ W.cell? ⟨q2, 6, none⟩ = some (.int .u8 1) ∧ W.cell? ⟨q2, 7, none⟩ = some (.int .u8 0) ∧ W.cell? ⟨q2, 8, none⟩ = some (.int .u8 0) ∧ W.cell? ⟨q2, 9, none⟩ = some (.int .u8 0) ∧ W.cell? ⟨q2, 10, none⟩ = some (.int .u8 0) ∧ W.cell? ⟨q2, 11, none⟩ = some (.int .u8 0) ∧ W.cell? ⟨q2, 12, none⟩ = some (.int .i64 34915) ∧ W.cell? ⟨q2, 13, none⟩ = some (.string (B D))) ∧ Fr [] w9 W) := Lib.hid fun W hW => by
          replace b1 := hW.blk b1 (by simp)
          replace b2 := hW.blk hN2 (by simp)
          exact ⟨⟨b1.c 0 _ rfl, b1.c 1 _ rfl, b1.c 2 _ rfl, b1.c 3 _ rfl, b1.c 4 _ rfl, b1.c 5 _ rfl, b1.c 6 _ rfl, b1.c 7 _ rfl, b1.c 8 _ rfl, b1.c 9 _ rfl, b1.c 10 _ rfl, b1.c 11 _ rfl, b1.c 12 _ rfl, b1.c 13 _ rfl, b2.c 0 _ rfl, b2.c 1 _ rfl, b2.c 2 _ rfl, b2.c 3 _ rfl, b2.c 4 _ rfl, b2.c 5 _ rfl, b2.c 6 _ rfl, b2.c 7 _ rfl, b2.c 8 _ rfl, b2.c 9 _ rfl, b2.c 10 _ rfl, b2.c 11 _ rfl, b2.c 12 _ rfl, b2.c 13 _ rfl⟩, hW⟩
        have hG0 := HS.out _ (Fr.refl _ _).drew
        have heq1 : ∀ W, (Op.equalIn 10000 35 (.agg #[.int .u8 255, .int .u8 255, .int .u8 255, .int .u8 255, .int .u8 255, .int .u8 255, .int .u8 1, .int .u8 0, .int .u8 0, .int .u8 0, .int .u8 0, .int .u8 0, .int .i64 34915, .string (B D)]) (.agg #[.int .u8 255, .int .u8 255, .int .u8 255, .int .u8 255, .int .u8 255, .int .u8 255, .int .u8 1, .int .u8 0, .int .u8 0, .int .u8 0, .int .u8 0, .int .u8 0, .int .i64 34915, .string (B D)])).run Try.prog W = .ok true W := fun W => by
          have := eq_eth mcF mc1 34915 D mcF mc1 34915 D W
          rwa [ethEq_self] at this
        clear SY2 hq2 hN2 hF9 hB9 b1 hD hgw HF5 HGW HN1 HQ1 HGL
        go_wp2_with fail
        go_region_held3 (fun W => (W.cell? ⟨q1, 0, none⟩ = some (.int .u8 255) ∧ W.cell? ⟨q1, 1, none⟩ = some (.int .u8 255) ∧ W.cell? ⟨q1, 2, none⟩ = some (.int .u8 255) ∧ W.cell? ⟨q1, 3, none⟩ = some (.int .u8 255) ∧ W.cell? ⟨q1, 4, none⟩ = some (.int .u8 255) ∧ W.cell? ⟨q1, 5, none⟩ = some (.int .u8 255) ∧ W.cell? ⟨q1, 6, none⟩ = some (.int .u8 1) ∧ W.cell? ⟨q1, 7, none⟩ = some (.int .u8 0) ∧ W.cell? ⟨q1, 8, none⟩ = some (.int .u8 0) ∧ W.cell? ⟨q1, 9, none⟩ = some (.int .u8 0) ∧ W.cell? ⟨q1, 10, none⟩ = some (.int .u8 0) ∧ W.cell? ⟨q1, 11, none⟩ = some (.int .u8 0) ∧ W.cell? ⟨q1, 12, none⟩ = some (.int .i64 34915) ∧ W.cell? ⟨q1, 13, none⟩ = some (.string (B D)) ∧ W.cell? ⟨q2, 0, none⟩ = some (.int .u8 255) ∧ W.cell? ⟨q2, 1, none⟩ = some (.int .u8 255) ∧ W.cell? ⟨q2, 2, none⟩ = some (.int .u8 255) ∧ W.cell? ⟨q2, 3, none⟩ = some (.int .u8 255) ∧ W.cell? ⟨q2, 4, none⟩ = some (.int .u8 255) ∧ W.cell? ⟨q2, 5, none⟩ = some (.int .u8 255) ∧ W.cell? ⟨q2, 6, none⟩ = some (.int .u8 1) ∧ W.cell? ⟨q2, 7, none⟩ = some (.int .u8 0) ∧ W.cell? ⟨q2, 8, none⟩ = some (.int .u8 0) ∧ W.cell? ⟨q2, 9, none⟩ = some (.int .u8 0) ∧ W.cell? ⟨q2, 10, none⟩ = some (.int .u8 0) ∧ W.cell? ⟨q2, 11, none⟩ = some (.int .u8 0) ∧ W.cell? ⟨q2, 12, none⟩ = some (.int .i64 34915) ∧ W.cell? ⟨q2, 13, none⟩ = some (.string (B D))) ∧ Fr [] w9 W)
          (first | exact hG0 | assumption | exact HS.out _ (Fr.trans hG0.2 hFA))
          (first | (go_at_call 13; refine (alive8 _).mono ?_; rintro e wA ⟨rfl, hFA⟩))
        all_goals
          have hFZ : Fr [] w9 wA := And.right (by assumption)
          have hFE := HFF.out.trans hFZ
          clear hG0 hFZ HS HFF hFA
          go_wp2_with fail
          go_ret
          exact ⟨rfl, hFE.below (Nat.le_refl _) (by simp)⟩
  · have AL := Lib.hid fun W => alive8 W
    have hcase : rt < 0 ∨ (¬ rt < 0 ∧ 5 < rt) ∨ (¬ rt < 0 ∧ ¬ 5 < rt ∧ wt < 1) ∨ (¬ rt < 0 ∧ ¬ 5 < rt ∧ ¬ wt < 1 ∧ 20 < wt) ∨ (¬ rt < 0 ∧ ¬ 5 < rt ∧ ¬ wt < 1 ∧ ¬ 20 < wt ∧ ts < 0) ∨ (¬ rt < 0 ∧ ¬ 5 < rt ∧ ¬ wt < 1 ∧ ¬ 20 < wt ∧ ¬ ts < 0 ∧ wt ≤ ts) := by omega
    clear hb
    rcases hcase with hc | ⟨hc1, hc⟩ | ⟨hc1, hc2, hc⟩ | ⟨hc1, hc2, hc3, hc⟩ | ⟨hc1, hc2, hc3, hc4, hc⟩ | ⟨hc1, hc2, hc3, hc4, hc5, hc⟩
    all_goals
      go_enter Try.func4, Try.ntmps4
      go_wp2_with fail
      refine (AL.out _).mono ?_
      rintro e w1 ⟨rfl, hF⟩
      go_wp2_with fail
      go_ret
      exact ⟨rfl, hF.below (Nat.le_refl _) (by simp)⟩
end Go.Proofs.Ytcdencpkgfehlaa
