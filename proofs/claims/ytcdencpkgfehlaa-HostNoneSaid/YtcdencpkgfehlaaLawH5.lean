/- HostNone. -/
import Derived.Test.YtcdencpkgfehlaaHost10
import Derived.Test.YtcdencpkgfehlaaAlive8
import Derived.Below
namespace Go.Proofs.Ytcdencpkgfehlaa
open Go.RowKit
set_option linter.unusedVariables false
set_option maxRecDepth 100000 in
set_option maxHeartbeats 8000000 in
theorem hostNone_walk (w : World) (f : Et) (_ : True) : Calls Try.prog 6 #[.agg (etC f)] w fun e w' => e = .returned (.bool true) ∧ Below w.heap.size w w' := by
  have AL := Lib.hid fun W => alive8 W
  have DN := Lib.hid fun W => data_nil (w := W) f
  have TN := Lib.hid fun W => take_nil (w := W) f
  have FN := Lib.hid fun W => frame_nil (w := W)
  have SN := Lib.hid fun W => state_nil (w := W)
  obtain ⟨⟨k1, k2, k3, k4, k5, k6⟩, ⟨s1, s2, s3, s4, s5, s6⟩, ty, d⟩ := f
  unfold etC ethC at DN TN ⊢
  simp only at DN TN ⊢
  unfold mcL mc0 at SN
  simp only at SN
  have hF := (Fr.refl [] w).alloc (.cells #[.int .u8 k1, .int .u8 k2, .int .u8 k3, .int .u8 k4, .int .u8 k5, .int .u8 k6, .int .u8 s1, .int .u8 s2, .int .u8 s3, .int .u8 s4, .int .u8 s5, .int .u8 s6, .int .i64 ty, .string (B d)] 35 (0, 0))
  have hN := Blk.new w #[.int .u8 k1, .int .u8 k2, .int .u8 k3, .int .u8 k4, .int .u8 k5, .int .u8 k6, .int .u8 s1, .int .u8 s2, .int .u8 s3, .int .u8 s4, .int .u8 s5, .int .u8 s6, .int .i64 ty, .string (B d)] 35
  by_cases hl : (d.length : Int) > 3000
  · have hl1 : (3000 : Int) < d.length := hl
    clear hl
    go_enter Try.func6, Try.ntmps6
    go_wp2_with fail
    refine (AL.out _).mono ?_
    rintro e w1 ⟨rfl, hF1⟩
    have hF2 := hF.trans hF1
    clear hF hN
    go_wp2_with fail
    go_ret
    exact ⟨rfl, hF2.below (Nat.le_refl _) (by simp)⟩
  · have hl1 : ¬ (3000 : Int) < d.length := hl
    clear hl
    go_enter Try.func6, Try.ntmps6
    go_wp2_with fail
    refine (DN.out _).mono ?_
    rintro e w2 ⟨rfl, hF2⟩
    have hN2 := hF2.blk hN (by simp)
    have hG2 := hF.trans hF2
    obtain ⟨q, hq⟩ : ∃ q, w.heap.size = q := ⟨_, rfl⟩
    rw [hq] at hN2 ⊢
    have HQ := Lib.hid hq
    clear hN hF hF2 hq DN
    go_wp2_with fail
    refine (FN.out _).mono ?_
    rintro e w3 ⟨rfl, hF3⟩
    have hN3 := (hF3.alloc (.cells #[.int .u8 0, .int .u8 0, .int .u8 0, .int .u8 0, .int .u8 0, .int .u8 0, .int .u8 0, .int .u8 0, .int .u8 0, .int .u8 0, .int .u8 0, .int .u8 0, .int .i64 0, .string ⟨#[]⟩] 35 (0, 0))).blk hN2 (by simp)
    have hG3 := hG2.trans (hF3.alloc (.cells #[.int .u8 0, .int .u8 0, .int .u8 0, .int .u8 0, .int .u8 0, .int .u8 0, .int .u8 0, .int .u8 0, .int .u8 0, .int .u8 0, .int .u8 0, .int .u8 0, .int .i64 0, .string ⟨#[]⟩] 35 (0, 0)))
    clear hN2 hG2 hF3 FN
    go_wp2_with fail
    refine (SN.out _).mono ?_
    rintro e w4 ⟨rfl, hF4⟩
    have hN4 := (hF4.alloc (.cells #[.int .u8 0, .int .u8 0, .int .u8 0, .int .u8 0, .int .u8 0, .int .u8 0] 28 (0, 0))).blk hN3 (by simp)
    have hG4 := hG3.trans (hF4.alloc (.cells #[.int .u8 0, .int .u8 0, .int .u8 0, .int .u8 0, .int .u8 0, .int .u8 0] 28 (0, 0)))
    clear hN3 hG3 hF4 SN
    go_wp2_with fail
    obtain ⟨w5, hw5⟩ : ∃ W, w4.alloc (.cells #[.int .u8 0, .int .u8 0, .int .u8 0, .int .u8 0, .int .u8 0, .int .u8 0] 28 (0, 0)) = W := ⟨_, rfl⟩
    rw [hw5] at hN4 hG4 ⊢
    have HS : Hid (∀ W, Fr [] w5 W → (fun W => (W.cell? ⟨q, 0, none⟩ = some (.int .u8 k1) ∧ W.cell? ⟨q, 1, none⟩ = some (.int .u8 k2) ∧ W.cell? ⟨q, 2, none⟩ = some (.int .u8 k3) ∧ W.cell? ⟨q, 3, none⟩ = some (.int .u8 k4) ∧ W.cell? ⟨q, 4, none⟩ = some (.int .u8 k5) ∧ W.cell? ⟨q, 5, none⟩ = some (.int .u8 k6) ∧ W.cell? ⟨q, 6, none⟩ = some (.int .u8 s1) ∧ W.cell? ⟨q, 7, none⟩ = some (.int .u8 s2) ∧ W.cell? ⟨q, 8, none⟩ = some (.int .u8 s3) ∧ W.cell? ⟨q, 9, none⟩ = some (.int .u8 s4) ∧ W.cell? ⟨q, 10, none⟩ = some (.int .u8 s5) ∧ W.cell? ⟨q, 11, none⟩ = some (.int .u8 s6) ∧ W.cell? ⟨q, 12, none⟩ = some (.int .i64 ty) ∧ W.cell? ⟨q, 13, none⟩ = some (.string (B d))) ∧ Fr [] w5 W) W) := Lib.hid fun W hW => by
      have hb := hW.blk hN4 (by simp)
      exact ⟨⟨hb.c 0 _ rfl, hb.c 1 _ rfl, hb.c 2 _ rfl, hb.c 3 _ rfl, hb.c 4 _ rfl, hb.c 5 _ rfl, hb.c 6 _ rfl, hb.c 7 _ rfl, hb.c 8 _ rfl, hb.c 9 _ rfl, hb.c 10 _ rfl, hb.c 11 _ rfl, hb.c 12 _ rfl, hb.c 13 _ rfl⟩, hW⟩
    have hG0 := HS.out _ (Fr.refl _ _).drew
    dsimp only at hG0
    have HG4 := Lib.hid hG4
    clear hw5 hN4 hG4
    go_region_held3 (fun W => (W.cell? ⟨q, 0, none⟩ = some (.int .u8 k1) ∧ W.cell? ⟨q, 1, none⟩ = some (.int .u8 k2) ∧ W.cell? ⟨q, 2, none⟩ = some (.int .u8 k3) ∧ W.cell? ⟨q, 3, none⟩ = some (.int .u8 k4) ∧ W.cell? ⟨q, 4, none⟩ = some (.int .u8 k5) ∧ W.cell? ⟨q, 5, none⟩ = some (.int .u8 k6) ∧ W.cell? ⟨q, 6, none⟩ = some (.int .u8 s1) ∧ W.cell? ⟨q, 7, none⟩ = some (.int .u8 s2) ∧ W.cell? ⟨q, 8, none⟩ = some (.int .u8 s3) ∧ W.cell? ⟨q, 9, none⟩ = some (.int .u8 s4) ∧ W.cell? ⟨q, 10, none⟩ = some (.int .u8 s5) ∧ W.cell? ⟨q, 11, none⟩ = some (.int .u8 s6) ∧ W.cell? ⟨q, 12, none⟩ = some (.int .i64 ty) ∧ W.cell? ⟨q, 13, none⟩ = some (.string (B d))) ∧ Fr [] w5 W)
      (first | exact hG0 | assumption | (refine HS.out _ (Fr.trans ?_ hFA); exact And.right (by assumption)) | (refine HS.out _ (Fr.trans ?_ hFT); exact And.right (by assumption)))
      (first
        | (go_at_call 13; refine (AL.out _).mono ?_; rintro e wA ⟨rfl, hFA⟩)
        | (go_at_call 15; refine start_nil.mono ?_; rintro e wB ⟨rfl, rfl⟩)
        | (go_at_call 18; refine stop_nil.mono ?_; rintro e wB ⟨rfl, rfl⟩)
        | (go_at_call 17; refine tick_nil.mono ?_; rintro e wB ⟨rfl, rfl⟩)
        | (go_at_call 19; refine (TN.out _).mono ?_; rintro e wT ⟨rfl, hFT⟩))
    all_goals
      have hFZ : Fr [] w5 wT := And.right (by assumption)
      have hFE := HG4.out.trans hFZ
      clear hG0 hFZ HS
      go_wp2_with fail
      go_ret
      exact ⟨rfl, hFE.below (Nat.le_refl _) (by simp)⟩
end Go.Proofs.Ytcdencpkgfehlaa
