/- HostWaits. -/
import Derived.Test.YtcdencpkgfehlaaLawH1
import Derived.Test.YtcdencpkgfehlaaAlive8
import Derived.Test.YtcdencpkgfehlaaEqEth
import Derived.Below
import Derived.Deep.DeepCutAuto
namespace Go.Proofs.Ytcdencpkgfehlaa
open Go.RowKit
set_option linter.unusedVariables false
theorem tot_facts (rt wt : Int) (h0 : 0 ≤ rt ∧ rt ≤ 5) (h1 : 1 ≤ wt ∧ wt ≤ 20) : ∃ T : Int, wrap64 (1 * 2 ^ (rt + 1).toNat) = T ∧ wrap64 (2 ^ (rt + 1).toNat) = T ∧ 2 ≤ T ∧ T ≤ 64 ∧ wt * (T - 1) = tot rt wt ∧ wrap64 (wt * (T - 1)) = tot rt wt := by
  refine ⟨2 ^ (rt.toNat + 1), ?_⟩
  have ht := tot_small rt wt h0 h1
  unfold tot at *
  have : rt = 0 ∨ rt = 1 ∨ rt = 2 ∨ rt = 3 ∨ rt = 4 ∨ rt = 5 := by omega
  unfold wrap64
  rcases this with rfl | rfl | rfl | rfl | rfl | rfl <;> simp at ht ⊢ <;> omega
set_option maxRecDepth 100000 in
set_option maxHeartbeats 4000000 in
theorem hostWaits_walk (w : World) (rt : Int) (_ : -9223372036854775808 ≤ rt) (_ : rt ≤ 9223372036854775807) (wt : Int) (_ : -9223372036854775808 ≤ wt) (_ : wt ≤ 9223372036854775807) :
    Calls Try.prog 3 #[.int .i64 rt, .int .i64 wt] w fun e w' => e = .returned (.bool true) ∧ Below w.heap.size w w' := by
  by_cases hb : 0 ≤ rt ∧ rt ≤ 5 ∧ 1 ≤ wt ∧ wt ≤ 20
  · obtain ⟨T, e1, e2, t0, t1, e3, e4⟩ := tot_facts rt wt ⟨hb.1, hb.2.1⟩ hb.2.2
    have hs := tot_small rt wt ⟨hb.1, hb.2.1⟩ hb.2.2
    obtain ⟨X, hX⟩ : ∃ X, tot rt wt = X := ⟨_, rfl⟩
    rw [hX] at e3 e4 hs
    have HX := Lib.hid hX
    have HB := Lib.hid hb
    have n1 : ¬ rt < 0 := by omega
    have n2 : ¬ 5 < rt := by omega
    have n3 : ¬ wt < 1 := by omega
    have n4 : ¬ 20 < wt := by omega
    have n1' := hb.1
    have n3' := hb.2.2.1
    have n5 : wrap64 (rt + 1) = rt + 1 := by unfold wrap64; omega
    have NW := Lib.hid (hnew_ok (w := w) mc1 [] [117] rt wt (by simp) (by simp) (by omega) (by omega) (by omega) (by omega))
    unfold mcL mc1 B at NW
    simp only at NW
    go_enter Try.func3, Try.ntmps3
    go_wp2_with fail
    refine NW.out.mono ?_
    rintro e w1 ⟨g, rfl, hg, hB, hF⟩
    have ST := Lib.hid (start_yes (by unfold HsOk hs0; simp) (by unfold hs0; simp only; omega) (Or.inl rfl) hB)
    have HF := Lib.hid hF
    clear NW hB hF
    go_wp2_with fail
    refine ST.out.mono ?_
    rintro e w2 ⟨⟨q1, rfl, hq1, hN1, hF2⟩, hB2⟩
    have HF2 := Lib.hid (HF.out.fresh1 hF2 hg)
    have HGW := Lib.hid hg
    clear ST hq1 hN1 hF2 hg
    go_wp2_with fail
    rw [e2]
    go_loopw [7, 9] (fun nv iv wr => ∃ (i n : Int) (h : Hs), 0 ≤ i ∧ i ≤ X ∧ nv = .int .i64 n ∧ iv = .int .i64 i ∧ AtI rt wt i n h ∧ 0 ≤ n ∧ n ≤ i + 1 ∧ Blk wr g (hsC h (.slice none 0 0)) 92 ∧ Fr [] w wr) (fun _ iv _ => X.toNat - (intOf iv).toNat)
    case atStart => exact ⟨0, 1, _, by omega, by omega, rfl, rfl, AtI.start rt wt n1' n3', by omega, by omega, hB2, HF2.out⟩
    case round =>
      obtain ⟨i, n, h, i0, i1, rfl, rfl, hI, m0, m1, hB, hF⟩ := hrel
      have HFw := Lib.hid hF
      have hi2 : i ≤ 1260 := by omega
      by_cases hix : i < X
      · have ST := Lib.hid (state_at HB.out.2.2.1 (by rw [HX.out]; exact hix) hI hB)
        have TK := Lib.hid fun W (hW : Fr [] wr W) => wait_step ⟨HB.out.1, HB.out.2.1⟩ HB.out.2.2 (by rw [HX.out]; exact hix) hI (hW.blk hB (by simp))
        clear hI hB hF i1
        go_wp2_with fail
        refine ST.out.mono ?_
        rintro e w3 ⟨rfl, hF3⟩
        have T2 := Lib.hid fun W (hW : Fr [] w3 W) => TK.out _ (hF3.trans hW)
        have HF3 := Lib.hid (HFw.out.trans hF3)
        clear ST TK hF3
        go_wp2_with fail
        refine (T2.out _ ((Fr.refl _ _).alloc _)).mono ?_
        rintro e w4 ⟨A, L, cap, h', rfl, hL, hB', hI', hF4⟩
        have HI := Lib.hid hI'
        have HB' := Lib.hid hB'
        have HF4 := Lib.hid (((HF3.out.alloc _).fresh1 hF4 HGW.out))
        have hL2 : (L : Int) ≤ 1 := by omega
        clear T2 hI' hB' hF4 hL
        go_wp2_with fail
        go_roundw
        case rel => exact ⟨i + 1, n + (L : Int), h', by omega, by omega, by go_num, by go_num, HI.out, by omega, by omega, HB'.out, HF4.out⟩
        case measure => (simp [intOf]) <;> omega
      · obtain rfl : i = X := by omega
        have hI0 := hI
        rw [← HX.out] at hI0
        obtain ⟨rfl, rfl⟩ := hI0.failed HB.out.1 HB.out.2.2.1
        have ST : Hid (Calls Try.prog 16 #[.pointer (some ⟨g, 0, none⟩)] wr fun e w' => e = .returned (.tuple #[.int .i64 4, .agg #[.int .u8 0, .int .u8 0, .int .u8 0, .int .u8 0, .int .u8 0, .int .u8 0], .int .i64 0]) ∧ Fr [] wr w') := Lib.hid (hstate_any (h := hA rt wt 4 0 0) (by unfold hA; simp only; omega) hB)
        have TK := Lib.hid fun W (hW : Fr [] wr W) => tick_no (h := hA rt wt 4 0 0) (by unfold hA; simp only; omega) (by unfold hA; simp) (by unfold hA; simp) (hW.blk hB (by simp))
        have SA := Lib.hid fun W (hW : Fr [] wr W) => start_yes (h := hA rt wt 4 0 0) (by unfold HsOk hA; simp) (by unfold hA; simp only; omega) (Or.inr rfl) (hW.blk hB (by simp))
        clear hI hI0 hB hF i1
        go_wp2_with fail
        refine ST.out.mono ?_
        rintro e w3 ⟨rfl, hF3⟩
        have HF3 := Lib.hid hF3
        clear ST hF3
        go_wp2_with fail
        refine (alive8 _).mono ?_
        rintro e w4 ⟨rfl, hF4⟩
        have HF4 := Lib.hid ((HF3.out.alloc _).trans hF4)
        have TK2 := Lib.hid (TK.out _ HF4.out)
        have SA2 := Lib.hid (SA.out _ HF4.out)
        clear TK SA hF4 HF3
        go_wp2_with fail
        refine TK2.out.mono ?_
        rintro e w5 ⟨rfl, rfl⟩
        go_wp2_with fail
        refine SA2.out.mono ?_
        rintro e w6 ⟨⟨q, rfl, hq, hN, hF6⟩, hB6⟩
        have HFE := Lib.hid ((HFw.out.trans HF4.out).fresh1 hF6 HGW.out)
        clear TK2 SA2 hq hN hF6 hB6 HF4 HFw
        go_wp2_with fail
        go_ret
        exact ⟨rfl, HFE.out.below (Nat.le_refl _) (by simp)⟩
  · have AL := Lib.hid fun W => alive8 W
    have hcase : rt < 0 ∨ (¬ rt < 0 ∧ 5 < rt) ∨ (¬ rt < 0 ∧ ¬ 5 < rt ∧ wt < 1) ∨ (¬ rt < 0 ∧ ¬ 5 < rt ∧ ¬ wt < 1 ∧ 20 < wt) := by omega
    clear hb
    rcases hcase with hc | ⟨hc1, hc⟩ | ⟨hc1, hc2, hc⟩ | ⟨hc1, hc2, hc3, hc⟩
    all_goals
      go_enter Try.func3, Try.ntmps3
      go_wp2_with fail
      refine (AL.out _).mono ?_
      rintro e w1 ⟨rfl, hF⟩
      go_wp2_with fail
      go_ret
      exact ⟨rfl, hF.below (Nat.le_refl _) (by simp)⟩
end Go.Proofs.Ytcdencpkgfehlaa
