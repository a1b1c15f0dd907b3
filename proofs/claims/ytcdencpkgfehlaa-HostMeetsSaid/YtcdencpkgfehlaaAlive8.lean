/- tollgatelaw8.alive answers true. -/
import Derived.Test.YtcdencpkgfehlaaHost8
import Derived.Test.YtcdencpkgfehlaaEqEth
import Derived.Deep.DeepCutAuto
namespace Go.Proofs.Ytcdencpkgfehlaa
open Go.RowKit
set_option linter.unusedVariables false
def mc1 : Mc := ⟨1, 0, 0, 0, 0, 0⟩
def hq (st tk ag : Int) : Hs := ⟨mc1, [], [117], 1, 2, st, mc0, 0, tk, ag⟩
set_option maxRecDepth 100000 in
set_option maxHeartbeats 4000000 in
theorem alive8 (w : World) : Calls Try.prog 13 #[] w fun e w' => e = .returned (.bool true) ∧ Fr [] w w' := by
  have NW := Lib.hid (hnew_ok (w := w) mc1 [] [117] 1 2 (by simp) (by simp) (by decide) (by decide) (by decide) (by decide))
  have ST := Lib.hid fun (W : World) g (hB : Blk W g (hsC (hq 0 0 0) (.slice none 0 0)) 92) => start_yes (h := hq 0 0 0) (by unfold HsOk hq; simp) (by decide) (Or.inl rfl) hB
  have TW := Lib.hid fun (W : World) g (tk ag : Int) (hh : 0 ≤ tk ∧ tk ≤ 10 ∧ 0 ≤ ag ∧ ag ≤ 10 ∧ tk + 1 < 2 * 2 ^ ag.toNat) (hB : Blk W g (hsC (hq 1 tk ag) (.slice none 0 0)) 92) => tick_wait (h := hq 1 tk ag) (by unfold hq; simp) rfl (by unfold hq; simp only; omega) (by unfold hq; simp only; omega) (by unfold hq; simp only; exact hh.2.2.2.2) hB
  have TA := Lib.hid fun (W : World) g (hB : Blk W g (hsC (hq 1 1 0) (.slice none 0 0)) 92) => tick_again (h := hq 1 1 0) (by unfold hq; simp) rfl (by unfold hq; simp) (by unfold hq; simp) (by unfold hq; simp) (by unfold hq; simp) (by unfold HsOk hq; simp) hB
  have TF := Lib.hid fun (W : World) g (hB : Blk W g (hsC (hq 1 3 1) (.slice none 0 0)) 92) => tick_fail (h := hq 1 3 1) (by unfold hq; simp) rfl (by unfold hq; simp) (by unfold hq; simp) (by unfold hq; simp) (by unfold hq; simp) hB
  unfold mcL mc1 B at NW
  simp only at NW
  go_enter Try.func13, Try.ntmps13
  go_wp2_with fail
  refine NW.out.mono ?_
  rintro e w1 ⟨g, rfl, hg, hB, hF⟩
  have S1 := Lib.hid (ST.out _ _ hB)
  have HF := Lib.hid hF
  have HGW := Lib.hid hg
  have HG := Lib.hid hB.lt
  clear NW ST hB hF hg
  go_wp2_with fail
  refine S1.out.mono ?_
  rintro e w2 ⟨⟨q1, rfl, hq1, hN1, hF2⟩, hB2⟩
  have T1 := Lib.hid (TW.out w2 g 0 0 (by decide) hB2)
  have HN1 := Lib.hid hN1
  have HQ1 := Lib.hid hq1
  have HF2 := Lib.hid hF2
  clear S1 hB2 hN1 hq1 hF2
  go_wp2_with fail
  refine T1.out.mono ?_
  rintro e w3 ⟨rfl, hB3, hF3⟩
  have T2 := Lib.hid (TA.out w3 g hB3)
  have HF3 := Lib.hid hF3
  clear T1 hB3 hF3 TA
  go_wp2_with fail
  refine T2.out.mono ?_
  rintro e w4 ⟨⟨q2, rfl, hq2, hN2, hF4⟩, hB4⟩
  have T3 := Lib.hid (TW.out w4 g 0 1 (by decide) hB4)
  have HN2 := Lib.hid hN2
  have HQ2 := Lib.hid hq2
  have HF4 := Lib.hid hF4
  clear T2 hB4 hN2 hq2 hF4
  go_wp2_with fail
  refine wp_loop_rounds 5 ?_
  rw [rounds_succ]
  go_wp2_with fail
  refine T3.out.mono ?_
  rintro e w5 ⟨rfl, hB5, hF5⟩
  have T4 := Lib.hid (TW.out w5 g 1 1 (by decide) hB5)
  have HF5 := Lib.hid hF5
  clear T3 hB5 hF5
  go_wp2_with fail
  rw [rounds_succ]
  go_wp2_with fail
  refine T4.out.mono ?_
  rintro e w6 ⟨rfl, hB6, hF6⟩
  have T5 := Lib.hid (TW.out w6 g 2 1 (by decide) hB6)
  have HF6 := Lib.hid hF6
  clear T4 hB6 hF6
  go_wp2_with fail
  rw [rounds_succ]
  go_wp2_with fail
  refine T5.out.mono ?_
  rintro e w7 ⟨rfl, hB7, hF7⟩
  have T6 := Lib.hid (TF.out w7 g hB7)
  have HF7 := Lib.hid hF7
  clear T5 hB7 hF7 TF TW
  go_wp2_with fail
  rw [rounds_succ]
  go_wp2_with fail
  refine T6.out.mono ?_
  rintro e w8 ⟨rfl, hB8, hF8⟩
  have S8 : Hid (Calls Try.prog 16 #[.pointer (some ⟨g, 0, none⟩)] w8 fun e w' => e = .returned (.tuple #[.int .i64 4, .agg #[.int .u8 0, .int .u8 0, .int .u8 0, .int .u8 0, .int .u8 0, .int .u8 0], .int .i64 0]) ∧ Fr [] w8 w') := Lib.hid (hstate_any (h := entered (hq 1 3 1) 4) (by decide) hB8)
  have HF8 := Lib.hid hF8
  clear T6 hB8 hF8
  go_wp2_with fail
  rw [rounds_succ]
  go_wp2_with fail
  refine S8.out.mono ?_
  rintro e w9 ⟨rfl, hF9⟩
  have HF9 := Lib.hid hF9
  clear hF9
  have hgs := HG.out
  have hs2 := HF2.out.size
  have hs3 := HF3.out.size
  have k1 : w1.heap.size ≤ q1 := HQ1.out
  have k2 : w3.heap.size ≤ q2 := HQ2.out
  have ne1 : q1 ∉ [g] := by simp; omega
  have ne2 : q2 ∉ [g] := by simp; omega
  have b1 := HF9.out.blk (HF8.out.blk (HF7.out.blk (HF6.out.blk (HF5.out.blk (HF4.out.blk (HF3.out.blk HN1.out ne1) ne1) ne1) ne1) ne1) ne1) (by simp)
  have b2 := HF9.out.blk (HF8.out.blk (HF7.out.blk (HF6.out.blk (HF5.out.blk HN2.out ne2) ne2) ne2) ne2) (by simp)
  have hgw : w.heap.size ≤ g := HGW.out
  have hA1 : Fr [] w w2 := HF.out.fresh1 HF2.out hgw
  have hA2 : Fr [] w w9 := ((((((hA1.fresh1 HF3.out hgw).fresh1 HF4.out hgw).fresh1 HF5.out hgw).fresh1 HF6.out hgw).fresh1 HF7.out hgw).fresh1 HF8.out hgw).trans HF9.out
  have HA := Lib.hid hA2
  obtain ⟨D, hD⟩ : ∃ D, askD (hq 0 0 0) = D := ⟨_, rfl⟩
  rw [hD] at b1
  rw [show askD (hq 1 1 0) = askD (hq 0 0 0) from rfl, hD] at b2
  have HS : Hid (∀ W, Fr [] w9 W → (W.cell? ⟨q1, 0, none⟩ = some (.int .u8 255) ∧ W.cell? ⟨q1, 1, none⟩ = some (.int .u8 255) ∧ W.cell? ⟨q1, 2, none⟩ = some (.int .u8 255) ∧ W.cell? ⟨q1, 3, none⟩ = some (.int .u8 255) ∧ W.cell? ⟨q1, 4, none⟩ = some (.int .u8 255) ∧ W.cell? ⟨q1, 5, none⟩ = some (.int .u8 255) ∧ W.cell? ⟨q1, 6, none⟩ = some (.int .u8 1) ∧ W.cell? ⟨q1, 7, none⟩ = some (.int .u8 0) ∧ W.cell? ⟨q1, 8, none⟩ = some (.int .u8 0) ∧ W.cell? ⟨q1, 9, none⟩ = some (.int .u8 0) ∧ W.cell? ⟨q1, 10, none⟩ = some (.int .u8 0) ∧ W.cell? ⟨q1, 11, none⟩ = some (.int .u8 0) ∧ W.cell? ⟨q1, 12, none⟩ = some (.int .i64 34915) ∧ W.cell? ⟨q1, 13, none⟩ = some (.string (B D)) ∧ W.cell? ⟨q2, 0, none⟩ = some (.int .u8 255) ∧ W.cell? ⟨q2, 1, none⟩ = some (.int .u8 255) ∧ W.cell? ⟨q2, 2, none⟩ = some (.int .u8 255) ∧ W.cell? ⟨q2, 3, none⟩ = some (.int .u8 255) ∧ W.cell? ⟨q2, 4, none⟩ = some (.int .u8 255) ∧ W.cell? ⟨q2, 5, none⟩ = some (.int .u8 255) ∧ W.cell? ⟨q2, 6, none⟩ = some (.int .u8 1) ∧ W.cell? ⟨q2, 7, none⟩ = some (.int .u8 0) ∧ W.cell? ⟨q2, 8, none⟩ = some (.int .u8 0) ∧ W.cell? ⟨q2, 9, none⟩ = some (.int .u8 0) ∧ W.cell? ⟨q2, 10, none⟩ = some (.int .u8 0) ∧ W.cell? ⟨q2, 11, none⟩ = some (.int .u8 0) ∧ W.cell? ⟨q2, 12, none⟩ = some (.int .i64 34915) ∧ W.cell? ⟨q2, 13, none⟩ = some (.string (B D)))) := Lib.hid fun W hW => by
    replace b1 := hW.blk b1 (by simp)
    replace b2 := hW.blk b2 (by simp)
    exact ⟨b1.c 0 _ rfl, b1.c 1 _ rfl, b1.c 2 _ rfl, b1.c 3 _ rfl, b1.c 4 _ rfl, b1.c 5 _ rfl, b1.c 6 _ rfl, b1.c 7 _ rfl, b1.c 8 _ rfl, b1.c 9 _ rfl, b1.c 10 _ rfl, b1.c 11 _ rfl, b1.c 12 _ rfl, b1.c 13 _ rfl, b2.c 0 _ rfl, b2.c 1 _ rfl, b2.c 2 _ rfl, b2.c 3 _ rfl, b2.c 4 _ rfl, b2.c 5 _ rfl, b2.c 6 _ rfl, b2.c 7 _ rfl, b2.c 8 _ rfl, b2.c 9 _ rfl, b2.c 10 _ rfl, b2.c 11 _ rfl, b2.c 12 _ rfl, b2.c 13 _ rfl⟩
  have heq1 : ∀ W, (Op.equalIn 10000 35 (.agg #[.int .u8 255, .int .u8 255, .int .u8 255, .int .u8 255, .int .u8 255, .int .u8 255, .int .u8 1, .int .u8 0, .int .u8 0, .int .u8 0, .int .u8 0, .int .u8 0, .int .i64 34915, .string (B D)]) (.agg #[.int .u8 255, .int .u8 255, .int .u8 255, .int .u8 255, .int .u8 255, .int .u8 255, .int .u8 1, .int .u8 0, .int .u8 0, .int .u8 0, .int .u8 0, .int .u8 0, .int .i64 34915, .string (B D)])).run Try.prog W = .ok true W := fun W => by
    have := eq_eth mcF mc1 34915 D mcF mc1 34915 D W
    rwa [ethEq_self] at this
  have heq2 : ∀ W, (Op.equalIn 10000 28 (.agg #[.int .u8 255, .int .u8 255, .int .u8 255, .int .u8 255, .int .u8 255, .int .u8 255]) (.agg #[.int .u8 255, .int .u8 255, .int .u8 255, .int .u8 255, .int .u8 255, .int .u8 255])).run Try.prog W = .ok true W := fun W => by
    have := eq_mac 9998 mcF mcF W
    rwa [mcEq_self] at this
  clear hA1 hA2 hgs hgw hs2 hs3 k1 k2 ne1 ne2 b1 b2 hD S8
  clear HG HGW HN1 HN2 HQ1 HQ2 HF HF2 HF3 HF4 HF5 HF6 HF7 HF8 HF9
  go_wp2_with fail
  go_region_held3 (fun W => (W.cell? ⟨q1, 0, none⟩ = some (.int .u8 255) ∧ W.cell? ⟨q1, 1, none⟩ = some (.int .u8 255) ∧ W.cell? ⟨q1, 2, none⟩ = some (.int .u8 255) ∧ W.cell? ⟨q1, 3, none⟩ = some (.int .u8 255) ∧ W.cell? ⟨q1, 4, none⟩ = some (.int .u8 255) ∧ W.cell? ⟨q1, 5, none⟩ = some (.int .u8 255) ∧ W.cell? ⟨q1, 6, none⟩ = some (.int .u8 1) ∧ W.cell? ⟨q1, 7, none⟩ = some (.int .u8 0) ∧ W.cell? ⟨q1, 8, none⟩ = some (.int .u8 0) ∧ W.cell? ⟨q1, 9, none⟩ = some (.int .u8 0) ∧ W.cell? ⟨q1, 10, none⟩ = some (.int .u8 0) ∧ W.cell? ⟨q1, 11, none⟩ = some (.int .u8 0) ∧ W.cell? ⟨q1, 12, none⟩ = some (.int .i64 34915) ∧ W.cell? ⟨q1, 13, none⟩ = some (.string (B D)) ∧ W.cell? ⟨q2, 0, none⟩ = some (.int .u8 255) ∧ W.cell? ⟨q2, 1, none⟩ = some (.int .u8 255) ∧ W.cell? ⟨q2, 2, none⟩ = some (.int .u8 255) ∧ W.cell? ⟨q2, 3, none⟩ = some (.int .u8 255) ∧ W.cell? ⟨q2, 4, none⟩ = some (.int .u8 255) ∧ W.cell? ⟨q2, 5, none⟩ = some (.int .u8 255) ∧ W.cell? ⟨q2, 6, none⟩ = some (.int .u8 1) ∧ W.cell? ⟨q2, 7, none⟩ = some (.int .u8 0) ∧ W.cell? ⟨q2, 8, none⟩ = some (.int .u8 0) ∧ W.cell? ⟨q2, 9, none⟩ = some (.int .u8 0) ∧ W.cell? ⟨q2, 10, none⟩ = some (.int .u8 0) ∧ W.cell? ⟨q2, 11, none⟩ = some (.int .u8 0) ∧ W.cell? ⟨q2, 12, none⟩ = some (.int .i64 34915) ∧ W.cell? ⟨q2, 13, none⟩ = some (.string (B D))))
    (first | exact HS.out _ ((Fr.refl _ _).alloc _).drew | assumption)
    (fail)
  all_goals
    go_wp2_with fail
    go_ret
    exact ⟨rfl, (HA.out.alloc _).drew⟩
end Go.Proofs.Ytcdencpkgfehlaa
