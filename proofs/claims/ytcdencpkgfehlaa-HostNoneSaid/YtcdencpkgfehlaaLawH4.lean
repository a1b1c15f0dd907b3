/- HostIgnores. -/
import Derived.Test.YtcdencpkgfehlaaHost9
import Derived.Test.YtcdencpkgfehlaaAlive8
import Derived.Below
namespace Go.Proofs.Ytcdencpkgfehlaa
open Go.RowKit
set_option linter.unusedVariables false
def hI : Hs := ⟨⟨1, 1, 1, 0, 0, 0⟩, [], [117], 3, 100, 1, mc0, 0, 0, 0⟩
set_option maxRecDepth 100000 in
set_option maxHeartbeats 8000000 in
theorem hostIgnores_walk (w : World) (a : Option Addr) (len cap : Nat) (l : List HOp) (hrows : RowsAt w a len cap 16 hopL (fun _ => True) l) :
    Calls Try.prog 5 #[.slice a len cap] w fun e w' => e = .returned (.bool true) ∧ Below w.heap.size w w' := by
  have AL := Lib.hid fun W => alive8 W
  by_cases hl : (100 : Int) < len
  · clear hrows
    go_enter Try.func5, Try.ntmps5
    go_wp2_with fail
    refine (AL.out _).mono ?_
    rintro e w1 ⟨rfl, hF1⟩
    go_wp2_with fail
    go_ret
    exact ⟨rfl, hF1.below (Nat.le_refl _) (by simp)⟩
  · have HR := Lib.hid hrows
    have hcap : cap ≤ 9223372036854775807 := by have := hrows.2.2.1; unfold maxLen at this; omega
    have hlc : len ≤ cap := hrows.2.1
    have hlb : (len : Int) ≤ 100 := by omega
    have NW := Lib.hid fun W => hnew_ok (w := W) ⟨1, 1, 1, 0, 0, 0⟩ [] [117] 3 100 (by simp) (by simp) (by decide) (by decide) (by decide) (by decide)
    unfold mcL B at NW
    simp only at NW
    have hF0 := (Fr.refl [] w).alloc (.cells #[.int .u8 1, .int .u8 1, .int .u8 1, .int .u8 0, .int .u8 0, .int .u8 0] 28 (0, 0))
    have hN0 := Blk.new w #[.int .u8 1, .int .u8 1, .int .u8 1, .int .u8 0, .int .u8 0, .int .u8 0] 28
    clear hrows
    go_enter Try.func5, Try.ntmps5
    go_wp2_with fail
    refine (NW.out _).mono ?_
    rintro e w1 ⟨g, rfl, hg, hB, hF⟩
    have ST := Lib.hid (start_yes (by unfold HsOk hs0; simp) (by unfold hs0; simp only; omega) (Or.inl rfl) hB)
    have hF1 := hF0.trans hF
    have hN1 := hF.blk hN0 (by simp)
    have hpg : w.heap.size < g := by simp at hg; omega
    obtain ⟨pm, hpm⟩ : ∃ q, w.heap.size = q := ⟨_, rfl⟩
    rw [hpm] at hN1 ⊢
    clear NW hB hF hF0 hN0 hg
    go_wp2_with fail
    refine ST.out.mono ?_
    rintro e w2 ⟨⟨q1, rfl, hq1, hq2, hF2⟩, hB2⟩
    have hN2 := hF2.blk hN1 (by simp; omega)
    have hF3 := hF1.fresh1 hF2 (by omega)
    have HPM := Lib.hid hpm
    have HPG := Lib.hid hpg
    clear ST hq1 hq2 hF2 hF1 hN1 hpm hpg
    go_wp2_with fail
    go_loopw [6] (fun iv wr => ∃ j : Nat, j ≤ len ∧ iv = .int .i64 j ∧ Fr [] w wr ∧ Blk wr g (hsC hI (.slice none 0 0)) 92 ∧ Blk wr pm #[.int .u8 1, .int .u8 1, .int .u8 1, .int .u8 0, .int .u8 0, .int .u8 0] 28) (fun iv _ => len - (intOf iv).toNat)
    case atStart => exact ⟨0, by omega, rfl, hF3, hB2, hN2⟩
    case round =>
      clear hF3 hB2 hN2
      obtain ⟨j, hj, rfl, hF, hB, hN⟩ := hrel
      have HFw := Lib.hid hF
      by_cases hjl : j < len
      · obtain ⟨b, off, ⟨kd, ⟨⟨k1, k2, k3, k4, k5, k6⟩, ⟨s1, s2, s3, s4, s5, s6⟩, ty, d⟩, dt⟩, rfl, hbb, hx, hxV, hcell⟩ := HR.out.at_ j hjl
        have HC : Hid (∀ W, Fr [] wr W → W.cell? ⟨b, off + j * 16 + 1, none⟩ = some (.int .u8 k1) ∧ W.cell? ⟨b, off + j * 16 + 1 + 1, none⟩ = some (.int .u8 k2) ∧ W.cell? ⟨b, off + j * 16 + 1 + 2, none⟩ = some (.int .u8 k3) ∧ W.cell? ⟨b, off + j * 16 + 1 + 3, none⟩ = some (.int .u8 k4) ∧ W.cell? ⟨b, off + j * 16 + 1 + 4, none⟩ = some (.int .u8 k5) ∧ W.cell? ⟨b, off + j * 16 + 1 + 5, none⟩ = some (.int .u8 k6) ∧ W.cell? ⟨b, off + j * 16 + 1 + 6, none⟩ = some (.int .u8 s1) ∧ W.cell? ⟨b, off + j * 16 + 1 + 7, none⟩ = some (.int .u8 s2) ∧ W.cell? ⟨b, off + j * 16 + 1 + 8, none⟩ = some (.int .u8 s3) ∧ W.cell? ⟨b, off + j * 16 + 1 + 9, none⟩ = some (.int .u8 s4) ∧ W.cell? ⟨b, off + j * 16 + 1 + 10, none⟩ = some (.int .u8 s5) ∧ W.cell? ⟨b, off + j * 16 + 1 + 11, none⟩ = some (.int .u8 s6) ∧ W.cell? ⟨b, off + j * 16 + 1 + 12, none⟩ = some (.int .i64 ty) ∧ W.cell? ⟨b, off + j * 16 + 1 + 13, none⟩ = some (.string (B d)) ∧ W.cell? ⟨pm, 0, none⟩ = some (.int .u8 1) ∧ W.cell? ⟨pm, 1, none⟩ = some (.int .u8 1) ∧ W.cell? ⟨pm, 2, none⟩ = some (.int .u8 1) ∧ W.cell? ⟨pm, 3, none⟩ = some (.int .u8 0) ∧ W.cell? ⟨pm, 4, none⟩ = some (.int .u8 0) ∧ W.cell? ⟨pm, 5, none⟩ = some (.int .u8 0)) := Lib.hid fun W hW => by
          have hc := hcell W (hF.trans hW)
          have hb := hW.blk hN (by simp)
          exact ⟨hc 1 _ rfl, hc 2 _ rfl, hc 3 _ rfl, hc 4 _ rfl, hc 5 _ rfl, hc 6 _ rfl, hc 7 _ rfl, hc 8 _ rfl, hc 9 _ rfl, hc 10 _ rfl, hc 11 _ rfl, hc 12 _ rfl, hc 13 _ rfl, hc 14 _ rfl, hb.c 0 _ rfl, hb.c 1 _ rfl, hb.c 2 _ rfl, hb.c 3 _ rfl, hb.c 4 _ rfl, hb.c 5 _ rfl⟩
        have hjb : (j : Int) ≤ 100 := by omega
        have TO := Lib.hid fun W (hW : Fr [] wr W) (hne : (⟨k1, k2, k3, k4, k5, k6⟩ : Mc) ≠ ⟨1, 1, 1, 0, 0, 0⟩) => take_other (h := hI) ⟨⟨k1, k2, k3, k4, k5, k6⟩, ⟨s1, s2, s3, s4, s5, s6⟩, ty, d⟩ (by decide) hne (hW.blk hB (by simp))
        have DO := Lib.hid fun W (hW : Fr [] wr W) => data_off (h := hI) ⟨⟨k1, k2, k3, k4, k5, k6⟩, ⟨s1, s2, s3, s4, s5, s6⟩, ty, d⟩ (by decide) (by decide) (hW.blk hB (by simp))
        unfold etC ethC at TO DO
        simp only at TO DO
        have SA : Hid (∀ W, Fr [] wr W → Calls Try.prog 16 #[.pointer (some ⟨g, 0, none⟩)] W fun e w' => e = .returned (.tuple #[.int .i64 1, .agg #[.int .u8 0, .int .u8 0, .int .u8 0, .int .u8 0, .int .u8 0, .int .u8 0], .int .i64 0]) ∧ Fr [] W w') := Lib.hid fun W hW => hstate_any (h := hI) (by decide) (hW.blk hB (by simp))
        have HBB := Lib.hid (And.intro hB hN)
        obtain ⟨z0, z1, z2, z3, z4, z5, z6, z7, z8, z9, z10, z11, z12, z13, z14, z15, z16, z17, z18, z19⟩ := HC.out wr (Fr.refl _ _)
        clear hcell hx hxV hbb hB hN hF
        by_cases hdl : (3000 : Int) < d.length
        · go_wp2_with fail
          refine (AL.out _).mono ?_
          rintro e w3 ⟨rfl, hF3⟩
          have HFE := Lib.hid (HFw.out.trans hF3)
          clear hF3
          go_wp2_with fail
          go_ret
          exact ⟨rfl, HFE.out.below (Nat.le_refl _) (by simp)⟩
        · cases hm : mcEq ⟨k1, k2, k3, k4, k5, k6⟩ ⟨1, 1, 1, 0, 0, 0⟩ with
          | true =>
            have heq := fun W => eq_mac 9998 ⟨k1, k2, k3, k4, k5, k6⟩ ⟨1, 1, 1, 0, 0, 0⟩ W
            rw [hm] at heq
            unfold mcL at heq
            simp only at heq
            clear hm TO DO SA AL
            go_wp2_with fail
            go_quiet (fail)
            go_wp2_with fail
            go_roundw
            case rel => exact ⟨j + 1, by omega, by go_num, HFw.out.drewN _, HBB.out.1.drewN _, HBB.out.2.drewN _⟩
            case measure => (simp [intOf]) <;> omega
          | false =>
            have hne : (⟨k1, k2, k3, k4, k5, k6⟩ : Mc) ≠ ⟨1, 1, 1, 0, 0, 0⟩ := fun e => by rw [(mcEq_iff _ _).2 e] at hm; cases hm
            have HNE := Lib.hid hne
            have heq := fun W => eq_mac 9998 ⟨k1, k2, k3, k4, k5, k6⟩ ⟨1, 1, 1, 0, 0, 0⟩ W
            rw [hm] at heq
            unfold mcL at heq
            simp only at heq
            clear hm hne AL
            go_wp2_with fail
            go_quiet (fail)
            obtain ⟨V1, hV1⟩ : ∃ W, wr.drewN nq = W := ⟨_, rfl⟩
            have hZ1 : Fr [] wr V1 := by rw [← hV1]; exact (Fr.refl [] wr).drewN nq
            rw [hV1]
            have HZ1 := Lib.hid hZ1
            clear hV1 hZ1 z0 z1 z2 z3 z4 z5 z6 z7 z8 z9 z10 z11 z12 z13 z14 z15 z16 z17 z18 z19 heq
            obtain ⟨z0, z1, z2, z3, z4, z5, z6, z7, z8, z9, z10, z11, z12, z13, z14, z15, z16, z17, z18, z19⟩ := HC.out V1 HZ1.out
            go_wp2_with fail
            refine (TO.out _ HZ1.out HNE.out).mono ?_
            rintro e V2 ⟨rfl, hF2⟩
            have HZ2 := Lib.hid (HZ1.out.trans hF2)
            clear z0 z1 z2 z3 z4 z5 z6 z7 z8 z9 z10 z11 z12 z13 z14 z15 z16 z17 z18 z19 hF2 TO HNE
            obtain ⟨z0, z1, z2, z3, z4, z5, z6, z7, z8, z9, z10, z11, z12, z13, z14, z15, z16, z17, z18, z19⟩ := HC.out V2 HZ2.out
            go_wp2_with fail
            refine (DO.out _ HZ2.out).mono ?_
            rintro e V3 ⟨rfl, hF3⟩
            have HZ3 := Lib.hid (HZ2.out.trans hF3)
            clear z0 z1 z2 z3 z4 z5 z6 z7 z8 z9 z10 z11 z12 z13 z14 z15 z16 z17 z18 z19 hF3 DO HZ1 HC
            go_wp2_with fail
            refine (SA.out _ HZ3.out).mono ?_
            rintro e V4 ⟨rfl, hF4⟩
            have HZ4 := Lib.hid ((HZ3.out.trans hF4).alloc (.cells #[.int .u8 0, .int .u8 0, .int .u8 0, .int .u8 0, .int .u8 0, .int .u8 0] 28 (0, 0)))
            clear SA hF4 HZ2 HZ3
            go_wp2_with fail
            go_roundw
            case rel => exact ⟨j + 1, by omega, by go_num, HFw.out.trans HZ4.out, HZ4.out.blk HBB.out.1 (by simp), HZ4.out.blk HBB.out.2 (by simp)⟩
            case measure => (simp [intOf]) <;> omega
      · obtain rfl : j = len := by omega
        clear hB hN hF
        go_wp2_with fail
        refine (AL.out _).mono ?_
        rintro e w3 ⟨rfl, hF3⟩
        have HFE := Lib.hid (HFw.out.trans hF3)
        clear hF3
        go_wp2_with fail
        go_ret
        exact ⟨rfl, HFE.out.below (Nat.le_refl _) (by simp)⟩
end Go.Proofs.Ytcdencpkgfehlaa
