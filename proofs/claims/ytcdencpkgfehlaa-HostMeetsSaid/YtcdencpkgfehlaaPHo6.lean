/- the program's host: Frame, Stop, Start, Tick at any state (printed by tools/gen_pho6.py). -/
import Derived.Test.YtcdencpkgfehlaaPHo5
namespace Go.Proofs.Ytcdencpkgfehlaa
open Go.RowKit
set_option linter.unusedVariables false
theorem tput_long (w : World) (c ss : Int) (d : List UInt8) (hc0 : 0 ≤ c) (hc1 : c ≤ 255) (hs0 : 0 ≤ ss) (hs1 : ss ≤ 65535) (hd : 1494 < d.length) (hd2 : d.length ≤ 3000) :
    Calls Try.prog 30 #[.agg #[.int .i64 c, .int .i64 ss, .string (B d)]] w fun e w' => e = .returned (.tuple #[.string (B []), .int .i64 2]) ∧ Fr [] w w' := by
  have i1 : inB c 0 255 = true := by unfold inB; exact decide_eq_true ⟨hc0, hc1⟩
  have i2 : inB ss 0 65535 = true := by unfold inB; exact decide_eq_true ⟨hs0, hs1⟩
  have I1 := Lib.hid fun W => tin_any c 0 255 W
  have I2 := Lib.hid fun W => tin_any ss 0 65535 W
  rw [i1] at I1
  rw [i2] at I2
  have n5 : (1494 : Int) < d.length := by omega
  have hF := (Fr.refl [] w).alloc (.cells #[.int .i64 c, .int .i64 ss, .string (Go.Proofs.Ytcdencpkgfehlaa.B d)] 72 (0, 0))
  clear hs0 hs1 hc0 hc1 hd hd2 i1 i2
  go_enter Try.func30, Try.ntmps30
  go_wp2_with fail
  refine (I1.out _).mono ?_
  rintro e w1 ⟨rfl, rfl⟩
  go_wp2_with fail
  refine (I2.out _).mono ?_
  rintro e w1 ⟨rfl, rfl⟩
  go_wp2_with fail
  go_ret2
  exact ⟨rfl, hF⟩
section
variable {w : World} {g : Nat} {h : Hs} {ck : Value}
set_option maxRecDepth 100000 in
set_option maxHeartbeats 8000000 in
theorem phFrame_off (d : List UInt8) (h3 : h.st ≠ 3) (hw : h.wt ≠ 0) (hB : Blk w g (hsC h ck) 92) : Calls Try.prog 21 #[.pointer (some ⟨g, 0, none⟩), .string (B d)] w fun e w' => e = .returned (.tuple #[.agg #[.int .u8 0, .int .u8 0, .int .u8 0, .int .u8 0, .int .u8 0, .int .u8 0, .int .u8 0, .int .u8 0, .int .u8 0, .int .u8 0, .int .u8 0, .int .u8 0, .int .i64 0, .string ⟨#[]⟩], .int .i64 20]) ∧ Fr [] w w' := by
  have hwt : (h.wt == 0) = false := by simpa using hw
  have NO : Hid (∀ W, Fr [] w W → Calls Try.prog 36 #[.pointer (some ⟨g, 0, none⟩)] W fun e w' => e = .returned (.bool false) ∧ w' = W) := Lib.hid fun W hW => by
    have := hnone_any (hW.blk hB (by simp))
    rwa [hwt] at this
  clear hwt hw
  have c10 : w.cell? ⟨g, 10, none⟩ = some (.int .i64 h.st) := hB.c 10 _ rfl
  have n3 : (h.st != 3) = true := by simpa using h3
  have hF := (Fr.refl [] w).alloc (.cells #[.int .u8 0, .int .u8 0, .int .u8 0, .int .u8 0, .int .u8 0, .int .u8 0, .int .u8 0, .int .u8 0, .int .u8 0, .int .u8 0, .int .u8 0, .int .u8 0, .int .i64 0, .string ⟨#[]⟩] 35 (0, 0))
  have d10 : (w.alloc (.cells #[.int .u8 0, .int .u8 0, .int .u8 0, .int .u8 0, .int .u8 0, .int .u8 0, .int .u8 0, .int .u8 0, .int .u8 0, .int .u8 0, .int .u8 0, .int .u8 0, .int .i64 0, .string ⟨#[]⟩] 35 (0, 0))).cell? ⟨g, 10, none⟩ = some (.int .i64 h.st) := (hF.blk hB (by simp)).c 10 _ rfl
  have hN := Blk.new w #[.int .u8 0, .int .u8 0, .int .u8 0, .int .u8 0, .int .u8 0, .int .u8 0, .int .u8 0, .int .u8 0, .int .u8 0, .int .u8 0, .int .u8 0, .int .u8 0, .int .i64 0, .string ⟨#[]⟩] 35
  have hg := hB.lt
  clear hB h3
  go_enter Try.func21, Try.ntmps21
  go_wp2_with fail
  refine (NO.out _ hF).mono ?_
  rintro e w0 ⟨rfl, rfl⟩
  clear NO
  go_wp2_with fail
  exact ret_cell2 4 5 35 rfl w.heap.size 35 _ _ hN rfl Try.underlying35 rfl (by kernel_rfl) rfl ⟨rfl, hF⟩
set_option maxRecDepth 100000 in
set_option maxHeartbeats 8000000 in
theorem phFrame_ok (d : List UInt8) (h3 : h.st = 3) (s0 : 0 ≤ h.ss) (s1 : h.ss ≤ 65535) (hd : d.length ≤ 1494) (hw : h.wt ≠ 0) (hB : Blk w g (hsC h ck) 92) : Calls Try.prog 21 #[.pointer (some ⟨g, 0, none⟩), .string (B d)] w fun e w' => e = .returned (.tuple #[.agg (ethC h.k h.m 34916 (discB 0 h.ss d)), .int .i64 0]) ∧ Fr [] w w' := by
  have hwt : (h.wt == 0) = false := by simpa using hw
  have NO : Hid (∀ W, Fr [] w W → Calls Try.prog 36 #[.pointer (some ⟨g, 0, none⟩)] W fun e w' => e = .returned (.bool false) ∧ w' = W) := Lib.hid fun W hW => by
    have := hnone_any (hW.blk hB (by simp))
    rwa [hwt] at this
  clear hwt hw
  obtain ⟨⟨m1, m2, m3, m4, m5, m6⟩, sv, un, rt, wt, st, ⟨a1, a2, a3, a4, a5, a6⟩, ss, tk, ag⟩ := h
  obtain rfl : st = 3 := h3
  have hF := (Fr.refl [] w).alloc (.cells #[.int .u8 0, .int .u8 0, .int .u8 0, .int .u8 0, .int .u8 0, .int .u8 0, .int .u8 0, .int .u8 0, .int .u8 0, .int .u8 0, .int .u8 0, .int .u8 0, .int .i64 0, .string ⟨#[]⟩] 35 (0, 0))
  have HX : Hid (∀ W, Fr [] w W → W.cell? ⟨g, 10, none⟩ = some (.int .i64 3) ∧ W.cell? ⟨g, 17, none⟩ = some (.int .i64 ss) ∧ W.cell? ⟨g, 0, none⟩ = some (.int .u8 m1) ∧ W.cell? ⟨g, 1, none⟩ = some (.int .u8 m2) ∧ W.cell? ⟨g, 2, none⟩ = some (.int .u8 m3) ∧ W.cell? ⟨g, 3, none⟩ = some (.int .u8 m4) ∧ W.cell? ⟨g, 4, none⟩ = some (.int .u8 m5) ∧ W.cell? ⟨g, 5, none⟩ = some (.int .u8 m6) ∧ W.cell? ⟨g, 11, none⟩ = some (.int .u8 a1) ∧ W.cell? ⟨g, 12, none⟩ = some (.int .u8 a2) ∧ W.cell? ⟨g, 13, none⟩ = some (.int .u8 a3) ∧ W.cell? ⟨g, 14, none⟩ = some (.int .u8 a4) ∧ W.cell? ⟨g, 15, none⟩ = some (.int .u8 a5) ∧ W.cell? ⟨g, 16, none⟩ = some (.int .u8 a6)) := Lib.hid fun W hW => ⟨(hW.blk hB (by simp)).c 10 _ rfl, (hW.blk hB (by simp)).c 17 _ rfl, (hW.blk hB (by simp)).c 0 _ rfl, (hW.blk hB (by simp)).c 1 _ rfl, (hW.blk hB (by simp)).c 2 _ rfl, (hW.blk hB (by simp)).c 3 _ rfl, (hW.blk hB (by simp)).c 4 _ rfl, (hW.blk hB (by simp)).c 5 _ rfl, (hW.blk hB (by simp)).c 11 _ rfl, (hW.blk hB (by simp)).c 12 _ rfl, (hW.blk hB (by simp)).c 13 _ rfl, (hW.blk hB (by simp)).c 14 _ rfl, (hW.blk hB (by simp)).c 15 _ rfl, (hW.blk hB (by simp)).c 16 _ rfl⟩
  obtain ⟨z10, z11, _⟩ := HX.out _ hF
  have hN := Blk.new w #[.int .u8 0, .int .u8 0, .int .u8 0, .int .u8 0, .int .u8 0, .int .u8 0, .int .u8 0, .int .u8 0, .int .u8 0, .int .u8 0, .int .u8 0, .int .u8 0, .int .i64 0, .string ⟨#[]⟩] 35
  have P := Lib.hid fun W => tput_ok (w := W) 0 ss d (by decide) (by decide) s0 s1 hd
  obtain ⟨q, hq⟩ : ∃ q, w.heap.size = q := ⟨_, rfl⟩
  have hlt : g < q := by rw [← hq]; exact hB.lt
  clear hB s0 s1 hd
  go_enter Try.func21, Try.ntmps21
  go_wp2_with fail
  refine (NO.out _ hF).mono ?_
  rintro e w0 ⟨rfl, rfl⟩
  clear NO
  go_wp2_with fail
  refine (P.out _).mono ?_
  rintro e w1 ⟨rfl, hF1⟩
  have hN1 := hF1.blk hN (by simp)
  rw [hq] at hN1
  obtain ⟨x10, x11, x0, x1, x2, x3, x4, x5, x12, x13, x14, x15, x16, x17⟩ := HX.out _ (hF.trans hF1)
  have HF := Lib.hid (hF.trans hF1)
  obtain ⟨DB, hDB⟩ : ∃ x, discB 0 ss d = x := ⟨_, rfl⟩
  have HDB := Lib.hid hDB
  (try rw [hDB])
  have HN1 := Lib.hid hN1
  have f0 := hN1.fz 0
  have e0 := hN1.c 0 _ rfl
  have f1 := hN1.fz 1
  have e1 := hN1.c 1 _ rfl
  have f2 := hN1.fz 2
  have e2 := hN1.c 2 _ rfl
  have f3 := hN1.fz 3
  have e3 := hN1.c 3 _ rfl
  have f4 := hN1.fz 4
  have e4 := hN1.c 4 _ rfl
  have f5 := hN1.fz 5
  have e5 := hN1.c 5 _ rfl
  have f6 := hN1.fz 6
  have e6 := hN1.c 6 _ rfl
  have f7 := hN1.fz 7
  have e7 := hN1.c 7 _ rfl
  have f8 := hN1.fz 8
  have e8 := hN1.c 8 _ rfl
  have f9 := hN1.fz 9
  have e9 := hN1.c 9 _ rfl
  have f10 := hN1.fz 10
  have e10 := hN1.c 10 _ rfl
  have f11 := hN1.fz 11
  have e11 := hN1.c 11 _ rfl
  have f12 := hN1.fz 12
  have e12 := hN1.c 12 _ rfl
  have f13 := hN1.fz 13
  have e13 := hN1.c 13 _ rfl
  clear z10 z11 hN hF hF1 P hDB hN1
  go_wp2_with fail
  go_region
  go_wp2_with fail
  have hBB := (((((((((((((((HN1.out).set 0 (.int .u8 a1)).set 1 (.int .u8 a2)).set 2 (.int .u8 a3)).set 3 (.int .u8 a4)).set 4 (.int .u8 a5)).set 5 (.int .u8 a6)).set 6 (.int .u8 m1)).set 7 (.int .u8 m2)).set 8 (.int .u8 m3)).set 9 (.int .u8 m4)).set 10 (.int .u8 m5)).set 11 (.int .u8 m6)).set 12 (.int .i64 34916)).set 13 (.string (Go.Proofs.Ytcdencpkgfehlaa.B DB))).drew
  have hFF := (((((((((((((((Fr.refl [q] w1).setCell (p := ⟨q, 0, none⟩) (by simp) (.int .u8 a1)).setCell (p := ⟨q, 1, none⟩) (by simp) (.int .u8 a2)).setCell (p := ⟨q, 2, none⟩) (by simp) (.int .u8 a3)).setCell (p := ⟨q, 3, none⟩) (by simp) (.int .u8 a4)).setCell (p := ⟨q, 4, none⟩) (by simp) (.int .u8 a5)).setCell (p := ⟨q, 5, none⟩) (by simp) (.int .u8 a6)).setCell (p := ⟨q, 6, none⟩) (by simp) (.int .u8 m1)).setCell (p := ⟨q, 7, none⟩) (by simp) (.int .u8 m2)).setCell (p := ⟨q, 8, none⟩) (by simp) (.int .u8 m3)).setCell (p := ⟨q, 9, none⟩) (by simp) (.int .u8 m4)).setCell (p := ⟨q, 10, none⟩) (by simp) (.int .u8 m5)).setCell (p := ⟨q, 11, none⟩) (by simp) (.int .u8 m6)).setCell (p := ⟨q, 12, none⟩) (by simp) (.int .i64 34916)).setCell (p := ⟨q, 13, none⟩) (by simp) (.string (Go.Proofs.Ytcdencpkgfehlaa.B DB))).drew
  simp only [List.setIfInBounds_toArray, List.set_cons_zero, List.set_cons_succ] at hBB
  have hFR := HF.out.sub hFF (fun x hx => by simp at hx; subst hx; exact Or.inr (by omega))
  exact ret_cell2 4 5 35 rfl q 35 _ _ hBB rfl Try.underlying35 rfl (by kernel_rfl) rfl ⟨by first | rfl | (simp [ethC]; done) | (unfold ethC; rw [HDB.out]; rfl), hFR⟩
set_option maxRecDepth 100000 in
set_option maxHeartbeats 8000000 in
theorem phFrame_long (d : List UInt8) (h3 : h.st = 3) (s0 : 0 ≤ h.ss) (s1 : h.ss ≤ 65535) (hd : 1494 < d.length) (hd2 : d.length ≤ 3000) (hw : h.wt ≠ 0) (hB : Blk w g (hsC h ck) 92) : Calls Try.prog 21 #[.pointer (some ⟨g, 0, none⟩), .string (B d)] w fun e w' => e = .returned (.tuple #[.agg #[.int .u8 0, .int .u8 0, .int .u8 0, .int .u8 0, .int .u8 0, .int .u8 0, .int .u8 0, .int .u8 0, .int .u8 0, .int .u8 0, .int .u8 0, .int .u8 0, .int .i64 0, .string ⟨#[]⟩], .int .i64 2]) ∧ Fr [] w w' := by
  have hwt : (h.wt == 0) = false := by simpa using hw
  have NO : Hid (∀ W, Fr [] w W → Calls Try.prog 36 #[.pointer (some ⟨g, 0, none⟩)] W fun e w' => e = .returned (.bool false) ∧ w' = W) := Lib.hid fun W hW => by
    have := hnone_any (hW.blk hB (by simp))
    rwa [hwt] at this
  clear hwt hw
  obtain ⟨⟨m1, m2, m3, m4, m5, m6⟩, sv, un, rt, wt, st, ⟨a1, a2, a3, a4, a5, a6⟩, ss, tk, ag⟩ := h
  obtain rfl : st = 3 := h3
  have hF := (Fr.refl [] w).alloc (.cells #[.int .u8 0, .int .u8 0, .int .u8 0, .int .u8 0, .int .u8 0, .int .u8 0, .int .u8 0, .int .u8 0, .int .u8 0, .int .u8 0, .int .u8 0, .int .u8 0, .int .i64 0, .string ⟨#[]⟩] 35 (0, 0))
  have HX : Hid (∀ W, Fr [] w W → W.cell? ⟨g, 10, none⟩ = some (.int .i64 3) ∧ W.cell? ⟨g, 17, none⟩ = some (.int .i64 ss) ∧ W.cell? ⟨g, 0, none⟩ = some (.int .u8 m1) ∧ W.cell? ⟨g, 1, none⟩ = some (.int .u8 m2) ∧ W.cell? ⟨g, 2, none⟩ = some (.int .u8 m3) ∧ W.cell? ⟨g, 3, none⟩ = some (.int .u8 m4) ∧ W.cell? ⟨g, 4, none⟩ = some (.int .u8 m5) ∧ W.cell? ⟨g, 5, none⟩ = some (.int .u8 m6) ∧ W.cell? ⟨g, 11, none⟩ = some (.int .u8 a1) ∧ W.cell? ⟨g, 12, none⟩ = some (.int .u8 a2) ∧ W.cell? ⟨g, 13, none⟩ = some (.int .u8 a3) ∧ W.cell? ⟨g, 14, none⟩ = some (.int .u8 a4) ∧ W.cell? ⟨g, 15, none⟩ = some (.int .u8 a5) ∧ W.cell? ⟨g, 16, none⟩ = some (.int .u8 a6)) := Lib.hid fun W hW => ⟨(hW.blk hB (by simp)).c 10 _ rfl, (hW.blk hB (by simp)).c 17 _ rfl, (hW.blk hB (by simp)).c 0 _ rfl, (hW.blk hB (by simp)).c 1 _ rfl, (hW.blk hB (by simp)).c 2 _ rfl, (hW.blk hB (by simp)).c 3 _ rfl, (hW.blk hB (by simp)).c 4 _ rfl, (hW.blk hB (by simp)).c 5 _ rfl, (hW.blk hB (by simp)).c 11 _ rfl, (hW.blk hB (by simp)).c 12 _ rfl, (hW.blk hB (by simp)).c 13 _ rfl, (hW.blk hB (by simp)).c 14 _ rfl, (hW.blk hB (by simp)).c 15 _ rfl, (hW.blk hB (by simp)).c 16 _ rfl⟩
  obtain ⟨z10, z11, _⟩ := HX.out _ hF
  have hN := Blk.new w #[.int .u8 0, .int .u8 0, .int .u8 0, .int .u8 0, .int .u8 0, .int .u8 0, .int .u8 0, .int .u8 0, .int .u8 0, .int .u8 0, .int .u8 0, .int .u8 0, .int .i64 0, .string ⟨#[]⟩] 35
  have P := Lib.hid fun W => tput_long W 0 ss d (by decide) (by decide) s0 s1 hd hd2
  obtain ⟨q, hq⟩ : ∃ q, w.heap.size = q := ⟨_, rfl⟩
  have hlt : g < q := by rw [← hq]; exact hB.lt
  clear hB s0 s1 hd hd2
  go_enter Try.func21, Try.ntmps21
  go_wp2_with fail
  refine (NO.out _ hF).mono ?_
  rintro e w0 ⟨rfl, rfl⟩
  clear NO
  go_wp2_with fail
  refine (P.out _).mono ?_
  rintro e w1 ⟨rfl, hF1⟩
  have hN1 := hF1.blk hN (by simp)
  rw [hq] at hN1
  obtain ⟨x10, x11, x0, x1, x2, x3, x4, x5, x12, x13, x14, x15, x16, x17⟩ := HX.out _ (hF.trans hF1)
  have HF := Lib.hid (hF.trans hF1)
  have HN1 := Lib.hid hN1
  have f0 := hN1.fz 0
  have e0 := hN1.c 0 _ rfl
  have f1 := hN1.fz 1
  have e1 := hN1.c 1 _ rfl
  have f2 := hN1.fz 2
  have e2 := hN1.c 2 _ rfl
  have f3 := hN1.fz 3
  have e3 := hN1.c 3 _ rfl
  have f4 := hN1.fz 4
  have e4 := hN1.c 4 _ rfl
  have f5 := hN1.fz 5
  have e5 := hN1.c 5 _ rfl
  have f6 := hN1.fz 6
  have e6 := hN1.c 6 _ rfl
  have f7 := hN1.fz 7
  have e7 := hN1.c 7 _ rfl
  have f8 := hN1.fz 8
  have e8 := hN1.c 8 _ rfl
  have f9 := hN1.fz 9
  have e9 := hN1.c 9 _ rfl
  have f10 := hN1.fz 10
  have e10 := hN1.c 10 _ rfl
  have f11 := hN1.fz 11
  have e11 := hN1.c 11 _ rfl
  have f12 := hN1.fz 12
  have e12 := hN1.c 12 _ rfl
  have f13 := hN1.fz 13
  have e13 := hN1.c 13 _ rfl
  clear z10 z11 hN hF hF1 P hN1
  go_wp2_with fail
  have hBB := ((((((((((((((HN1.out).set 0 (.int .u8 0)).set 1 (.int .u8 0)).set 2 (.int .u8 0)).set 3 (.int .u8 0)).set 4 (.int .u8 0)).set 5 (.int .u8 0)).set 6 (.int .u8 0)).set 7 (.int .u8 0)).set 8 (.int .u8 0)).set 9 (.int .u8 0)).set 10 (.int .u8 0)).set 11 (.int .u8 0)).set 12 (.int .i64 0)).set 13 (.string ⟨#[]⟩)
  have hFF := ((((((((((((((Fr.refl [q] w1).setCell (p := ⟨q, 0, none⟩) (by simp) (.int .u8 0)).setCell (p := ⟨q, 1, none⟩) (by simp) (.int .u8 0)).setCell (p := ⟨q, 2, none⟩) (by simp) (.int .u8 0)).setCell (p := ⟨q, 3, none⟩) (by simp) (.int .u8 0)).setCell (p := ⟨q, 4, none⟩) (by simp) (.int .u8 0)).setCell (p := ⟨q, 5, none⟩) (by simp) (.int .u8 0)).setCell (p := ⟨q, 6, none⟩) (by simp) (.int .u8 0)).setCell (p := ⟨q, 7, none⟩) (by simp) (.int .u8 0)).setCell (p := ⟨q, 8, none⟩) (by simp) (.int .u8 0)).setCell (p := ⟨q, 9, none⟩) (by simp) (.int .u8 0)).setCell (p := ⟨q, 10, none⟩) (by simp) (.int .u8 0)).setCell (p := ⟨q, 11, none⟩) (by simp) (.int .u8 0)).setCell (p := ⟨q, 12, none⟩) (by simp) (.int .i64 0)).setCell (p := ⟨q, 13, none⟩) (by simp) (.string ⟨#[]⟩)
  simp only [List.setIfInBounds_toArray, List.set_cons_zero, List.set_cons_succ] at hBB
  have hFR := HF.out.sub hFF (fun x hx => by simp at hx; subst hx; exact Or.inr (by omega))
  exact ret_cell2 4 5 35 rfl q 35 _ _ hBB rfl Try.underlying35 rfl (by kernel_rfl) rfl ⟨rfl, hFR⟩
theorem pframe_any {o : Option (List UInt8)} (d : List UInt8) (hd2 : d.length ≤ 3000) (hi : HI (h, o)) (hB : Blk w g (hsC h ck) 92) :
    Calls Try.prog 21 #[.pointer (some ⟨g, 0, none⟩), .string (B d)] w fun e w' => e = .returned (.tuple #[.agg (ethC (framL h.st h.k h.m h.ss d).1.1 (framL h.st h.k h.m h.ss d).1.2.1 (framL h.st h.k h.m h.ss d).1.2.2.1 (framL h.st h.k h.m h.ss d).1.2.2.2), .int .i64 (framL h.st h.k h.m h.ss d).2]) ∧ Fr [] w w' := by
  have hw : h.wt ≠ 0 := by have := hi.wt.1; simp only at this; omega
  unfold framL
  by_cases h3 : h.st = 3
  · rw [if_pos h3]
    by_cases hd : d.length ≤ 1494
    · rw [if_pos hd]
      exact phFrame_ok d h3 hi.ss.1 hi.ss.2 hd hw hB
    · rw [if_neg hd]
      exact phFrame_long d h3 hi.ss.1 hi.ss.2 (by omega) hd2 hw hB
  · rw [if_neg h3]
    exact phFrame_off d h3 hw hB
set_option maxRecDepth 100000 in
set_option maxHeartbeats 8000000 in
theorem pstop_live (o : Option (List UInt8)) (hi : HI (h, o)) (hst : h.st = 3) (hB : Blk w g (hsC h ck) 92) :
    Calls Try.prog 18 #[.pointer (some ⟨g, 0, none⟩)] w (POut w g (frameL h.k h.m 167 h.ss []) (entered h 0, none)) := by
  have hw : h.wt ≠ 0 := by have := hi.wt.1; simp only at this; omega
  have NO := Lib.hid (hnone_any hB)
  have hwt : (h.wt == 0) = false := by simpa using hw
  rw [hwt] at NO
  have d10 : w.cell? ⟨g, 10, none⟩ = some (.int .i64 3) := by have := hB.c 10 (.int .i64 h.st) rfl; rw [hst] at this; exact this
  have FR := Lib.hid fun W (hW : Fr [] w W) => frame_out (l := []) (A := none) (cap := 0) h.k 167 h.ss (fun i t hi => by simp at hi) (fun t ht => by cases ht) (fun t ht => by cases ht) (by simp) (Nat.le_refl _) (by unfold maxLen; omega) (by decide) (by decide) hi.ss.1 hi.ss.2 (hW.blk hB (by simp))
  have EN := Lib.hid fun W (hW : Fr [] w W) => enter_off 0 (by decide) (by decide) (hW.blk hB (by simp))
  have HB0 := Lib.hid hB
  have hgl := hB.lt
  obtain ⟨⟨m1, m2, m3, m4, m5, m6⟩, sv, un, rt, wt, st, ⟨a1, a2, a3, a4, a5, a6⟩, ss, tk, ag⟩ := h
  simp only at FR EN
  unfold mcL at FR
  simp only at FR
  have HX : Hid (∀ W, Fr [] w W → (fun W => (W.cell? ⟨g, 11, none⟩ = some (.int .u8 a1) ∧ W.cell? ⟨g, 12, none⟩ = some (.int .u8 a2) ∧ W.cell? ⟨g, 13, none⟩ = some (.int .u8 a3) ∧ W.cell? ⟨g, 14, none⟩ = some (.int .u8 a4) ∧ W.cell? ⟨g, 15, none⟩ = some (.int .u8 a5) ∧ W.cell? ⟨g, 16, none⟩ = some (.int .u8 a6) ∧ W.cell? ⟨g, 17, none⟩ = some (.int .i64 ss)) ∧ Fr [] w W) W) := Lib.hid fun W hW => ⟨⟨(hW.blk HB0.out (by simp)).c 11 _ rfl, (hW.blk HB0.out (by simp)).c 12 _ rfl, (hW.blk HB0.out (by simp)).c 13 _ rfl, (hW.blk HB0.out (by simp)).c 14 _ rfl, (hW.blk HB0.out (by simp)).c 15 _ rfl, (hW.blk HB0.out (by simp)).c 16 _ rfl, (hW.blk HB0.out (by simp)).c 17 _ rfl⟩, hW⟩
  clear hwt hw hB hst hi
  go_enter Try.func18, Try.ntmps18
  go_wp2_with fail
  refine NO.out.mono ?_
  rintro e w1 ⟨rfl, rfl⟩
  go_wp2_with fail
  clear d10
  refine wp_region_held_drew (S := (fun W => (W.cell? ⟨g, 11, none⟩ = some (.int .u8 a1) ∧ W.cell? ⟨g, 12, none⟩ = some (.int .u8 a2) ∧ W.cell? ⟨g, 13, none⟩ = some (.int .u8 a3) ∧ W.cell? ⟨g, 14, none⟩ = some (.int .u8 a4) ∧ W.cell? ⟨g, 15, none⟩ = some (.int .u8 a5) ∧ W.cell? ⟨g, 16, none⟩ = some (.int .u8 a6) ∧ W.cell? ⟨g, 17, none⟩ = some (.int .i64 ss)) ∧ Fr [] w1 W)) (by kernel_rfl) ?_ (fun hHeld => ?_)
  · (try dsimp only); exact HX.out _ (Fr.refl [] _).drew
  refine take_yes 0 11 rfl rfl (by kernel_rfl) (by kernel_rfl) (by kernel_rfl) (fun _ _ _ h => h) (by rfl) (by assumption) (v := ?_) ?_ ?_
  rotate_left
  · intro w hSw; (try dsimp only at hSw); go_simp; (try with_reducible rfl)
  try simp only [Act.put, List.setIfInBounds_toArray, List.set_cons_zero, List.set_cons_succ]
  refine take_yes 1 12 rfl rfl (by kernel_rfl) (by kernel_rfl) (by kernel_rfl) (fun _ _ _ h => h) (by rfl) (by assumption) (v := ?_) ?_ ?_
  rotate_left
  · intro w hSw; (try dsimp only at hSw); go_simp; (try with_reducible rfl)
  try simp only [Act.put, List.setIfInBounds_toArray, List.set_cons_zero, List.set_cons_succ]
  refine take_yes 2 13 rfl rfl (by kernel_rfl) (by kernel_rfl) (by kernel_rfl) (fun _ _ _ h => h) (by rfl) (by assumption) (v := ?_) ?_ ?_
  rotate_left
  · intro w hSw; (try dsimp only at hSw); go_simp; (try with_reducible rfl)
  try simp only [Act.put, List.setIfInBounds_toArray, List.set_cons_zero, List.set_cons_succ]
  refine take_yes 3 14 rfl rfl (by kernel_rfl) (by kernel_rfl) (by kernel_rfl) (fun _ _ _ h => h) (by rfl) (by assumption) (v := ?_) ?_ ?_
  rotate_left
  · intro w hSw; (try dsimp only at hSw); go_simp; (try with_reducible rfl)
  try simp only [Act.put, List.setIfInBounds_toArray, List.set_cons_zero, List.set_cons_succ]
  refine take_yes 4 15 rfl rfl (by kernel_rfl) (by kernel_rfl) (by kernel_rfl) (fun _ _ _ h => h) (by rfl) (by assumption) (v := .agg #[.int .u8 a1, .int .u8 a2, .int .u8 a3, .int .u8 a4, .int .u8 a5, .int .u8 a6]) ?_ ?_
  · intro w hSw; (try dsimp only at hSw); go_simp
  try simp only [Act.put, List.setIfInBounds_toArray, List.set_cons_zero, List.set_cons_succ]
  refine take_yes 5 16 rfl rfl (by kernel_rfl) (by kernel_rfl) (by kernel_rfl) (fun _ _ _ h => h) (by rfl) (by assumption) (v := ?_) ?_ ?_
  rotate_left
  · intro w hSw; (try dsimp only at hSw); go_simp; (try with_reducible rfl)
  try simp only [Act.put, List.setIfInBounds_toArray, List.set_cons_zero, List.set_cons_succ]
  refine take_yes 6 17 rfl rfl (by kernel_rfl) (by kernel_rfl) (by kernel_rfl) (fun _ _ _ h => h) (by rfl) (by assumption) (v := ?_) ?_ ?_
  rotate_left
  · intro w hSw; (try dsimp only at hSw); go_simp; (try with_reducible rfl)
  try simp only [Act.put, List.setIfInBounds_toArray, List.set_cons_zero, List.set_cons_succ]
  refine take_yes 7 18 rfl rfl (by kernel_rfl) (by kernel_rfl) (by kernel_rfl) (fun _ _ _ h => h) (by rfl) (by assumption) (v := ?_) ?_ ?_
  rotate_left
  · intro w hSw; (try dsimp only at hSw); go_simp; (try with_reducible rfl)
  try simp only [Act.put, List.setIfInBounds_toArray, List.set_cons_zero, List.set_cons_succ]
  refine take_yes 8 19 rfl rfl (by kernel_rfl) (by kernel_rfl) (by kernel_rfl) (fun _ _ _ h => h) (by rfl) (by assumption) (v := .int .i64 ss) ?_ ?_
  · intro w hSw; (try dsimp only at hSw); go_simp
  try simp only [Act.put, List.setIfInBounds_toArray, List.set_cons_zero, List.set_cons_succ]
  refine wpAnyH_ready (rs := [9]) (by kernel_rfl) (by simp) ?_
  refine AllReadyH.cons (o := _) rfl (fun K hK => ?_) AllReadyH.nil
  go_simp
  have HSZ := Lib.hid (And.right hHeld)
  refine (FR.out _ (And.right hHeld)).mono ?_
  rintro e v2 ⟨A9, c9, rfl, hrow, hF6⟩
  have HF6 := Lib.hid (HSZ.out.trans hF6)
  (try go_wp2_with fail)
  refine hK.out _ _ ?_ (fun hHeld => ?_)
  · (try dsimp only); exact HX.out _ HF6.out
  clear hK K
  try simp only [Act.put, List.setIfInBounds_toArray, List.set_cons_zero, List.set_cons_succ]
  refine take_yes 10 3 rfl rfl (by kernel_rfl) (by kernel_rfl) (by kernel_rfl) (fun _ _ _ h => h) (by rfl) (by assumption) (v := ?_) ?_ ?_
  rotate_left
  · intro w hSw; (try dsimp only at hSw); go_simp; (try with_reducible rfl)
  try simp only [Act.put, List.setIfInBounds_toArray, List.set_cons_zero, List.set_cons_succ]
  refine wpAnyH_done (by kernel_rfl) ?_ _
  have HR := Lib.hid hrow
  clear hrow hF6
  go_wp2_with fail
  refine (EN.out _ HF6.out).mono ?_
  rintro e w5 ⟨rfl, hB5, hF5⟩
  have HRR := Lib.hid (rown_off HR.out hF5 (fun q hq cur U hc e => by simp at hq; subst hq; exact hc.neT (HF6.out.blk HB0.out (by simp)) (by rw [e]; decide) rfl))
  have HZ := Lib.hid (And.intro hB5 ((HF6.out.mono (S' := [g]) (by simp)).trans hF5))
  clear hB5 hF5 EN
  go_wp2_with fail
  go_ret
  exact ⟨⟨A9, c9, rfl, ⟨HRR.out.1, HRR.out.2.imp id fun ⟨x, cap', cur, z1, z2, z3⟩ => ⟨x, cap', cur, z1, Nat.le_trans HSZ.out.size z2, z3⟩⟩, HZ.out.2⟩, _, HZ.out.1, rfl⟩
theorem pstop_any (o : Option (List UInt8)) (hi : HI (h, o)) (hB : Blk w g (hsC h ck) 92) :
    Calls Try.prog 18 #[.pointer (some ⟨g, 0, none⟩)] w (POut w g (pStop (h, o)).2 (pStop (h, o)).1) := by
  have hw : h.wt ≠ 0 := by have := hi.wt.1; simp only at this; omega
  unfold pStop
  by_cases h3 : h.st = 3
  · rw [if_pos h3]
    exact pstop_live o hi h3 hB
  · rw [if_neg h3]
    refine (stop_off hw h3 hB).mono ?_
    rintro e w' ⟨rfl, h1, h2⟩
    exact ⟨OutP.none_ h2, _, h1, rfl⟩
theorem frameL_ask (h : Hs) (hk : HsOk h) : frameL mcF h.m 9 0 (askL h.sv h.un none) = [(mcF, h.m, 34915, askD h)] := by
  unfold frameL askD
  rw [← askT_askL, if_pos (askT_size h hk)]
theorem pstart_any (o : Option (List UInt8)) (hi : HI (h, o)) (hB : Blk w g (hsC h ck) 92) (hck : CkV w o ck) :
    Calls Try.prog 15 #[.pointer (some ⟨g, 0, none⟩)] w (POut w g (pStart (h, o)).2 (pStart (h, o)).1) := by
  have hw : h.wt ≠ 0 := by have := hi.wt.1; simp only at this; omega
  unfold pStart
  by_cases hs : h.st = 0 ∨ h.st = 4
  · rw [if_pos hs]
    have hk : HsOk h := ⟨hi.sv, hi.un⟩
    refine (start_yes hk hw hs hB).mono ?_
    rintro e w' ⟨h1, h2⟩
    refine ⟨?_, _, h2, rfl⟩
    show OutP w (frameL mcF h.m 9 0 (askL h.sv h.un none)) [g] e w'
    rw [frameL_ask h hk]
    exact OutP.one h1
  · rw [if_neg hs]
    refine (start_no hw (fun e => hs (Or.inl e)) (fun e => hs (Or.inr e)) hB).mono ?_
    rintro e w' ⟨rfl, rfl⟩
    exact ⟨OutP.none_ (Fr.refl _ _), ck, hB, hck⟩
end
section
variable {w : World} {g : Nat} {h : Hs} {ck : Value}
set_option maxRecDepth 100000 in
set_option maxHeartbeats 4000000 in
theorem tick2_wait (hw : 1 ≤ h.wt ∧ h.wt ≤ 100) (hst : h.st = 2) (ht : 0 ≤ h.tk ∧ h.tk ≤ 1000000) (ha : 0 ≤ h.ag ∧ h.ag ≤ 10) (hlt : h.tk + 1 < h.wt * 2 ^ h.ag.toNat) (hB : Blk w g (hsC h ck) 92) :
    Calls Try.prog 17 #[.pointer (some ⟨g, 0, none⟩)] w fun e w' => e = .returned (.slice none 0 0) ∧ Blk w' g (hsC { h with tk := h.tk + 1 } ck) 92 ∧ Fr [g] w w' := by
  have d10 : w.cell? ⟨g, 10, none⟩ = some (.int .i64 2) := by have := hB.c 10 (.int .i64 h.st) rfl; rw [hst] at this; exact this
  have d19 : w.cell? ⟨g, 19, none⟩ = some (.int .i64 h.tk) := hB.c 19 _ rfl
  have f19 := hB.fz 19
  have NO := Lib.hid (hnone_any hB)
  have hwt : (h.wt == 0) = false := by rw [beq_eq_false_iff_ne]; omega
  rw [hwt] at NO
  have hB1 : Blk (w.setCell ⟨g, 19, none⟩ (.int .i64 (h.tk + 1))) g (hsC { h with tk := h.tk + 1 } ck) 92 := by
    have := hB.set 19 (.int .i64 (h.tk + 1))
    simpa [hsC] using this
  have hF1 := (Fr.refl [g] w).setCell (p := ⟨g, 19, none⟩) (by simp) (.int .i64 (h.tk + 1))
  obtain ⟨W1, hW1⟩ : ∃ W, w.setCell ⟨g, 19, none⟩ (.int .i64 (h.tk + 1)) = W := ⟨_, rfl⟩
  rw [hW1] at hB1 hF1
  have x19 : W1.cell? ⟨g, 19, none⟩ = some (.int .i64 (h.tk + 1)) := hB1.c 19 _ rfl
  have x9 : W1.cell? ⟨g, 9, none⟩ = some (.int .i64 h.wt) := hB1.c 9 _ rfl
  have x20 : W1.cell? ⟨g, 20, none⟩ = some (.int .i64 h.ag) := hB1.c 20 _ rfl
  have HB1 := Lib.hid hB1
  have HF1 := Lib.hid hF1
  obtain ⟨hsw, hx0, hx1⟩ := shl_small h.wt h.ag hw.1 hw.2 ha.1 ha.2
  obtain ⟨X, hX⟩ : ∃ X : Int, h.wt * 2 ^ h.ag.toNat = X := ⟨_, rfl⟩
  rw [hX] at hx0 hx1 hlt
  have hsw : wrap64 (h.wt * 2 ^ h.ag.toNat) = X := hsw.trans hX
  obtain ⟨t0, t1⟩ := ht
  obtain ⟨a0, a1⟩ := ha
  clear hwt hB hB1 hF1 hX hw
  go_enter Try.func17, Try.ntmps17
  go_wp2_with fail
  refine NO.out.mono ?_
  rintro e w1 ⟨rfl, rfl⟩
  go_wp2_with fail
  go_quiet (fail)
  go_wp2_with fail
  go_ret
  exact ⟨rfl, HB1.out.drewN _, HF1.out.drewN _⟩
set_option maxRecDepth 100000 in
set_option maxHeartbeats 4000000 in
theorem tick2_fail (hw : 1 ≤ h.wt ∧ h.wt ≤ 100) (hst : h.st = 2) (ht : 0 ≤ h.tk ∧ h.tk ≤ 1000000) (ha : 0 ≤ h.ag ∧ h.ag ≤ 10) (hlt : ¬ h.tk + 1 < h.wt * 2 ^ h.ag.toNat) (hrt : h.rt ≤ h.ag) (hB : Blk w g (hsC h ck) 92) :
    Calls Try.prog 17 #[.pointer (some ⟨g, 0, none⟩)] w fun e w' => e = .returned (.slice none 0 0) ∧ Blk w' g (hsC (entered h 4) (.slice none 0 0)) 92 ∧ Fr [g] w w' := by
  have d10 : w.cell? ⟨g, 10, none⟩ = some (.int .i64 2) := by have := hB.c 10 (.int .i64 h.st) rfl; rw [hst] at this; exact this
  have d19 : w.cell? ⟨g, 19, none⟩ = some (.int .i64 h.tk) := hB.c 19 _ rfl
  have f19 := hB.fz 19
  have NO := Lib.hid (hnone_any hB)
  have hwt : (h.wt == 0) = false := by rw [beq_eq_false_iff_ne]; omega
  rw [hwt] at NO
  have hB1 : Blk (w.setCell ⟨g, 19, none⟩ (.int .i64 (h.tk + 1))) g (hsC { h with tk := h.tk + 1 } ck) 92 := by
    have := hB.set 19 (.int .i64 (h.tk + 1))
    simpa [hsC] using this
  have hF1 := (Fr.refl [g] w).setCell (p := ⟨g, 19, none⟩) (by simp) (.int .i64 (h.tk + 1))
  obtain ⟨W1, hW1⟩ : ∃ W, w.setCell ⟨g, 19, none⟩ (.int .i64 (h.tk + 1)) = W := ⟨_, rfl⟩
  rw [hW1] at hB1 hF1
  have x19 : W1.cell? ⟨g, 19, none⟩ = some (.int .i64 (h.tk + 1)) := hB1.c 19 _ rfl
  have x9 : W1.cell? ⟨g, 9, none⟩ = some (.int .i64 h.wt) := hB1.c 9 _ rfl
  have x20 : W1.cell? ⟨g, 20, none⟩ = some (.int .i64 h.ag) := hB1.c 20 _ rfl
  have x8 : W1.cell? ⟨g, 8, none⟩ = some (.int .i64 h.rt) := hB1.c 8 _ rfl
  have EN := Lib.hid fun W (hW : Fr [] W1 W) => enter_off 4 (by decide) (by decide) (hW.blk hB1 (by simp))
  have HB1 := Lib.hid hB1
  have HF1 := Lib.hid hF1
  obtain ⟨hsw, hx0, hx1⟩ := shl_small h.wt h.ag hw.1 hw.2 ha.1 ha.2
  obtain ⟨X, hX⟩ : ∃ X : Int, h.wt * 2 ^ h.ag.toNat = X := ⟨_, rfl⟩
  rw [hX] at hx0 hx1 hlt
  have hsw : wrap64 (h.wt * 2 ^ h.ag.toNat) = X := hsw.trans hX
  obtain ⟨t0, t1⟩ := ht
  obtain ⟨a0, a1⟩ := ha
  clear hwt hB hB1 hF1 hX hw
  go_enter Try.func17, Try.ntmps17
  go_wp2_with fail
  refine NO.out.mono ?_
  rintro e w1 ⟨rfl, rfl⟩
  go_wp2_with fail
  go_quiet (fail)
  go_wp2_with fail
  go_quiet (fail)
  go_wp2_with fail
  refine (EN.out _ ((Fr.refl [] W1).drewN _)).mono ?_
  rintro e w2 ⟨rfl, hB2, hF2⟩
  have HX := Lib.hid (And.intro hB2 ((HF1.out.drewN _).trans hF2))
  clear hB2 hF2 EN
  go_wp2_with fail
  go_ret
  exact ⟨rfl, HX.out.1, HX.out.2⟩
set_option maxRecDepth 100000 in
set_option maxHeartbeats 4000000 in
theorem tick2_again (hw : 1 ≤ h.wt ∧ h.wt ≤ 100) (hst : h.st = 2) (ht : 0 ≤ h.tk ∧ h.tk ≤ 1000000) (ha : 0 ≤ h.ag ∧ h.ag ≤ 10) (hlt : ¬ h.tk + 1 < h.wt * 2 ^ h.ag.toNat) (hrt : ¬ h.rt ≤ h.ag) (o : Option (List UInt8)) (hi : HI (h, o)) (hck : CkV w o ck) (htl : h.tk + 1 ≤ h.wt * 2 ^ h.ag.toNat) (hB : Blk w g (hsC h ck) 92) :
    Calls Try.prog 17 #[.pointer (some ⟨g, 0, none⟩)] w (POut w g (frameL h.k h.m 25 0 (askL h.sv h.un o)) ({ h with tk := 0, ag := h.ag + 1 }, o)) := by
  have d10 : w.cell? ⟨g, 10, none⟩ = some (.int .i64 2) := by have := hB.c 10 (.int .i64 h.st) rfl; rw [hst] at this; exact this
  have d19 : w.cell? ⟨g, 19, none⟩ = some (.int .i64 h.tk) := hB.c 19 _ rfl
  have f19 := hB.fz 19
  have NO := Lib.hid (hnone_any hB)
  have hwt : (h.wt == 0) = false := by rw [beq_eq_false_iff_ne]; omega
  rw [hwt] at NO
  have hB1 : Blk (w.setCell ⟨g, 19, none⟩ (.int .i64 (h.tk + 1))) g (hsC { h with tk := h.tk + 1 } ck) 92 := by
    have := hB.set 19 (.int .i64 (h.tk + 1))
    simpa [hsC] using this
  have hF1 := (Fr.refl [g] w).setCell (p := ⟨g, 19, none⟩) (by simp) (.int .i64 (h.tk + 1))
  obtain ⟨W1, hW1⟩ : ∃ W, w.setCell ⟨g, 19, none⟩ (.int .i64 (h.tk + 1)) = W := ⟨_, rfl⟩
  rw [hW1] at hB1 hF1
  have x19 : W1.cell? ⟨g, 19, none⟩ = some (.int .i64 (h.tk + 1)) := hB1.c 19 _ rfl
  have x9 : W1.cell? ⟨g, 9, none⟩ = some (.int .i64 h.wt) := hB1.c 9 _ rfl
  have x20 : W1.cell? ⟨g, 20, none⟩ = some (.int .i64 h.ag) := hB1.c 20 _ rfl
  have x8 : W1.cell? ⟨g, 8, none⟩ = some (.int .i64 h.rt) := hB1.c 8 _ rfl
  have HS2 : Hid (∀ W, Fr [] W1 W → Blk (W.setCell ⟨g, 20, none⟩ (.int .i64 (h.ag + 1))) g (hsC { h with tk := h.tk + 1, ag := h.ag + 1 } ck) 92) := Lib.hid fun W hW => by
    have := (hW.blk hB1 (by simp)).set 20 (.int .i64 (h.ag + 1))
    simpa [hsC] using this
  have HC : Hid (∀ W, Fr [] W1 W → W.cell? ⟨g, 8, none⟩ = some (.int .i64 h.rt) ∧ W.cell? ⟨g, 20, none⟩ = some (.int .i64 h.ag) ∧ W.frozen? ⟨g, 20, none⟩ = false) := Lib.hid fun W hW => ⟨(hW.blk hB1 (by simp)).c 8 _ rfl, (hW.blk hB1 (by simp)).c 20 _ rfl, (hW.blk hB1 (by simp)).fz 20⟩
  have HCK : Hid (∀ W, Fr [] W1 W → CkV (W.setCell ⟨g, 20, none⟩ (.int .i64 (h.ag + 1))) o ck) := Lib.hid fun W hW => hck.fr (((hF1.trans (hW.mono (S' := [g]) (by simp))).setCell (p := ⟨g, 20, none⟩) (by simp) (.int .i64 (h.ag + 1)))) (fun q hq cur U hc e => by simp at hq; subst hq; exact hc.neT hB (by rw [e]; decide) rfl)
  have hi2 : HI (({ h with tk := h.tk + 1, ag := h.ag + 1 } : Hs), o) := ⟨hi.sv, hi.un, hi.rt, hi.wt, ⟨by show 0 ≤ h.ag + 1; omega, by show h.ag + 1 ≤ h.rt; omega⟩, ⟨by show 0 ≤ h.tk + 1; omega, by show h.tk + 1 ≤ 102400; have := (shl_small h.wt h.ag hw.1 hw.2 ha.1 ha.2).2.2; omega⟩, hi.ss, hi.o⟩
  have SA := Lib.hid fun W (hW : Fr [] W1 W) => say_two (h := { h with tk := h.tk + 1, ag := h.ag + 1 }) o hi2 hst (HS2.out W hW) (HCK.out W hW)
  have HB1 := Lib.hid hB1
  have HF1 := Lib.hid hF1
  obtain ⟨hsw, hx0, hx1⟩ := shl_small h.wt h.ag hw.1 hw.2 ha.1 ha.2
  obtain ⟨X, hX⟩ : ∃ X : Int, h.wt * 2 ^ h.ag.toNat = X := ⟨_, rfl⟩
  rw [hX] at hx0 hx1 hlt
  have hsw : wrap64 (h.wt * 2 ^ h.ag.toNat) = X := hsw.trans hX
  obtain ⟨t0, t1⟩ := ht
  obtain ⟨a0, a1⟩ := ha
  clear hwt hB hB1 hF1 hX hw hi hck hi2
  go_enter Try.func17, Try.ntmps17
  go_wp2_with fail
  refine NO.out.mono ?_
  rintro e w1 ⟨rfl, rfl⟩
  go_wp2_with fail
  go_quiet (fail)
  obtain ⟨V1, hV1⟩ : ∃ W, W1.drewN nq = W := ⟨_, rfl⟩
  have hZ1 : Fr [] W1 V1 := by rw [← hV1]; exact (Fr.refl [] W1).drewN nq
  rw [hV1]
  obtain ⟨y8, y20, _⟩ := HC.out _ hZ1
  clear hV1 x19 x9 x20 x8
  go_wp2_with fail
  go_quiet (fail)
  obtain ⟨V2, hV2⟩ : ∃ W, V1.drewN nq = W := ⟨_, rfl⟩
  have hZ2 : Fr [] W1 V2 := by rw [← hV2]; exact hZ1.drewN nq
  rw [hV2]
  obtain ⟨z8, z20, zf⟩ := HC.out _ hZ2
  have SB := Lib.hid (SA.out _ hZ2)
  have HF2 := Lib.hid ((HF1.out.trans (hZ2.mono (S' := [g]) (by simp))).setCell (p := ⟨g, 20, none⟩) (by simp) (.int .i64 (h.ag + 1)))
  clear hV2 y8 y20 hZ1 hZ2 SA HC HS2
  go_wp2_with fail
  refine SB.out.mono ?_
  rintro e w3 hP
  have HP := Lib.hid (POut.later hP HF2.out)
  obtain ⟨⟨A9, c9, rfl, _, _⟩, _⟩ := hP
  clear SB
  go_wp2_with fail
  go_ret
  exact HP.out
theorem ptick_any (o : Option (List UInt8)) (hi : HI (h, o)) (hB : Blk w g (hsC h ck) 92) (hck : CkV w o ck) (ho : h.st = 1 → o = none) (htk : h.st = 1 ∨ h.st = 2 → h.tk < h.wt * 2 ^ h.ag.toNat) :
    Calls Try.prog 17 #[.pointer (some ⟨g, 0, none⟩)] w (POut w g (pTick (h, o)).2 (pTick (h, o)).1) := by
  have hw : h.wt ≠ 0 := by have := hi.wt.1; simp only at this; omega
  have hk : HsOk h := ⟨hi.sv, hi.un⟩
  have hwt : 1 ≤ h.wt ∧ h.wt ≤ 100 := hi.wt
  have ht : 0 ≤ h.tk ∧ h.tk ≤ 1000000 := ⟨hi.tk.1, Int.le_trans hi.tk.2 (by decide)⟩
  have ha : 0 ≤ h.ag ∧ h.ag ≤ 10 := ⟨hi.ag.1, Int.le_trans hi.ag.2 hi.rt.2⟩
  have keep : ∀ {w' : World}, Fr [g] w w' → CkV w' o ck := fun hF => hck.fr hF (fun q hq cur U hc e => by simp at hq; subst hq; exact hc.neT hB (by rw [e]; decide) rfl)
  unfold pTick
  by_cases hs : h.st = 1 ∨ h.st = 2
  · rw [if_pos hs]
    by_cases hlt : h.tk + 1 < h.wt * 2 ^ h.ag.toNat
    · rw [if_pos hlt]
      have : Calls Try.prog 17 #[.pointer (some ⟨g, 0, none⟩)] w fun e w' => e = .returned (.slice none 0 0) ∧ Blk w' g (hsC { h with tk := h.tk + 1 } ck) 92 ∧ Fr [g] w w' := by
        rcases hs with h1 | h2
        · exact tick_wait hwt h1 ht ha hlt hB
        · exact tick2_wait hwt h2 ht ha hlt hB
      refine this.mono ?_
      rintro e w' ⟨rfl, h1, h2⟩
      exact ⟨OutP.none_ h2, ck, h1, keep h2⟩
    · rw [if_neg hlt]
      by_cases hr : h.rt ≤ h.ag
      · rw [if_pos hr]
        have : Calls Try.prog 17 #[.pointer (some ⟨g, 0, none⟩)] w fun e w' => e = .returned (.slice none 0 0) ∧ Blk w' g (hsC (entered h 4) (.slice none 0 0)) 92 ∧ Fr [g] w w' := by
          rcases hs with h1 | h2
          · exact tick_fail hwt h1 ht ha hlt hr hB
          · exact tick2_fail hwt h2 ht ha hlt hr hB
        refine this.mono ?_
        rintro e w' ⟨rfl, h1, h2⟩
        exact ⟨OutP.none_ h2, _, h1, rfl⟩
      · rw [if_neg hr]
        rcases hs with h1 | h2
        · refine (tick_again hwt h1 ht ha hlt hr hk hB).mono ?_
          rintro e w' ⟨a1, a2⟩
          have hF : Fr [g] w w' := a1.choose_spec.2.2.2
          refine ⟨?_, ck, a2, keep hF⟩
          show OutP w (pSayL (h, o)) [g] e w'
          unfold pSayL
          rw [if_pos h1, frameL_ask h hk]
          exact OutP.one a1
        · refine (tick2_again hwt h2 ht ha hlt hr o hi hck (by have := htk (Or.inr h2); omega) hB).mono ?_
          intro e w' hP
          have e2 : pSayL (h, o) = frameL h.k h.m 25 0 (askL h.sv h.un o) := by unfold pSayL; rw [if_neg (by show ¬ h.st = 1; omega)]
          show POut w g (pSayL (h, o)) _ e w'
          rw [e2]
          exact hP
  · rw [if_neg hs]
    refine (tick_no hw (fun e => hs (Or.inl e)) (fun e => hs (Or.inr e)) hB).mono ?_
    rintro e w' ⟨rfl, rfl⟩
    exact ⟨OutP.none_ (Fr.refl _ _), ck, hB, hck⟩
end
end Go.Proofs.Ytcdencpkgfehlaa
