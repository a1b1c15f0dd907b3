/- Several texts in one: DHost4, DHost5, DHost6. -/
import Derived.Test.YtfchbppfbepelaaGreatDHost3
/- the document's host: Frame. -/
namespace Go.Proofs.YtfchbppfbepelaaGreat
open Go.RowKit
set_option linter.unusedVariables false
theorem rdput_long (w : World) (c ss : Int) (d : List UInt8) (hc0 : 0 ≤ c) (hc1 : c ≤ 255) (hs0 : 0 ≤ ss) (hs1 : ss ≤ 65535) (hd : 1494 < d.length) :
    Calls Tryz.prog 204 #[.agg #[.int .i64 c, .int .i64 ss, .string (B d)]] w fun e w' => e = .returned (.tuple #[.string (B []), .int .i64 2]) ∧ Fr [] w w' := by
  have n1 : ¬ c < 0 := by omega
  have n2 : ¬ 255 < c := by omega
  have n3 : ¬ ss < 0 := by omega
  have n4 : ¬ 65535 < ss := by omega
  have n5 : (1494 : Int) < d.length := by omega
  have hF := (Fr.refl [] w).alloc (.cells #[.int .i64 c, .int .i64 ss, .string (Go.Proofs.YtfchbppfbepelaaGreat.B d)] 259 (0, 0))
  clear hs0 hs1 hc0 hc1 hd
  go_enter Tryz.func204, Tryz.ntmps204
  go_wp2_with fail
  go_ret2
  exact ⟨rfl, hF⟩
section
variable {w : World} {g : Nat} {h : Dh}
set_option maxRecDepth 100000 in
set_option maxHeartbeats 8000000 in
theorem dhFrame_off (d : List UInt8) (h3 : h.st ≠ 3) (hB : Blk w g (dhC h) 254) : Calls Tryz.prog 59 #[.pointer (some ⟨g, 0, none⟩), .string (B d)] w fun e w' => e = .returned (.tuple #[.agg #[.int .u8 0, .int .u8 0, .int .u8 0, .int .u8 0, .int .u8 0, .int .u8 0, .int .u8 0, .int .u8 0, .int .u8 0, .int .u8 0, .int .u8 0, .int .u8 0, .int .i64 0, .string ⟨#[]⟩], .int .i64 20]) ∧ Fr [] w w' := by
  have c10 : w.cell? ⟨g, 10, none⟩ = some (.int .i64 h.st) := hB.c 10 _ rfl
  have n3 : (h.st != 3) = true := by simpa using h3
  have hF := (Fr.refl [] w).alloc (.cells #[.int .u8 0, .int .u8 0, .int .u8 0, .int .u8 0, .int .u8 0, .int .u8 0, .int .u8 0, .int .u8 0, .int .u8 0, .int .u8 0, .int .u8 0, .int .u8 0, .int .i64 0, .string ⟨#[]⟩] 113 (0, 0))
  have d10 : (w.alloc (.cells #[.int .u8 0, .int .u8 0, .int .u8 0, .int .u8 0, .int .u8 0, .int .u8 0, .int .u8 0, .int .u8 0, .int .u8 0, .int .u8 0, .int .u8 0, .int .u8 0, .int .i64 0, .string ⟨#[]⟩] 113 (0, 0))).cell? ⟨g, 10, none⟩ = some (.int .i64 h.st) := (hF.blk hB (by simp)).c 10 _ rfl
  have hN := Blk.new w #[.int .u8 0, .int .u8 0, .int .u8 0, .int .u8 0, .int .u8 0, .int .u8 0, .int .u8 0, .int .u8 0, .int .u8 0, .int .u8 0, .int .u8 0, .int .u8 0, .int .i64 0, .string ⟨#[]⟩] 113
  have hg := hB.lt
  clear hB h3
  go_enter Tryz.func59, Tryz.ntmps59
  go_wp2_with fail
  exact ret_cell2 4 5 113 rfl w.heap.size 113 _ _ hN rfl Tryz.underlying113 rfl (by kernel_rfl) rfl ⟨rfl, hF⟩
end
end Go.Proofs.YtfchbppfbepelaaGreat

/- the document's host: Frame, Live. -/
namespace Go.Proofs.YtfchbppfbepelaaGreat
open Go.RowKit
set_option linter.unusedVariables false
section
variable {w : World} {g : Nat} {h : Dh}
set_option maxRecDepth 100000 in
set_option maxHeartbeats 8000000 in
theorem dhFrame_ok (d : List UInt8) (h3 : h.st = 3) (s0 : 0 ≤ h.ss) (s1 : h.ss ≤ 65535) (hd : d.length ≤ 1494) (hB : Blk w g (dhC h) 254) : Calls Tryz.prog 59 #[.pointer (some ⟨g, 0, none⟩), .string (B d)] w fun e w' => e = .returned (.tuple #[.agg (ethC h.k h.m 34916 (discB 0 h.ss d)), .int .i64 0]) ∧ Fr [] w w' := by
  obtain ⟨⟨m1, m2, m3, m4, m5, m6⟩, sv, un, rt, wt, st, ss, ⟨a1, a2, a3, a4, a5, a6⟩, ck, hc, tk, ag⟩ := h
  obtain rfl : st = 3 := h3
  have hF := (Fr.refl [] w).alloc (.cells #[.int .u8 0, .int .u8 0, .int .u8 0, .int .u8 0, .int .u8 0, .int .u8 0, .int .u8 0, .int .u8 0, .int .u8 0, .int .u8 0, .int .u8 0, .int .u8 0, .int .i64 0, .string ⟨#[]⟩] 113 (0, 0))
  have HX : Hid (∀ W, Fr [] w W → W.cell? ⟨g, 10, none⟩ = some (.int .i64 3) ∧ W.cell? ⟨g, 11, none⟩ = some (.int .i64 ss) ∧ W.cell? ⟨g, 0, none⟩ = some (.int .u8 m1) ∧ W.cell? ⟨g, 1, none⟩ = some (.int .u8 m2) ∧ W.cell? ⟨g, 2, none⟩ = some (.int .u8 m3) ∧ W.cell? ⟨g, 3, none⟩ = some (.int .u8 m4) ∧ W.cell? ⟨g, 4, none⟩ = some (.int .u8 m5) ∧ W.cell? ⟨g, 5, none⟩ = some (.int .u8 m6) ∧ W.cell? ⟨g, 12, none⟩ = some (.int .u8 a1) ∧ W.cell? ⟨g, 13, none⟩ = some (.int .u8 a2) ∧ W.cell? ⟨g, 14, none⟩ = some (.int .u8 a3) ∧ W.cell? ⟨g, 15, none⟩ = some (.int .u8 a4) ∧ W.cell? ⟨g, 16, none⟩ = some (.int .u8 a5) ∧ W.cell? ⟨g, 17, none⟩ = some (.int .u8 a6)) := Lib.hid fun W hW => ⟨(hW.blk hB (by simp)).c 10 _ rfl, (hW.blk hB (by simp)).c 11 _ rfl, (hW.blk hB (by simp)).c 0 _ rfl, (hW.blk hB (by simp)).c 1 _ rfl, (hW.blk hB (by simp)).c 2 _ rfl, (hW.blk hB (by simp)).c 3 _ rfl, (hW.blk hB (by simp)).c 4 _ rfl, (hW.blk hB (by simp)).c 5 _ rfl, (hW.blk hB (by simp)).c 12 _ rfl, (hW.blk hB (by simp)).c 13 _ rfl, (hW.blk hB (by simp)).c 14 _ rfl, (hW.blk hB (by simp)).c 15 _ rfl, (hW.blk hB (by simp)).c 16 _ rfl, (hW.blk hB (by simp)).c 17 _ rfl⟩
  obtain ⟨z10, z11, _⟩ := HX.out _ hF
  have hN := Blk.new w #[.int .u8 0, .int .u8 0, .int .u8 0, .int .u8 0, .int .u8 0, .int .u8 0, .int .u8 0, .int .u8 0, .int .u8 0, .int .u8 0, .int .u8 0, .int .u8 0, .int .i64 0, .string ⟨#[]⟩] 113
  have P := Lib.hid fun W => rdput_ok W 0 ss d (by decide) (by decide) s0 s1 hd
  obtain ⟨q, hq⟩ : ∃ q, w.heap.size = q := ⟨_, rfl⟩
  have hlt : g < q := by rw [← hq]; exact hB.lt
  clear hB s0 s1 hd
  go_enter Tryz.func59, Tryz.ntmps59
  go_wp2_with fail
  refine (P.out _).mono ?_
  rintro e w1 ⟨rfl, hF1⟩
  have hN1 := hF1.blk hN (by simp)
  rw [hq] at hN1
  obtain ⟨x10, x11, x0, x1, x2, x3, x4, x5, x12, x13, x14, x15, x16, x17⟩ := HX.out _ (hF.trans hF1)
  have HF := Lib.hid (hF.trans hF1)
  obtain ⟨DB, hDB⟩ : ∃ x, discB 0 ss d = x := ⟨_, rfl⟩
  have HDB := Lib.hid hDB
  (try rw [hDB])
  have HN1 := Lib.hid hN1
  have f0 := hN1.fz 0
  have e0 := hN1.c 0 _ rfl
  have f1 := hN1.fz 1
  have e1 := hN1.c 1 _ rfl
  have f2 := hN1.fz 2
  have e2 := hN1.c 2 _ rfl
  have f3 := hN1.fz 3
  have e3 := hN1.c 3 _ rfl
  have f4 := hN1.fz 4
  have e4 := hN1.c 4 _ rfl
  have f5 := hN1.fz 5
  have e5 := hN1.c 5 _ rfl
  have f6 := hN1.fz 6
  have e6 := hN1.c 6 _ rfl
  have f7 := hN1.fz 7
  have e7 := hN1.c 7 _ rfl
  have f8 := hN1.fz 8
  have e8 := hN1.c 8 _ rfl
  have f9 := hN1.fz 9
  have e9 := hN1.c 9 _ rfl
  have f10 := hN1.fz 10
  have e10 := hN1.c 10 _ rfl
  have f11 := hN1.fz 11
  have e11 := hN1.c 11 _ rfl
  have f12 := hN1.fz 12
  have e12 := hN1.c 12 _ rfl
  have f13 := hN1.fz 13
  have e13 := hN1.c 13 _ rfl
  clear z10 z11 hN hF hF1 P hDB hN1
  go_wp2_with fail
  go_region
  go_wp2_with fail
  have hBB := (((((((((((((((HN1.out).set 0 (.int .u8 a1)).set 1 (.int .u8 a2)).set 2 (.int .u8 a3)).set 3 (.int .u8 a4)).set 4 (.int .u8 a5)).set 5 (.int .u8 a6)).set 6 (.int .u8 m1)).set 7 (.int .u8 m2)).set 8 (.int .u8 m3)).set 9 (.int .u8 m4)).set 10 (.int .u8 m5)).set 11 (.int .u8 m6)).set 12 (.int .i64 34916)).set 13 (.string (Go.Proofs.YtfchbppfbepelaaGreat.B DB))).drew
  have hFF := (((((((((((((((Fr.refl [q] w1).setCell (p := ⟨q, 0, none⟩) (by simp) (.int .u8 a1)).setCell (p := ⟨q, 1, none⟩) (by simp) (.int .u8 a2)).setCell (p := ⟨q, 2, none⟩) (by simp) (.int .u8 a3)).setCell (p := ⟨q, 3, none⟩) (by simp) (.int .u8 a4)).setCell (p := ⟨q, 4, none⟩) (by simp) (.int .u8 a5)).setCell (p := ⟨q, 5, none⟩) (by simp) (.int .u8 a6)).setCell (p := ⟨q, 6, none⟩) (by simp) (.int .u8 m1)).setCell (p := ⟨q, 7, none⟩) (by simp) (.int .u8 m2)).setCell (p := ⟨q, 8, none⟩) (by simp) (.int .u8 m3)).setCell (p := ⟨q, 9, none⟩) (by simp) (.int .u8 m4)).setCell (p := ⟨q, 10, none⟩) (by simp) (.int .u8 m5)).setCell (p := ⟨q, 11, none⟩) (by simp) (.int .u8 m6)).setCell (p := ⟨q, 12, none⟩) (by simp) (.int .i64 34916)).setCell (p := ⟨q, 13, none⟩) (by simp) (.string (Go.Proofs.YtfchbppfbepelaaGreat.B DB))).drew
  simp only [List.setIfInBounds_toArray, List.set_cons_zero, List.set_cons_succ] at hBB
  have hFR := HF.out.sub hFF (fun x hx => by simp at hx; subst hx; exact Or.inr (by omega))
  exact ret_cell2 4 5 113 rfl q 113 _ _ hBB rfl Tryz.underlying113 rfl (by kernel_rfl) rfl ⟨by first | rfl | (simp [ethC]; done) | (unfold ethC; rw [HDB.out]; rfl), hFR⟩
end
end Go.Proofs.YtfchbppfbepelaaGreat

/- the document's host: Frame, Live, too long. -/
namespace Go.Proofs.YtfchbppfbepelaaGreat
open Go.RowKit
set_option linter.unusedVariables false
section
variable {w : World} {g : Nat} {h : Dh}
set_option maxRecDepth 100000 in
set_option maxHeartbeats 8000000 in
theorem dhFrame_long (d : List UInt8) (h3 : h.st = 3) (s0 : 0 ≤ h.ss) (s1 : h.ss ≤ 65535) (hd : 1494 < d.length) (hB : Blk w g (dhC h) 254) : Calls Tryz.prog 59 #[.pointer (some ⟨g, 0, none⟩), .string (B d)] w fun e w' => e = .returned (.tuple #[.agg #[.int .u8 0, .int .u8 0, .int .u8 0, .int .u8 0, .int .u8 0, .int .u8 0, .int .u8 0, .int .u8 0, .int .u8 0, .int .u8 0, .int .u8 0, .int .u8 0, .int .i64 0, .string ⟨#[]⟩], .int .i64 2]) ∧ Fr [] w w' := by
  obtain ⟨⟨m1, m2, m3, m4, m5, m6⟩, sv, un, rt, wt, st, ss, ⟨a1, a2, a3, a4, a5, a6⟩, ck, hc, tk, ag⟩ := h
  obtain rfl : st = 3 := h3
  have hF := (Fr.refl [] w).alloc (.cells #[.int .u8 0, .int .u8 0, .int .u8 0, .int .u8 0, .int .u8 0, .int .u8 0, .int .u8 0, .int .u8 0, .int .u8 0, .int .u8 0, .int .u8 0, .int .u8 0, .int .i64 0, .string ⟨#[]⟩] 113 (0, 0))
  have HX : Hid (∀ W, Fr [] w W → W.cell? ⟨g, 10, none⟩ = some (.int .i64 3) ∧ W.cell? ⟨g, 11, none⟩ = some (.int .i64 ss) ∧ W.cell? ⟨g, 0, none⟩ = some (.int .u8 m1) ∧ W.cell? ⟨g, 1, none⟩ = some (.int .u8 m2) ∧ W.cell? ⟨g, 2, none⟩ = some (.int .u8 m3) ∧ W.cell? ⟨g, 3, none⟩ = some (.int .u8 m4) ∧ W.cell? ⟨g, 4, none⟩ = some (.int .u8 m5) ∧ W.cell? ⟨g, 5, none⟩ = some (.int .u8 m6) ∧ W.cell? ⟨g, 12, none⟩ = some (.int .u8 a1) ∧ W.cell? ⟨g, 13, none⟩ = some (.int .u8 a2) ∧ W.cell? ⟨g, 14, none⟩ = some (.int .u8 a3) ∧ W.cell? ⟨g, 15, none⟩ = some (.int .u8 a4) ∧ W.cell? ⟨g, 16, none⟩ = some (.int .u8 a5) ∧ W.cell? ⟨g, 17, none⟩ = some (.int .u8 a6)) := Lib.hid fun W hW => ⟨(hW.blk hB (by simp)).c 10 _ rfl, (hW.blk hB (by simp)).c 11 _ rfl, (hW.blk hB (by simp)).c 0 _ rfl, (hW.blk hB (by simp)).c 1 _ rfl, (hW.blk hB (by simp)).c 2 _ rfl, (hW.blk hB (by simp)).c 3 _ rfl, (hW.blk hB (by simp)).c 4 _ rfl, (hW.blk hB (by simp)).c 5 _ rfl, (hW.blk hB (by simp)).c 12 _ rfl, (hW.blk hB (by simp)).c 13 _ rfl, (hW.blk hB (by simp)).c 14 _ rfl, (hW.blk hB (by simp)).c 15 _ rfl, (hW.blk hB (by simp)).c 16 _ rfl, (hW.blk hB (by simp)).c 17 _ rfl⟩
  obtain ⟨z10, z11, _⟩ := HX.out _ hF
  have hN := Blk.new w #[.int .u8 0, .int .u8 0, .int .u8 0, .int .u8 0, .int .u8 0, .int .u8 0, .int .u8 0, .int .u8 0, .int .u8 0, .int .u8 0, .int .u8 0, .int .u8 0, .int .i64 0, .string ⟨#[]⟩] 113
  have P := Lib.hid fun W => rdput_long W 0 ss d (by decide) (by decide) s0 s1 hd
  obtain ⟨q, hq⟩ : ∃ q, w.heap.size = q := ⟨_, rfl⟩
  have hlt : g < q := by rw [← hq]; exact hB.lt
  clear hB s0 s1 hd
  go_enter Tryz.func59, Tryz.ntmps59
  go_wp2_with fail
  refine (P.out _).mono ?_
  rintro e w1 ⟨rfl, hF1⟩
  have hN1 := hF1.blk hN (by simp)
  rw [hq] at hN1
  obtain ⟨x10, x11, x0, x1, x2, x3, x4, x5, x12, x13, x14, x15, x16, x17⟩ := HX.out _ (hF.trans hF1)
  have HF := Lib.hid (hF.trans hF1)
  have HN1 := Lib.hid hN1
  have f0 := hN1.fz 0
  have e0 := hN1.c 0 _ rfl
  have f1 := hN1.fz 1
  have e1 := hN1.c 1 _ rfl
  have f2 := hN1.fz 2
  have e2 := hN1.c 2 _ rfl
  have f3 := hN1.fz 3
  have e3 := hN1.c 3 _ rfl
  have f4 := hN1.fz 4
  have e4 := hN1.c 4 _ rfl
  have f5 := hN1.fz 5
  have e5 := hN1.c 5 _ rfl
  have f6 := hN1.fz 6
  have e6 := hN1.c 6 _ rfl
  have f7 := hN1.fz 7
  have e7 := hN1.c 7 _ rfl
  have f8 := hN1.fz 8
  have e8 := hN1.c 8 _ rfl
  have f9 := hN1.fz 9
  have e9 := hN1.c 9 _ rfl
  have f10 := hN1.fz 10
  have e10 := hN1.c 10 _ rfl
  have f11 := hN1.fz 11
  have e11 := hN1.c 11 _ rfl
  have f12 := hN1.fz 12
  have e12 := hN1.c 12 _ rfl
  have f13 := hN1.fz 13
  have e13 := hN1.c 13 _ rfl
  clear z10 z11 hN hF hF1 P hN1
  go_wp2_with fail
  have hBB := ((((((((((((((HN1.out).set 0 (.int .u8 0)).set 1 (.int .u8 0)).set 2 (.int .u8 0)).set 3 (.int .u8 0)).set 4 (.int .u8 0)).set 5 (.int .u8 0)).set 6 (.int .u8 0)).set 7 (.int .u8 0)).set 8 (.int .u8 0)).set 9 (.int .u8 0)).set 10 (.int .u8 0)).set 11 (.int .u8 0)).set 12 (.int .i64 0)).set 13 (.string ⟨#[]⟩)
  have hFF := ((((((((((((((Fr.refl [q] w1).setCell (p := ⟨q, 0, none⟩) (by simp) (.int .u8 0)).setCell (p := ⟨q, 1, none⟩) (by simp) (.int .u8 0)).setCell (p := ⟨q, 2, none⟩) (by simp) (.int .u8 0)).setCell (p := ⟨q, 3, none⟩) (by simp) (.int .u8 0)).setCell (p := ⟨q, 4, none⟩) (by simp) (.int .u8 0)).setCell (p := ⟨q, 5, none⟩) (by simp) (.int .u8 0)).setCell (p := ⟨q, 6, none⟩) (by simp) (.int .u8 0)).setCell (p := ⟨q, 7, none⟩) (by simp) (.int .u8 0)).setCell (p := ⟨q, 8, none⟩) (by simp) (.int .u8 0)).setCell (p := ⟨q, 9, none⟩) (by simp) (.int .u8 0)).setCell (p := ⟨q, 10, none⟩) (by simp) (.int .u8 0)).setCell (p := ⟨q, 11, none⟩) (by simp) (.int .u8 0)).setCell (p := ⟨q, 12, none⟩) (by simp) (.int .i64 0)).setCell (p := ⟨q, 13, none⟩) (by simp) (.string ⟨#[]⟩)
  simp only [List.setIfInBounds_toArray, List.set_cons_zero, List.set_cons_succ] at hBB
  have hFR := HF.out.sub hFF (fun x hx => by simp at hx; subst hx; exact Or.inr (by omega))
  exact ret_cell2 4 5 113 rfl q 113 _ _ hBB rfl Tryz.underlying113 rfl (by kernel_rfl) rfl ⟨rfl, hFR⟩
end
end Go.Proofs.YtfchbppfbepelaaGreat

