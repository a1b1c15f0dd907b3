/- the document's host: Shows. -/
import Derived.Test.YtfchbppfbepelaaGreatDHost1
namespace Go.Proofs.YtfchbppfbepelaaGreat
open Go.RowKit
set_option linter.unusedVariables false
section
variable {w : World} {g : Nat} {h : Dh}
set_option maxRecDepth 100000 in
set_option maxHeartbeats 8000000 in
theorem dhShows_two (h2 : h.st = 2) (hB : Blk w g (dhC h) 254) : Calls Tryz.prog 64 #[.pointer (some ⟨g, 0, none⟩)] w fun e w' => e = .returned (.tuple #[.int .i64 2, .agg (mcL h.k).toArray, .int .i64 0]) ∧ Fr [] w w' := by
  obtain ⟨m, sv, un, rt, wt, st, ss, ⟨a1, a2, a3, a4, a5, a6⟩, ck, hc, tk, ag⟩ := h
  obtain rfl : st = 2 := h2
  have hF := (Fr.refl [] w).alloc (.cells #[.int .u8 0, .int .u8 0, .int .u8 0, .int .u8 0, .int .u8 0, .int .u8 0] 104 (0, 0))
  have c10 : w.cell? ⟨g, 10, none⟩ = some (.int .i64 2) := hB.c 10 _ rfl
  have d10 : (w.alloc (.cells #[.int .u8 0, .int .u8 0, .int .u8 0, .int .u8 0, .int .u8 0, .int .u8 0] 104 (0, 0))).cell? ⟨g, 10, none⟩ = some (.int .i64 2) := (hF.blk hB (by simp)).c 10 _ rfl
  have c12 : w.cell? ⟨g, 12, none⟩ = some (.int .u8 a1) := hB.c 12 _ rfl
  have d12 : (w.alloc (.cells #[.int .u8 0, .int .u8 0, .int .u8 0, .int .u8 0, .int .u8 0, .int .u8 0] 104 (0, 0))).cell? ⟨g, 12, none⟩ = some (.int .u8 a1) := (hF.blk hB (by simp)).c 12 _ rfl
  have c13 : w.cell? ⟨g, 13, none⟩ = some (.int .u8 a2) := hB.c 13 _ rfl
  have d13 : (w.alloc (.cells #[.int .u8 0, .int .u8 0, .int .u8 0, .int .u8 0, .int .u8 0, .int .u8 0] 104 (0, 0))).cell? ⟨g, 13, none⟩ = some (.int .u8 a2) := (hF.blk hB (by simp)).c 13 _ rfl
  have c14 : w.cell? ⟨g, 14, none⟩ = some (.int .u8 a3) := hB.c 14 _ rfl
  have d14 : (w.alloc (.cells #[.int .u8 0, .int .u8 0, .int .u8 0, .int .u8 0, .int .u8 0, .int .u8 0] 104 (0, 0))).cell? ⟨g, 14, none⟩ = some (.int .u8 a3) := (hF.blk hB (by simp)).c 14 _ rfl
  have c15 : w.cell? ⟨g, 15, none⟩ = some (.int .u8 a4) := hB.c 15 _ rfl
  have d15 : (w.alloc (.cells #[.int .u8 0, .int .u8 0, .int .u8 0, .int .u8 0, .int .u8 0, .int .u8 0] 104 (0, 0))).cell? ⟨g, 15, none⟩ = some (.int .u8 a4) := (hF.blk hB (by simp)).c 15 _ rfl
  have c16 : w.cell? ⟨g, 16, none⟩ = some (.int .u8 a5) := hB.c 16 _ rfl
  have d16 : (w.alloc (.cells #[.int .u8 0, .int .u8 0, .int .u8 0, .int .u8 0, .int .u8 0, .int .u8 0] 104 (0, 0))).cell? ⟨g, 16, none⟩ = some (.int .u8 a5) := (hF.blk hB (by simp)).c 16 _ rfl
  have c17 : w.cell? ⟨g, 17, none⟩ = some (.int .u8 a6) := hB.c 17 _ rfl
  have d17 : (w.alloc (.cells #[.int .u8 0, .int .u8 0, .int .u8 0, .int .u8 0, .int .u8 0, .int .u8 0] 104 (0, 0))).cell? ⟨g, 17, none⟩ = some (.int .u8 a6) := (hF.blk hB (by simp)).c 17 _ rfl
  have hN := Blk.new w #[.int .u8 0, .int .u8 0, .int .u8 0, .int .u8 0, .int .u8 0, .int .u8 0] 104
  have hg := hB.lt
  clear hB
  go_enter Tryz.func64, Tryz.ntmps64
  go_wp2_with fail
  go_region
  go_wp2_with fail
  exact ret_cell3 2 3 4 104 rfl w.heap.size 104 _ _ (Blk.new w _ _).drew rfl Tryz.underlying104 rfl (by kernel_rfl) rfl ⟨rfl, ((Fr.refl _ _).alloc _).drew⟩
set_option maxRecDepth 100000 in
set_option maxHeartbeats 8000000 in
theorem dhShows_three (h2 : h.st = 3) (hB : Blk w g (dhC h) 254) : Calls Tryz.prog 64 #[.pointer (some ⟨g, 0, none⟩)] w fun e w' => e = .returned (.tuple #[.int .i64 3, .agg (mcL h.k).toArray, .int .i64 h.ss]) ∧ Fr [] w w' := by
  obtain ⟨m, sv, un, rt, wt, st, ss, ⟨a1, a2, a3, a4, a5, a6⟩, ck, hc, tk, ag⟩ := h
  obtain rfl : st = 3 := h2
  have hF := (Fr.refl [] w).alloc (.cells #[.int .u8 0, .int .u8 0, .int .u8 0, .int .u8 0, .int .u8 0, .int .u8 0] 104 (0, 0))
  have c10 : w.cell? ⟨g, 10, none⟩ = some (.int .i64 3) := hB.c 10 _ rfl
  have d10 : (w.alloc (.cells #[.int .u8 0, .int .u8 0, .int .u8 0, .int .u8 0, .int .u8 0, .int .u8 0] 104 (0, 0))).cell? ⟨g, 10, none⟩ = some (.int .i64 3) := (hF.blk hB (by simp)).c 10 _ rfl
  have c11 : w.cell? ⟨g, 11, none⟩ = some (.int .i64 ss) := hB.c 11 _ rfl
  have d11 : (w.alloc (.cells #[.int .u8 0, .int .u8 0, .int .u8 0, .int .u8 0, .int .u8 0, .int .u8 0] 104 (0, 0))).cell? ⟨g, 11, none⟩ = some (.int .i64 ss) := (hF.blk hB (by simp)).c 11 _ rfl
  have c12 : w.cell? ⟨g, 12, none⟩ = some (.int .u8 a1) := hB.c 12 _ rfl
  have d12 : (w.alloc (.cells #[.int .u8 0, .int .u8 0, .int .u8 0, .int .u8 0, .int .u8 0, .int .u8 0] 104 (0, 0))).cell? ⟨g, 12, none⟩ = some (.int .u8 a1) := (hF.blk hB (by simp)).c 12 _ rfl
  have c13 : w.cell? ⟨g, 13, none⟩ = some (.int .u8 a2) := hB.c 13 _ rfl
  have d13 : (w.alloc (.cells #[.int .u8 0, .int .u8 0, .int .u8 0, .int .u8 0, .int .u8 0, .int .u8 0] 104 (0, 0))).cell? ⟨g, 13, none⟩ = some (.int .u8 a2) := (hF.blk hB (by simp)).c 13 _ rfl
  have c14 : w.cell? ⟨g, 14, none⟩ = some (.int .u8 a3) := hB.c 14 _ rfl
  have d14 : (w.alloc (.cells #[.int .u8 0, .int .u8 0, .int .u8 0, .int .u8 0, .int .u8 0, .int .u8 0] 104 (0, 0))).cell? ⟨g, 14, none⟩ = some (.int .u8 a3) := (hF.blk hB (by simp)).c 14 _ rfl
  have c15 : w.cell? ⟨g, 15, none⟩ = some (.int .u8 a4) := hB.c 15 _ rfl
  have d15 : (w.alloc (.cells #[.int .u8 0, .int .u8 0, .int .u8 0, .int .u8 0, .int .u8 0, .int .u8 0] 104 (0, 0))).cell? ⟨g, 15, none⟩ = some (.int .u8 a4) := (hF.blk hB (by simp)).c 15 _ rfl
  have c16 : w.cell? ⟨g, 16, none⟩ = some (.int .u8 a5) := hB.c 16 _ rfl
  have d16 : (w.alloc (.cells #[.int .u8 0, .int .u8 0, .int .u8 0, .int .u8 0, .int .u8 0, .int .u8 0] 104 (0, 0))).cell? ⟨g, 16, none⟩ = some (.int .u8 a5) := (hF.blk hB (by simp)).c 16 _ rfl
  have c17 : w.cell? ⟨g, 17, none⟩ = some (.int .u8 a6) := hB.c 17 _ rfl
  have d17 : (w.alloc (.cells #[.int .u8 0, .int .u8 0, .int .u8 0, .int .u8 0, .int .u8 0, .int .u8 0] 104 (0, 0))).cell? ⟨g, 17, none⟩ = some (.int .u8 a6) := (hF.blk hB (by simp)).c 17 _ rfl
  have hN := Blk.new w #[.int .u8 0, .int .u8 0, .int .u8 0, .int .u8 0, .int .u8 0, .int .u8 0] 104
  have hg := hB.lt
  clear hB
  go_enter Tryz.func64, Tryz.ntmps64
  go_wp2_with fail
  go_region
  go_wp2_with fail
  exact ret_cell3 2 3 4 104 rfl w.heap.size 104 _ _ (Blk.new w _ _).drew rfl Tryz.underlying104 rfl (by kernel_rfl) rfl ⟨rfl, ((Fr.refl _ _).alloc _).drew⟩
theorem dhShows (hB : Blk w g (dhC h) 254) : Calls Tryz.prog 64 #[.pointer (some ⟨g, 0, none⟩)] w fun e w' => e = .returned (.tuple #[.int .i64 (dhShow h).1, .agg (mcL (dhShow h).2.1).toArray, .int .i64 (dhShow h).2.2]) ∧ Fr [] w w' := by
  unfold dhShow
  by_cases h2 : h.st = 2
  · rw [if_pos h2]; exact dhShows_two h2 hB
  · rw [if_neg h2]
    by_cases h3 : h.st = 3
    · rw [if_pos h3]; exact dhShows_three h3 hB
    · rw [if_neg h3]; exact dhShows_off h2 h3 hB
end
end Go.Proofs.YtfchbppfbepelaaGreat
