/- PoolNone, walked. -/
import Derived.Test.YtnenmgankgadcaaPool5
import Derived.Test.YtnenmgankgadcaaPoolW
namespace Go.Proofs.Ytnenmgankgadcaa
open Go.RowKit Go.Maps
set_option linter.unusedVariables false

/-- a pool that is none: nil, or zero -/
def NoPool (w : World) (p : Option Addr) : Prop := ∀ W, Fr [] w W → Calls Try.prog 31 #[.pointer p] W fun e w' => e = .returned (.bool true) ∧ W = w'
theorem NoPool.on {w w' : World} {p : Option Addr} (h : NoPool w p) (hF : Fr [] w w') : NoPool w' p := fun W hW => h W (hF.trans hW)
section
variable {w : World} {p : Option Addr}
set_option maxRecDepth 100000 in
theorem has_none (k : Ky) (h : NoPool w p) :
    Calls Try.prog 19 #[.pointer p, .agg (kyC k)] w fun e w' => e = .returned (.tuple #[.agg #[.int .u8 0, .int .u8 0, .int .u8 0, .int .u8 0], .bool false]) ∧ Fr [] w w' := by
  have HN := Lib.hid h
  obtain ⟨k1, k2⟩ := k
  unfold kyC
  clear h
  go_enter Try.func19, Try.ntmps19
  go_wp2_with fail
  refine (HN.out _ (((Fr.refl _ _).alloc _).alloc _)).mono ?_
  rintro e w1 ⟨rfl, rfl⟩
  have hB := Blk.new (w.alloc (.cells #[.int .i64 k1, .int .i64 k2] 36 (0, 0))) #[.int .u8 0, .int .u8 0, .int .u8 0, .int .u8 0] 23
  rw [show (w.alloc (.cells #[.int .i64 k1, .int .i64 k2] 36 (0, 0))).heap.size = w.heap.size + 1 by simp] at hB
  go_wp2_with fail
  exact ret_cell2 4 5 23 rfl (w.heap.size + 1) 23 #[.int .u8 0, .int .u8 0, .int .u8 0, .int .u8 0] _ hB rfl Try.underlying23 rfl (by kernel_rfl) rfl ⟨rfl, ((Fr.refl _ _).alloc _).alloc _⟩
set_option maxRecDepth 100000 in
theorem who_none (a : Ad) (h : NoPool w p) :
    Calls Try.prog 21 #[.pointer p, .agg (adC a)] w fun e w' => e = .returned (.tuple #[.agg #[.int .i64 0, .int .i64 0], .bool false]) ∧ Fr [] w w' := by
  have HN := Lib.hid h
  obtain ⟨a1, a2, a3, a4⟩ := a
  unfold adC adr
  clear h
  go_enter Try.func21, Try.ntmps21
  go_wp2_with fail
  refine (HN.out _ (((Fr.refl _ _).alloc _).alloc _)).mono ?_
  rintro e w1 ⟨rfl, rfl⟩
  have hB := Blk.new (w.alloc (.cells #[.int .u8 a1, .int .u8 a2, .int .u8 a3, .int .u8 a4] 23 (0, 0))) #[.int .i64 0, .int .i64 0] 36
  rw [show (w.alloc (.cells #[.int .u8 a1, .int .u8 a2, .int .u8 a3, .int .u8 a4] 23 (0, 0))).heap.size = w.heap.size + 1 by simp] at hB
  go_wp2_with fail
  exact ret_cell2 4 5 36 rfl (w.heap.size + 1) 36 #[.int .i64 0, .int .i64 0] _ hB rfl Try.underlying36 rfl (by kernel_rfl) rfl ⟨rfl, ((Fr.refl _ _).alloc _).alloc _⟩
theorem free_none (h : NoPool w p) :
    Calls Try.prog 23 #[.pointer p] w fun e w' => e = .returned (.int .i64 0) ∧ Fr [] w w' := by
  have HN := Lib.hid h
  clear h
  go_enter Try.func23, Try.ntmps23
  go_wp2_with fail
  refine (HN.out _ (Fr.refl _ _)).mono ?_
  rintro e w1 ⟨rfl, rfl⟩
  go_wp2_with fail
  go_ret
  exact ⟨rfl, Fr.refl _ _⟩
set_option maxRecDepth 100000 in
theorem give_none (k : Ky) (h : NoPool w p) :
    Calls Try.prog 15 #[.pointer p, .agg (kyC k)] w fun e w' => e = .returned (.int .i64 3) ∧ Fr [] w w' := by
  have HH := Lib.hid fun (W : World) (hW : Fr [] w W) => has_none k (h.on hW)
  obtain ⟨k1, k2⟩ := k
  unfold kyC at HH ⊢
  clear h
  go_enter Try.func15, Try.ntmps15
  go_wp2_with fail
  refine (HH.out _ ((Fr.refl _ _).alloc _)).mono ?_
  rintro e w1 ⟨rfl, hF1⟩
  go_wp2_with fail
  go_ret
  exact ⟨rfl, (((Fr.refl _ _).alloc _).trans hF1).alloc _⟩
set_option maxRecDepth 100000 in
set_option maxHeartbeats 1000000 in
theorem take_none (k : Ky) (h : NoPool w p) :
    Calls Try.prog 14 #[.pointer p, .agg (kyC k)] w fun e w' => e = .returned (.tuple #[.agg #[.int .u8 0, .int .u8 0, .int .u8 0, .int .u8 0], .int .i64 10]) ∧ Fr [] w w' := by
  have HH := Lib.hid fun (W : World) (hW : Fr [] w W) => has_none k (h.on hW)
  have HN := Lib.hid h
  obtain ⟨k1, k2⟩ := k
  unfold kyC at HH ⊢
  clear h
  go_enter Try.func14, Try.ntmps14
  go_wp2_with fail
  refine (HH.out _ (((Fr.refl _ _).alloc _).alloc _)).mono ?_
  rintro e w1 ⟨rfl, hF1⟩
  have hFa := (((Fr.refl [] w).alloc (.cells #[.int .i64 k1, .int .i64 k2] 36 (0, 0))).alloc (.cells #[.int .u8 0, .int .u8 0, .int .u8 0, .int .u8 0] 23 (0, 0))).trans hF1
  have hBz : Blk w1 (w.heap.size + 1) #[.int .u8 0, .int .u8 0, .int .u8 0, .int .u8 0] 23 := by
    have := Blk.new (w.alloc (.cells #[.int .i64 k1, .int .i64 k2] 36 (0, 0))) #[.int .u8 0, .int .u8 0, .int .u8 0, .int .u8 0] 23
    rw [show (w.alloc (.cells #[.int .i64 k1, .int .i64 k2] 36 (0, 0))).heap.size = w.heap.size + 1 by simp] at this
    exact hF1.blk this (by simp)
  go_wp2_with fail
  refine (HN.out _ (hFa.alloc _)).mono ?_
  rintro e w2 ⟨rfl, rfl⟩
  obtain ⟨W0, hW0⟩ : ∃ W0, w1.alloc (.cells #[.int .u8 0, .int .u8 0, .int .u8 0, .int .u8 0] 23 (0, 0)) = W0 := ⟨_, rfl⟩
  have hF0 : Fr [] w W0 := by rw [← hW0]; exact hFa.alloc _
  have hZ0 : Blk W0 (w.heap.size + 1) #[.int .u8 0, .int .u8 0, .int .u8 0, .int .u8 0] 23 := by rw [← hW0]; exact hBz.alloc _
  rw [hW0]
  have z0 : W0.cell? ⟨w.heap.size + 1, 0, none⟩ = some (.int .u8 0) := hZ0.c 0 _ rfl
  have z1 : W0.cell? ⟨w.heap.size + 1, 1, none⟩ = some (.int .u8 0) := hZ0.c 1 _ rfl
  have z2 : W0.cell? ⟨w.heap.size + 1, 2, none⟩ = some (.int .u8 0) := hZ0.c 2 _ rfl
  have z3 : W0.cell? ⟨w.heap.size + 1, 3, none⟩ = some (.int .u8 0) := hZ0.c 3 _ rfl
  have f0 := hZ0.fz 0
  have f1 := hZ0.fz 1
  have f2 := hZ0.fz 2
  have f3 := hZ0.fz 3
  have hB4 := (((hZ0.set 0 (.int .u8 0)).set 1 (.int .u8 0)).set 2 (.int .u8 0)).set 3 (.int .u8 0)
  have hF8 := (((hF0.setNew (p := ⟨w.heap.size + 1, 0, none⟩) (by simp) (.int .u8 0)).setNew (p := ⟨w.heap.size + 1, 1, none⟩) (by simp) (.int .u8 0)).setNew (p := ⟨w.heap.size + 1, 2, none⟩) (by simp) (.int .u8 0)).setNew (p := ⟨w.heap.size + 1, 3, none⟩) (by simp) (.int .u8 0)
  clear hW0 hBz hFa hF1 hF0 hZ0 HH HN
  go_wp2_with fail
  exact ret_cell2 4 5 23 rfl (w.heap.size + 1) 23 #[.int .u8 0, .int .u8 0, .int .u8 0, .int .u8 0] _ hB4 rfl Try.underlying23 rfl (by kernel_rfl) rfl ⟨rfl, hF8⟩
end
set_option maxRecDepth 100000 in
set_option maxHeartbeats 4000000 in
theorem poolNone_walk (w : World) (k : Ky) (hk : KyOk k) (a : Ad) (ha : AdOk a) :
    Calls Try.prog 7 #[.agg (kyC k), .agg (adC a)] w fun e w' => e = .returned (.bool true) ∧ Below w.heap.size w w' := by
  have N0 := Lib.hid fun (W : World) => show NoPool W none from fun W' _ => pnone_nil
  have T1 := Lib.hid fun (W : World) => take_none (w := W) (p := none) k fun W' _ => pnone_nil
  have H1 := Lib.hid fun (W : World) => has_none (w := W) (p := none) k fun W' _ => pnone_nil
  have G1 := Lib.hid fun (W : World) => give_none (w := W) (p := none) k fun W' _ => pnone_nil
  have F1 := Lib.hid fun (W : World) => free_none (w := W) (p := none) fun W' _ => pnone_nil
  have T2 := Lib.hid fun (W : World) (g : Nat) (hN : NoPool W (some ⟨g, 0, none⟩)) => take_none k hN
  have G2 := Lib.hid fun (W : World) (g : Nat) (hN : NoPool W (some ⟨g, 0, none⟩)) => give_none k hN
  have W2 := Lib.hid fun (W : World) (g : Nat) (hN : NoPool W (some ⟨g, 0, none⟩)) => who_none a hN
  obtain ⟨k1, k2⟩ := k
  obtain ⟨a1, a2, a3, a4⟩ := a
  unfold kyC at T1 H1 G1 T2 G2 ⊢
  unfold adC adr at W2 ⊢
  simp only at T1 H1 G1 T2 G2 W2 ⊢
  clear hk ha
  go_enter Try.func7, Try.ntmps7
  go_wp2_with fail
  obtain ⟨W0, hW0⟩ : ∃ W0, ((w.alloc (.cells #[.int .i64 k1, .int .i64 k2] 36 (0, 0))).alloc (.cells #[.int .u8 a1, .int .u8 a2, .int .u8 a3, .int .u8 a4] 23 (0, 0))).alloc (.cells #[.int .u8 0, .int .u8 0, .int .u8 0, .int .u8 0, .int .i64 0, .map none, .map none] 61 (0, 0)) = W0 := ⟨_, rfl⟩
  have hF0 : Fr [] w W0 := by rw [← hW0]; exact (((Fr.refl _ _).alloc _).alloc _).alloc _
  have hK0 : Blk W0 w.heap.size #[.int .i64 k1, .int .i64 k2] 36 := by rw [← hW0]; exact ((Blk.new w _ _).alloc _).alloc _
  have hA0 : Blk W0 (w.heap.size + 1) #[.int .u8 a1, .int .u8 a2, .int .u8 a3, .int .u8 a4] 23 := by
    rw [← hW0]
    have := (Blk.new (w.alloc (.cells #[.int .i64 k1, .int .i64 k2] 36 (0, 0))) #[.int .u8 a1, .int .u8 a2, .int .u8 a3, .int .u8 a4] 23).alloc (.cells #[.int .u8 0, .int .u8 0, .int .u8 0, .int .u8 0, .int .i64 0, .map none, .map none] 61 (0, 0))
    rwa [show (w.alloc (.cells #[.int .i64 k1, .int .i64 k2] 36 (0, 0))).heap.size = w.heap.size + 1 by simp] at this
  have hP0 : Blk W0 (w.heap.size + 1 + 1) #[.int .u8 0, .int .u8 0, .int .u8 0, .int .u8 0, .int .i64 0, .map none, .map none] 61 := by
    rw [← hW0]
    have := Blk.new ((w.alloc (.cells #[.int .i64 k1, .int .i64 k2] 36 (0, 0))).alloc (.cells #[.int .u8 a1, .int .u8 a2, .int .u8 a3, .int .u8 a4] 23 (0, 0))) #[.int .u8 0, .int .u8 0, .int .u8 0, .int .u8 0, .int .i64 0, .map none, .map none] 61
    rwa [show ((w.alloc (.cells #[.int .i64 k1, .int .i64 k2] 36 (0, 0))).alloc (.cells #[.int .u8 a1, .int .u8 a2, .int .u8 a3, .int .u8 a4] 23 (0, 0))).heap.size = w.heap.size + 1 + 1 by simp] at this
  rw [hW0]
  obtain ⟨q3, hq3⟩ : ∃ q, w.heap.size = q := ⟨_, rfl⟩
  rw [hq3] at hK0 hA0 hP0 ⊢
  have HB := Lib.hid fun (W : World) (hW : Fr [] W0 W) => show (W.cell? ⟨q3, 0, none⟩ = some (.int .i64 k1) ∧ W.cell? ⟨q3, 1, none⟩ = some (.int .i64 k2)) ∧ (W.cell? ⟨q3 + 1, 0, none⟩ = some (.int .u8 a1) ∧ W.cell? ⟨q3 + 1, 1, none⟩ = some (.int .u8 a2) ∧ W.cell? ⟨q3 + 1, 2, none⟩ = some (.int .u8 a3) ∧ W.cell? ⟨q3 + 1, 3, none⟩ = some (.int .u8 a4)) ∧ NoPool W (some ⟨q3 + 1 + 1, 0, none⟩) from
    ⟨⟨(hW.blk hK0 (by simp)).c 0 _ rfl, (hW.blk hK0 (by simp)).c 1 _ rfl⟩, ⟨(hW.blk hA0 (by simp)).c 0 _ rfl, (hW.blk hA0 (by simp)).c 1 _ rfl, (hW.blk hA0 (by simp)).c 2 _ rfl, (hW.blk hA0 (by simp)).c 3 _ rfl⟩, fun W' hW' => pnone_zero (((hW.trans hW').blk hP0 (by simp)).c 4 _ rfl)⟩
  clear hW0 hq3 hK0 hA0 hP0
  have hFa : Fr [] W0 W0 := Fr.refl _ _
  refine (T1.out _).mono ?_
  rintro e w1 ⟨rfl, hG⟩
  have hF1 := hFa.trans hG
  clear hG
  have hF1a := hF1.alloc (.cells #[.int .u8 0, .int .u8 0, .int .u8 0, .int .u8 0] 23 (0, 0))
  obtain ⟨⟨c0, c1⟩, ⟨d0, d1, d2, d3⟩, hN⟩ := HB.out _ hF1a
  clear hF1
  have HN := Lib.hid hN
  clear hN
  go_wp2_with fail
  refine (T2.out _ _ HN.out).mono ?_
  rintro e w2 ⟨rfl, hG⟩
  have hF2 := hF1a.trans hG
  clear hG c0 c1 d0 d1 d2 d3 HN
  have hF2a := hF2.alloc (.cells #[.int .u8 0, .int .u8 0, .int .u8 0, .int .u8 0] 23 (0, 0))
  obtain ⟨⟨c0, c1⟩, ⟨d0, d1, d2, d3⟩, hN⟩ := HB.out _ hF2a
  clear hF2
  have HN := Lib.hid hN
  clear hN
  go_wp2_with fail
  refine (H1.out _).mono ?_
  rintro e w3 ⟨rfl, hG⟩
  have hF3 := hF2a.trans hG
  clear hG c0 c1 d0 d1 d2 d3 HN
  have hF3a := hF3.alloc (.cells #[.int .u8 0, .int .u8 0, .int .u8 0, .int .u8 0] 23 (0, 0))
  obtain ⟨⟨c0, c1⟩, ⟨d0, d1, d2, d3⟩, hN⟩ := HB.out _ hF3a
  clear hF3
  have HN := Lib.hid hN
  clear hN
  go_wp2_with fail
  refine (W2.out _ _ HN.out).mono ?_
  rintro e w4 ⟨rfl, hG⟩
  have hF4 := hF3a.trans hG
  clear hG c0 c1 d0 d1 d2 d3 HN
  have hF4a := hF4.alloc (.cells #[.int .i64 0, .int .i64 0] 36 (0, 0))
  obtain ⟨⟨c0, c1⟩, ⟨d0, d1, d2, d3⟩, hN⟩ := HB.out _ hF4a
  clear hF4
  have HN := Lib.hid hN
  clear hN
  go_wp2_with fail
  refine (alive16 _).mono ?_
  rintro e w5 ⟨rfl, hG⟩
  have hF5 := hF4a.trans hG
  clear hG c0 c1 d0 d1 d2 d3 HN
  have hF5a := hF5
  obtain ⟨⟨c0, c1⟩, ⟨d0, d1, d2, d3⟩, hN⟩ := HB.out _ hF5a
  clear hF5
  have HN := Lib.hid hN
  clear hN
  go_wp2_with fail
  refine (G1.out _).mono ?_
  rintro e w6 ⟨rfl, hG⟩
  have hF6 := hF5a.trans hG
  clear hG c0 c1 d0 d1 d2 d3 HN
  have hF6a := hF6
  obtain ⟨⟨c0, c1⟩, ⟨d0, d1, d2, d3⟩, hN⟩ := HB.out _ hF6a
  clear hF6
  have HN := Lib.hid hN
  clear hN
  go_wp2_with fail
  refine (G2.out _ _ HN.out).mono ?_
  rintro e w7 ⟨rfl, hG⟩
  have hF7 := hF6a.trans hG
  clear hG c0 c1 d0 d1 d2 d3 HN
  have hF7a := hF7
  obtain ⟨⟨c0, c1⟩, ⟨d0, d1, d2, d3⟩, hN⟩ := HB.out _ hF7a
  clear hF7
  have HN := Lib.hid hN
  clear hN
  go_wp2_with fail
  refine (F1.out _).mono ?_
  rintro e w8 ⟨rfl, hG⟩
  have hF8 := hF7a.trans hG
  clear hG c0 c1 d0 d1 d2 d3 HN
  have hF8a := hF8
  obtain ⟨⟨c0, c1⟩, ⟨d0, d1, d2, d3⟩, hN⟩ := HB.out _ hF8a
  clear hF8
  have HN := Lib.hid hN
  clear hN
  go_wp2_with fail
  refine (free_none HN.out).mono ?_
  rintro e w9 ⟨rfl, hG⟩
  go_wp2_with fail
  go_ret
  exact ⟨rfl, ((hF0.trans hF8a).trans hG).below (Nat.le_refl _) (by simp)⟩
end Go.Proofs.Ytnenmgankgadcaa
