/- chap's server of the document: Take. -/
import Derived.Test.YtfchbppfbepelaaGreatChS2
namespace Go.Proofs.YtfchbppfbepelaaGreat
open Go.RowKit
set_option linter.unusedVariables false
section
variable {w : World} {g : Nat} {n : List UInt8} {r wt id t a : Int} {v : List UInt8} {ak ws jd x y : Bool} {s : SS}
theorem dstopen (c i : Int) (pA : Option Addr) (pn cap : Nat) (D : List UInt8) (hB : Blk w g (dsv n r wt id t a v ak ws jd x y) 101) : ∃ W, Hid ((w.alloc (.cells #[.int .i64 c, .int .i64 i, .slice pA pn cap, .string (B D)] 56)).alloc (.cells clz 97) = W) ∧ Fr [] w W ∧ Blk W g (dsv n r wt id t a v ak ws jd x y) 101 ∧ Blk W (w.heap.size + 1) clz 97 ∧
    (W.cell? ⟨w.heap.size, 0, none⟩ = some (.int .i64 c) ∧ W.cell? ⟨w.heap.size, 1, none⟩ = some (.int .i64 i) ∧ W.cell? ⟨w.heap.size, 3, none⟩ = some (.string (B D))) := by
  have hN := (Blk.new w #[.int .i64 c, .int .i64 i, .slice pA pn cap, .string (B D)] 56).alloc (.cells clz 97)
  have hQ := Blk.new (w.alloc (.cells #[.int .i64 c, .int .i64 i, .slice pA pn cap, .string (B D)] 56)) clz 97
  rw [show (w.alloc (.cells #[.int .i64 c, .int .i64 i, .slice pA pn cap, .string (B D)] 56)).heap.size = w.heap.size + 1 by simp] at hQ
  exact ⟨_, Lib.hid rfl, ((Fr.refl _ _).alloc _).alloc _, (hB.alloc _).alloc _, hQ, ⟨hN.c 0 _ rfl, hN.c 1 _ rfl, hN.c 3 _ rfl⟩⟩
set_option maxHeartbeats 1000000 in
theorem dstake_no (c i : Int) (pA : Option Addr) (pn cap : Nat) (D : List UInt8) (h : ak = false ∨ ak = true ∧ (c != 2) = true ∨ ak = true ∧ (c != 2) = false ∧ (i != id) = true) (hB : Blk w g (dsv n r wt id t a v ak ws jd x y) 101) :
    Calls Tryz.prog 45 #[.pointer (some ⟨g, 0, none⟩), .agg #[.int .i64 c, .int .i64 i, .slice pA pn cap, .string (B D)]] w fun e w' => e = .returned (.tuple #[.agg clz, .bool false]) ∧ Fr [] w w' := by
  obtain ⟨W, HW, hF, hBW, hQ, ⟨p0, p1, p3⟩⟩ := dstopen c i pA pn cap D hB
  obtain ⟨c0, c1, c2, c3, c4, c5, c6, c7, c8, c9, c10, c11⟩ := dsv_c hBW
  rcases h with rfl | ⟨rfl, h⟩ | ⟨rfl, h, h2⟩
  all_goals
    go_enter Tryz.func45, Tryz.ntmps45
    go_wp2_with fail
    rw [show (w.alloc (.cells #[.int .i64 c, .int .i64 i, .slice pA pn cap, .string (B D)] 56)).alloc (.cells #[.string ⟨#[]⟩, .string ⟨#[]⟩, .string ⟨#[]⟩, .int .i64 0] 97) = W from HW.out]
    go_quiet (fail)
    go_wp2_with (refine wpList_store_blk rfl 97 (.tmp 4) (.tmp 28) rfl (w.heap.size + 1) 97 clz clz (hQ.drewN _) rfl rfl rfl (by kernel_rfl) clz_one ?_; intro w2 hw2 hB2)
    refine ret_cell2 4 5 97 rfl (w.heap.size + 1) 97 _ _ hB2 rfl Tryz.underlying97 rfl (by kernel_rfl) rfl ⟨rfl, ?_⟩
    rw [hw2.out]
    exact (hF.drewN _).setCells _ _ _ (Or.inl (by omega))
set_option maxHeartbeats 1000000 in
theorem dstake_bad (i : Int) (pA : Option Addr) (pn cap : Nat) (D : List UInt8) (hD : D.length ≤ 1000) (hg : gvE D ≠ 0) (hi : (i != id) = false) (hB : Blk w g (dsv n r wt id t a v true ws jd x y) 101) :
    Calls Tryz.prog 45 #[.pointer (some ⟨g, 0, none⟩), .agg #[.int .i64 2, .int .i64 i, .slice pA pn cap, .string (B D)]] w fun e w' => e = .returned (.tuple #[.agg clz, .bool false]) ∧ Fr [] w w' := by
  obtain ⟨W, HW, hF, hBW, hQ, ⟨p0, p1, p3⟩⟩ := dstopen 2 i pA pn cap D hB
  obtain ⟨c0, c1, c2, c3, c4, c5, c6, c7, c8, c9, c10, c11⟩ := dsv_c hBW
  have HG := Lib.hid fun W => rgetValue_any D W (by omega)
  obtain ⟨X, hX⟩ : ∃ X, gvE D = X := ⟨_, rfl⟩
  rw [hX] at HG hg
  have hne : (X != 0) = true := by simpa using hg
  clear hX hg
  go_enter Tryz.func45, Tryz.ntmps45
  go_wp2_with fail
  rw [show (w.alloc (.cells #[.int .i64 2, .int .i64 i, .slice pA pn cap, .string (B D)] 56)).alloc (.cells #[.string ⟨#[]⟩, .string ⟨#[]⟩, .string ⟨#[]⟩, .int .i64 0] 97) = W from HW.out]
  go_quiet (fail)
  go_wp2_with fail
  refine (HG.out _).mono ?_
  rintro e w1 ⟨rfl, hF1⟩
  have hQ1 := hF1.blk (hQ.drewN _) (by simp)
  have hF2 := (hF.drewN _).trans hF1
  clear c0 c1 c2 c3 c4 c5 c6 c7 c8 c9 c10 c11 p0 p1 p3 hF1 hBW
  go_wp2_with (refine wpList_store_blk rfl 97 (.tmp 4) (.tmp 38) rfl (w.heap.size + 1) 97 clz clz hQ1 rfl rfl rfl (by kernel_rfl) clz_one ?_; intro w2 hw2 hB2)
  refine ret_cell2 4 5 97 rfl (w.heap.size + 1) 97 _ _ hB2 rfl Tryz.underlying97 rfl (by kernel_rfl) rfl ⟨rfl, ?_⟩
  rw [hw2.out]
  exact hF2.setCells _ _ _ (Or.inl (by omega))
set_option maxHeartbeats 2000000 in
theorem dstake_ok (i : Int) (pA : Option Addr) (pn cap : Nat) (D : List UInt8) (hD : D.length ≤ 1000) (hg : gvE D = 0) (hi : (i != id) = false) (hB : Blk w g (dsv n r wt id t a v true ws jd x y) 101) :
    Calls Tryz.prog 45 #[.pointer (some ⟨g, 0, none⟩), .agg #[.int .i64 2, .int .i64 i, .slice pA pn cap, .string (B D)]] w fun e w' => e = .returned (.tuple #[.agg (clm (gvN D) v (gvV D) id), .bool true]) ∧ Blk w' g (dsv n r wt id t a v false true jd x y) 101 ∧ Fr [g] w w' := by
  obtain ⟨W, HW, hF, hBW, hQ, ⟨p0, p1, p3⟩⟩ := dstopen 2 i pA pn cap D hB
  obtain ⟨c0, c1, c2, c3, c4, c5, c6, c7, c8, c9, c10, c11⟩ := dsv_c hBW
  have HG := Lib.hid fun W => rgetValue_any D W (by omega)
  rw [hg] at HG
  obtain ⟨N0, hN0⟩ : ∃ X, gvN D = X := ⟨_, rfl⟩
  obtain ⟨V0, hV0⟩ : ∃ X, gvV D = X := ⟨_, rfl⟩
  rw [hN0, hV0] at HG
  rw [hN0, hV0]
  have hgl := hB.lt
  clear hg hN0 hV0
  go_enter Tryz.func45, Tryz.ntmps45
  go_wp2_with fail
  rw [show (w.alloc (.cells #[.int .i64 2, .int .i64 i, .slice pA pn cap, .string (B D)] 56)).alloc (.cells #[.string ⟨#[]⟩, .string ⟨#[]⟩, .string ⟨#[]⟩, .int .i64 0] 97) = W from HW.out]
  go_quiet (fail)
  go_wp2_with fail
  refine (HG.out _).mono ?_
  rintro e w1 ⟨rfl, hF1⟩
  have hB1 := hF1.blk (hBW.drewN _) (by simp)
  have hQ1 := hF1.blk (hQ.drewN _) (by simp)
  have hF2 : Fr [g] w w1 := ((hF.drewN _).trans hF1).mono (by simp)
  clear c0 c1 c2 c3 c4 c5 c6 c7 c8 c9 c10 c11 p0 p1 p3 hF1 hBW hQ hF
  obtain ⟨c0, c1, c2, c3, c4, c5, c6, c7, c8, c9, c10, c11⟩ := dsv_c hB1
  have f7 := hB1.fz 7
  have f8 := hB1.fz 8
  have hB2 : Blk ((w1.setCell ⟨g, 7, none⟩ (.bool false)).setCell ⟨g, 8, none⟩ (.bool true)) g (dsv n r wt id t a v false true jd x y) 101 := by
    have := (hB1.set 7 (.bool false)).set 8 (.bool true)
    simpa [dsv] using this
  have hQ2 := (hQ1.set_other ⟨g, 7, none⟩ (show w.heap.size + 1 ≠ g by omega) (.bool false)).set_other ⟨g, 8, none⟩ (show w.heap.size + 1 ≠ g by omega) (.bool true)
  have hF3 : Fr [g] w ((w1.setCell ⟨g, 7, none⟩ (.bool false)).setCell ⟨g, 8, none⟩ (.bool true)) := (hF2.setCell (by simp) _).setCell (by simp) _
  obtain ⟨V, hV⟩ : ∃ V, (w1.setCell ⟨g, 7, none⟩ (.bool false)).setCell ⟨g, 8, none⟩ (.bool true) = V := ⟨_, rfl⟩
  rw [hV] at hB2 hQ2 hF3
  have HV := Lib.hid hV
  clear hV
  go_wp2_with fail
  rw [HV.out]
  clear c0 c1 c2 c3 c4 c5 c6 c7 c8 c9 c10 c11 f7 f8 hB1 hQ1 hF2
  obtain ⟨c0, c1, c2, c3, c4, c5, c6, c7, c8, c9, c10, c11⟩ := dsv_c hB2
  have q0 : V.cell? ⟨w.heap.size + 1, 0, none⟩ = some (.string ⟨#[]⟩) := hQ2.c 0 _ rfl
  have q1 : V.cell? ⟨w.heap.size + 1, 1, none⟩ = some (.string ⟨#[]⟩) := hQ2.c 1 _ rfl
  have q2 : V.cell? ⟨w.heap.size + 1, 2, none⟩ = some (.string ⟨#[]⟩) := hQ2.c 2 _ rfl
  have q3 : V.cell? ⟨w.heap.size + 1, 3, none⟩ = some (.int .i64 0) := hQ2.c 3 _ rfl
  have f0 := hQ2.fz 0
  have f1 := hQ2.fz 1
  have f2 := hQ2.fz 2
  have f3 := hQ2.fz 3
  have hQ3 := (((hQ2.set 0 (.string (B N0))).set 1 (.string (B v))).set 2 (.string (B V0))).set 3 (.int .i64 id)
  have e3 : ((((clz.setIfInBounds 0 (.string (B N0))).setIfInBounds 1 (.string (B v))).setIfInBounds 2 (.string (B V0))).setIfInBounds 3 (.int .i64 id)) = clm N0 v V0 id := by simp [clz, clm]
  rw [e3] at hQ3
  have hB3 := (((hB2.set_other ⟨w.heap.size + 1, 0, none⟩ (show g ≠ w.heap.size + 1 by omega) (.string (B N0))).set_other ⟨w.heap.size + 1, 1, none⟩ (show g ≠ w.heap.size + 1 by omega) (.string (B v))).set_other ⟨w.heap.size + 1, 2, none⟩ (show g ≠ w.heap.size + 1 by omega) (.string (B V0))).set_other ⟨w.heap.size + 1, 3, none⟩ (show g ≠ w.heap.size + 1 by omega) (.int .i64 id)
  have hF4 := (((hF3.setNew (p := ⟨w.heap.size + 1, 0, none⟩) (Nat.le_succ _) (.string (B N0))).setNew (p := ⟨w.heap.size + 1, 1, none⟩) (Nat.le_succ _) (.string (B v))).setNew (p := ⟨w.heap.size + 1, 2, none⟩) (Nat.le_succ _) (.string (B V0))).setNew (p := ⟨w.heap.size + 1, 3, none⟩) (Nat.le_succ _) (.int .i64 id)
  have HQ3 := Lib.hid hQ3
  have HB3 := Lib.hid hB3
  have HF4 := Lib.hid hF4
  clear e3 hQ3 hB3 hF4
  go_region
  all_goals
    go_wp2
    exact ret_cell2 4 5 97 rfl (w.heap.size + 1) 97 _ _ HQ3.out.drew rfl Tryz.underlying97 rfl (by kernel_rfl) rfl ⟨rfl, HB3.out.drew, HF4.out.drew⟩
theorem dsTake (c i : Int) (pA : Option Addr) (pn cap : Nat) (D : List UInt8) (hD : D.length ≤ 1000) (hB : Blk w g (dsvS n r wt s) 101) :
    Calls Tryz.prog 45 #[.pointer (some ⟨g, 0, none⟩), .agg #[.int .i64 c, .int .i64 i, .slice pA pn cap, .string (B D)]] w fun e w' => e = .returned (.tuple #[.agg (clmT (s.claim c i D)), .bool (decide (s.hit c i D))]) ∧ Blk w' g (dsvS n r wt (s.take c i D)) 101 ∧ Fr [g] w w' := by
  by_cases hh : s.hit c i D
  · have e1 : s.claim c i D = (gvN D, s.v, gvV D, s.id) := by unfold SS.claim; rw [if_pos hh]
    have e2 : s.take c i D = { s with ak := false, ws := true } := by unfold SS.take; rw [if_pos hh]
    rw [e1, e2, decide_eq_true hh]
    obtain ⟨id, t, a, v, ak, ws, jd, x, y⟩ := s
    obtain ⟨k1, k2, k3, k4⟩ := hh
    dsimp only [dsvS] at k1 k2 k3 hB
    subst k1 k2 k3
    refine (dstake_ok i pA pn cap D hD k4 (by simp) hB).mono ?_
    rintro e w' ⟨rfl, hC, hF⟩
    exact ⟨rfl, hC, hF⟩
  · have e1 : s.claim c i D = ([], [], [], 0) := by unfold SS.claim; rw [if_neg hh]
    have e2 : s.take c i D = s := by unfold SS.take; rw [if_neg hh]
    rw [e1, e2, decide_eq_false hh]
    have fin : ∀ (e : Ending) (w' : World), e = .returned (.tuple #[.agg clz, .bool false]) ∧ Fr [] w w' → e = .returned (.tuple #[.agg (clmT ([], [], [], 0)), .bool false]) ∧ Blk w' g (dsvS n r wt s) 101 ∧ Fr [g] w w' := fun e w' q => ⟨q.1, q.2.blk hB (by simp), q.2.mono (by simp)⟩
    cases hak : s.ak with
    | false => exact (dstake_no c i pA pn cap D (Or.inl hak) hB).mono fin
    | true =>
      by_cases hc : c = 2
      · by_cases hi : i = s.id
        · have hg : gvE D ≠ 0 := fun e => hh ⟨hak, hc, hi, e⟩
          subst hc
          have hB' := hB
          dsimp only [dsvS] at hB'
          rw [hak] at hB'
          exact (dstake_bad i pA pn cap D hD hg (by simpa using hi) hB').mono fin
        · exact (dstake_no c i pA pn cap D (Or.inr (Or.inr ⟨hak, by simpa using hc, by simpa using hi⟩)) hB).mono fin
      · exact (dstake_no c i pA pn cap D (Or.inr (Or.inl ⟨hak, by simpa using hc⟩)) hB).mono fin
end
end Go.Proofs.YtfchbppfbepelaaGreat
