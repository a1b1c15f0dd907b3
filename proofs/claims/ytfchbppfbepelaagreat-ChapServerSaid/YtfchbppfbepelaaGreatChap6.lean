/- chap's server: Again, Take. -/
import Derived.Test.YtfchbppfbepelaaGreatChap5
namespace Go.Proofs.YtfchbppfbepelaaGreat
open Go.RowKit
set_option linter.unusedVariables false

def clz : Array Value := #[.string ⟨#[]⟩, .string ⟨#[]⟩, .string ⟨#[]⟩, .int .i64 0]
theorem clz_one : clz.all (·.oneCell') = true := by simp [clz, Value.oneCell']
section
variable {w : World} {g : Nat} {n : List UInt8} {r wt id : Int} {v : List UInt8} {ak ws : Bool} {t a : Int} {x y : Bool} {A : Option Addr} {sl sc : Nat}
/-- the world behind the packet's boxing -/
theorem sopen (b : Bool) (hb : (wt == 0) = b) (c i : Int) (pA : Option Addr) (pn cap : Nat) (D : List UInt8) (hB : Blk w g (csv n r wt id v ak ws t a x y A sl sc) 248) : ∃ W, Hid (w.alloc (.cells #[.int .i64 c, .int .i64 i, .slice pA pn cap, .string (B D)] 56) = W) ∧ Fr [] w W ∧ w.heap.size < W.heap.size ∧ Blk W g (csv n r wt id v ak ws t a x y A sl sc) 248 ∧
    (W.cell? ⟨w.heap.size, 0, none⟩ = some (.int .i64 c) ∧ W.cell? ⟨w.heap.size, 1, none⟩ = some (.int .i64 i) ∧ W.cell? ⟨w.heap.size, 3, none⟩ = some (.string (B D))) ∧ Hid (∀ N, Calls Tryz.prog 190 #[.pointer (some ⟨g, 0, none⟩)] (W.drewN N) fun e w' => e = .returned (.bool b) ∧ w' = W.drewN N) := by
  have hN := Blk.new w #[.int .i64 c, .int .i64 i, .slice pA pn cap, .string (B D)] 56
  subst hb
  exact ⟨_, Lib.hid rfl, (Fr.refl _ _).alloc _, by simp, hB.alloc _, ⟨hN.c 0 _ rfl, hN.c 1 _ rfl, hN.c 3 _ rfl⟩, Lib.hid (fun N => (snone_any ((hB.alloc _).drewN N)).mono fun e w' h => ⟨h.1, h.2.symm⟩)⟩
theorem sagain_nil (c i : Int) (pA : Option Addr) (pn cap : Nat) (D : List UInt8) :
    Calls Tryz.prog 42 #[.pointer none, .agg #[.int .i64 c, .int .i64 i, .slice pA pn cap, .string (B D)]] w fun e w' => e = .returned (.slice none 0 0) ∧ Fr [] w w' := by
  go_enter Tryz.func42, Tryz.ntmps42
  go_wp2_with fail
  go_quiet ((go_at_call 190; exact Calls.quiet_of_same (snone_nil.mono fun e w' h => ⟨h.1, h.2.symm⟩)))
  go_wp2
  go_ret
  exact ⟨rfl, ((Fr.refl _ _).alloc _).drewN _⟩
theorem sagain_zero (c i : Int) (pA : Option Addr) (pn cap : Nat) (D : List UInt8) (hB : Blk w g (csv n r 0 id v ak ws t a x y A sl sc) 248) :
    Calls Tryz.prog 42 #[.pointer (some ⟨g, 0, none⟩), .agg #[.int .i64 c, .int .i64 i, .slice pA pn cap, .string (B D)]] w fun e w' => e = .returned (.slice none 0 0) ∧ Fr [] w w' := by
  obtain ⟨W, hW, hF, hsz, hBW, ⟨p0, p1, p3⟩, HN⟩ := sopen true rfl c i pA pn cap D hB
  go_enter Tryz.func42, Tryz.ntmps42
  go_wp2_with fail
  rw [hW.out]
  go_quiet ((go_at_call 190; exact Calls.quiet_of_same (HN.out _)))
  go_wp2
  go_ret
  exact ⟨rfl, hF.drewN _⟩
theorem sagain_yes (i : Int) (pA : Option Addr) (pn cap : Nat) (D : List UInt8) (h : Nat) (c2 i2 : Int) (d2 : List UInt8) (hw : (wt == 0) = false) (hi : (i != id) = false) (i0 : 0 ≤ id) (i1 : id < 256) (hP : Pk w h c2 i2 d2) (hh : h < w.heap.size) (hB : Blk w g (csv n r wt id v ak ws t a x y (some ⟨h, 0, none⟩) 1 1) 248) :
    Calls Tryz.prog 42 #[.pointer (some ⟨g, 0, none⟩), .agg #[.int .i64 2, .int .i64 i, .slice pA pn cap, .string (B D)]] w (CloneP w c2 i2 d2) := by
  obtain ⟨W, hW, hF, hsz, hBW, ⟨p0, p1, p3⟩, HN⟩ := sopen false hw 2 i pA pn cap D hB
  obtain ⟨c0, c1, c2', c3, c4, c5, c6, c7, c8, c9, c10, c11⟩ := csv_c hBW
  have HC := Lib.hid fun N => sclone_any (w := W.drewN N) c2 i2 d2 1 (hP.fr (hF.drewN N) hh (by simp)) (by have := hF.size; show h < W.heap.size; omega)
  clear hP
  go_enter Tryz.func42, Tryz.ntmps42
  go_wp2_with fail
  rw [hW.out]
  go_quiet ((go_at_call 190; exact Calls.quiet_of_same (HN.out _)))
  go_wp2_with fail
  refine (HC.out _).mono ?_
  rintro e w2 ⟨g', cap', rfl, hg', hlt', hP3, hF3⟩
  have hF4 := (hF.drewN _).trans hF3
  have hz := hF.size
  have hg2 : W.heap.size ≤ g' := hg'
  clear c0 c1 c2' c3 c4 c5 c6 c7 c8 c9 c10 c11 p0 p1 p3 hg'
  go_wp2
  go_ret
  exact ⟨g', cap', rfl, by omega, hlt', hP3, hF4⟩

/-- .. and behind the making of the claim -/
theorem topen (b : Bool) (hb : (wt == 0) = b) (c i : Int) (pA : Option Addr) (pn cap : Nat) (D : List UInt8) (hB : Blk w g (csv n r wt id v ak ws t a x y A sl sc) 248) : ∃ W, Hid ((w.alloc (.cells #[.int .i64 c, .int .i64 i, .slice pA pn cap, .string (B D)] 56)).alloc (.cells clz 94) = W) ∧ Fr [] w W ∧ Blk W g (csv n r wt id v ak ws t a x y A sl sc) 248 ∧ Blk W (w.heap.size + 1) clz 94 ∧
    (W.cell? ⟨w.heap.size, 0, none⟩ = some (.int .i64 c) ∧ W.cell? ⟨w.heap.size, 1, none⟩ = some (.int .i64 i) ∧ W.cell? ⟨w.heap.size, 3, none⟩ = some (.string (B D))) ∧ Hid (∀ N, Calls Tryz.prog 190 #[.pointer (some ⟨g, 0, none⟩)] (W.drewN N) fun e w' => e = .returned (.bool b) ∧ w' = W.drewN N) := by
  have hN := (Blk.new w #[.int .i64 c, .int .i64 i, .slice pA pn cap, .string (B D)] 56).alloc (.cells clz 94)
  have hQ := Blk.new (w.alloc (.cells #[.int .i64 c, .int .i64 i, .slice pA pn cap, .string (B D)] 56)) clz 94
  subst hb
  refine ⟨_, Lib.hid rfl, ((Fr.refl _ _).alloc _).alloc _, (hB.alloc _).alloc _, by simpa using hQ, ⟨hN.c 0 _ rfl, hN.c 1 _ rfl, hN.c 3 _ rfl⟩, Lib.hid (fun N => (snone_any (((hB.alloc _).alloc _).drewN N)).mono fun e w' h => ⟨h.1, h.2.symm⟩)⟩
theorem stake_nil (c i : Int) (pA : Option Addr) (pn cap : Nat) (D : List UInt8) :
    Calls Tryz.prog 44 #[.pointer none, .agg #[.int .i64 c, .int .i64 i, .slice pA pn cap, .string (B D)]] w fun e w' => e = .returned (.tuple #[.agg clz, .bool false]) ∧ Fr [] w w' := by
  have hQ := Blk.new (w.alloc (.cells #[.int .i64 c, .int .i64 i, .slice pA pn cap, .string (B D)] 56)) clz 94
  have hF : Fr [] w ((w.alloc (.cells #[.int .i64 c, .int .i64 i, .slice pA pn cap, .string (B D)] 56)).alloc (.cells clz 94)) := ((Fr.refl _ _).alloc _).alloc _
  have e1 : (w.alloc (.cells #[.int .i64 c, .int .i64 i, .slice pA pn cap, .string (B D)] 56)).heap.size = w.heap.size + 1 := by simp
  rw [e1] at hQ
  obtain ⟨W, hW⟩ : ∃ W, (w.alloc (.cells #[.int .i64 c, .int .i64 i, .slice pA pn cap, .string (B D)] 56)).alloc (.cells clz 94) = W := ⟨_, rfl⟩
  rw [hW] at hQ hF
  have HW := Lib.hid hW
  clear hW e1
  go_enter Tryz.func44, Tryz.ntmps44
  go_wp2_with fail
  rw [show (w.alloc (.cells #[.int .i64 c, .int .i64 i, .slice pA pn cap, .string (B D)] 56)).alloc (.cells #[.string ⟨#[]⟩, .string ⟨#[]⟩, .string ⟨#[]⟩, .int .i64 0] 94) = W from HW.out]
  go_quiet ((go_at_call 190; exact Calls.quiet_of_same (snone_nil.mono fun e w' h => ⟨h.1, h.2.symm⟩)))
  go_wp2_with (refine wpList_store_blk rfl 94 (.tmp 4) (.tmp 33) rfl (w.heap.size + 1) 94 clz clz (hQ.drewN _) rfl rfl rfl (by kernel_rfl) clz_one ?_; intro w2 hw2 hB2)
  refine ret_cell2 4 5 94 rfl (w.heap.size + 1) 94 _ _ hB2 rfl Tryz.underlying94 rfl (by kernel_rfl) rfl ⟨rfl, ?_⟩
  rw [hw2.out]
  exact (hF.drewN _).setCells _ _ _ (Or.inl (by omega))
theorem stake_zero (c i : Int) (pA : Option Addr) (pn cap : Nat) (D : List UInt8) (hB : Blk w g (csv n r 0 id v ak ws t a x y A sl sc) 248) :
    Calls Tryz.prog 44 #[.pointer (some ⟨g, 0, none⟩), .agg #[.int .i64 c, .int .i64 i, .slice pA pn cap, .string (B D)]] w fun e w' => e = .returned (.tuple #[.agg clz, .bool false]) ∧ Fr [] w w' := by
  obtain ⟨W, HW, hF, hBW, hQ, ⟨p0, p1, p3⟩, HN⟩ := topen true rfl c i pA pn cap D hB
  go_enter Tryz.func44, Tryz.ntmps44
  go_wp2_with fail
  rw [show (w.alloc (.cells #[.int .i64 c, .int .i64 i, .slice pA pn cap, .string (B D)] 56)).alloc (.cells #[.string ⟨#[]⟩, .string ⟨#[]⟩, .string ⟨#[]⟩, .int .i64 0] 94) = W from HW.out]
  go_quiet ((go_at_call 190; exact Calls.quiet_of_same (HN.out _)))
  go_wp2_with (refine wpList_store_blk rfl 94 (.tmp 4) (.tmp 33) rfl (w.heap.size + 1) 94 clz clz (hQ.drewN _) rfl rfl rfl (by kernel_rfl) clz_one ?_; intro w2 hw2 hB2)
  refine ret_cell2 4 5 94 rfl (w.heap.size + 1) 94 _ _ hB2 rfl Tryz.underlying94 rfl (by kernel_rfl) rfl ⟨rfl, ?_⟩
  rw [hw2.out]
  exact (hF.drewN _).setCells _ _ _ (Or.inl (by omega))
theorem stake_idle (c i : Int) (pA : Option Addr) (pn cap : Nat) (D : List UInt8) (hw : (wt == 0) = false) (hB : Blk w g (csv n r wt id v false ws t a x y A sl sc) 248) :
    Calls Tryz.prog 44 #[.pointer (some ⟨g, 0, none⟩), .agg #[.int .i64 c, .int .i64 i, .slice pA pn cap, .string (B D)]] w fun e w' => e = .returned (.tuple #[.agg clz, .bool false]) ∧ Fr [] w w' := by
  obtain ⟨W, HW, hF, hBW, hQ, ⟨p0, p1, p3⟩, HN⟩ := topen false hw c i pA pn cap D hB
  obtain ⟨c0, c1, c2, c3, c4, c5, c6, c7, c8, c9, c10, c11⟩ := csv_c hBW
  go_enter Tryz.func44, Tryz.ntmps44
  go_wp2_with fail
  rw [show (w.alloc (.cells #[.int .i64 c, .int .i64 i, .slice pA pn cap, .string (B D)] 56)).alloc (.cells #[.string ⟨#[]⟩, .string ⟨#[]⟩, .string ⟨#[]⟩, .int .i64 0] 94) = W from HW.out]
  go_quiet ((go_at_call 190; exact Calls.quiet_of_same (HN.out _)))
  go_wp2_with (refine wpList_store_blk rfl 94 (.tmp 4) (.tmp 33) rfl (w.heap.size + 1) 94 clz clz (hQ.drewN _) rfl rfl rfl (by kernel_rfl) clz_one ?_; intro w2 hw2 hB2)
  refine ret_cell2 4 5 94 rfl (w.heap.size + 1) 94 _ _ hB2 rfl Tryz.underlying94 rfl (by kernel_rfl) rfl ⟨rfl, ?_⟩
  rw [hw2.out]
  exact (hF.drewN _).setCells _ _ _ (Or.inl (by omega))
theorem stake_id (i : Int) (pA : Option Addr) (pn cap : Nat) (D : List UInt8) (hw : (wt == 0) = false) (hi : (i != id) = true) (i0 : 0 ≤ id) (i1 : id < 256) (hB : Blk w g (csv n r wt id v true ws t a x y A sl sc) 248) :
    Calls Tryz.prog 44 #[.pointer (some ⟨g, 0, none⟩), .agg #[.int .i64 2, .int .i64 i, .slice pA pn cap, .string (B D)]] w fun e w' => e = .returned (.tuple #[.agg clz, .bool false]) ∧ Fr [] w w' := by
  obtain ⟨W, HW, hF, hBW, hQ, ⟨p0, p1, p3⟩, HN⟩ := topen false hw 2 i pA pn cap D hB
  obtain ⟨c0, c1, c2, c3, c4, c5, c6, c7, c8, c9, c10, c11⟩ := csv_c hBW
  go_enter Tryz.func44, Tryz.ntmps44
  go_wp2_with fail
  rw [show (w.alloc (.cells #[.int .i64 2, .int .i64 i, .slice pA pn cap, .string (B D)] 56)).alloc (.cells #[.string ⟨#[]⟩, .string ⟨#[]⟩, .string ⟨#[]⟩, .int .i64 0] 94) = W from HW.out]
  go_quiet ((go_at_call 190; exact Calls.quiet_of_same (HN.out _)))
  go_wp2_with (refine wpList_store_blk rfl 94 (.tmp 4) (.tmp 33) rfl (w.heap.size + 1) 94 clz clz (hQ.drewN _) rfl rfl rfl (by kernel_rfl) clz_one ?_; intro w2 hw2 hB2)
  refine ret_cell2 4 5 94 rfl (w.heap.size + 1) 94 _ _ hB2 rfl Tryz.underlying94 rfl (by kernel_rfl) rfl ⟨rfl, ?_⟩
  rw [hw2.out]
  exact (hF.drewN _).setCells _ _ _ (Or.inl (by omega))
theorem stake_bad (i : Int) (pA : Option Addr) (pn cap : Nat) (D : List UInt8) (hD : D.length ≤ 140737488355328) (hg : gvE D ≠ 0) (hw : (wt == 0) = false) (hi : (i != id) = false) (i0 : 0 ≤ id) (i1 : id < 256) (hB : Blk w g (csv n r wt id v true ws t a x y A sl sc) 248) :
    Calls Tryz.prog 44 #[.pointer (some ⟨g, 0, none⟩), .agg #[.int .i64 2, .int .i64 i, .slice pA pn cap, .string (B D)]] w fun e w' => e = .returned (.tuple #[.agg clz, .bool false]) ∧ Fr [] w w' := by
  obtain ⟨W, HW, hF, hBW, hQ, ⟨p0, p1, p3⟩, HN⟩ := topen false hw 2 i pA pn cap D hB
  obtain ⟨c0, c1, c2, c3, c4, c5, c6, c7, c8, c9, c10, c11⟩ := csv_c hBW
  have HG := Lib.hid fun W => getValue_bad D W hD hg
  have hne : (gvE D != 0) = true := by simpa using hg
  obtain ⟨X, hX⟩ : ∃ X, gvE D = X := ⟨_, rfl⟩
  rw [hX] at HG hne
  clear hX hg
  go_enter Tryz.func44, Tryz.ntmps44
  go_wp2_with fail
  rw [show (w.alloc (.cells #[.int .i64 2, .int .i64 i, .slice pA pn cap, .string (B D)] 56)).alloc (.cells #[.string ⟨#[]⟩, .string ⟨#[]⟩, .string ⟨#[]⟩, .int .i64 0] 94) = W from HW.out]
  go_quiet ((go_at_call 190; exact Calls.quiet_of_same (HN.out _)))
  go_wp2_with fail
  refine (HG.out _).mono ?_
  rintro e w1 ⟨rfl, rfl⟩
  go_wp2_with (refine wpList_store_blk rfl 94 (.tmp 4) (.tmp 43) rfl (w.heap.size + 1) 94 clz clz (hQ.drewN _) rfl rfl rfl (by kernel_rfl) clz_one ?_; intro w2 hw2 hB2)
  refine ret_cell2 4 5 94 rfl (w.heap.size + 1) 94 _ _ hB2 rfl Tryz.underlying94 rfl (by kernel_rfl) rfl ⟨rfl, ?_⟩
  rw [hw2.out]
  exact (hF.drewN _).setCells _ _ _ (Or.inl (by omega))
def clm (nm v rs : List UInt8) (id : Int) : Array Value := #[.string (B nm), .string (B v), .string (B rs), .int .i64 id]
set_option maxHeartbeats 1000000 in
theorem stake_ok (i : Int) (pA : Option Addr) (pn cap : Nat) (D : List UInt8) (hg : gvE D = 0) (hw : (wt == 0) = false) (hi : (i != id) = false) (i0 : 0 ≤ id) (i1 : id < 256) (hB : Blk w g (csv n r wt id v true ws t a x y A sl sc) 248) :
    Calls Tryz.prog 44 #[.pointer (some ⟨g, 0, none⟩), .agg #[.int .i64 2, .int .i64 i, .slice pA pn cap, .string (B D)]] w fun e w' => e = .returned (.tuple #[.agg (clm (gvN D) v (gvV D) id), .bool true]) ∧ Blk w' g (csv n r wt id v false true t a x y A sl sc) 248 ∧ Fr [g] w w' := by
  obtain ⟨W, HW, hF, hBW, hQ, ⟨p0, p1, p3⟩, HN⟩ := topen false hw 2 i pA pn cap D hB
  obtain ⟨c0, c1, c2, c3, c4, c5, c6, c7, c8, c9, c10, c11⟩ := csv_c hBW
  have HG := Lib.hid fun W => getValue_ok D W hg
  have hgl := hB.lt
  clear hg
  go_enter Tryz.func44, Tryz.ntmps44
  go_wp2_with fail
  rw [show (w.alloc (.cells #[.int .i64 2, .int .i64 i, .slice pA pn cap, .string (B D)] 56)).alloc (.cells #[.string ⟨#[]⟩, .string ⟨#[]⟩, .string ⟨#[]⟩, .int .i64 0] 94) = W from HW.out]
  go_quiet ((go_at_call 190; exact Calls.quiet_of_same (HN.out _)))
  go_wp2_with fail
  refine (HG.out _).mono ?_
  rintro e w1 ⟨rfl, hF1⟩
  have hB1 := hF1.blk (hBW.drewN _) (by simp)
  have hQ1 := hF1.blk (hQ.drewN _) (by simp)
  have hF2 : Fr [g] w w1 := ((hF.drewN _).trans hF1).mono (by simp)
  clear c0 c1 c2 c3 c4 c5 c6 c7 c8 c9 c10 c11 p0 p1 p3 hF1 hBW hQ hF
  obtain ⟨c0, c1, c2, c3, c4, c5, c6, c7, c8, c9, c10, c11⟩ := csv_c hB1
  have f5 := hB1.fz 5
  have f6 := hB1.fz 6
  have hB2 : Blk ((w1.setCell ⟨g, 5, none⟩ (.bool false)).setCell ⟨g, 6, none⟩ (.bool true)) g (csv n r wt id v false true t a x y A sl sc) 248 := by
    have := (hB1.set 5 (.bool false)).set 6 (.bool true)
    simpa [csv] using this
  have hQ2 := (hQ1.set_other ⟨g, 5, none⟩ (show w.heap.size + 1 ≠ g by omega) (.bool false)).set_other ⟨g, 6, none⟩ (show w.heap.size + 1 ≠ g by omega) (.bool true)
  have hF3 : Fr [g] w ((w1.setCell ⟨g, 5, none⟩ (.bool false)).setCell ⟨g, 6, none⟩ (.bool true)) := (hF2.setCell (by simp) _).setCell (by simp) _
  obtain ⟨V, hV⟩ : ∃ V, (w1.setCell ⟨g, 5, none⟩ (.bool false)).setCell ⟨g, 6, none⟩ (.bool true) = V := ⟨_, rfl⟩
  rw [hV] at hB2 hQ2 hF3
  have HV := Lib.hid hV
  clear hV
  go_wp2_with fail
  rw [HV.out]
  clear c0 c1 c2 c3 c4 c5 c6 c7 c8 c9 c10 c11 f5 f6 hB1 hQ1 hF2
  obtain ⟨c0, c1, c2, c3, c4, c5, c6, c7, c8, c9, c10, c11⟩ := csv_c hB2
  have q0 : V.cell? ⟨w.heap.size + 1, 0, none⟩ = some (.string ⟨#[]⟩) := hQ2.c 0 _ rfl
  have q1 : V.cell? ⟨w.heap.size + 1, 1, none⟩ = some (.string ⟨#[]⟩) := hQ2.c 1 _ rfl
  have q2 : V.cell? ⟨w.heap.size + 1, 2, none⟩ = some (.string ⟨#[]⟩) := hQ2.c 2 _ rfl
  have q3 : V.cell? ⟨w.heap.size + 1, 3, none⟩ = some (.int .i64 0) := hQ2.c 3 _ rfl
  have f0 := hQ2.fz 0
  have f1 := hQ2.fz 1
  have f2 := hQ2.fz 2
  have f3 := hQ2.fz 3
  have hQ3 := (((hQ2.set 0 (.string (B (gvN D)))).set 1 (.string (B v))).set 2 (.string (B (gvV D)))).set 3 (.int .i64 id)
  have e3 : ((((clz.setIfInBounds 0 (.string (B (gvN D)))).setIfInBounds 1 (.string (B v))).setIfInBounds 2 (.string (B (gvV D)))).setIfInBounds 3 (.int .i64 id)) = clm (gvN D) v (gvV D) id := by simp [clz, clm]
  rw [e3] at hQ3
  have hB3 := (((hB2.set_other ⟨w.heap.size + 1, 0, none⟩ (show g ≠ w.heap.size + 1 by omega) (.string (B (gvN D)))).set_other ⟨w.heap.size + 1, 1, none⟩ (show g ≠ w.heap.size + 1 by omega) (.string (B v))).set_other ⟨w.heap.size + 1, 2, none⟩ (show g ≠ w.heap.size + 1 by omega) (.string (B (gvV D)))).set_other ⟨w.heap.size + 1, 3, none⟩ (show g ≠ w.heap.size + 1 by omega) (.int .i64 id)
  have hF4 := (((hF3.setNew (p := ⟨w.heap.size + 1, 0, none⟩) (Nat.le_succ _) (.string (B (gvN D)))).setNew (p := ⟨w.heap.size + 1, 1, none⟩) (Nat.le_succ _) (.string (B v))).setNew (p := ⟨w.heap.size + 1, 2, none⟩) (Nat.le_succ _) (.string (B (gvV D)))).setNew (p := ⟨w.heap.size + 1, 3, none⟩) (Nat.le_succ _) (.int .i64 id)
  have HQ3 := Lib.hid hQ3
  have HB3 := Lib.hid hB3
  have HF4 := Lib.hid hF4
  clear e3 hQ3 hB3 hF4
  go_region
  all_goals
    go_wp2
    exact ret_cell2 4 5 94 rfl (w.heap.size + 1) 94 _ _ HQ3.out.drew rfl Tryz.underlying94 rfl (by kernel_rfl) rfl ⟨rfl, HB3.out.drew, HF4.out.drew⟩
end
end Go.Proofs.YtfchbppfbepelaaGreat
