/- pap's client: each of its functions walked once. -/
import Derived.Test.YtfchbppfbepelaaGreatPap2
import Derived.Test.YtfchbppfbepelaaGreatRow
namespace Go.Proofs.YtfchbppfbepelaaGreat
open Go.RowKit
set_option linter.unusedVariables false

def pcl (d : List UInt8) (r wt id t a : Int) (x y z : Bool) : Array Value := #[.string (B d), .int .i64 r, .int .i64 wt, .int .u8 id, .int .i64 t, .int .i64 a, .bool x, .bool y, .bool z]
def pkt (c id : Int) (o : Value) (d : List UInt8) : Array Value := #[.int .i64 c, .int .i64 id, o, .string (B d)]
section
variable {w : World} {g : Nat} {d : List UInt8} {r wt id t a : Int} {x y z : Bool}
theorem pcl_c {T : Nat} (hB : Blk w g (pcl d r wt id t a x y z) T) : w.cell? ⟨g, 0, none⟩ = some (.string (B d)) ∧ w.cell? ⟨g, 1, none⟩ = some (.int .i64 r) ∧ w.cell? ⟨g, 2, none⟩ = some (.int .i64 wt) ∧ w.cell? ⟨g, 3, none⟩ = some (.int .u8 id) ∧ w.cell? ⟨g, 4, none⟩ = some (.int .i64 t) ∧ w.cell? ⟨g, 5, none⟩ = some (.int .i64 a) ∧ w.cell? ⟨g, 6, none⟩ = some (.bool x) ∧ w.cell? ⟨g, 7, none⟩ = some (.bool y) ∧ w.cell? ⟨g, 8, none⟩ = some (.bool z) :=
  ⟨hB.c 0 _ rfl, hB.c 1 _ rfl, hB.c 2 _ rfl, hB.c 3 _ rfl, hB.c 4 _ rfl, hB.c 5 _ rfl, hB.c 6 _ rfl, hB.c 7 _ rfl, hB.c 8 _ rfl⟩
theorem pcl_set5 {T : Nat} {a' : Int} (hB : Blk w g (pcl d r wt id t a x y z) T) : Blk (w.setCell ⟨g, 5, none⟩ (.int .i64 a')) g (pcl d r wt id t a' x y z) T := by
  have := hB.set 5 (.int .i64 a')
  simpa [pcl] using this
theorem pnone_any (hB : Blk w g (pcl d r wt id t a x y z) 202) :
    Calls Tryz.prog 102 #[.pointer (some ⟨g, 0, none⟩)] w fun e w' => e = .returned (.bool (wt == 0)) ∧ w = w' := by
  obtain ⟨c0, c1, c2, c3, c4, c5, c6, c7, c8⟩ := pcl_c hB
  go_enter Tryz.func102, Tryz.ntmps102
  go_wp2
  go_ret
  exact ⟨rfl, rfl⟩
theorem pnone_nil : Calls Tryz.prog 102 #[.pointer none] w fun e w' => e = .returned (.bool true) ∧ w = w' := by
  go_enter Tryz.func102, Tryz.ntmps102
  go_wp2
  go_ret
  exact ⟨rfl, rfl⟩
theorem pend_any (b : Bool) (hB : Blk w g (pcl d r wt id t a x y z) 202) :
    Calls Tryz.prog 105 #[.pointer (some ⟨g, 0, none⟩), .bool b] w fun e w' => e = .returned (.tuple #[]) ∧ Blk w' g (pcl d r wt id t a false true b) 202 ∧ Fr [g] w w' := by
  obtain ⟨c0, c1, c2, c3, c4, c5, c6, c7, c8⟩ := pcl_c hB
  have f6 := hB.fz 6
  have f7 := hB.fz 7
  have f8 := hB.fz 8
  go_enter Tryz.func105, Tryz.ntmps105
  go_wp2
  refine bodyPost_end (results_none rfl _ _ _) rfl ⟨rfl, ?_, ?_⟩
  · have := ((hB.set 6 (.bool false)).set 7 (.bool true)).set 8 (.bool b)
    simpa [pcl] using this
  · exact (((Fr.refl _ _).setCell (by simp) _).setCell (by simp) _).setCell (by simp) _
def SayPost (w : World) (g : Nat) (d : List UInt8) (r wt id a : Int) (x y z : Bool) (e : Ending) (w' : World) : Prop :=
  ∃ g', e = .returned (.slice (some ⟨g', 0, none⟩) 1 1) ∧ w.heap.size ≤ g' ∧ Blk w' g' (pkt 1 ((id + 1) % 256) (.slice none 0 0) d) 56 ∧ Blk w' g (pcl d r wt ((id + 1) % 256) 0 a x y z) 202 ∧ Fr [g] w w'
theorem psay_any (i0 : 0 ≤ id) (i1 : id < 256) (hB : Blk w g (pcl d r wt id t a x y z) 202) :
    Calls Tryz.prog 103 #[.pointer (some ⟨g, 0, none⟩)] w (SayPost w g d r wt id a x y z) := by
  obtain ⟨c0, c1, c2, c3, c4, c5, c6, c7, c8⟩ := pcl_c hB
  have f3 := hB.fz 3
  have f4 := hB.fz 4
  have hlb := hB.lt
  have hB2 := (hB.set 3 (.int .u8 ((id + 1) % 256))).set 4 (.int .i64 0)
  have hF := (((Fr.refl [g] w).setCell (p := ⟨g, 3, none⟩) (by simp) (.int .u8 ((id + 1) % 256))).setCell (p := ⟨g, 4, none⟩) (by simp) (.int .i64 0))
  have e2 : (((pcl d r wt id t a x y z).setIfInBounds 3 (.int .u8 ((id + 1) % 256))).setIfInBounds 4 (.int .i64 0)) = pcl d r wt ((id + 1) % 256) 0 a x y z := by simp [pcl]
  rw [e2] at hB2
  clear e2
  go_enter Tryz.func103, Tryz.ntmps103
  go_wp2
  go_region
  all_goals go_wp2
  all_goals go_ret
  have hN := Blk.new ((w.setCell ⟨g, 3, none⟩ (.int .u8 ((id + 1) % 256))).setCell ⟨g, 4, none⟩ (.int .i64 0)) (pkt 1 ((id + 1) % 256) (.slice none 0 0) d) 56
  have hz : ((w.setCell ⟨g, 3, none⟩ (.int .u8 ((id + 1) % 256))).setCell ⟨g, 4, none⟩ (.int .i64 0)).heap.size = w.heap.size := by simp
  rw [hz] at hN
  exact ⟨w.heap.size, rfl, Nat.le_refl _, hN, hB2.alloc _, (hF.alloc _).drew⟩

/-- what Start leaves -/
theorem pstart_any (i0 : 0 ≤ id) (i1 : id < 256) (hw : (wt == 0) = false) (hB : Blk w g (pcl d r wt id t a x y z) 202) :
    Calls Tryz.prog 13 #[.pointer (some ⟨g, 0, none⟩)] w (SayPost w g d r wt id 0 true false false) := by
  have hN := pnone_any hB
  obtain ⟨c0, c1, c2, c3, c4, c5, c6, c7, c8⟩ := pcl_c hB
  have f5 := hB.fz 5
  have f6 := hB.fz 6
  have f7 := hB.fz 7
  have f8 := hB.fz 8
  have hB2 := ((((hB.set 6 (.bool true)).set 7 (.bool false)).set 8 (.bool false)).set 5 (.int .i64 0))
  have hF := ((((Fr.refl [g] w).setCell (p := ⟨g, 6, none⟩) (by simp) (.bool true)).setCell (p := ⟨g, 7, none⟩) (by simp) (.bool false)).setCell (p := ⟨g, 8, none⟩) (by simp) (.bool false)).setCell (p := ⟨g, 5, none⟩) (by simp) (.int .i64 0)
  have e2 : (((((pcl d r wt id t a x y z).setIfInBounds 6 (.bool true)).setIfInBounds 7 (.bool false)).setIfInBounds 8 (.bool false)).setIfInBounds 5 (.int .i64 0)) = pcl d r wt id t 0 true false false := by simp [pcl]
  rw [e2] at hB2
  clear e2
  rw [hw] at hN
  have HN := Lib.hid hN
  have HS := Lib.hid (psay_any i0 i1 hB2)
  have HF := Lib.hid hF
  clear hN hB2 hF
  go_enter Tryz.func13, Tryz.ntmps13
  go_wp2_with fail
  refine HN.out.mono ?_
  rintro e w1 ⟨rfl, rfl⟩
  go_wp2_with fail
  refine HS.out.mono ?_
  rintro e w1 ⟨g', rfl, hg, hP, hC, hF1⟩
  have hz : ((((w.setCell ⟨g, 6, none⟩ (.bool true)).setCell ⟨g, 7, none⟩ (.bool false)).setCell ⟨g, 8, none⟩ (.bool false)).setCell ⟨g, 5, none⟩ (.int .i64 0)).heap.size = w.heap.size := by simp
  rw [hz] at hg
  clear c0 c1 c2 c3 c4 c5 c6 c7 c8 f5 f6 f7 f8 hz
  go_wp2
  go_ret
  exact ⟨g', rfl, hg, hP, hC, HF.out.trans hF1⟩
theorem pstart_zero (hB : Blk w g (pcl d r 0 id t a x y z) 202) :
    Calls Tryz.prog 13 #[.pointer (some ⟨g, 0, none⟩)] w fun e w' => e = .returned (.slice none 0 0) ∧ w = w' := by
  have HN := Lib.hid (pnone_any hB)
  clear hB
  go_enter Tryz.func13, Tryz.ntmps13
  go_wp2_with fail
  refine HN.out.mono ?_
  rintro e w1 ⟨rfl, rfl⟩
  go_wp2
  go_ret
  exact ⟨rfl, rfl⟩
theorem pstart_nil :
    Calls Tryz.prog 13 #[.pointer none] w fun e w' => e = .returned (.slice none 0 0) ∧ w = w' := by
  go_enter Tryz.func13, Tryz.ntmps13
  go_wp2_with fail
  refine pnone_nil.mono ?_
  rintro e w1 ⟨rfl, rfl⟩
  go_wp2
  go_ret
  exact ⟨rfl, rfl⟩
theorem ptick_nil :
    Calls Tryz.prog 15 #[.pointer none] w fun e w' => e = .returned (.slice none 0 0) ∧ w = w' := by
  go_enter Tryz.func15, Tryz.ntmps15
  go_wp2_with fail
  refine pnone_nil.mono ?_
  rintro e w1 ⟨rfl, rfl⟩
  go_wp2
  go_ret
  exact ⟨rfl, rfl⟩
theorem ptick_zero (hB : Blk w g (pcl d r 0 id t a x y z) 202) :
    Calls Tryz.prog 15 #[.pointer (some ⟨g, 0, none⟩)] w fun e w' => e = .returned (.slice none 0 0) ∧ w = w' := by
  have HN := Lib.hid (pnone_any hB)
  clear hB
  go_enter Tryz.func15, Tryz.ntmps15
  go_wp2_with fail
  refine HN.out.mono ?_
  rintro e w1 ⟨rfl, rfl⟩
  go_wp2
  go_ret
  exact ⟨rfl, rfl⟩
theorem ptick_idle (hw : (wt == 0) = false) (hB : Blk w g (pcl d r wt id t a false y z) 202) :
    Calls Tryz.prog 15 #[.pointer (some ⟨g, 0, none⟩)] w fun e w' => e = .returned (.slice none 0 0) ∧ w = w' := by
  have hN := pnone_any hB
  obtain ⟨c0, c1, c2, c3, c4, c5, c6, c7, c8⟩ := pcl_c hB
  rw [hw] at hN
  have HN := Lib.hid hN
  clear hB hN
  go_enter Tryz.func15, Tryz.ntmps15
  go_wp2_with fail
  refine HN.out.mono ?_
  rintro e w1 ⟨rfl, rfl⟩
  go_wp2
  go_ret
  exact ⟨rfl, rfl⟩
theorem ptick_wait (hw : (wt == 0) = false) (t0 : 0 ≤ t) (t1 : t ≤ 1000) (ht : t + 1 < wt) (hB : Blk w g (pcl d r wt id t a true y z) 202) :
    Calls Tryz.prog 15 #[.pointer (some ⟨g, 0, none⟩)] w fun e w' => e = .returned (.slice none 0 0) ∧ Blk w' g (pcl d r wt id (t + 1) a true y z) 202 ∧ Fr [g] w w' := by
  have hN := pnone_any hB
  obtain ⟨c0, c1, c2, c3, c4, c5, c6, c7, c8⟩ := pcl_c hB
  have f4 := hB.fz 4
  have hB2 : Blk (w.setCell ⟨g, 4, none⟩ (.int .i64 (t + 1))) g (pcl d r wt id (t + 1) a true y z) 202 := by have := hB.set 4 (.int .i64 (t + 1)); simpa [pcl] using this
  rw [hw] at hN
  have HN := Lib.hid hN
  clear hN
  go_enter Tryz.func15, Tryz.ntmps15
  go_wp2_with fail
  refine HN.out.mono ?_
  rintro e w1 ⟨rfl, rfl⟩
  go_wp2
  go_quiet (fail)
  go_wp2
  go_ret
  exact ⟨rfl, hB2.drewN _, ((Fr.refl _ _).setCell (by simp) _).drewN _⟩
theorem ptick_end (hw : (wt == 0) = false) (t0 : 0 ≤ t) (t1 : t ≤ 1000) (ht : ¬ t + 1 < wt) (ha : r ≤ a) (hB : Blk w g (pcl d r wt id t a true y z) 202) :
    Calls Tryz.prog 15 #[.pointer (some ⟨g, 0, none⟩)] w fun e w' => e = .returned (.slice none 0 0) ∧ Blk w' g (pcl d r wt id (t + 1) a false true false) 202 ∧ Fr [g] w w' := by
  have hN := pnone_any hB
  obtain ⟨c0, c1, c2, c3, c4, c5, c6, c7, c8⟩ := pcl_c hB
  have f4 := hB.fz 4
  have hB2 : Blk (w.setCell ⟨g, 4, none⟩ (.int .i64 (t + 1))) g (pcl d r wt id (t + 1) a true y z) 202 := by have := hB.set 4 (.int .i64 (t + 1)); simpa [pcl] using this
  rw [hw] at hN
  have HN := Lib.hid hN
  clear hN
  go_enter Tryz.func15, Tryz.ntmps15
  go_wp2_with fail
  refine HN.out.mono ?_
  rintro e w1 ⟨rfl, rfl⟩
  go_wp2
  go_quiet (fail)
  go_wp2
  go_quiet (fail)
  go_wp2_with fail
  refine (pend_any false (by exact hB2.drewN _)).mono ?_
  rintro e w1 ⟨rfl, hC, hF1⟩
  go_wp2
  go_ret
  exact ⟨rfl, hC, ((((Fr.refl _ w).setCell (p := ⟨g, 4, none⟩) (by simp) _).drewN _)).trans hF1⟩
theorem ptick_say (i0 : 0 ≤ id) (i1 : id < 256) (hw : (wt == 0) = false) (t0 : 0 ≤ t) (t1 : t ≤ 1000) (a0 : 0 ≤ a) (a1 : a ≤ 1000) (ht : ¬ t + 1 < wt) (ha : ¬ r ≤ a) (hB : Blk w g (pcl d r wt id t a true y z) 202) :
    Calls Tryz.prog 15 #[.pointer (some ⟨g, 0, none⟩)] w (SayPost w g d r wt id (a + 1) true y z) := by
  have hN := pnone_any hB
  obtain ⟨c0, c1, c2, c3, c4, c5, c6, c7, c8⟩ := pcl_c hB
  have f4 := hB.fz 4
  have f5 := hB.fz 5
  have hB2 : Blk (w.setCell ⟨g, 4, none⟩ (.int .i64 (t + 1))) g (pcl d r wt id (t + 1) a true y z) 202 := by have := hB.set 4 (.int .i64 (t + 1)); simpa [pcl] using this
  rw [hw] at hN
  have HN := Lib.hid hN
  clear hN
  go_enter Tryz.func15, Tryz.ntmps15
  go_wp2_with fail
  refine HN.out.mono ?_
  rintro e w1 ⟨rfl, rfl⟩
  go_wp2
  go_quiet (fail)
  go_wp2
  go_quiet (fail)
  go_wp2_with fail
  refine (psay_any i0 i1 (t := t + 1) (r := r) (wt := wt) (a := a + 1) (x := true) (y := y) (z := z) (d := d) ?_).mono ?_
  · exact pcl_set5 (hB2.drewN _)
  rintro e w1 ⟨g', rfl, hg, hP, hC, hF1⟩
  have hF := ((((Fr.refl [g] w).setCell (p := ⟨g, 4, none⟩) (by simp) _).drewN _).setCell (p := ⟨g, 5, none⟩) (by simp) _).trans hF1
  have hz : w.heap.size ≤ g' := by simpa using hg
  clear c0 c1 c2 c3 c4 c5 c6 c7 c8 f4 f5 HN hB2 hB
  go_wp2
  go_ret
  exact ⟨g', rfl, hz, hP, hC, hF⟩
theorem pdone_nil :
    Calls Tryz.prog 20 #[.pointer none] w fun e w' => e = .returned (.tuple #[.bool false, .bool false]) ∧ w = w' := by
  go_enter Tryz.func20, Tryz.ntmps20
  go_wp2_with fail
  refine pnone_nil.mono ?_
  rintro e w1 ⟨rfl, rfl⟩
  go_wp2
  go_ret2
  exact ⟨rfl, rfl⟩
theorem pdone_zero (hB : Blk w g (pcl d r 0 id t a x y z) 202) :
    Calls Tryz.prog 20 #[.pointer (some ⟨g, 0, none⟩)] w fun e w' => e = .returned (.tuple #[.bool false, .bool false]) ∧ w = w' := by
  have HN := Lib.hid (pnone_any hB)
  clear hB
  go_enter Tryz.func20, Tryz.ntmps20
  go_wp2_with fail
  refine HN.out.mono ?_
  rintro e w1 ⟨rfl, rfl⟩
  go_wp2
  go_ret2
  exact ⟨rfl, rfl⟩
theorem pdone_any (hw : (wt == 0) = false) (hB : Blk w g (pcl d r wt id t a x y z) 202) :
    Calls Tryz.prog 20 #[.pointer (some ⟨g, 0, none⟩)] w fun e w' => e = .returned (.tuple #[.bool y, .bool z]) ∧ Fr [] w w' := by
  have hN := pnone_any hB
  obtain ⟨c0, c1, c2, c3, c4, c5, c6, c7, c8⟩ := pcl_c hB
  rw [hw] at hN
  have HN := Lib.hid hN
  clear hN
  go_enter Tryz.func20, Tryz.ntmps20
  go_wp2_with fail
  refine HN.out.mono ?_
  rintro e w1 ⟨rfl, rfl⟩
  go_wp2
  go_quiet (fail)
  go_wp2
  go_ret2
  exact ⟨rfl, (Fr.refl _ _).drewN _⟩
def newE (n s : List UInt8) (r wt : Int) : Int := if n.length ≤ 60 ∧ s.length ≤ 60 then (if 0 ≤ r ∧ r ≤ 10 ∧ 1 ≤ wt ∧ wt ≤ 100 then 0 else 1) else 2
theorem pnew_ok (n s : List UInt8) (hn : n.length ≤ 60) (hs : s.length ≤ 60) (r0 : 0 ≤ r) (r1 : r ≤ 10) (w0 : 1 ≤ wt) (w1 : wt ≤ 100) :
    Calls Tryz.prog 11 #[.string (B n), .string (B s), .int .i64 r, .int .i64 wt] w fun e w' => ∃ g, e = .returned (.tuple #[.pointer (some ⟨g, 0, none⟩), .int .i64 0]) ∧ w.heap.size ≤ g ∧ Blk w' g (pcl (reqL n s) r wt 0 0 0 false false false) 202 ∧ Fr [] w w' := by
  have hP := putReq_any n s w (by omega) (by omega)
  have hE : reqE n s = 0 := by unfold reqE; rw [if_pos ⟨hn, hs⟩]
  rw [hE] at hP
  have HP := Lib.hid hP
  clear hP hE hn hs
  go_enter Tryz.func11, Tryz.ntmps11
  go_wp2_with fail
  refine HP.out.mono ?_
  rintro e w1 ⟨rfl, hF⟩
  go_wp2
  go_ret2
  exact ⟨w1.heap.size, rfl, hF.size, Blk.new _ _ _, hF.alloc _⟩
theorem pnew_bad (n s : List UInt8) (hn : n.length ≤ 140737488355328) (hs : s.length ≤ 140737488355328) (h : newE n s r wt ≠ 0) :
    Calls Tryz.prog 11 #[.string (B n), .string (B s), .int .i64 r, .int .i64 wt] w fun e w' => e = .returned (.tuple #[.pointer none, .int .i64 (newE n s r wt)]) ∧ Fr [] w w' := by
  have hP := putReq_any n s w hn hs
  by_cases h1 : n.length ≤ 60 ∧ s.length ≤ 60
  · have hE : reqE n s = 0 := by unfold reqE; rw [if_pos h1]
    have hN : newE n s r wt = 1 := by unfold newE at h ⊢; rw [if_pos h1] at h ⊢; split <;> simp_all
    have hX : r < 0 ∨ ¬ r < 0 ∧ 10 < r ∨ ¬ r < 0 ∧ ¬ 10 < r ∧ wt < 1 ∨ ¬ r < 0 ∧ ¬ 10 < r ∧ ¬ wt < 1 ∧ 100 < wt := by
      unfold newE at h; rw [if_pos h1] at h
      by_cases h2 : 0 ≤ r ∧ r ≤ 10 ∧ 1 ≤ wt ∧ wt ≤ 100
      · rw [if_pos h2] at h; exact absurd rfl h
      · omega
    rw [hE] at hP
    rw [hN]
    have HP := Lib.hid hP
    clear hP hE h1 hN h
    rcases hX with hX | ⟨h1, hX⟩ | ⟨h1, h2, hX⟩ | ⟨h1, h2, h3, hX⟩
    all_goals
      go_enter Tryz.func11, Tryz.ntmps11
      go_wp2_with fail
      refine HP.out.mono ?_
      rintro e w1 ⟨rfl, hF⟩
      go_wp2
      go_ret2
      exact ⟨rfl, hF⟩
  · have hE : reqE n s = 2 := by unfold reqE; rw [if_neg h1]
    have hN : newE n s r wt = 2 := by unfold newE; rw [if_neg h1]
    rw [hE] at hP
    rw [hN]
    have HP := Lib.hid hP
    clear hP hE h1 hN h
    go_enter Tryz.func11, Tryz.ntmps11
    go_wp2_with fail
    refine HP.out.mono ?_
    rintro e w1 ⟨rfl, hF⟩
    go_wp2
    go_ret2
    exact ⟨rfl, hF⟩
end
end Go.Proofs.YtfchbppfbepelaaGreat
