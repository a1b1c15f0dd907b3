/- chap's server of the document: one law for each call. -/
import Derived.Test.YtfchbppfbepelaaGreatChS1
namespace Go.Proofs.YtfchbppfbepelaaGreat
open Go.RowKit
set_option linter.unusedVariables false
def dsv (n : List UInt8) (r wt id t a : Int) (v : List UInt8) (ak ws jd x y : Bool) : Array Value := #[.string (B n), .int .i64 r, .int .i64 wt, .int .i64 id, .int .i64 t, .int .i64 a, .string (B v), .bool ak, .bool ws, .bool jd, .bool x, .bool y]
abbrev dsvS (n : List UInt8) (r wt : Int) (s : SS) : Array Value := dsv n r wt s.id s.t s.a s.v s.ak s.ws s.jd s.x s.y
section
variable {w : World} {g : Nat} {n : List UInt8} {r wt id t a : Int} {v : List UInt8} {ak ws jd x y : Bool} {s : SS}
theorem dsv_c {T : Nat} (h : Blk w g (dsv n r wt id t a v ak ws jd x y) T) : w.cell? ⟨g, 0, none⟩ = some (.string (B n)) ∧ w.cell? ⟨g, 1, none⟩ = some (.int .i64 r) ∧ w.cell? ⟨g, 2, none⟩ = some (.int .i64 wt) ∧ w.cell? ⟨g, 3, none⟩ = some (.int .i64 id) ∧ w.cell? ⟨g, 4, none⟩ = some (.int .i64 t) ∧ w.cell? ⟨g, 5, none⟩ = some (.int .i64 a) ∧ w.cell? ⟨g, 6, none⟩ = some (.string (B v)) ∧ w.cell? ⟨g, 7, none⟩ = some (.bool ak) ∧ w.cell? ⟨g, 8, none⟩ = some (.bool ws) ∧ w.cell? ⟨g, 9, none⟩ = some (.bool jd) ∧ w.cell? ⟨g, 10, none⟩ = some (.bool x) ∧ w.cell? ⟨g, 11, none⟩ = some (.bool y) :=
  ⟨h.c 0 _ rfl, h.c 1 _ rfl, h.c 2 _ rfl, h.c 3 _ rfl, h.c 4 _ rfl, h.c 5 _ rfl, h.c 6 _ rfl, h.c 7 _ rfl, h.c 8 _ rfl, h.c 9 _ rfl, h.c 10 _ rfl, h.c 11 _ rfl⟩
def DSP (w : World) (g : Nat) (n : List UInt8) (r wt id a : Int) (v : List UInt8) (ak ws jd x y : Bool) (e : Ending) (w' : World) : Prop :=
  ∃ g', e = .returned (.slice (some ⟨g', 0, none⟩) 1 1) ∧ w.heap.size ≤ g' ∧ Blk w' g' (pkt 1 id (.slice none 0 0) (pvL v n)) 56 ∧ Blk w' g (dsv n r wt id 0 a v ak ws jd x y) 101 ∧ Fr [g] w w'
set_option maxHeartbeats 1000000 in
theorem dsask (hn : n.length ≤ 60) (hv : v.length ≤ 300) (hB : Blk w g (dsv n r wt id t a v ak ws jd x y) 101) :
    Calls Tryz.prog 192 #[.pointer (some ⟨g, 0, none⟩)] w (DSP w g n r wt id a v ak ws jd x y) := by
  obtain ⟨c0, c1, c2, c3, c4, c5, c6, c7, c8, c9, c10, c11⟩ := dsv_c hB
  have f4 := hB.fz 4
  have hB2 : Blk (w.setCell ⟨g, 4, none⟩ (.int .i64 0)) g (dsv n r wt id 0 a v ak ws jd x y) 101 := by have := hB.set 4 (.int .i64 0); simpa [dsv] using this
  have hF2 : Fr [g] w (w.setCell ⟨g, 4, none⟩ (.int .i64 0)) := (Fr.refl _ _).setCell (by simp) _
  have P := Lib.hid fun W => rputValue_any v n W (by omega) (by omega)
  obtain ⟨L, hL⟩ : ∃ L, pvL v n = L := ⟨_, rfl⟩
  obtain ⟨E, hE⟩ : ∃ E, pvE v n = E := ⟨_, rfl⟩
  rw [hL, hE] at P
  unfold DSP
  rw [hL]
  obtain ⟨W, hW⟩ : ∃ W, w.setCell ⟨g, 4, none⟩ (.int .i64 0) = W := ⟨_, rfl⟩
  rw [hW] at hB2 hF2
  have HW := Lib.hid hW
  clear hW hL hE hn hv hB
  go_enter Tryz.func192, Tryz.ntmps192
  go_wp2_with fail
  rw [HW.out]
  clear c0 c1 c2 c3 c4 c5 c6 c7 c8 c9 c10 c11 f4
  have hG : W.drew.cell? ⟨g, 6, none⟩ = some (.string (B v)) ∧ W.drew.cell? ⟨g, 0, none⟩ = some (.string (B n)) ∧ Blk W.drew g (dsv n r wt id 0 a v ak ws jd x y) 101 ∧ Fr [g] w W.drew := ⟨hB2.drew.c 6 _ rfl, hB2.drew.c 0 _ rfl, hB2.drew, hF2.drew⟩
  go_region_held3 (fun w' => w'.cell? ⟨g, 6, none⟩ = some (.string (B v)) ∧ w'.cell? ⟨g, 0, none⟩ = some (.string (B n)) ∧ Blk w' g (dsv n r wt id 0 a v ak ws jd x y) 101 ∧ Fr [g] w w')
    (first | exact hG | assumption | exact hK3)
    (first | (go_at_call 188; refine (P.out _).mono ?_; rintro e w3 ⟨rfl, hF3⟩; have hB3 := hF3.blk hG.2.2.1 (by simp); have hF4 := hG.2.2.2.trans (hF3.mono (S' := [g]) (by simp)); have hK3 := And.intro (hB3.c 6 _ rfl) (And.intro (hB3.c 0 _ rfl) (And.intro hB3 hF4))))
  all_goals
    have hS : w3.cell? ⟨g, 6, none⟩ = some (.string (B v)) ∧ w3.cell? ⟨g, 0, none⟩ = some (.string (B n)) ∧ Blk w3 g (dsv n r wt id 0 a v ak ws jd x y) 101 ∧ Fr [g] w w3 := by assumption
    obtain ⟨_, _, hB4, hF4⟩ := hS
    clear hG hB2 hF2
    have c3 : w3.cell? ⟨g, 3, none⟩ = some (.int .i64 id) := hB4.c 3 _ rfl
    have hl4 := hF4.size
    go_wp2
    go_ret
    exact ⟨w3.heap.size, rfl, hl4, Blk.new w3 (pkt 1 id (.slice none 0 0) L) 56, hB4.alloc _, hF4.alloc _⟩
theorem dsStart (hn : n.length ≤ 60) (hs : s.ok n wt) (u : List UInt8) (hu : u.length ≤ 300) (hB : Blk w g (dsvS n r wt s) 101) :
    Calls Tryz.prog 37 #[.pointer (some ⟨g, 0, none⟩), .string (B u)] w fun e w' => ∃ v, e = .returned v ∧ PkO w.heap.size w' v (s.startO n u) ∧ Blk w' g (dsvS n r wt (s.start u)) 101 ∧ Fr [g] w w' := by
  unfold SS.startO SS.start
  by_cases hv : badV u
  · rw [if_pos hv, if_pos hv]
    have hX : (u.length : Int) < 1 ∨ ¬ (u.length : Int) < 1 ∧ (60 : Int) < u.length := by
      rcases hv with rfl | h
      · left; simp
      · right; omega
    have HB := Lib.hid hB
    clear hv hB
    rcases hX with h1 | ⟨h1, h2⟩
    all_goals
      go_enter Tryz.func37, Tryz.ntmps37
      go_wp2_with fail
      go_ret
      exact ⟨_, rfl, PkO.nil _ _, HB.out, Fr.refl _ _⟩
  · rw [if_neg hv, if_neg hv]
    have h1 : ¬ (u.length : Int) < 1 := fun h => hv (Or.inl (List.eq_nil_of_length_eq_zero (by omega)))
    have h2 : ¬ (60 : Int) < u.length := fun h => hv (Or.inr (by omega))
    obtain ⟨id, t, a, v, ak, ws, jd, x, y⟩ := s
    have q1 : 0 ≤ id := hs.i0
    have q2 : id < 256 := hs.i1
    dsimp only [dsvS] at hB ⊢
    obtain ⟨c0, c1, c2, c3, c4, c5, c6, c7, c8, c9, c10, c11⟩ := dsv_c hB
    have f3 := hB.fz 3
    have f5 := hB.fz 5
    have f6 := hB.fz 6
    have f7 := hB.fz 7
    have f8 := hB.fz 8
    have f9 := hB.fz 9
    have f10 := hB.fz 10
    have f11 := hB.fz 11
    have hB2 := (((((((hB.set 3 (.int .i64 ((id + 1) % 256))).set 6 (.string (B u))).set 5 (.int .i64 0)).set 7 (.bool true)).set 8 (.bool false)).set 9 (.bool false)).set 10 (.bool false)).set 11 (.bool false)
    have hF := ((((((((Fr.refl [g] w).setCell (p := ⟨g, 3, none⟩) (by simp) (.int .i64 ((id + 1) % 256))).setCell (p := ⟨g, 6, none⟩) (by simp) (.string (B u))).setCell (p := ⟨g, 5, none⟩) (by simp) (.int .i64 0)).setCell (p := ⟨g, 7, none⟩) (by simp) (.bool true)).setCell (p := ⟨g, 8, none⟩) (by simp) (.bool false)).setCell (p := ⟨g, 9, none⟩) (by simp) (.bool false)).setCell (p := ⟨g, 10, none⟩) (by simp) (.bool false)).setCell (p := ⟨g, 11, none⟩) (by simp) (.bool false)
    have e2 : ((((((((dsv n r wt id t a v ak ws jd x y).setIfInBounds 3 (.int .i64 ((id + 1) % 256))).setIfInBounds 6 (.string (B u))).setIfInBounds 5 (.int .i64 0)).setIfInBounds 7 (.bool true)).setIfInBounds 8 (.bool false)).setIfInBounds 9 (.bool false)).setIfInBounds 10 (.bool false)).setIfInBounds 11 (.bool false) = dsv n r wt ((id + 1) % 256) t 0 u true false false false false := by simp [dsv]
    rw [e2] at hB2
    have hA := dsask hn hu hB2
    obtain ⟨W, hW⟩ : ∃ W, (((((((w.setCell ⟨g, 3, none⟩ (.int .i64 ((id + 1) % 256))).setCell ⟨g, 6, none⟩ (.string (B u))).setCell ⟨g, 5, none⟩ (.int .i64 0)).setCell ⟨g, 7, none⟩ (.bool true)).setCell ⟨g, 8, none⟩ (.bool false)).setCell ⟨g, 9, none⟩ (.bool false)).setCell ⟨g, 10, none⟩ (.bool false)).setCell ⟨g, 11, none⟩ (.bool false) = W := ⟨_, rfl⟩
    have hz : W.heap.size = w.heap.size := by rw [← hW]; simp
    rw [hW] at hA hF
    have HA := Lib.hid hA
    have HF := Lib.hid hF
    have HW := Lib.hid hW
    have HZ := Lib.hid hz
    clear e2 hB2 hA hF hB hv hs hW hz
    go_enter Tryz.func37, Tryz.ntmps37
    go_wp2_with fail
    rw [HW.out]
    refine HA.out.mono ?_
    rintro e w1 ⟨g', rfl, hg, hP, hC, hF1⟩
    rw [HZ.out] at hg
    have HEND := Lib.hid (And.intro (PkO.one hP hg) (And.intro hC (HF.out.trans hF1)))
    clear c0 c1 c2 c3 c4 c5 c6 c7 c8 c9 c10 c11 f3 f5 f6 f7 f8 f9 f10 f11 hg hP hC hF1
    go_wp2_with fail
    go_ret
    exact ⟨_, rfl, HEND.out⟩
theorem dsTick (hn : n.length ≤ 60) (hs : s.ok n wt) (hB : Blk w g (dsvS n r wt s) 101) :
    Calls Tryz.prog 39 #[.pointer (some ⟨g, 0, none⟩)] w fun e w' => ∃ v, e = .returned v ∧ PkO w.heap.size w' v (s.tickO n r wt) ∧ Blk w' g (dsvS n r wt (s.tick r wt)) 101 ∧ Fr [g] w w' := by
  obtain ⟨id, t, a, v, ak, ws, jd, x, y⟩ := s
  obtain ⟨h1, h2, h3, h4, h5, h6, h7, h8⟩ := hs
  dsimp only [dsvS] at h1 h2 h3 h4 h5 h6 h7 h8 hB
  obtain ⟨c0, c1, c2, c3, c4, c5, c6, c7, c8, c9, c10, c11⟩ := dsv_c hB
  cases ak with
  | false =>
    simp only [SS.tickO, SS.tick]
    have HEND := Lib.hid hB
    clear hB h7 h8
    go_enter Tryz.func39, Tryz.ntmps39
    go_wp2
    go_ret
    exact ⟨_, rfl, PkO.nil _ _, HEND.out, Fr.refl _ _⟩
  | true =>
    have f4 := hB.fz 4
    have hB2 : Blk (w.setCell ⟨g, 4, none⟩ (.int .i64 (t + 1))) g (dsv n r wt id (t + 1) a v true ws jd x y) 101 := by have := hB.set 4 (.int .i64 (t + 1)); simpa [dsv] using this
    have hF1 : Fr [g] w (w.setCell ⟨g, 4, none⟩ (.int .i64 (t + 1))) := (Fr.refl [g] w).setCell (p := ⟨g, 4, none⟩) (by simp) (.int .i64 (t + 1))
    have hvl : v.length ≤ 300 := by
      have := h8 rfl
      unfold pvE at this
      by_cases hb : v = [] ∨ 60 < v.length
      · rw [if_pos hb] at this; exact absurd this (by decide)
      · omega
    by_cases ht : t + 1 < wt
    · have HB2 := Lib.hid hB2
      have HF1 := Lib.hid hF1
      simp only [SS.tickO, SS.tick, ht]
      clear hB hB2 hF1 h7 h8
      go_enter Tryz.func39, Tryz.ntmps39
      go_wp2
      go_quiet (fail)
      go_wp2
      go_ret
      exact ⟨_, rfl, PkO.nil _ _, HB2.out.drewN _, HF1.out.drewN _⟩
    · by_cases ha : r ≤ a
      · have f7 := hB.fz 7
        have f10 := hB.fz 10
        have HY : Hid (∀ N, Blk ((((w.setCell ⟨g, 4, none⟩ (.int .i64 (t + 1))).drewN N).setCell ⟨g, 7, none⟩ (.bool false)).setCell ⟨g, 10, none⟩ (.bool true)) g (dsv n r wt id (t + 1) a v false ws jd true y) 101) := Lib.hid fun N => by
          have := ((hB2.drewN N).set 7 (.bool false)).set 10 (.bool true)
          simpa [dsv] using this
        have HF1 := Lib.hid hF1
        simp only [SS.tickO, SS.tick, ht, ha]
        clear hB hB2 hF1 h7 h8
        go_enter Tryz.func39, Tryz.ntmps39
        go_wp2
        go_quiet (fail)
        go_wp2
        go_quiet (fail)
        go_wp2
        go_ret
        exact ⟨_, rfl, PkO.nil _ _, HY.out _, ((HF1.out.drewN _).setCell (by simp) _).setCell (by simp) _⟩
      · have f5 := hB.fz 5
        have HY : Hid (∀ N, Blk (((w.setCell ⟨g, 4, none⟩ (.int .i64 (t + 1))).drewN N).setCell ⟨g, 5, none⟩ (.int .i64 (a + 1))) g (dsv n r wt id (t + 1) (a + 1) v true ws jd x y) 101) := Lib.hid fun N => by
          have := (hB2.drewN N).set 5 (.int .i64 (a + 1))
          simpa [dsv] using this
        have HF1 := Lib.hid hF1
        have HA : Hid (∀ W, Blk W g (dsv n r wt id (t + 1) (a + 1) v true ws jd x y) 101 → Calls Tryz.prog 192 #[.pointer (some ⟨g, 0, none⟩)] W (DSP W g n r wt id (a + 1) v true ws jd x y)) := Lib.hid fun W hW => dsask hn hvl hW
        simp only [SS.tickO, SS.tick, ht, ha]
        clear hB hB2 hF1 h7 h8
        go_enter Tryz.func39, Tryz.ntmps39
        go_wp2
        go_quiet (fail)
        go_wp2
        go_quiet (fail)
        go_wp2_with fail
        refine (HA.out _ (HY.out _)).mono ?_
        rintro e w1 ⟨g', rfl, hg, hP, hC, hF2⟩
        have hF := ((HF1.out.drewN _).setCell (p := ⟨g, 5, none⟩) (by simp) _).trans hF2
        have hg2 : w.heap.size ≤ g' := by simpa using hg
        have HEND := Lib.hid (And.intro (PkO.one hP hg2) (And.intro hC hF))
        clear c0 c1 c2 c3 c4 c5 c6 c7 c8 c9 c10 c11 f4 f5 hg hP hC hF2 hF hg2
        go_wp2
        go_ret
        exact ⟨_, rfl, HEND.out.1, HEND.out.2.1, HEND.out.2.2⟩
theorem dssay (hB : Blk w g (dsv n r wt id t a v ak ws jd x y) 101) :
    Calls Tryz.prog 194 #[.pointer (some ⟨g, 0, none⟩)] w fun e w' => ∃ v, e = .returned v ∧ PkO w.heap.size w' v [(if y then 3 else 4, id, [])] ∧ Fr [] w w' := by
  obtain ⟨c0, c1, c2, c3, c4, c5, c6, c7, c8, c9, c10, c11⟩ := dsv_c hB
  clear hB
  cases y with
  | false =>
    have HN := Lib.hid (PkO.one (base := w.heap.size) (Blk.new w (pkt 4 id (.slice none 0 0) []) 56) (Nat.le_refl _))
    go_enter Tryz.func194, Tryz.ntmps194
    go_wp2
    go_ret
    exact ⟨_, rfl, HN.out, (Fr.refl _ _).alloc _⟩
  | true =>
    have HN := Lib.hid (PkO.one (base := w.heap.size) (Blk.new w (pkt 3 id (.slice none 0 0) []) 56) (Nat.le_refl _))
    go_enter Tryz.func194, Tryz.ntmps194
    go_wp2
    go_ret
    exact ⟨_, rfl, HN.out, (Fr.refl _ _).alloc _⟩
theorem dsJudge (b : Bool) (hB : Blk w g (dsvS n r wt s) 101) :
    Calls Tryz.prog 41 #[.pointer (some ⟨g, 0, none⟩), .bool b] w fun e w' => ∃ v, e = .returned v ∧ PkO w.heap.size w' v (s.judgeO b) ∧ Blk w' g (dsvS n r wt (s.judge b)) 101 ∧ Fr [g] w w' := by
  obtain ⟨id, t, a, v, ak, ws, jd, x, y⟩ := s
  dsimp only [dsvS] at hB
  obtain ⟨c0, c1, c2, c3, c4, c5, c6, c7, c8, c9, c10, c11⟩ := dsv_c hB
  cases ws with
  | false =>
    simp only [SS.judgeO, SS.judge]
    have HEND := Lib.hid hB
    clear hB
    go_enter Tryz.func41, Tryz.ntmps41
    go_wp2
    go_ret
    exact ⟨_, rfl, PkO.nil _ _, HEND.out, Fr.refl _ _⟩
  | true =>
    have f8 := hB.fz 8
    have f9 := hB.fz 9
    have f10 := hB.fz 10
    have f11 := hB.fz 11
    have hB2 : Blk ((((w.setCell ⟨g, 8, none⟩ (.bool false)).setCell ⟨g, 9, none⟩ (.bool true)).setCell ⟨g, 10, none⟩ (.bool true)).setCell ⟨g, 11, none⟩ (.bool b)) g (dsv n r wt id t a v ak false true true b) 101 := by
      have := (((hB.set 8 (.bool false)).set 9 (.bool true)).set 10 (.bool true)).set 11 (.bool b)
      simpa [dsv] using this
    have hF : Fr [g] w ((((w.setCell ⟨g, 8, none⟩ (.bool false)).setCell ⟨g, 9, none⟩ (.bool true)).setCell ⟨g, 10, none⟩ (.bool true)).setCell ⟨g, 11, none⟩ (.bool b)) := ((((Fr.refl [g] w).setCell (by simp) _).setCell (by simp) _).setCell (by simp) _).setCell (by simp) _
    have hS := dssay hB2
    obtain ⟨W, hW⟩ : ∃ W, (((w.setCell ⟨g, 8, none⟩ (.bool false)).setCell ⟨g, 9, none⟩ (.bool true)).setCell ⟨g, 10, none⟩ (.bool true)).setCell ⟨g, 11, none⟩ (.bool b) = W := ⟨_, rfl⟩
    have hz : W.heap.size = w.heap.size := by rw [← hW]; simp
    rw [hW] at hS hF hB2
    rw [hz] at hS
    have HS := Lib.hid hS
    have HF := Lib.hid hF
    have HB2 := Lib.hid hB2
    have HW := Lib.hid hW
    simp only [SS.judgeO, SS.judge]
    obtain ⟨cc, hcc⟩ : ∃ cc : Int, (if b = true then 3 else 4) = cc := ⟨_, rfl⟩
    (try simp only [if_true])
    rw [hcc] at HS ⊢
    clear hB hB2 hF hS hW hz hcc
    go_enter Tryz.func41, Tryz.ntmps41
    go_wp2_with fail
    rw [HW.out]
    refine HS.out.mono ?_
    rintro e w1 ⟨v1, rfl, hP, hF1⟩
    have HEND := Lib.hid (And.intro hP (And.intro (hF1.blk HB2.out (by simp)) (HF.out.trans (hF1.mono (by simp)))))
    clear c0 c1 c2 c3 c4 c5 c6 c7 c8 c9 c10 c11 f8 f9 f10 f11 hP hF1
    go_wp2_with fail
    go_ret
    exact ⟨_, rfl, HEND.out.1, HEND.out.2.1, HEND.out.2.2⟩
theorem dsAgain (hs : s.ok n wt) (c i : Int) (pA : Option Addr) (pn cap : Nat) (D : List UInt8) (hB : Blk w g (dsvS n r wt s) 101) :
    Calls Tryz.prog 43 #[.pointer (some ⟨g, 0, none⟩), .agg #[.int .i64 c, .int .i64 i, .slice pA pn cap, .string (B D)]] w fun e w' => ∃ v, e = .returned v ∧ PkO w.heap.size w' v (s.againO c i) ∧ Fr [] w w' := by
  obtain ⟨id, t, a, v, ak, ws, jd, x, y⟩ := s
  dsimp only [dsvS] at hB
  obtain ⟨W, hW⟩ : ∃ W, w.alloc (.cells #[.int .i64 c, .int .i64 i, .slice pA pn cap, .string (B D)] 56) = W := ⟨_, rfl⟩
  have hP : Blk W w.heap.size #[.int .i64 c, .int .i64 i, .slice pA pn cap, .string (B D)] 56 := by rw [← hW]; exact Blk.new _ _ _
  have hBW : Blk W g (dsv n r wt id t a v ak ws jd x y) 101 := by rw [← hW]; exact hB.alloc _
  have hF : Fr [] w W := by rw [← hW]; exact (Fr.refl _ _).alloc _
  obtain ⟨c0, c1, c2, c3, c4, c5, c6, c7, c8, c9, c10, c11⟩ := dsv_c hBW
  have p0 : W.cell? ⟨w.heap.size, 0, none⟩ = some (.int .i64 c) := hP.c 0 _ rfl
  have p1 : W.cell? ⟨w.heap.size, 1, none⟩ = some (.int .i64 i) := hP.c 1 _ rfl
  have HW := Lib.hid hW
  have HF := Lib.hid hF
  have HS := Lib.hid fun N => dssay (w := W.drewN N) (hBW.drewN N)
  have hgl := hB.lt
  clear hW hP hBW hF hB hs
  have no : (SS.mk id t a v ak ws jd x y).againO c i = [] → ((c != 2) = true ∨ (c != 2) = false ∧ (i != id) = true ∨ (c != 2) = false ∧ (i != id) = false ∧ jd = false) → Calls Tryz.prog 43 #[.pointer (some ⟨g, 0, none⟩), .agg #[.int .i64 c, .int .i64 i, .slice pA pn cap, .string (B D)]] w fun e w' => ∃ v', e = .returned v' ∧ PkO w.heap.size w' v' ((SS.mk id t a v ak ws jd x y).againO c i) ∧ Fr [] w w' := fun e1 hx => by
    rw [e1]
    rcases hx with hx | ⟨hx, hy⟩ | ⟨hx, hy, rfl⟩
    all_goals
      clear e1
      go_enter Tryz.func43, Tryz.ntmps43
      go_wp2_with fail
      rw [HW.out]
      go_quiet (fail)
      go_wp2_with fail
      go_ret
      exact ⟨_, rfl, PkO.nil _ _, HF.out.drewN _⟩
  by_cases hc : c = 2
  · by_cases hi : i = id
    · cases hj : jd with
      | false =>
        subst hj
        exact no (by unfold SS.againO; rw [if_neg (fun h => by exact absurd h.2.2 (by simp))]) (Or.inr (Or.inr ⟨by simpa using hc, by simpa using hi, rfl⟩))
      | true =>
        subst hj
        have e1 : (SS.mk id t a v ak ws true x y).againO c i = [(if y then 3 else 4, id, [])] := by unfold SS.againO; rw [if_pos ⟨hc, hi, rfl⟩]
        rw [e1]
        have k1 : (c != 2) = false := by simpa using hc
        have k2 : (i != id) = false := by simpa using hi
        obtain ⟨cc, hcc⟩ : ∃ cc : Int, (if y = true then 3 else 4) = cc := ⟨_, rfl⟩
        rw [hcc] at HS ⊢
        clear no e1 hc hi hcc
        go_enter Tryz.func43, Tryz.ntmps43
        go_wp2_with fail
        rw [HW.out]
        go_quiet (fail)
        go_wp2_with fail
        refine (HS.out _).mono ?_
        rintro e w1 ⟨v1, rfl, hP, hF1⟩
        have HEND := Lib.hid (And.intro (rown_base hP (show w.heap.size ≤ W.heap.size from HF.out.size)) ((HF.out.drewN _).trans hF1))
        clear c0 c1 c2 c3 c4 c5 c6 c7 c8 c9 c10 c11 p0 p1 hP hF1
        go_wp2_with fail
        go_ret
        exact ⟨_, rfl, HEND.out.1, HEND.out.2⟩
    · exact no (by unfold SS.againO; rw [if_neg (fun h => hi h.2.1)]) (Or.inr (Or.inl ⟨by simpa using hc, by simpa using hi⟩))
  · exact no (by unfold SS.againO; rw [if_neg (fun h => hc h.1)]) (Or.inl (by simpa using hc))
theorem dsNew_ok (hn : n.length ≤ 60) (r0 : 0 ≤ r) (r1 : r ≤ 10) (w0 : 1 ≤ wt) (w1 : wt ≤ 100) :
    Calls Tryz.prog 35 #[.string (B n), .int .i64 r, .int .i64 wt] w fun e w' => ∃ g, e = .returned (.tuple #[.pointer (some ⟨g, 0, none⟩), .int .i64 0]) ∧ w.heap.size ≤ g ∧ Blk w' g (dsv n r wt 0 0 0 [] false false false false false) 101 ∧ Fr [] w w' := by
  have h1 : ¬ (60 : Int) < n.length := by omega
  clear hn
  go_enter Tryz.func35, Tryz.ntmps35
  go_wp2
  go_ret2
  exact ⟨w.heap.size, rfl, Nat.le_refl _, Blk.new _ _ _, (Fr.refl _ _).alloc _⟩
theorem dsNew_err (hn2 : n.length ≤ 140737488355328) (h : snewE n r wt ≠ 0) :
    Calls Tryz.prog 35 #[.string (B n), .int .i64 r, .int .i64 wt] w fun e w' => e = .returned (.tuple #[.pointer none, .int .i64 (snewE n r wt)]) ∧ Fr [] w w' := by
  unfold snewE at h ⊢
  by_cases h1 : 60 < n.length
  · rw [if_pos h1]
    have h1' : (60 : Int) < n.length := by omega
    clear h h1
    go_enter Tryz.func35, Tryz.ntmps35
    go_wp2
    go_ret2
    exact ⟨rfl, Fr.refl _ _⟩
  · rw [if_neg h1] at h ⊢
    by_cases h2 : 0 ≤ r ∧ r ≤ 10 ∧ 1 ≤ wt ∧ wt ≤ 100
    · rw [if_pos h2] at h; exact absurd rfl h
    · rw [if_neg h2]
      have h1' : ¬ (60 : Int) < n.length := by omega
      have hX : r < 0 ∨ ¬ r < 0 ∧ 10 < r ∨ ¬ r < 0 ∧ ¬ 10 < r ∧ wt < 1 ∨ ¬ r < 0 ∧ ¬ 10 < r ∧ ¬ wt < 1 ∧ 100 < wt := by omega
      clear h h1 h2
      rcases hX with hX | ⟨h1, hX⟩ | ⟨h1, h2, hX⟩ | ⟨h1, h2, h3, hX⟩
      all_goals
        go_enter Tryz.func35, Tryz.ntmps35
        go_wp2
        go_ret2
        exact ⟨rfl, Fr.refl _ _⟩
end
end Go.Proofs.YtfchbppfbepelaaGreat
