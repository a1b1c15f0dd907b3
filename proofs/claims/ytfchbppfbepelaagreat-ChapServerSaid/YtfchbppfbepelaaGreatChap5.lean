/- chap's server: the rest. -/
import Derived.Test.YtfchbppfbepelaaGreatChap4
import Derived.WalkSpells
namespace Go.Proofs.YtfchbppfbepelaaGreat
open Go.RowKit
set_option linter.unusedVariables false

section
variable {w : World} {g : Nat} {n : List UInt8} {r wt id : Int} {v : List UInt8} {ak ws : Bool} {t a : Int} {x y : Bool} {A : Option Addr} {sl sc : Nat}
theorem sstart_zero (u : List UInt8) (hB : Blk w g (csv n r 0 id v ak ws t a x y A sl sc) 248) :
    Calls Tryz.prog 36 #[.pointer (some ⟨g, 0, none⟩), .string (B u)] w fun e w' => e = .returned (.slice none 0 0) ∧ w = w' := by
  have HN := Lib.hid (snone_any hB)
  clear hB
  go_enter Tryz.func36, Tryz.ntmps36
  go_wp2_with fail
  refine HN.out.mono ?_
  rintro e w1 ⟨rfl, rfl⟩
  go_wp2
  go_ret
  exact ⟨rfl, rfl⟩
theorem sstart_nil (u : List UInt8) :
    Calls Tryz.prog 36 #[.pointer none, .string (B u)] w fun e w' => e = .returned (.slice none 0 0) ∧ w = w' := by
  go_enter Tryz.func36, Tryz.ntmps36
  go_wp2_with fail
  refine snone_nil.mono ?_
  rintro e w1 ⟨rfl, rfl⟩
  go_wp2
  go_ret
  exact ⟨rfl, rfl⟩
theorem stick_nil :
    Calls Tryz.prog 38 #[.pointer none] w fun e w' => e = .returned (.slice none 0 0) ∧ w = w' := by
  go_enter Tryz.func38, Tryz.ntmps38
  go_wp2_with fail
  refine snone_nil.mono ?_
  rintro e w1 ⟨rfl, rfl⟩
  go_wp2
  go_ret
  exact ⟨rfl, rfl⟩
theorem stick_zero (hB : Blk w g (csv n r 0 id v ak ws t a x y A sl sc) 248) :
    Calls Tryz.prog 38 #[.pointer (some ⟨g, 0, none⟩)] w fun e w' => e = .returned (.slice none 0 0) ∧ w = w' := by
  have HN := Lib.hid (snone_any hB)
  clear hB
  go_enter Tryz.func38, Tryz.ntmps38
  go_wp2_with fail
  refine HN.out.mono ?_
  rintro e w1 ⟨rfl, rfl⟩
  go_wp2
  go_ret
  exact ⟨rfl, rfl⟩
theorem stick_wait (hw : (wt == 0) = false) (t0 : 0 ≤ t) (t1 : t ≤ 1000) (ht : t + 1 < wt) (hB : Blk w g (csv n r wt id v true ws t a x y A sl sc) 248) :
    Calls Tryz.prog 38 #[.pointer (some ⟨g, 0, none⟩)] w fun e w' => e = .returned (.slice none 0 0) ∧ Blk w' g (csv n r wt id v true ws (t + 1) a x y A sl sc) 248 ∧ Fr [g] w w' := by
  have hN := snone_any hB
  obtain ⟨c0, c1, c2, c3, c4, c5, c6, c7, c8, c9, c10, c11⟩ := csv_c hB
  have f7 := hB.fz 7
  have hB2 : Blk (w.setCell ⟨g, 7, none⟩ (.int .i64 (t + 1))) g (csv n r wt id v true ws (t + 1) a x y A sl sc) 248 := by have := hB.set 7 (.int .i64 (t + 1)); simpa [csv] using this
  rw [hw] at hN
  have HN := Lib.hid hN
  clear hN
  go_enter Tryz.func38, Tryz.ntmps38
  go_wp2_with fail
  refine HN.out.mono ?_
  rintro e w1 ⟨rfl, rfl⟩
  go_wp2
  go_quiet (fail)
  go_wp2
  go_ret
  exact ⟨rfl, hB2.drewN _, ((Fr.refl _ _).setCell (by simp) _).drewN _⟩
theorem stick_end (hw : (wt == 0) = false) (t0 : 0 ≤ t) (t1 : t ≤ 1000) (ht : ¬ t + 1 < wt) (ha : r ≤ a) (hB : Blk w g (csv n r wt id v true ws t a x y A sl sc) 248) :
    Calls Tryz.prog 38 #[.pointer (some ⟨g, 0, none⟩)] w fun e w' => e = .returned (.slice none 0 0) ∧ Blk w' g (csv n r wt id v false ws (t + 1) a true y A sl sc) 248 ∧ Fr [g] w w' := by
  have hN := snone_any hB
  obtain ⟨c0, c1, c2, c3, c4, c5, c6, c7, c8, c9, c10, c11⟩ := csv_c hB
  have f7 := hB.fz 7
  have f5 := hB.fz 5
  have f9 := hB.fz 9
  have hB2 : Blk (w.setCell ⟨g, 7, none⟩ (.int .i64 (t + 1))) g (csv n r wt id v true ws (t + 1) a x y A sl sc) 248 := by have := hB.set 7 (.int .i64 (t + 1)); simpa [csv] using this
  have hB3 : ∀ N, Blk ((((w.setCell ⟨g, 7, none⟩ (.int .i64 (t + 1))).drewN N).setCell ⟨g, 5, none⟩ (.bool false)).setCell ⟨g, 9, none⟩ (.bool true)) g (csv n r wt id v false ws (t + 1) a true y A sl sc) 248 := fun N => by have := ((hB2.drewN N).set 5 (.bool false)).set 9 (.bool true); simpa [csv] using this
  have HB3 := Lib.hid hB3
  rw [hw] at hN
  have HN := Lib.hid hN
  clear hN hB3
  go_enter Tryz.func38, Tryz.ntmps38
  go_wp2_with fail
  refine HN.out.mono ?_
  rintro e w1 ⟨rfl, rfl⟩
  go_wp2
  go_quiet (fail)
  go_wp2
  go_quiet (fail)
  go_wp2
  go_ret
  exact ⟨rfl, HB3.out _, ((((Fr.refl _ _).setCell (by simp) _).drewN _).setCell (by simp) _).setCell (by simp) _⟩
theorem csv_set8 {T : Nat} {a' : Int} (hB : Blk w g (csv n r wt id v ak ws t a x y A sl sc) T) : Blk (w.setCell ⟨g, 8, none⟩ (.int .i64 a')) g (csv n r wt id v ak ws t a' x y A sl sc) T := by
  have := hB.set 8 (.int .i64 a')
  simpa [csv] using this
theorem stick_say (i0 : 0 ≤ id) (i1 : id < 256) (hv : pvE v n = 0) (hw : (wt == 0) = false) (t0 : 0 ≤ t) (t1 : t ≤ 1000) (a0 : 0 ≤ a) (a1 : a ≤ 1000) (ht : ¬ t + 1 < wt) (ha : ¬ r ≤ a) (hB : Blk w g (csv n r wt id v true ws t a x y A sl sc) 248) :
    Calls Tryz.prog 38 #[.pointer (some ⟨g, 0, none⟩)] w (SSay w g n r wt id v true ws (a + 1) x y A sl sc) := by
  have hN := snone_any hB
  obtain ⟨c0, c1, c2, c3, c4, c5, c6, c7, c8, c9, c10, c11⟩ := csv_c hB
  have f7 := hB.fz 7
  have f8 := hB.fz 8
  have hB2 : Blk (w.setCell ⟨g, 7, none⟩ (.int .i64 (t + 1))) g (csv n r wt id v true ws (t + 1) a x y A sl sc) 248 := by have := hB.set 7 (.int .i64 (t + 1)); simpa [csv] using this
  rw [hw] at hN
  have HN := Lib.hid hN
  have Hv := Lib.hid hv
  clear hN hv
  go_enter Tryz.func38, Tryz.ntmps38
  go_wp2_with fail
  refine HN.out.mono ?_
  rintro e w1 ⟨rfl, rfl⟩
  go_wp2
  go_quiet (fail)
  go_wp2
  go_quiet (fail)
  go_wp2_with fail
  refine (ssay_any i0 i1 (t := t + 1) (r := r) (wt := wt) (a := a + 1) (ak := true) (ws := ws) (x := x) (y := y) (v := v) (n := n) (A := A) (sl := sl) (sc := sc) Hv.out ?_).mono ?_
  · exact csv_set8 (hB2.drewN _)
  rintro e w1 ⟨g', rfl, hg, hgl, hP, hC, hF1⟩
  have hF := ((((Fr.refl [g] w).setCell (p := ⟨g, 7, none⟩) (by simp) _).drewN _).setCell (p := ⟨g, 8, none⟩) (by simp) _).trans hF1
  have hz : w.heap.size ≤ g' := by simpa using hg
  clear c0 c1 c2 c3 c4 c5 c6 c7 c8 c9 c10 c11 f7 f8 HN hB2 hB hg
  go_wp2
  go_ret
  exact ⟨g', rfl, hz, hgl, hP, hC, hF⟩
theorem sdone_nil :
    Calls Tryz.prog 46 #[.pointer none] w fun e w' => e = .returned (.tuple #[.bool false, .bool false]) ∧ w = w' := by
  go_enter Tryz.func46, Tryz.ntmps46
  go_wp2_with fail
  refine snone_nil.mono ?_
  rintro e w1 ⟨rfl, rfl⟩
  go_wp2
  go_ret2
  exact ⟨rfl, rfl⟩
theorem sdone_any (hw : (wt == 0) = false) (hB : Blk w g (csv n r wt id v ak ws t a x y A sl sc) 248) :
    Calls Tryz.prog 46 #[.pointer (some ⟨g, 0, none⟩)] w fun e w' => e = .returned (.tuple #[.bool x, .bool y]) ∧ Fr [] w w' := by
  have hN := snone_any hB
  obtain ⟨c0, c1, c2, c3, c4, c5, c6, c7, c8, c9, c10, c11⟩ := csv_c hB
  rw [hw] at hN
  have HN := Lib.hid hN
  clear hN
  go_enter Tryz.func46, Tryz.ntmps46
  go_wp2_with fail
  refine HN.out.mono ?_
  rintro e w1 ⟨rfl, rfl⟩
  go_wp2
  go_quiet (fail)
  go_wp2
  go_ret2
  exact ⟨rfl, (Fr.refl _ _).drewN _⟩
theorem snew_ok (hn : n.length ≤ 60) (r0 : 0 ≤ r) (r1 : r ≤ 10) (w0 : 1 ≤ wt) (w1 : wt ≤ 100) :
    Calls Tryz.prog 34 #[.string (B n), .int .i64 r, .int .i64 wt] w fun e w' => ∃ g, e = .returned (.tuple #[.pointer (some ⟨g, 0, none⟩), .int .i64 0]) ∧ w.heap.size ≤ g ∧ Blk w' g (csv n r wt 0 [] false false 0 0 false false none 0 0) 248 ∧ Fr [] w w' := by
  have K := Lib.hid fun W => clone_any n W (by omega)
  have hn1 : ¬ (60 : Int) < n.length := by omega
  go_enter Tryz.func34, Tryz.ntmps34
  go_wp2_with fail
  refine (K.out _).mono ?_
  rintro e w1 ⟨rfl, hF⟩
  go_wp2
  go_ret2
  exact ⟨w1.heap.size, rfl, hF.size, Blk.new _ _ _, hF.alloc _⟩
def snewE (n : List UInt8) (r wt : Int) : Int := if 60 < n.length then 2 else if 0 ≤ r ∧ r ≤ 10 ∧ 1 ≤ wt ∧ wt ≤ 100 then 0 else 1
theorem snew_bad (hn : n.length ≤ 60) (h : r < 0 ∨ ¬ r < 0 ∧ 10 < r ∨ ¬ r < 0 ∧ ¬ 10 < r ∧ wt < 1 ∨ ¬ r < 0 ∧ ¬ 10 < r ∧ ¬ wt < 1 ∧ 100 < wt) :
    Calls Tryz.prog 34 #[.string (B n), .int .i64 r, .int .i64 wt] w fun e w' => e = .returned (.tuple #[.pointer none, .int .i64 1]) ∧ w = w' := by
  have hn1 : ¬ (60 : Int) < n.length := by omega
  rcases h with hX | ⟨h1, hX⟩ | ⟨h1, h2, hX⟩ | ⟨h1, h2, h3, hX⟩
  all_goals
    go_enter Tryz.func34, Tryz.ntmps34
    go_wp2
    go_ret2
    exact ⟨rfl, rfl⟩

theorem infoPkt : (Tryz.prog.info? 56).map (fun i => (i.zero, i.size, i.bytes)) = some (some (.agg #[.int .i64 0, .int .i64 0, .slice none 0 0, .string ByteArray.empty]), 4, 56) := by kernel_rfl
theorem blk_cells' {C : List Value} (h : ∀ j u, C[j]? = some u → w.cell? ⟨g, j, none⟩ = some u) : ∀ j u, C[j]? = some u → w.cell? ((⟨g, 0, none⟩ : Addr).add j) = some u := by
  intro j u hu
  have hp : (⟨g, 0, none⟩ : Addr).add j = ⟨g, j, none⟩ := by unfold Addr.add; split <;> simp_all
  rw [hp]
  exact h j u hu
theorem pk_cells {c i : Int} {d : List UInt8} (h : Pk w g c i d) : ∀ j u, [Value.int .i64 c, .int .i64 i, .slice none 0 0, .string (B d)][j]? = some u → w.cell? ⟨g, j, none⟩ = some u := by
  obtain ⟨h0, h1, h2, h3⟩ := h
  intro j u hu
  match j with
  | 0 => simp at hu; rw [← hu]; exact h0
  | 1 => simp at hu; rw [← hu]; exact h1
  | 2 => simp at hu; rw [← hu]; exact h2
  | 3 => simp at hu; rw [← hu]; exact h3
  | k + 4 => simp at hu
theorem rown_base5 {w : World} {base base' e sz n : Nat} {v : Value} {xs : List Value} (h : w.ownsRow base e sz v n xs) (hb : base' ≤ base) : w.ownsRow base' e sz v n xs :=
  ⟨h.1, h.2.imp id fun ⟨g, cap, cur, h1, h2, h3⟩ => ⟨g, cap, cur, h1, Nat.le_trans hb h2, h3⟩⟩
def CloneP (w : World) (c i : Int) (d : List UInt8) (e : Ending) (w' : World) : Prop :=
  ∃ g' cap, e = .returned (.slice (some ⟨g', 0, none⟩) 1 cap) ∧ w.heap.size ≤ g' ∧ g' < w'.heap.size ∧ PkB w' g' cap c i d ∧ Fr [] w w'
set_option maxHeartbeats 1000000 in
theorem sclone_any (c i : Int) (d : List UInt8) (cap : Nat) (hP : Pk w g c i d) (hg : g < w.heap.size) :
    Calls Tryz.prog 193 #[.slice (some ⟨g, 0, none⟩) 1 cap] w (CloneP w c i d) := by
  obtain ⟨i0, hi, hz0, hz1, hz2⟩ := info_parts infoPkt
  have hnil := Lib.run_eql_slice_nil (P := Tryz.prog) w 53 56 (some ⟨g, 0, none⟩) 1 cap 0 0 Tryz.underlying53
  go_enter Tryz.func193, Tryz.ntmps193
  go_wp2_with (at_builtin; refine wpList_append_own _ rfl _ _ 53 rfl w.heap.size 56 i0 (.agg #[.int .i64 0, .int .i64 0, .slice none 0 0, .string ByteArray.empty]) 4 56 Tryz.underlying53 hi hz0 hz1 hz2 rfl (by decide) _ 0 [] rfl ?c0 ⟨g, 0, none⟩ 1 cap [.int .i64 c, .int .i64 i, .slice none 0 0, .string (B d)] rfl rfl ?c1 ?c2 ?c3 ?c4 ?c5 ?_)
  case c0 => exact ⟨rfl, Or.inr ⟨w.heap.size, 0, #[], rfl, Nat.le_refl _, Blk.new w #[] 56, Nat.le_refl _, by decide, rfl, rfl⟩⟩
  case c1 => exact blk_cells' (pk_cells (hP.fr ((Fr.refl [] w).alloc _) hg (by simp)))
  case c2 => simp [Value.oneCell']
  case c3 => decide
  case c4 => decide
  case c5 => simp
  intro v' w1 hown hgr _
  have hF : Fr [] w w1 := ((Fr.refl [] w).alloc _).grown hgr (fun k hk => by simp [Value.ownBlock] at hk; omega)
  obtain ⟨g', cap', rfl, hg', hlt⟩ := hown.form (by decide)
  have hcs := hown.cells (g := g') rfl
  have hpk : Pk w1 g' c i d := by
    have q : ∀ j u, [Value.int .i64 c, .int .i64 i, .slice none 0 0, .string (B d)][j]? = some u → w1.cell? ⟨g', j, none⟩ = some u := fun j u hu => by
      have := hcs j u hu
      have hp : (⟨g', 0, none⟩ : Addr).add j = ⟨g', j, none⟩ := by unfold Addr.add; split <;> simp_all
      rw [hp] at this; exact this
    exact ⟨q 0 _ rfl, q 1 _ rfl, q 2 _ rfl, q 3 _ rfl⟩
  have hpb : PkB w1 g' cap' c i d := ⟨hpk, rown_base5 hown (Nat.zero_le _)⟩
  clear hown hcs hgr hnil
  go_wp2
  go_ret
  exact ⟨g', cap', rfl, hg', hlt, hpb, hF⟩
theorem sclone_nil : Calls Tryz.prog 193 #[.slice none 0 0] w fun e w' => e = .returned (.slice none 0 0) ∧ w = w' := by
  have hnil := Lib.run_eql_slice_nil (P := Tryz.prog) w 53 56 none 0 0 0 0 Tryz.underlying53
  go_enter Tryz.func193, Tryz.ntmps193
  go_wp2
  go_ret
  exact ⟨rfl, rfl⟩

theorem sjudge_nil (b : Bool) :
    Calls Tryz.prog 40 #[.pointer none, .bool b] w fun e w' => e = .returned (.slice none 0 0) ∧ w = w' := by
  go_enter Tryz.func40, Tryz.ntmps40
  go_wp2_with fail
  refine snone_nil.mono ?_
  rintro e w1 ⟨rfl, rfl⟩
  go_wp2
  go_ret
  exact ⟨rfl, rfl⟩
theorem sjudge_zero (b : Bool) (hB : Blk w g (csv n r 0 id v ak ws t a x y A sl sc) 248) :
    Calls Tryz.prog 40 #[.pointer (some ⟨g, 0, none⟩), .bool b] w fun e w' => e = .returned (.slice none 0 0) ∧ w = w' := by
  have HN := Lib.hid (snone_any hB)
  clear hB
  go_enter Tryz.func40, Tryz.ntmps40
  go_wp2_with fail
  refine HN.out.mono ?_
  rintro e w1 ⟨rfl, rfl⟩
  go_wp2
  go_ret
  exact ⟨rfl, rfl⟩
theorem sjudge_no (b : Bool) (hw : (wt == 0) = false) (hB : Blk w g (csv n r wt id v ak false t a x y A sl sc) 248) :
    Calls Tryz.prog 40 #[.pointer (some ⟨g, 0, none⟩), .bool b] w fun e w' => e = .returned (.slice none 0 0) ∧ w = w' := by
  have hN := snone_any hB
  obtain ⟨c0, c1, c2, c3, c4, c5, c6, c7, c8, c9, c10, c11⟩ := csv_c hB
  rw [hw] at hN
  have HN := Lib.hid hN
  clear hN
  go_enter Tryz.func40, Tryz.ntmps40
  go_wp2_with fail
  refine HN.out.mono ?_
  rintro e w1 ⟨rfl, rfl⟩
  go_wp2
  go_ret
  exact ⟨rfl, rfl⟩
/-- what Judge leaves: the answer, what was said, the server -/
def JudgeP (w : World) (g : Nat) (n : List UInt8) (r wt id : Int) (v : List UInt8) (ak : Bool) (t a : Int) (b : Bool) (e : Ending) (w' : World) : Prop :=
  ∃ g' cap h, e = .returned (.slice (some ⟨g', 0, none⟩) 1 cap) ∧ w.heap.size ≤ g' ∧ g' < w'.heap.size ∧ PkB w' g' cap (if b then 3 else 4) id [] ∧ w.heap.size ≤ h ∧ h < w'.heap.size ∧ Blk w' h (pkt (if b then 3 else 4) id (.slice none 0 0) []) 56 ∧
    Blk w' g (csv n r wt id v ak false t a true b (some ⟨h, 0, none⟩) 1 1) 248 ∧ Fr [g] w w'
set_option maxRecDepth 100000 in
set_option maxHeartbeats 1000000 in
theorem sjudge_any (b : Bool) (i0 : 0 ≤ id) (i1 : id < 256) (hw : (wt == 0) = false) (hB : Blk w g (csv n r wt id v ak true t a x y A sl sc) 248) :
    Calls Tryz.prog 40 #[.pointer (some ⟨g, 0, none⟩), .bool b] w (JudgeP w g n r wt id v ak t a b) := by
  have hN := snone_any hB
  obtain ⟨c0, c1, c2, c3, c4, c5, c6, c7, c8, c9, c10, c11⟩ := csv_c hB
  have f6 := hB.fz 6
  have f9 := hB.fz 9
  have f10 := hB.fz 10
  have f11 := hB.fz 11
  have hlb := hB.lt
  obtain ⟨cc, hcc⟩ : ∃ c : Int, (if b then 3 else 4) = c := ⟨_, rfl⟩
  have hB2 : Blk (((((w.setCell ⟨g, 6, none⟩ (.bool false)).setCell ⟨g, 9, none⟩ (.bool true)).setCell ⟨g, 10, none⟩ (.bool b)).setCell ⟨g, 11, none⟩ (.slice (some ⟨w.heap.size, 0, none⟩) 1 1)).alloc (.cells #[.int .i64 cc, .int .i64 id, .slice none 0 0, .string ⟨#[]⟩] 56)) g (csv n r wt id v ak false t a true b (some ⟨w.heap.size, 0, none⟩) 1 1) 248 := by
    have := ((((hB.set 6 (.bool false)).set 9 (.bool true)).set 10 (.bool b)).set 11 (.slice (some ⟨w.heap.size, 0, none⟩) 1 1)).alloc (.cells #[.int .i64 cc, .int .i64 id, .slice none 0 0, .string ⟨#[]⟩] 56)
    simpa [csv] using this
  have hF2 : Fr [g] w (((((w.setCell ⟨g, 6, none⟩ (.bool false)).setCell ⟨g, 9, none⟩ (.bool true)).setCell ⟨g, 10, none⟩ (.bool b)).setCell ⟨g, 11, none⟩ (.slice (some ⟨w.heap.size, 0, none⟩) 1 1)).alloc (.cells #[.int .i64 cc, .int .i64 id, .slice none 0 0, .string ⟨#[]⟩] 56)) := (((((Fr.refl _ _).setCell (by simp) _).setCell (by simp) _).setCell (by simp) _).setCell (by simp) _).alloc _
  have hP2 : Blk (((((w.setCell ⟨g, 6, none⟩ (.bool false)).setCell ⟨g, 9, none⟩ (.bool true)).setCell ⟨g, 10, none⟩ (.bool b)).setCell ⟨g, 11, none⟩ (.slice (some ⟨w.heap.size, 0, none⟩) 1 1)).alloc (.cells #[.int .i64 cc, .int .i64 id, .slice none 0 0, .string ⟨#[]⟩] 56)) w.heap.size (pkt cc id (.slice none 0 0) []) 56 := by
    have h1 := Blk.new ((((w.setCell ⟨g, 6, none⟩ (.bool false)).setCell ⟨g, 9, none⟩ (.bool true)).setCell ⟨g, 10, none⟩ (.bool b)).setCell ⟨g, 11, none⟩ (.slice (some ⟨w.heap.size, 0, none⟩) 1 1)) #[.int .i64 cc, .int .i64 id, .slice none 0 0, .string ⟨#[]⟩] 56
    have hz : ((((w.setCell ⟨g, 6, none⟩ (.bool false)).setCell ⟨g, 9, none⟩ (.bool true)).setCell ⟨g, 10, none⟩ (.bool b)).setCell ⟨g, 11, none⟩ (.slice (some ⟨w.heap.size, 0, none⟩) 1 1)).heap.size = w.heap.size := by simp
    rw [hz] at h1
    exact h1
  obtain ⟨V, hV⟩ : ∃ V, (((((w.setCell ⟨g, 6, none⟩ (.bool false)).setCell ⟨g, 9, none⟩ (.bool true)).setCell ⟨g, 10, none⟩ (.bool b)).setCell ⟨g, 11, none⟩ (.slice (some ⟨w.heap.size, 0, none⟩) 1 1)).alloc (.cells #[.int .i64 cc, .int .i64 id, .slice none 0 0, .string ⟨#[]⟩] 56)) = V := ⟨_, rfl⟩
  rw [hV] at hB2 hF2 hP2
  have HV := Lib.hid hV
  rw [hw] at hN
  have HN := Lib.hid hN
  have HC := Lib.hid (sclone_any (g := w.heap.size) (w := V) cc id [] 1 (Pk.of hP2) hP2.lt)
  clear hN hV
  unfold JudgeP
  rw [hcc]
  have Hcc := Lib.hid hcc
  cases b with
  | false =>
    obtain rfl : cc = 4 := by rw [← Hcc.out]; rfl
    clear hcc
    go_enter Tryz.func40, Tryz.ntmps40
    go_wp2_with fail
    refine HN.out.mono ?_
    rintro e w1 ⟨rfl, rfl⟩
    go_wp2_with fail
    rw [HV.out]
    refine HC.out.mono ?_
    rintro e w2 ⟨g', cap, rfl, hg', hlt', hP3, hF3⟩
    clear c0 c1 c2 c3 c4 c5 c6 c7 c8 c9 c10 c11 f6 f9 f10 f11
    have hz := hF2.size
    have hz3 := hF3.size
    have hlt := hP2.lt
    have hB4 := hF3.blk hB2 (by simp)
    have hP4 := hF3.blk hP2 (by simp)
    go_wp2
    go_ret
    exact ⟨g', cap, w.heap.size, rfl, by omega, hlt', hP3, Nat.le_refl _, hP4.lt, hP4, hB4, hF2.trans (hF3.mono (by simp))⟩
  | true =>
    obtain rfl : cc = 3 := by rw [← Hcc.out]; rfl
    clear hcc
    go_enter Tryz.func40, Tryz.ntmps40
    go_wp2_with fail
    refine HN.out.mono ?_
    rintro e w1 ⟨rfl, rfl⟩
    go_wp2_with fail
    rw [HV.out]
    refine HC.out.mono ?_
    rintro e w2 ⟨g', cap, rfl, hg', hlt', hP3, hF3⟩
    clear c0 c1 c2 c3 c4 c5 c6 c7 c8 c9 c10 c11 f6 f9 f10 f11
    have hz := hF2.size
    have hz3 := hF3.size
    have hlt := hP2.lt
    have hB4 := hF3.blk hB2 (by simp)
    have hP4 := hF3.blk hP2 (by simp)
    go_wp2
    go_ret
    exact ⟨g', cap, w.heap.size, rfl, by omega, hlt', hP3, Nat.le_refl _, hP4.lt, hP4, hB4, hF2.trans (hF3.mono (by simp))⟩
end
end Go.Proofs.YtfchbppfbepelaaGreat
