/- A clock: how its timers are sorted: the comparing closure of Tick. -/
import Derived.Test.YtfchbppfbepelaaGreatClock2
import Derived.Test.YtfchbppfbepelaaGreatSortK
import Derived.Sort.Grow
namespace Go.Proofs.YtfchbppfbepelaaGreat
open Go.RowKit Go.Maps
set_option linter.unusedVariables false
/-- nothing but new blocks; the draws go on -/
def FrD (w w' : World) : Prop := Fr [] w w' ∧ w.drawn ≤ w'.drawn
theorem FrD.refl (w : World) : FrD w w := ⟨Fr.refl _ _, Nat.le_refl _⟩
theorem FrD.trans {a b c : World} (h : FrD a b) (k : FrD b c) : FrD a c := ⟨h.1.trans k.1, Nat.le_trans h.2 k.2⟩
theorem FrD.alloc {a b : World} (h : FrD a b) (o : Obj) : FrD a (b.alloc o) := ⟨h.1.alloc o, h.2⟩
theorem FrD.drew {a b : World} (h : FrD a b) : FrD a b.drew := ⟨h.1.drew, Nat.le_trans h.2 (Nat.le_succ _)⟩
theorem FrD.grow {w w' : World} (h : FrD w w') : ∃ q os', w' = Go.Sort.grow (w.drewN q) os' := by
  obtain ⟨hF, hd⟩ := h
  refine ⟨w'.drawn - w.drawn, w'.heap.extract w.heap.size w'.heap.size, ?_⟩
  obtain ⟨hp', tp', dr', os', out'⟩ := w'
  obtain ⟨hp, tp, dr, os, out⟩ := w
  have h1 := hF.os
  have h2 := hF.tape
  have h3 := hF.output
  have h4 := hF.size
  have h5 := hF.block
  simp only at h1 h2 h3 h4 h5 hd
  subst h1 h2 h3
  unfold Go.Sort.grow World.drewN
  simp only [World.mk.injEq, and_true, true_and]
  refine ⟨?_, by omega⟩
  apply Array.ext_getElem?
  intro i
  by_cases hi : i < hp.size
  · rw [Array.getElem?_append_left hi, h5 i hi (by simp)]
  · rw [Array.getElem?_append_right (by omega), Array.getElem?_extract]
    by_cases h6 : i < hp'.size
    · rw [if_pos (by omega)]
      congr 1; omega
    · rw [if_neg (by omega), Array.getElem?_eq_none (by omega)]
theorem cmp_or (q : Nat) (x y : Int) (w : World) (c0 : w.cell? ⟨q, 0, none⟩ = some (.int .i64 x)) (c1 : w.cell? ⟨q, 1, none⟩ = some (.int .i64 y)) :
    Calls Tryz.prog 215 #[.slice (some ⟨q, 0, none⟩) 2 2] w fun e w' => e = .returned (.int .i64 (if x = 0 then y else x)) ∧ w' = w := by
  by_cases hx : x = 0
  · rw [if_pos hx]
    subst hx
    by_cases hy : y = 0
    · subst hy
      go_enter Tryz.func215, Tryz.ntmps215
      go_wp2_with fail
      refine wp_loop_rounds 3 ?_
      rw [rounds_succ]
      go_wp2_with fail
      rw [rounds_succ]
      go_wp2_with fail
      rw [rounds_succ]
      go_wp2_with fail
      go_ret
      exact ⟨rfl, rfl⟩
    · have hb : (y == 0) = false := by simpa using hy
      go_enter Tryz.func215, Tryz.ntmps215
      go_wp2_with fail
      refine wp_loop_rounds 3 ?_
      rw [rounds_succ]
      go_wp2_with fail
      rw [rounds_succ]
      go_wp2_with fail
      go_ret
      exact ⟨rfl, rfl⟩
  · rw [if_neg hx]
    have hb : (x == 0) = false := by simpa using hx
    go_enter Tryz.func215, Tryz.ntmps215
    go_wp2_with fail
    refine wp_loop_rounds 3 ?_
    rw [rounds_succ]
    go_wp2_with fail
    go_ret
    exact ⟨rfl, rfl⟩
/-- how two keys compare: by their times, then by the order in which they were set -/
def tcmp (a b : Tm) : Int := if Go.Lib.compareInt a.1 b.1 = 0 then Go.Lib.compareInt a.2 b.2 else Go.Lib.compareInt a.1 b.1
def kcmp (l : Tms) (a b : Ky) : Int := tcmp (tmD (look l a)) (tmD (look l b))
section
variable {w w' : World} {g : Nat} {m : Option Nat} {n o : Int} {l : Tms}
set_option maxRecDepth 100000 in
set_option maxHeartbeats 8000000 in
theorem closure_any (a b : Ky) (qc T : Nat) (ha : KyOk a) (hb : KyOk b) (h : Clk w g m n o l) (hq : Blk w qc #[.pointer (some ⟨g, 0, none⟩)] T) :
    Calls Tryz.prog 214 #[.agg (kyC a), .agg (kyC b), .pointer (some ⟨qc, 0, none⟩)] w fun e w' => e = .returned (.int .i64 (kcmp l a b)) ∧ FrD w w' := by
  have HA := Lib.hid fun (W : World) (hW : Fr [] w W) => (h.fr0 hW).look_ false a ha
  have HB := Lib.hid fun (W : World) (hW : Fr [] w W) => (h.fr0 hW).look_ false b hb
  have HC := Lib.hid h
  have HQ := Lib.hid hq
  unfold kcmp tcmp
  obtain ⟨⟨x1, x2⟩, hx⟩ : ∃ t, tmD (look l a) = t := ⟨_, rfl⟩
  obtain ⟨⟨y1, y2⟩, hy⟩ : ∃ t, tmD (look l b) = t := ⟨_, rfl⟩
  rw [hx] at HA ⊢
  rw [hy] at HB ⊢
  obtain ⟨a1, a2⟩ := a
  obtain ⟨b1, b2⟩ := b
  simp only at HA HB ⊢
  have C1 := Lib.hid fun W => AnyG.cmp_Compare_int laysCmp x1 y1 W
  have C2 := Lib.hid fun W => AnyG.cmp_Compare_int laysCmp x2 y2 W
  obtain ⟨u, hu⟩ : ∃ u, Go.Lib.compareInt x1 y1 = u := ⟨_, rfl⟩
  obtain ⟨v, hv⟩ : ∃ v, Go.Lib.compareInt x2 y2 = v := ⟨_, rfl⟩
  rw [hu] at C1
  rw [hv] at C2
  rw [hu, hv]
  have C1 : Hid (∀ W, Calls Tryz.prog 216 #[.int .i64 x1, .int .i64 y1] W fun e w' => e = .returned (.int .i64 u) ∧ w' = W) := C1
  have C2 : Hid (∀ W, Calls Tryz.prog 216 #[.int .i64 x2, .int .i64 y2] W fun e w' => e = .returned (.int .i64 v) ∧ w' = W) := C2
  unfold kyC
  unfold tmC at HA HB
  simp only [Bool.false_eq_true, if_false] at HA HB ⊢
  obtain ⟨r, hr⟩ : ∃ r, (if u = 0 then v else u) = r := ⟨_, rfl⟩
  have HO : Hid (∀ q W, W.cell? ⟨q, 0, none⟩ = some (.int .i64 u) → W.cell? ⟨q, 1, none⟩ = some (.int .i64 v) → Calls Tryz.prog 215 #[.slice (some ⟨q, 0, none⟩) 2 2] W fun e w' => e = .returned (.int .i64 r) ∧ w' = W) := Lib.hid fun q W h0 h1 => by rw [← hr]; exact cmp_or q u v W h0 h1
  rw [hr]
  clear h hq ha hb hx hy hu hv hr
  go_enter Tryz.func214, Tryz.ntmps214
  have hK1 := (Blk.new w #[.int .i64 a1, .int .i64 a2] 141).alloc (.cells #[.int .i64 b1, .int .i64 b2] 141 (0, 0))
  have hK2 := Blk.new (w.alloc (.cells #[.int .i64 a1, .int .i64 a2] 141 (0, 0))) #[.int .i64 b1, .int .i64 b2] 141
  rw [show (w.alloc (.cells #[.int .i64 a1, .int .i64 a2] 141 (0, 0))).heap.size = w.heap.size + 1 by simp] at hK2
  have hF := ((FrD.refl w).alloc (.cells #[.int .i64 a1, .int .i64 a2] 141 (0, 0))).alloc (.cells #[.int .i64 b1, .int .i64 b2] 141 (0, 0))
  go_wp2_with fail
  obtain ⟨V, hV⟩ : ∃ V, ((w.alloc (.cells #[.int .i64 a1, .int .i64 a2] 141 (0, 0))).alloc (.cells #[.int .i64 b1, .int .i64 b2] 141 (0, 0))) = V := ⟨_, rfl⟩
  obtain ⟨qa, hqa⟩ : ∃ q, w.heap.size = q := ⟨_, rfl⟩
  obtain ⟨qb, hqb⟩ : ∃ q, qa + 1 = q := ⟨_, rfl⟩
  rw [hV] at hK1 hK2 hF ⊢
  rw [hqa] at hK1 hK2 ⊢
  rw [hqb] at hK2 ⊢
  clear hV hqa hqb
  have HS : Hid (∀ w', FrD V w' → (w'.cell? ⟨qc, 0, none⟩ = some (.pointer (some ⟨g, 0, none⟩)) ∧ w'.cell? ⟨g, 2, none⟩ = some (.map m) ∧ w'.cell? ⟨qa, 0, none⟩ = some (.int .i64 a1) ∧ w'.cell? ⟨qa, 1, none⟩ = some (.int .i64 a2) ∧ w'.cell? ⟨qb, 0, none⟩ = some (.int .i64 b1) ∧ w'.cell? ⟨qb, 1, none⟩ = some (.int .i64 b2) ∧ (Instr.lookup 135 (.map m) (.agg #[.int .i64 a1, .int .i64 a2]) false).run Tryz.prog w' = .ok (.agg #[.int .i64 x1, .int .i64 x2]) w' ∧ (Instr.lookup 135 (.map m) (.agg #[.int .i64 b1, .int .i64 b2]) false).run Tryz.prog w' = .ok (.agg #[.int .i64 y1, .int .i64 y2]) w') ∧ FrD V w') := Lib.hid fun w' hw =>
    ⟨⟨((hF.1.trans hw.1).blk HQ.out (by simp)).c 0 _ rfl, ((hF.1.trans hw.1).blk HC.out.st (by simp)).c 2 _ rfl, (hw.1.blk hK1 (by simp)).c 0 _ rfl, (hw.1.blk hK1 (by simp)).c 1 _ rfl, (hw.1.blk hK2 (by simp)).c 0 _ rfl, (hw.1.blk hK2 (by simp)).c 1 _ rfl, HA.out _ (hF.1.trans hw.1), HB.out _ (hF.1.trans hw.1)⟩, hw⟩
  have hc0 : ∀ (W : World), (W.alloc (.cells #[.int .i64 u, .int .i64 v] 3 (0, 0))).drew.cell? ⟨W.heap.size, 0, none⟩ = some (.int .i64 u) := fun W => (Blk.new W #[.int .i64 u, .int .i64 v] 3).drew.c 0 _ rfl
  have hc1 : ∀ (W : World), (W.alloc (.cells #[.int .i64 u, .int .i64 v] 3 (0, 0))).drew.cell? ⟨W.heap.size, 1, none⟩ = some (.int .i64 v) := fun W => (Blk.new W #[.int .i64 u, .int .i64 v] 3).drew.c 1 _ rfl
  have HC0 := Lib.hid hc0
  have HC1 := Lib.hid hc1
  clear hc0 hc1 hK1 hK2
  have hx0 : ∀ W, (Instr.field 279 (.agg #[.int .i64 x1, .int .i64 x2]) 0).run Tryz.prog W = .ok (.int .i64 x1) W := fun _ => by kernel_rfl
  have hx1 : ∀ W, (Instr.field 279 (.agg #[.int .i64 x1, .int .i64 x2]) 1).run Tryz.prog W = .ok (.int .i64 x2) W := fun _ => by kernel_rfl
  have hy0 : ∀ W, (Instr.field 279 (.agg #[.int .i64 y1, .int .i64 y2]) 0).run Tryz.prog W = .ok (.int .i64 y1) W := fun _ => by kernel_rfl
  have hy1 : ∀ W, (Instr.field 279 (.agg #[.int .i64 y1, .int .i64 y2]) 1).run Tryz.prog W = .ok (.int .i64 y2) W := fun _ => by kernel_rfl
  go_region_held3 (fun w' => (w'.cell? ⟨qc, 0, none⟩ = some (.pointer (some ⟨g, 0, none⟩)) ∧ w'.cell? ⟨g, 2, none⟩ = some (.map m) ∧ w'.cell? ⟨qa, 0, none⟩ = some (.int .i64 a1) ∧ w'.cell? ⟨qa, 1, none⟩ = some (.int .i64 a2) ∧ w'.cell? ⟨qb, 0, none⟩ = some (.int .i64 b1) ∧ w'.cell? ⟨qb, 1, none⟩ = some (.int .i64 b2) ∧ (Instr.lookup 135 (.map m) (.agg #[.int .i64 a1, .int .i64 a2]) false).run Tryz.prog w' = .ok (.agg #[.int .i64 x1, .int .i64 x2]) w' ∧ (Instr.lookup 135 (.map m) (.agg #[.int .i64 b1, .int .i64 b2]) false).run Tryz.prog w' = .ok (.agg #[.int .i64 y1, .int .i64 y2]) w') ∧ FrD V w')
    (first | exact HS.out _ (FrD.refl _).drew | exact HS.out _ ((FrD.refl _).alloc _).drew | assumption)
    (first
      | (go_at_call 216; ((with_reducible refine (C1.out _).mono ?_); rintro e w5 ⟨rfl, rfl⟩))
      | (go_at_call 216; ((with_reducible refine (C2.out _).mono ?_); rintro e w5 ⟨rfl, rfl⟩))
      | (go_at_call 215; (refine (HO.out _ _ ?_ ?_).mono ?_; exact HC0.out _; exact HC1.out _; rintro e w5 ⟨rfl, rfl⟩)))
  all_goals
    have hX := hF.trans ((FrD.refl V).alloc (.cells #[.int .i64 u, .int .i64 v] 3 (0, 0))).drew
    clear HS HA HB HC HQ C1 C2 HO
    go_wp2_with fail
    go_ret
    exact ⟨rfl, hX⟩
end
end Go.Proofs.YtfchbppfbepelaaGreat
