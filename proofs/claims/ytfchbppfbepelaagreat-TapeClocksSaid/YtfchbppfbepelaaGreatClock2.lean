/- A clock in memory: Set, Cancel. -/
import Derived.Test.YtfchbppfbepelaaGreatClock1
namespace Go.Proofs.YtfchbppfbepelaaGreat
open Go.RowKit Go.Maps
set_option linter.unusedVariables false
theorem eq_map_nil (m : Option Nat) (W : World) : (binOp .eql 135 (.map m) (.map none)).run Tryz.prog W = .ok (.bool m.isNone) W := by
  simp only [binOp]
  simp [Op.equal, Op.maxDepth, run_equalIn_map_nil W 9999 _ _ _ m Tryz.underlying135]
section
variable {w w' : World} {g : Nat} {m : Option Nat} {n o : Int} {l : Tms}
theorem Clk.len_ (h : Clk w g m n o l) (ty : TypeId) : (Builtin.len_ #[135] ty #[.map m]).run Tryz.prog w = .ok (.int .i64 l.length) w := by
  rcases h.mp with ⟨rfl, rfl⟩ | ⟨b, rfl, h2⟩
  · simp [Builtin.len_, run_underlying Tryz.underlying135, Result.andThen, goInt]
  · exact h2.len Tryz.underlying135 ty
theorem set_bad (k : Ky) (a : Int) (ha : a < 1 ∨ 2147483647 < a) : Calls Tryz.prog 68 #[.pointer (some ⟨g, 0, none⟩), .agg (kyC k), .int .i64 a] w fun e w' => e = .returned (.int .i64 1) ∧ Fr [] w w' := by
  obtain ⟨k1, k2⟩ := k
  unfold kyC
  have hX : a < 1 ∨ ¬ a < 1 ∧ 2147483647 < a := by omega
  rcases hX with hX | ⟨h1, hX⟩
  · go_enter Tryz.func68, Tryz.ntmps68
    go_wp2_with fail
    go_ret
    exact ⟨rfl, (Fr.refl _ _).alloc _⟩
  · go_enter Tryz.func68, Tryz.ntmps68
    go_wp2_with fail
    go_ret
    exact ⟨rfl, (Fr.refl _ _).alloc _⟩
set_option maxHeartbeats 2000000 in
theorem set_had {b : Nat} (k : Ky) (a : Int) (hk : KyOk k) (h : Clk w g (some b) n o l) (a0 : 1 ≤ a) (a1 : a ≤ 2147483647) (n0 : 0 ≤ n) (n1 : n ≤ 1152921504606846976) (o0 : 0 ≤ o) (o1 : o ≤ 1099511627776) (hl : l.length ≤ 300) (hb : (look l k).isSome = true) :
    Calls Tryz.prog 68 #[.pointer (some ⟨g, 0, none⟩), .agg (kyC k), .int .i64 a] w fun e w' => e = .returned (.int .i64 0) ∧ Clk w' g (some b) n (o + 1) (put l k (n + a, o + 1)) ∧ Fr [g, b] w w' := by
  have HL := Lib.hid fun (W : World) (hW : Fr [] w W) => (h.fr0 hW).look_ true k hk
  have hlen : ∀ W ty, Fr [] w W → (Builtin.len_ #[135] ty #[.map (some b)]).run Tryz.prog W = .ok (.int .i64 l.length) W := fun W ty hW => (h.fr0 hW).len_ ty
  have HLen := Lib.hid hlen
  have hmn := eq_map_nil ((some b))
  have HK := Lib.hid hk
  have HC := Lib.hid h
  obtain ⟨k1, k2⟩ := k
  unfold kyC
  simp only [if_true] at HL ⊢
  obtain ⟨⟨t1, t2⟩, ht⟩ : ∃ t, tmD (look l (k1, k2)) = t := ⟨_, rfl⟩
  rw [ht, hb] at HL
  unfold tmC at HL
  simp only at HL
  clear h ht hk hlen hb
  go_enter Tryz.func68, Tryz.ntmps68
  have hF := (Fr.refl [] w).alloc (.cells #[.int .i64 k1, .int .i64 k2] 141 (0, 0))
  have hK := Blk.new w #[.int .i64 k1, .int .i64 k2] 141
  go_wp2_with fail
  obtain ⟨W, hW⟩ : ∃ W, w.alloc (.cells #[.int .i64 k1, .int .i64 k2] 141 (0, 0)) = W := ⟨_, rfl⟩
  obtain ⟨q, hq⟩ : ∃ q, w.heap.size = q := ⟨_, rfl⟩
  have hqn : Hid (q ≠ g ∧ q ≠ b) := Lib.hid (by have h1 := HC.out.st.lt; have h2 := HC.out.mlt; have h3 := h2 b rfl; omega)
  rw [hW] at hF hK ⊢
  rw [hq] at hK ⊢
  clear hW hq
  have HS : Hid (∀ w', Fr [] W w' → (w'.cell? ⟨g, 2, none⟩ = some (.map (some b)) ∧ w'.cell? ⟨q, 0, none⟩ = some (.int .i64 k1) ∧ w'.cell? ⟨q, 1, none⟩ = some (.int .i64 k2) ∧ (Instr.lookup 135 (.map (some b)) (.agg #[.int .i64 k1, .int .i64 k2]) true).run Tryz.prog w' = .ok (.tuple #[.agg #[.int .i64 t1, .int .i64 t2], .bool true]) w') ∧ Fr [] W w') :=
    Lib.hid fun w' hw => ⟨⟨((hF.trans hw).blk HC.out.st (by simp)).c 2 _ rfl, (hw.blk hK (by simp)).c 0 _ rfl, (hw.blk hK (by simp)).c 1 _ rfl, HL.out _ (hF.trans hw)⟩, hw⟩
  go_region_held3 (fun w' => (w'.cell? ⟨g, 2, none⟩ = some (.map (some b)) ∧ w'.cell? ⟨q, 0, none⟩ = some (.int .i64 k1) ∧ w'.cell? ⟨q, 1, none⟩ = some (.int .i64 k2) ∧ (Instr.lookup 135 (.map (some b)) (.agg #[.int .i64 k1, .int .i64 k2]) true).run Tryz.prog w' = .ok (.tuple #[.agg #[.int .i64 t1, .int .i64 t2], .bool true]) w') ∧ Fr [] W w')
    (first | exact HS.out _ (Fr.refl _ _).drew | exact HS.out _ ((Fr.refl _ _).alloc _).drew | assumption) (fail)
  all_goals
    have hF2 := (hF.alloc (.cells #[.int .i64 t1, .int .i64 t2] 279 (0, 0))).drew
    have hK2 := (hK.alloc (.cells #[.int .i64 t1, .int .i64 t2] 279 (0, 0))).drew
    obtain ⟨W2, hW2⟩ : ∃ V, (W.alloc (.cells #[.int .i64 t1, .int .i64 t2] 279 (0, 0))).drew = V := ⟨_, rfl⟩
    rw [hW2] at hF2 hK2 ⊢
    have hC2 := HC.out.fr0 hF2
    have c0 : W2.cell? ⟨g, 0, none⟩ = some (.int .i64 n) := hC2.st.c 0 _ rfl
    have c1 : W2.cell? ⟨g, 1, none⟩ = some (.int .i64 o) := hC2.st.c 1 _ rfl
    have c2 : W2.cell? ⟨g, 2, none⟩ = some (.map (some b)) := hC2.st.c 2 _ rfl
    have f1 := hC2.st.fz 1
    have f2 := hC2.st.fz 2
    have hlen := fun ty => HLen.out W2 ty hF2
    clear hW2 HS HL hF hK HLen
    have hB3 : Clk (W2.setCell ⟨g, 1, none⟩ (.int .i64 (o + 1))) g (some b) n (o + 1) l := by
      refine ⟨by have := hC2.st.set 1 (.int .i64 (o + 1)); simpa [mpC] using this, Or.inr ⟨b, rfl, ?_⟩⟩
      rcases hC2.mp with ⟨h1, _⟩ | ⟨b', h1, h2⟩
      · cases h1
      · cases h1
        exact h2.fr (S := [g]) ((Fr.refl _ _).setCell (by simp) _) (by simp; exact fun e => hC2.mne b rfl e.symm)
    have hgb := hC2.mne b rfl
    have hK3 := (hK2.set_other ⟨g, 1, none⟩ hqn.out.1 (.int .i64 (o + 1)))
    have hF3 : Fr [g, b] w (W2.setCell ⟨g, 1, none⟩ (.int .i64 (o + 1))) := (hF2.mono (S' := [g, b]) (by simp)).setCell (by simp) _
    obtain ⟨W3, hW3⟩ : ∃ V, W2.setCell ⟨g, 1, none⟩ (.int .i64 (o + 1)) = V := ⟨_, rfl⟩
    rw [hW3] at hB3 hK3 hF3
    have hmp : MapIs kyE tmV W3.drew b l := by
      rcases hB3.mp with ⟨h1, _⟩ | ⟨b', h1, h2⟩
      · cases h1
      · cases h1; exact h2.fr (S := []) (Fr.refl _ _).drew (by simp)
    obtain ⟨W4, hrun, hM4, hG4⟩ := hmp.update Tryz.underlying135 (by unfold maxLen; omega) (k1, k2) HK.out (n + a, o + 1)
    have hrun : (Instr.mapUpdate 135 (.map (some b)) (.agg #[.int .i64 k1, .int .i64 k2]) (.agg #[.int .i64 (n + a), .int .i64 (o + 1)])).run Tryz.prog W3.drew = .ok () W4 := hrun
    have hst4 : Blk W4 g (mpC n (o + 1) (some b)) 137 := hG4.blk (hB3.st.drew) (by simp; exact hgb)
    have d0 : W3.cell? ⟨g, 0, none⟩ = some (.int .i64 n) := hB3.st.c 0 _ rfl
    have d1 : W3.cell? ⟨g, 1, none⟩ = some (.int .i64 (o + 1)) := hB3.st.c 1 _ rfl
    have d2 : W3.cell? ⟨g, 2, none⟩ = some (.map (some b)) := hB3.st.c 2 _ rfl
    have e0 : W3.cell? ⟨q, 0, none⟩ = some (.int .i64 k1) := hK3.c 0 _ rfl
    have e1 : W3.cell? ⟨q, 1, none⟩ = some (.int .i64 k2) := hK3.c 1 _ rfl
    have HX := Lib.hid (And.intro (show Clk W4 g (some b) n (o + 1) (put l (k1, k2) (n + a, o + 1)) from ⟨hst4, Or.inr ⟨b, rfl, hM4⟩⟩) (hF3.drew.trans (hG4.mono (S' := [g, b]) (by simp))))
    clear hB3 hK3 hF3 hmp hM4 hG4 hst4 hC2 hF2 hK2
    go_wp2_with fail
    go_region
    go_wp2_with fail
    go_ret
    exact ⟨rfl, HX.out.1, HX.out.2⟩
set_option maxHeartbeats 2000000 in
theorem set_new {b : Nat} (k : Ky) (a : Int) (hk : KyOk k) (h : Clk w g (some b) n o l) (a0 : 1 ≤ a) (a1 : a ≤ 2147483647) (n0 : 0 ≤ n) (n1 : n ≤ 1152921504606846976) (o0 : 0 ≤ o) (o1 : o ≤ 1099511627776) (hl : l.length ≤ 300) (hb : (look l k).isSome = false) (hl3 : l.length < 300) :
    Calls Tryz.prog 68 #[.pointer (some ⟨g, 0, none⟩), .agg (kyC k), .int .i64 a] w fun e w' => e = .returned (.int .i64 0) ∧ Clk w' g (some b) n (o + 1) (put l k (n + a, o + 1)) ∧ Fr [g, b] w w' := by
  have HL := Lib.hid fun (W : World) (hW : Fr [] w W) => (h.fr0 hW).look_ true k hk
  have hlen : ∀ W ty, Fr [] w W → (Builtin.len_ #[135] ty #[.map (some b)]).run Tryz.prog W = .ok (.int .i64 l.length) W := fun W ty hW => (h.fr0 hW).len_ ty
  have HLen := Lib.hid hlen
  have hmn := eq_map_nil ((some b))
  have HK := Lib.hid hk
  have HC := Lib.hid h
  obtain ⟨k1, k2⟩ := k
  unfold kyC
  simp only [if_true] at HL ⊢
  obtain ⟨⟨t1, t2⟩, ht⟩ : ∃ t, tmD (look l (k1, k2)) = t := ⟨_, rfl⟩
  rw [ht, hb] at HL
  unfold tmC at HL
  simp only at HL
  clear h ht hk hlen hb
  go_enter Tryz.func68, Tryz.ntmps68
  have hF := (Fr.refl [] w).alloc (.cells #[.int .i64 k1, .int .i64 k2] 141 (0, 0))
  have hK := Blk.new w #[.int .i64 k1, .int .i64 k2] 141
  go_wp2_with fail
  obtain ⟨W, hW⟩ : ∃ W, w.alloc (.cells #[.int .i64 k1, .int .i64 k2] 141 (0, 0)) = W := ⟨_, rfl⟩
  obtain ⟨q, hq⟩ : ∃ q, w.heap.size = q := ⟨_, rfl⟩
  have hqn : Hid (q ≠ g ∧ q ≠ b) := Lib.hid (by have h1 := HC.out.st.lt; have h2 := HC.out.mlt; have h3 := h2 b rfl; omega)
  rw [hW] at hF hK ⊢
  rw [hq] at hK ⊢
  clear hW hq
  have HS : Hid (∀ w', Fr [] W w' → (w'.cell? ⟨g, 2, none⟩ = some (.map (some b)) ∧ w'.cell? ⟨q, 0, none⟩ = some (.int .i64 k1) ∧ w'.cell? ⟨q, 1, none⟩ = some (.int .i64 k2) ∧ (Instr.lookup 135 (.map (some b)) (.agg #[.int .i64 k1, .int .i64 k2]) true).run Tryz.prog w' = .ok (.tuple #[.agg #[.int .i64 t1, .int .i64 t2], .bool false]) w') ∧ Fr [] W w') :=
    Lib.hid fun w' hw => ⟨⟨((hF.trans hw).blk HC.out.st (by simp)).c 2 _ rfl, (hw.blk hK (by simp)).c 0 _ rfl, (hw.blk hK (by simp)).c 1 _ rfl, HL.out _ (hF.trans hw)⟩, hw⟩
  go_region_held3 (fun w' => (w'.cell? ⟨g, 2, none⟩ = some (.map (some b)) ∧ w'.cell? ⟨q, 0, none⟩ = some (.int .i64 k1) ∧ w'.cell? ⟨q, 1, none⟩ = some (.int .i64 k2) ∧ (Instr.lookup 135 (.map (some b)) (.agg #[.int .i64 k1, .int .i64 k2]) true).run Tryz.prog w' = .ok (.tuple #[.agg #[.int .i64 t1, .int .i64 t2], .bool false]) w') ∧ Fr [] W w')
    (first | exact HS.out _ (Fr.refl _ _).drew | exact HS.out _ ((Fr.refl _ _).alloc _).drew | assumption) (fail)
  all_goals
    have hF2 := (hF.alloc (.cells #[.int .i64 t1, .int .i64 t2] 279 (0, 0))).drew
    have hK2 := (hK.alloc (.cells #[.int .i64 t1, .int .i64 t2] 279 (0, 0))).drew
    obtain ⟨W2, hW2⟩ : ∃ V, (W.alloc (.cells #[.int .i64 t1, .int .i64 t2] 279 (0, 0))).drew = V := ⟨_, rfl⟩
    rw [hW2] at hF2 hK2 ⊢
    have hC2 := HC.out.fr0 hF2
    have c0 : W2.cell? ⟨g, 0, none⟩ = some (.int .i64 n) := hC2.st.c 0 _ rfl
    have c1 : W2.cell? ⟨g, 1, none⟩ = some (.int .i64 o) := hC2.st.c 1 _ rfl
    have c2 : W2.cell? ⟨g, 2, none⟩ = some (.map (some b)) := hC2.st.c 2 _ rfl
    have f1 := hC2.st.fz 1
    have f2 := hC2.st.fz 2
    have hlen := fun ty => HLen.out W2 ty hF2
    clear hW2 HS HL hF hK HLen
    have hge : ¬ (300 : Int) ≤ (l.length : Nat) := by omega
    have hB3 : Clk (W2.setCell ⟨g, 1, none⟩ (.int .i64 (o + 1))) g (some b) n (o + 1) l := by
      refine ⟨by have := hC2.st.set 1 (.int .i64 (o + 1)); simpa [mpC] using this, Or.inr ⟨b, rfl, ?_⟩⟩
      rcases hC2.mp with ⟨h1, _⟩ | ⟨b', h1, h2⟩
      · cases h1
      · cases h1
        exact h2.fr (S := [g]) ((Fr.refl _ _).setCell (by simp) _) (by simp; exact fun e => hC2.mne b rfl e.symm)
    have hgb := hC2.mne b rfl
    have hK3 := (hK2.set_other ⟨g, 1, none⟩ hqn.out.1 (.int .i64 (o + 1)))
    have hF3 : Fr [g, b] w (W2.setCell ⟨g, 1, none⟩ (.int .i64 (o + 1))) := (hF2.mono (S' := [g, b]) (by simp)).setCell (by simp) _
    obtain ⟨W3, hW3⟩ : ∃ V, W2.setCell ⟨g, 1, none⟩ (.int .i64 (o + 1)) = V := ⟨_, rfl⟩
    rw [hW3] at hB3 hK3 hF3
    have hmp : MapIs kyE tmV W3.drew b l := by
      rcases hB3.mp with ⟨h1, _⟩ | ⟨b', h1, h2⟩
      · cases h1
      · cases h1; exact h2.fr (S := []) (Fr.refl _ _).drew (by simp)
    obtain ⟨W4, hrun, hM4, hG4⟩ := hmp.update Tryz.underlying135 (by unfold maxLen; omega) (k1, k2) HK.out (n + a, o + 1)
    have hrun : (Instr.mapUpdate 135 (.map (some b)) (.agg #[.int .i64 k1, .int .i64 k2]) (.agg #[.int .i64 (n + a), .int .i64 (o + 1)])).run Tryz.prog W3.drew = .ok () W4 := hrun
    have hst4 : Blk W4 g (mpC n (o + 1) (some b)) 137 := hG4.blk (hB3.st.drew) (by simp; exact hgb)
    have d0 : W3.cell? ⟨g, 0, none⟩ = some (.int .i64 n) := hB3.st.c 0 _ rfl
    have d1 : W3.cell? ⟨g, 1, none⟩ = some (.int .i64 (o + 1)) := hB3.st.c 1 _ rfl
    have d2 : W3.cell? ⟨g, 2, none⟩ = some (.map (some b)) := hB3.st.c 2 _ rfl
    have e0 : W3.cell? ⟨q, 0, none⟩ = some (.int .i64 k1) := hK3.c 0 _ rfl
    have e1 : W3.cell? ⟨q, 1, none⟩ = some (.int .i64 k2) := hK3.c 1 _ rfl
    have HX := Lib.hid (And.intro (show Clk W4 g (some b) n (o + 1) (put l (k1, k2) (n + a, o + 1)) from ⟨hst4, Or.inr ⟨b, rfl, hM4⟩⟩) (hF3.drew.trans (hG4.mono (S' := [g, b]) (by simp))))
    clear hB3 hK3 hF3 hmp hM4 hG4 hst4 hC2 hF2 hK2
    go_wp2_with fail
    go_region
    go_wp2_with fail
    go_ret
    exact ⟨rfl, HX.out.1, HX.out.2⟩
set_option maxHeartbeats 2000000 in
theorem set_first (k : Ky) (a : Int) (hk : KyOk k) (h : Clk w g none n o l) (a0 : 1 ≤ a) (a1 : a ≤ 2147483647) (n0 : 0 ≤ n) (n1 : n ≤ 1152921504606846976) (o0 : 0 ≤ o) (o1 : o ≤ 1099511627776) (hl : l.length ≤ 300) :
    Calls Tryz.prog 68 #[.pointer (some ⟨g, 0, none⟩), .agg (kyC k), .int .i64 a] w fun e w' => ∃ b, e = .returned (.int .i64 0) ∧ w.heap.size ≤ b ∧ Clk w' g (some b) n (o + 1) (put l k (n + a, o + 1)) ∧ Fr [g] w w' := by
  obtain rfl : l = [] := by
    rcases h.mp with ⟨_, h2⟩ | ⟨b, h1, _⟩
    · exact h2
    · cases h1
  have hb : (look ([] : Tms) k).isSome = false := rfl
  have HL := Lib.hid fun (W : World) (hW : Fr [] w W) => (h.fr0 hW).look_ true k hk
  have hlen : ∀ W ty, Fr [] w W → (Builtin.len_ #[135] ty #[.map none]).run Tryz.prog W = .ok (.int .i64 (([] : Tms).length)) W := fun W ty hW => (h.fr0 hW).len_ ty
  have HLen := Lib.hid hlen
  have hmn := eq_map_nil (none)
  have HK := Lib.hid hk
  have HC := Lib.hid h
  obtain ⟨k1, k2⟩ := k
  unfold kyC
  simp only [if_true] at HL ⊢
  obtain ⟨⟨t1, t2⟩, ht⟩ : ∃ t, tmD (look ([] : Tms) (k1, k2)) = t := ⟨_, rfl⟩
  rw [ht, hb] at HL
  unfold tmC at HL
  simp only at HL
  clear h ht hk hlen hb
  go_enter Tryz.func68, Tryz.ntmps68
  have hF := (Fr.refl [] w).alloc (.cells #[.int .i64 k1, .int .i64 k2] 141 (0, 0))
  have hK := Blk.new w #[.int .i64 k1, .int .i64 k2] 141
  go_wp2_with fail
  obtain ⟨W, hW⟩ : ∃ W, w.alloc (.cells #[.int .i64 k1, .int .i64 k2] 141 (0, 0)) = W := ⟨_, rfl⟩
  obtain ⟨q, hq⟩ : ∃ q, w.heap.size = q := ⟨_, rfl⟩
  have hqn : Hid (q ≠ g) := Lib.hid (by have h1 := HC.out.st.lt; omega)
  rw [hW] at hF hK ⊢
  rw [hq] at hK ⊢
  clear hW hq
  have HS : Hid (∀ w', Fr [] W w' → (w'.cell? ⟨g, 2, none⟩ = some (.map none) ∧ w'.cell? ⟨q, 0, none⟩ = some (.int .i64 k1) ∧ w'.cell? ⟨q, 1, none⟩ = some (.int .i64 k2) ∧ (Instr.lookup 135 (.map none) (.agg #[.int .i64 k1, .int .i64 k2]) true).run Tryz.prog w' = .ok (.tuple #[.agg #[.int .i64 t1, .int .i64 t2], .bool false]) w') ∧ Fr [] W w') :=
    Lib.hid fun w' hw => ⟨⟨((hF.trans hw).blk HC.out.st (by simp)).c 2 _ rfl, (hw.blk hK (by simp)).c 0 _ rfl, (hw.blk hK (by simp)).c 1 _ rfl, HL.out _ (hF.trans hw)⟩, hw⟩
  go_region_held3 (fun w' => (w'.cell? ⟨g, 2, none⟩ = some (.map none) ∧ w'.cell? ⟨q, 0, none⟩ = some (.int .i64 k1) ∧ w'.cell? ⟨q, 1, none⟩ = some (.int .i64 k2) ∧ (Instr.lookup 135 (.map none) (.agg #[.int .i64 k1, .int .i64 k2]) true).run Tryz.prog w' = .ok (.tuple #[.agg #[.int .i64 t1, .int .i64 t2], .bool false]) w') ∧ Fr [] W w')
    (first | exact HS.out _ (Fr.refl _ _).drew | exact HS.out _ ((Fr.refl _ _).alloc _).drew | assumption) (fail)
  all_goals
    have hF2 := (hF.alloc (.cells #[.int .i64 t1, .int .i64 t2] 279 (0, 0))).drew
    have hK2 := (hK.alloc (.cells #[.int .i64 t1, .int .i64 t2] 279 (0, 0))).drew
    obtain ⟨W2, hW2⟩ : ∃ V, (W.alloc (.cells #[.int .i64 t1, .int .i64 t2] 279 (0, 0))).drew = V := ⟨_, rfl⟩
    rw [hW2] at hF2 hK2 ⊢
    have hC2 := HC.out.fr0 hF2
    have c0 : W2.cell? ⟨g, 0, none⟩ = some (.int .i64 n) := hC2.st.c 0 _ rfl
    have c1 : W2.cell? ⟨g, 1, none⟩ = some (.int .i64 o) := hC2.st.c 1 _ rfl
    have c2 : W2.cell? ⟨g, 2, none⟩ = some (.map none) := hC2.st.c 2 _ rfl
    have f1 := hC2.st.fz 1
    have f2 := hC2.st.fz 2
    have hlen := fun ty => HLen.out W2 ty hF2
    clear hW2 HS HL hF hK HLen
    have hgl := hC2.st.lt
    have hF3 := (hF2.mono (S' := [g]) (by simp)).alloc (.map #[] 0)
    have hM3 : MapIs kyE tmV (W2.alloc (.map #[] 0)) W2.heap.size ([] : Tms) := MapIs.new W2
    have hB3 := (hC2.st.alloc (.map #[] 0))
    have hK3 := hK2.alloc (.map #[] 0)
    have hbw : w.heap.size ≤ W2.heap.size := hF2.size
    obtain ⟨b, hb⟩ : ∃ b, W2.heap.size = b := ⟨_, rfl⟩
    have hgb : g ≠ b := by omega
    have hqb : q ≠ b := by have := hK2.lt; omega
    obtain ⟨W3, hW3⟩ : ∃ V, W2.alloc (.map #[] 0) = V := ⟨_, rfl⟩
    have hmk : (Instr.makeMap 135 none).run Tryz.prog W2 = .ok (.map (some b)) W3 := by rw [← hb, ← hW3]; exact run_makeMap _ _
    rw [hb] at hM3 hbw
    rw [hW3] at hF3 hM3 hB3 hK3
    have c2' : W3.cell? ⟨g, 2, none⟩ = some (.map none) := hB3.c 2 _ rfl
    have c1' : W3.cell? ⟨g, 1, none⟩ = some (.int .i64 o) := hB3.c 1 _ rfl
    have f2' := hB3.fz 2
    have f1' := hB3.fz 1
    have hB4 : Blk ((W3.setCell ⟨g, 2, none⟩ (.map (some b))).setCell ⟨g, 1, none⟩ (.int .i64 (o + 1))) g (mpC n (o + 1) (some b)) 137 := by
      have := (hB3.set 2 (.map (some b))).set 1 (.int .i64 (o + 1)); simpa [mpC] using this
    have hFs : Fr [g] W3 ((W3.setCell ⟨g, 2, none⟩ (.map (some b))).setCell ⟨g, 1, none⟩ (.int .i64 (o + 1))) := ((Fr.refl _ _).setCell (by simp) _).setCell (by simp) _
    have hM4 := hM3.fr hFs (by simp; exact fun e => hgb e.symm)
    have hK4 := (hK3.set_other ⟨g, 2, none⟩ hqn.out (.map (some b))).set_other ⟨g, 1, none⟩ hqn.out (.int .i64 (o + 1))
    have hF4 := hF3.trans hFs
    obtain ⟨W4, hW4⟩ : ∃ V, ((W3.setCell ⟨g, 2, none⟩ (.map (some b))).setCell ⟨g, 1, none⟩ (.int .i64 (o + 1))) = V := ⟨_, rfl⟩
    rw [hW4] at hB4 hM4 hK4 hF4
    obtain ⟨W5, hrun, hM5, hG5⟩ := (hM4.fr (S := []) (Fr.refl _ _).drew (by simp)).update Tryz.underlying135 (by unfold maxLen; simp) (k1, k2) HK.out (n + a, o + 1)
    have hrun : (Instr.mapUpdate 135 (.map (some b)) (.agg #[.int .i64 k1, .int .i64 k2]) (.agg #[.int .i64 (n + a), .int .i64 (o + 1)])).run Tryz.prog W4.drew = .ok () W5 := hrun
    have hst5 : Blk W5 g (mpC n (o + 1) (some b)) 137 := hG5.blk (hB4.drew) (by simp; exact hgb)
    have d0 : W4.cell? ⟨g, 0, none⟩ = some (.int .i64 n) := hB4.c 0 _ rfl
    have d1 : W4.cell? ⟨g, 1, none⟩ = some (.int .i64 (o + 1)) := hB4.c 1 _ rfl
    have d2 : W4.cell? ⟨g, 2, none⟩ = some (.map (some b)) := hB4.c 2 _ rfl
    have e0 : W4.cell? ⟨q, 0, none⟩ = some (.int .i64 k1) := hK4.c 0 _ rfl
    have e1 : W4.cell? ⟨q, 1, none⟩ = some (.int .i64 k2) := hK4.c 1 _ rfl
    have hG5' : Fr [g] w W5 := hF4.drew.sub (hG5) (by intro y hy; simp at hy; right; omega)
    have HX := Lib.hid (And.intro (show Clk W5 g (some b) n (o + 1) (put [] (k1, k2) (n + a, o + 1)) from ⟨hst5, Or.inr ⟨b, rfl, hM5⟩⟩) hG5')
    have HBW := Lib.hid hbw
    clear hB4 hK4 hF4 hM5 hG5 hst5 hC2 hF2 hK2 hF3 hM3 hB3 hK3 hFs hM4 hG5' hbw hgl hgb hqb hb hW3
    go_wp2_with fail
    go_region
    go_wp2_with fail
    go_ret
    exact ⟨b, rfl, HBW.out, HX.out.1, HX.out.2⟩
set_option maxHeartbeats 2000000 in
theorem set_full (k : Ky) (a : Int) (hk : KyOk k) (h : Clk w g m n o l) (a0 : 1 ≤ a) (a1 : a ≤ 2147483647) (hb : (look l k).isSome = false) (hl : 300 ≤ l.length) (hl2 : l.length ≤ 1000000) :
    Calls Tryz.prog 68 #[.pointer (some ⟨g, 0, none⟩), .agg (kyC k), .int .i64 a] w fun e w' => e = .returned (.int .i64 10) ∧ Fr [] w w' := by
  have HL := Lib.hid fun (W : World) (hW : Fr [] w W) => (h.fr0 hW).look_ true k hk
  have hlen : ∀ W ty, Fr [] w W → (Builtin.len_ #[135] ty #[.map m]).run Tryz.prog W = .ok (.int .i64 l.length) W := fun W ty hW => (h.fr0 hW).len_ ty
  have HLen := Lib.hid hlen
  have hmn := eq_map_nil (m)
  have HK := Lib.hid hk
  have HC := Lib.hid h
  obtain ⟨k1, k2⟩ := k
  unfold kyC
  simp only [if_true] at HL ⊢
  obtain ⟨⟨t1, t2⟩, ht⟩ : ∃ t, tmD (look l (k1, k2)) = t := ⟨_, rfl⟩
  rw [ht, hb] at HL
  unfold tmC at HL
  simp only at HL
  clear h ht hk hlen hb
  go_enter Tryz.func68, Tryz.ntmps68
  have hF := (Fr.refl [] w).alloc (.cells #[.int .i64 k1, .int .i64 k2] 141 (0, 0))
  have hK := Blk.new w #[.int .i64 k1, .int .i64 k2] 141
  go_wp2_with fail
  obtain ⟨W, hW⟩ : ∃ W, w.alloc (.cells #[.int .i64 k1, .int .i64 k2] 141 (0, 0)) = W := ⟨_, rfl⟩
  obtain ⟨q, hq⟩ : ∃ q, w.heap.size = q := ⟨_, rfl⟩
  have hqn : Hid (q ≠ g) := Lib.hid (by have h1 := HC.out.st.lt; omega)
  rw [hW] at hF hK ⊢
  rw [hq] at hK ⊢
  clear hW hq
  have HS : Hid (∀ w', Fr [] W w' → (w'.cell? ⟨g, 2, none⟩ = some (.map m) ∧ w'.cell? ⟨q, 0, none⟩ = some (.int .i64 k1) ∧ w'.cell? ⟨q, 1, none⟩ = some (.int .i64 k2) ∧ (Instr.lookup 135 (.map m) (.agg #[.int .i64 k1, .int .i64 k2]) true).run Tryz.prog w' = .ok (.tuple #[.agg #[.int .i64 t1, .int .i64 t2], .bool false]) w') ∧ Fr [] W w') :=
    Lib.hid fun w' hw => ⟨⟨((hF.trans hw).blk HC.out.st (by simp)).c 2 _ rfl, (hw.blk hK (by simp)).c 0 _ rfl, (hw.blk hK (by simp)).c 1 _ rfl, HL.out _ (hF.trans hw)⟩, hw⟩
  go_region_held3 (fun w' => (w'.cell? ⟨g, 2, none⟩ = some (.map m) ∧ w'.cell? ⟨q, 0, none⟩ = some (.int .i64 k1) ∧ w'.cell? ⟨q, 1, none⟩ = some (.int .i64 k2) ∧ (Instr.lookup 135 (.map m) (.agg #[.int .i64 k1, .int .i64 k2]) true).run Tryz.prog w' = .ok (.tuple #[.agg #[.int .i64 t1, .int .i64 t2], .bool false]) w') ∧ Fr [] W w')
    (first | exact HS.out _ (Fr.refl _ _).drew | exact HS.out _ ((Fr.refl _ _).alloc _).drew | assumption) (fail)
  all_goals
    have hF2 := (hF.alloc (.cells #[.int .i64 t1, .int .i64 t2] 279 (0, 0))).drew
    have hK2 := (hK.alloc (.cells #[.int .i64 t1, .int .i64 t2] 279 (0, 0))).drew
    obtain ⟨W2, hW2⟩ : ∃ V, (W.alloc (.cells #[.int .i64 t1, .int .i64 t2] 279 (0, 0))).drew = V := ⟨_, rfl⟩
    rw [hW2] at hF2 hK2 ⊢
    have hC2 := HC.out.fr0 hF2
    have c0 : W2.cell? ⟨g, 0, none⟩ = some (.int .i64 n) := hC2.st.c 0 _ rfl
    have c1 : W2.cell? ⟨g, 1, none⟩ = some (.int .i64 o) := hC2.st.c 1 _ rfl
    have c2 : W2.cell? ⟨g, 2, none⟩ = some (.map m) := hC2.st.c 2 _ rfl
    have f1 := hC2.st.fz 1
    have f2 := hC2.st.fz 2
    have hlen := fun ty => HLen.out W2 ty hF2
    clear hW2 HS HL hF hK HLen
    have hge : (300 : Int) ≤ (l.length : Nat) := by omega
    clear hC2 hK2
    go_wp2_with fail
    go_ret
    exact ⟨rfl, hF2⟩
def setE (l : Tms) (k : Ky) (a : Int) : Int := if a < 1 ∨ 2147483647 < a then 1 else if (look l k).isSome = false ∧ 300 ≤ l.length then 10 else 0
def setO (o : Int) (l : Tms) (k : Ky) (a : Int) : Int := if setE l k a = 0 then o + 1 else o
def setL (n o : Int) (l : Tms) (k : Ky) (a : Int) : Tms := if setE l k a = 0 then put l k (n + a, o + 1) else l
theorem set_any (k : Ky) (a : Int) (hk : KyOk k) (h : Clk w g m n o l) (n0 : 0 ≤ n) (n1 : n ≤ 1152921504606846976) (o0 : 0 ≤ o) (o1 : o ≤ 1099511627776) (hl : l.length ≤ 300) :
    Calls Tryz.prog 68 #[.pointer (some ⟨g, 0, none⟩), .agg (kyC k), .int .i64 a] w fun e w' => e = .returned (.int .i64 (setE l k a)) ∧ ∃ m', Clk w' g m' n (setO o l k a) (setL n o l k a) ∧ Fr (g :: m.toList) w w' ∧ (m' = m ∨ ∃ b, m' = some b ∧ w.heap.size ≤ b) := by
  unfold setO setL
  by_cases h1 : a < 1 ∨ 2147483647 < a
  · have he : setE l k a = 1 := if_pos h1
    rw [he]
    exact (set_bad k a h1).mono fun e w' ⟨he, hF⟩ => ⟨he, m, h.fr0 hF, hF.mono (by simp), Or.inl rfl⟩
  · by_cases h2 : (look l k).isSome = false ∧ 300 ≤ l.length
    · have he : setE l k a = 10 := by unfold setE; rw [if_neg h1, if_pos h2]
      rw [he]
      exact (set_full k a hk h (by omega) (by omega) h2.1 h2.2 (by omega)).mono fun e w' ⟨he, hF⟩ => ⟨he, m, h.fr0 hF, hF.mono (by simp), Or.inl rfl⟩
    · have he : setE l k a = 0 := by unfold setE; rw [if_neg h1, if_neg h2]
      rw [he, if_pos rfl, if_pos rfl]
      cases m with
      | none =>
        exact (set_first k a hk h (by omega) (by omega) n0 n1 o0 o1 hl).mono fun e w' ⟨b, he, hb, hC, hF⟩ => by
          have hl0 : l = [] := by
            rcases h.mp with ⟨_, h2⟩ | ⟨b, h1, _⟩
            · exact h2
            · cases h1
          exact ⟨he, some b, by rw [hl0] at hC ⊢; exact hC, hF.mono (by simp), Or.inr ⟨b, rfl, hb⟩⟩
      | some b =>
        cases hb : (look l k).isSome with
        | true => exact (set_had k a hk h (by omega) (by omega) n0 n1 o0 o1 hl hb).mono fun e w' ⟨he, hC, hF⟩ => ⟨he, some b, hC, hF.mono (by simp), Or.inl rfl⟩
        | false =>
          have hl3 : l.length < 300 := by
            apply Classical.byContradiction
            intro h3
            exact h2 ⟨hb, by omega⟩
          exact (set_new k a hk h (by omega) (by omega) n0 n1 o0 o1 hl hb hl3).mono fun e w' ⟨he, hC, hF⟩ => ⟨he, some b, hC, hF.mono (by simp), Or.inl rfl⟩
set_option maxHeartbeats 2000000 in
theorem cancel_no (k : Ky) (hk : KyOk k) (h : Clk w g m n o l) (hb : (look l k).isSome = false) :
    Calls Tryz.prog 70 #[.pointer (some ⟨g, 0, none⟩), .agg (kyC k)] w fun e w' => e = .returned (.bool false) ∧ Fr [] w w' := by
  have HW := Lib.hid fun (W : World) (hW : Fr [] w W) => when_any k hk (h.fr0 hW)
  rw [hb] at HW
  obtain ⟨k1, k2⟩ := k
  unfold kyC at HW ⊢
  obtain ⟨t, ht⟩ : ∃ t, (tmD (look l (k1, k2))).1 = t := ⟨_, rfl⟩
  rw [ht] at HW
  simp only at HW ⊢
  clear h ht hk hb
  go_enter Tryz.func70, Tryz.ntmps70
  go_wp2_with fail
  have hF := (Fr.refl [] w).alloc (.cells #[.int .i64 k1, .int .i64 k2] 141 (0, 0))
  refine (HW.out _ hF).mono ?_
  rintro e w1 ⟨rfl, hF1⟩
  have hF2 := hF.trans hF1
  clear HW hF hF1
  go_wp2_with fail
  go_ret
  exact ⟨rfl, hF2⟩
set_option maxHeartbeats 2000000 in
theorem cancel_yes {b : Nat} (k : Ky) (hk : KyOk k) (h : Clk w g (some b) n o l) (hb : (look l k).isSome = true) :
    Calls Tryz.prog 70 #[.pointer (some ⟨g, 0, none⟩), .agg (kyC k)] w fun e w' => e = .returned (.bool true) ∧ Clk w' g (some b) n o (del l k) ∧ Fr [g, b] w w' := by
  have HW := Lib.hid fun (W : World) (hW : Fr [] w W) => when_any k hk (h.fr0 hW)
  rw [hb] at HW
  have HC := Lib.hid h
  have HK := Lib.hid hk
  obtain ⟨k1, k2⟩ := k
  unfold kyC at HW ⊢
  obtain ⟨t, ht⟩ : ∃ t, (tmD (look l (k1, k2))).1 = t := ⟨_, rfl⟩
  rw [ht] at HW
  simp only at HW ⊢
  clear h ht hk hb
  go_enter Tryz.func70, Tryz.ntmps70
  go_wp2_with fail
  have hF := (Fr.refl [] w).alloc (.cells #[.int .i64 k1, .int .i64 k2] 141 (0, 0))
  have hK := Blk.new w #[.int .i64 k1, .int .i64 k2] 141
  obtain ⟨q, hq⟩ : ∃ q, w.heap.size = q := ⟨_, rfl⟩
  rw [hq] at hK ⊢
  clear hq
  refine (HW.out _ hF).mono ?_
  rintro e w1 ⟨rfl, hF1⟩
  have hF2 := hF.trans hF1
  have hK2 := hF1.blk hK (by simp)
  have hC2 := HC.out.fr0 hF2
  have hgb := hC2.mne b rfl
  have hmp : MapIs kyE tmV w1.drew b l := by
    rcases hC2.mp with ⟨h1, _⟩ | ⟨b', h1, h2⟩
    · cases h1
    · cases h1; exact h2.fr (S := []) (Fr.refl _ _).drew (by simp)
  obtain ⟨W4, hrun, hM4, hG4⟩ := hmp.delete Tryz.underlying135 (k1, k2) HK.out 0
  have hrun : (Builtin.delete_ #[135, 141] 0 #[.map (some b), .agg #[.int .i64 k1, .int .i64 k2]]).run Tryz.prog w1.drew = .ok (.tuple #[]) W4 := hrun
  have hst4 : Blk W4 g (mpC n o (some b)) 137 := hG4.blk (hC2.st.drew) (by simp; exact hgb)
  have d2 : w1.cell? ⟨g, 2, none⟩ = some (.map (some b)) := hC2.st.c 2 _ rfl
  have e0 : w1.cell? ⟨q, 0, none⟩ = some (.int .i64 k1) := hK2.c 0 _ rfl
  have e1 : w1.cell? ⟨q, 1, none⟩ = some (.int .i64 k2) := hK2.c 1 _ rfl
  have HX := Lib.hid (And.intro (show Clk W4 g (some b) n o (del l (k1, k2)) from ⟨hst4, Or.inr ⟨b, rfl, hM4⟩⟩) ((hF2.mono (S' := [g, b]) (by simp)).drew.trans (hG4.mono (S' := [g, b]) (by simp))))
  clear HW hF hF1 hF2 hK hK2 hC2 hmp hM4 hG4 hst4
  go_wp2_with fail
  go_region
  go_wp2_with fail
  go_ret
  exact ⟨rfl, HX.out.1, HX.out.2⟩
theorem cancel_nil (k : Ky) : Calls Tryz.prog 70 #[.pointer none, .agg (kyC k)] w fun e w' => e = .returned (.bool false) ∧ Fr [] w w' := by
  have HW := Lib.hid fun (W : World) => when_nil (w := W) k
  obtain ⟨k1, k2⟩ := k
  unfold kyC at HW ⊢
  simp only at HW ⊢
  go_enter Tryz.func70, Tryz.ntmps70
  go_wp2_with fail
  refine (HW.out _).mono ?_
  rintro e w1 ⟨rfl, hF1⟩
  have hF2 := ((Fr.refl [] w).alloc (.cells #[.int .i64 k1, .int .i64 k2] 141 (0, 0))).trans hF1
  clear HW hF1
  go_wp2_with fail
  go_ret
  exact ⟨rfl, hF2⟩
end
end Go.Proofs.YtfchbppfbepelaaGreat
