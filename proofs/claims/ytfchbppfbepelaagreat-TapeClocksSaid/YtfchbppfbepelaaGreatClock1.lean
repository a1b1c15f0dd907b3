/- A clock in memory: New, Len, Now, When, Set, Cancel. -/
import Derived.Test.YtfchbppfbepelaaGreatMapKit3
import Derived.Test.YtfchbppfbepelaaGreatTapeW
import Derived.Test.YtfchbppfbepelaaGreatTakes
import Derived.DeepKeys4
import Derived.RegionTactic
import Derived.Laws.Cover3
namespace Go.Proofs.YtfchbppfbepelaaGreat
open Go.RowKit Go.Maps
set_option linter.unusedVariables false

theorem types_succ : ∃ d, Tryz.prog.types.size = d + 1 := ⟨Tryz.prog.types.size - 1, by have : 0 < Tryz.prog.types.size := of_decide_eq_true (by kernel_rfl); omega⟩
theorem ky_law : Keyed Tryz.prog 141 :=
  Keyed.of_law (deep_law_laid laidOut (m := 3) (by decide) (of_decide_eq_true (by kernel_rfl)) (by kernel_rfl) (by kernel_rfl))
theorem ky_keyType : Tryz.prog.keyType 141 = true := by kernel_rfl
theorem wf64 (a : Int) (h : In64 a) : (Lit.int .i64 a).wf = true := by unfold In64 at h; simpa [Lit.wf, IntKind.min, IntKind.max, IntKind.signed, IntKind.bits] using h
theorem ky_ok (k : Ky) (h : KyOk k) : ∃ kl, keyOf Tryz.prog 141 (.agg (kyC k)) = some kl := by
  have hu := Tryz.underlying141
  have hs := Tryz.underlying3
  obtain ⟨d, hd⟩ := types_succ
  have hf : Value.formed Tryz.prog 141 (.agg (kyC k)) = true := by
    unfold Value.formed
    rw [hu]
    show ((kyC k).size == Tryz.prog.cellsOf 141) = true
    rw [ky_cells]; rfl
  have hk1 : ∀ a : Int, In64 a → Tryz.prog.keyLits (d + 1) 3 [.int .i64 a] = some [.int .i64 a] := fun a ha => by
    unfold Program.keyLits
    rw [hs]
    simp [wf64 a ha]
  unfold keyOf
  rw [hu]
  simp only [ky_keyType, hf, Bool.and_self, if_true, hd]
  unfold Program.keyLits
  rw [hu]
  simp [Value.cells, kyC, ky_cells, int_cells, hk1 k.1 h.1, hk1 k.2 h.2]
def kyE : KeyEnc Tryz.prog 141 Ky where
  law := ky_law
  ek k := .agg (kyC k)
  V := KyOk
  ok := ky_ok
  inj x y h := by
    simp only [kyC, Value.agg.injEq, Array.mk.injEq, List.cons.injEq, Value.int.injEq, and_true, true_and] at h
    exact Prod.ext h.1 h.2
/-- when a timer is, in which order it was set -/
abbrev Tm := Int × Int
def tmC (t : Tm) : Array Value := #[.int .i64 t.1, .int .i64 t.2]
def tmV (t : Tm) : Value := .agg (tmC t)
theorem zero_tm (w : World) : (zeroValue 279).run Tryz.prog w = .ok (tmV (0, 0)) w := by kernel_rfl
abbrev Tms := List (Ky × Tm)
def mpC (n o : Int) (m : Option Nat) : Array Value := #[.int .i64 n, .int .i64 o, .map m]
/-- a clock at block g, its map m -/
structure Clk (w : World) (g : Nat) (m : Option Nat) (n o : Int) (l : Tms) : Prop where
  st : Blk w g (mpC n o m) 137
  mp : (m = none ∧ l = []) ∨ ∃ b, m = some b ∧ MapIs kyE tmV w b l
theorem MapIs.not_row {P : Program} {k : TypeId} {κ ν : Type} [DecidableEq κ] {E : KeyEnc P k κ} {ev : ν → Value} {w : World} {b : Nat} {L : List (κ × ν)} (h : MapIs E ev w b L) {g T : Nat} {cs : Array Value} (hB : Blk w g cs T) : g ≠ b := fun e => by
  subst e
  obtain ⟨es, cl, he, _⟩ := h
  unfold Blk at hB
  rw [he] at hB
  cases hB
def tmD (r : Option Tm) : Tm := r.getD (0, 0)
section
variable {w w' : World} {g : Nat} {m : Option Nat} {n o : Int} {l : Tms}
theorem Clk.fr {S : List Nat} (h : Clk w g m n o l) (hF : Fr S w w') (hg : g ∉ S) (hm : ∀ b, m = some b → b ∉ S) : Clk w' g m n o l := by
  refine ⟨hF.blk h.st hg, ?_⟩
  rcases h.mp with h1 | ⟨b, h1, h2⟩
  · exact Or.inl h1
  · exact Or.inr ⟨b, h1, h2.fr hF (hm b h1)⟩
theorem Clk.fr0 (h : Clk w g m n o l) (hF : Fr [] w w') : Clk w' g m n o l := h.fr hF (by simp) (by simp)
theorem Clk.nodup (h : Clk w g m n o l) : (l.map (·.1)).Nodup := by
  rcases h.mp with ⟨_, rfl⟩ | ⟨b, _, h2⟩
  · simp
  · exact h2.nodup
theorem Clk.mlt (h : Clk w g m n o l) : ∀ b, m = some b → b < w.heap.size := fun b hb => by
  rcases h.mp with ⟨h1, _⟩ | ⟨b', h1, h2⟩
  · rw [h1] at hb; cases hb
  · rw [h1] at hb; cases hb; exact h2.lt
theorem Clk.mne (h : Clk w g m n o l) : ∀ b, m = some b → g ≠ b := fun b hb => by
  rcases h.mp with ⟨h1, _⟩ | ⟨b', h1, h2⟩
  · rw [h1] at hb; cases hb
  · rw [h1] at hb; cases hb; exact h2.not_row h.st
/-- a look into the map, nil or not -/
theorem Clk.look_ (h : Clk w g m n o l) (c : Bool) (k : Ky) (hk : KyOk k) :
    (Instr.lookup 135 (.map m) (.agg #[.int .i64 k.1, .int .i64 k.2]) c).run Tryz.prog w = .ok (if c then .tuple #[.agg (tmC (tmD (look l k))), .bool (look l k).isSome] else .agg (tmC (tmD (look l k)))) w := by
  rcases h.mp with ⟨rfl, rfl⟩ | ⟨b, rfl, h2⟩
  · have hl : look ([] : Tms) k = none := rfl
    rw [hl]
    obtain ⟨kl, hkl⟩ := ky_ok k hk
    have hc := ky_law.check w true hkl
    have hf : (Instr.findKey 141 (.agg (kyC k)) []).run Tryz.prog w = .ok none w := by
      rcases ky_law.find w hkl [] (by simp) with ⟨h1, _⟩ | ⟨j, e0, _, h2, _⟩
      · exact h1
      · simp at h2
    unfold kyC at hc hf
    cases c <;> simp [Instr.lookup, run_underlying Tryz.underlying135, Result.andThen, tmD, hc, hf, zero_tm w, tmV, Sem.run_map]
  · have := h2.lookup Tryz.underlying135 (zero_tm w) c k hk
    refine this.trans ?_
    cases look l k <;> rfl
theorem new_clock (w : World) : Calls Tryz.prog 67 #[] w fun e w' => ∃ g, e = .returned (.pointer (some ⟨g, 0, none⟩)) ∧ w.heap.size ≤ g ∧ Clk w' g none 0 0 [] ∧ Fr [] w w' := by
  go_enter Tryz.func67, Tryz.ntmps67
  go_wp2
  go_ret
  exact ⟨w.heap.size, rfl, Nat.le_refl _, ⟨Blk.new w _ _, Or.inl ⟨rfl, rfl⟩⟩, (Fr.refl _ _).alloc _⟩
theorem now_any (h : Clk w g m n o l) : Calls Tryz.prog 77 #[.pointer (some ⟨g, 0, none⟩)] w fun e w' => e = .returned (.int .i64 n) ∧ w' = w := by
  have c0 : w.cell? ⟨g, 0, none⟩ = some (.int .i64 n) := h.st.c 0 _ rfl
  go_enter Tryz.func77, Tryz.ntmps77
  go_wp2
  go_ret
  exact ⟨rfl, rfl⟩
theorem len_any (h : Clk w g m n o l) : Calls Tryz.prog 78 #[.pointer (some ⟨g, 0, none⟩)] w fun e w' => e = .returned (.int .i64 l.length) ∧ w' = w := by
  have c2 : w.cell? ⟨g, 2, none⟩ = some (.map m) := h.st.c 2 _ rfl
  have hlen : ∀ ty, (Builtin.len_ #[135] ty #[.map m]).run Tryz.prog w = .ok (.int .i64 l.length) w := fun ty => by
    rcases h.mp with ⟨rfl, rfl⟩ | ⟨b, rfl, h2⟩
    · simp [Builtin.len_, run_underlying Tryz.underlying135, Result.andThen, goInt]
    · exact h2.len Tryz.underlying135 ty
  go_enter Tryz.func78, Tryz.ntmps78
  go_wp2
  go_ret
  exact ⟨rfl, rfl⟩
set_option maxHeartbeats 1000000 in
theorem when_any (k : Ky) (hk : KyOk k) (h : Clk w g m n o l) : Calls Tryz.prog 75 #[.pointer (some ⟨g, 0, none⟩), .agg (kyC k)] w fun e w' => e = .returned (.tuple #[.int .i64 (tmD (look l k)).1, .bool (look l k).isSome]) ∧ Fr [] w w' := by
  have HL := Lib.hid fun (W : World) (hW : Fr [] w W) => (h.fr0 hW).look_ true k hk
  obtain ⟨k1, k2⟩ := k
  unfold kyC
  simp only [if_true] at HL ⊢
  obtain ⟨⟨t1, t2⟩, ht⟩ : ∃ t, tmD (look l (k1, k2)) = t := ⟨_, rfl⟩
  obtain ⟨b, hb⟩ : ∃ b, (look l (k1, k2)).isSome = b := ⟨_, rfl⟩
  rw [ht, hb] at HL ⊢
  unfold tmC at HL
  simp only at HL ⊢
  have HB := Lib.hid h.st
  clear h ht hb
  go_enter Tryz.func75, Tryz.ntmps75
  have hF := (Fr.refl [] w).alloc (.cells #[.int .i64 k1, .int .i64 k2] 141 (0, 0))
  have hK := Blk.new w #[.int .i64 k1, .int .i64 k2] 141
  go_wp2_with fail
  obtain ⟨W, hW⟩ : ∃ W, w.alloc (.cells #[.int .i64 k1, .int .i64 k2] 141 (0, 0)) = W := ⟨_, rfl⟩
  obtain ⟨q, hq⟩ : ∃ q, w.heap.size = q := ⟨_, rfl⟩
  rw [hW] at hF hK ⊢
  rw [hq] at hK ⊢
  clear hW hq
  have HS : Hid (∀ w', Fr [] W w' → (w'.cell? ⟨g, 2, none⟩ = some (.map m) ∧ w'.cell? ⟨q, 0, none⟩ = some (.int .i64 k1) ∧ w'.cell? ⟨q, 1, none⟩ = some (.int .i64 k2) ∧ (Instr.lookup 135 (.map m) (.agg #[.int .i64 k1, .int .i64 k2]) true).run Tryz.prog w' = .ok (.tuple #[.agg #[.int .i64 t1, .int .i64 t2], .bool b]) w') ∧ Fr [] W w') :=
    Lib.hid fun w' hw => ⟨⟨((hF.trans hw).blk HB.out (by simp)).c 2 _ rfl, (hw.blk hK (by simp)).c 0 _ rfl, (hw.blk hK (by simp)).c 1 _ rfl, HL.out _ (hF.trans hw)⟩, hw⟩
  go_region_held3 (fun w' => (w'.cell? ⟨g, 2, none⟩ = some (.map m) ∧ w'.cell? ⟨q, 0, none⟩ = some (.int .i64 k1) ∧ w'.cell? ⟨q, 1, none⟩ = some (.int .i64 k2) ∧ (Instr.lookup 135 (.map m) (.agg #[.int .i64 k1, .int .i64 k2]) true).run Tryz.prog w' = .ok (.tuple #[.agg #[.int .i64 t1, .int .i64 t2], .bool b]) w') ∧ Fr [] W w')
    (first | exact HS.out _ (Fr.refl _ _).drew | exact HS.out _ ((Fr.refl _ _).alloc _).drew | assumption) (fail)
  all_goals
    have hF2 := (hF.alloc (.cells #[.int .i64 t1, .int .i64 t2] 279 (0, 0))).drew
    clear HS HL HB hK hF
    go_wp2_with fail
    go_ret2
    exact ⟨rfl, hF2⟩
theorem when_nil (k : Ky) : Calls Tryz.prog 75 #[.pointer none, .agg (kyC k)] w fun e w' => e = .returned (.tuple #[.int .i64 0, .bool false]) ∧ Fr [] w w' := by
  obtain ⟨k1, k2⟩ := k
  unfold kyC
  go_enter Tryz.func75, Tryz.ntmps75
  go_wp2_with fail
  go_ret2
  exact ⟨rfl, (Fr.refl _ _).alloc _⟩
theorem len_nil : Calls Tryz.prog 78 #[.pointer none] w fun e w' => e = .returned (.int .i64 0) ∧ w' = w := by
  go_enter Tryz.func78, Tryz.ntmps78
  go_wp2
  go_ret
  exact ⟨rfl, rfl⟩
theorem now_nil : Calls Tryz.prog 77 #[.pointer none] w fun e w' => e = .returned (.int .i64 0) ∧ w' = w := by
  go_enter Tryz.func77, Tryz.ntmps77
  go_wp2
  go_ret
  exact ⟨rfl, rfl⟩
theorem set_nil (k : Ky) (a : Int) : Calls Tryz.prog 68 #[.pointer none, .agg (kyC k), .int .i64 a] w fun e w' => e = .returned (.int .i64 1) ∧ Fr [] w w' := by
  obtain ⟨k1, k2⟩ := k
  unfold kyC
  go_enter Tryz.func68, Tryz.ntmps68
  go_wp2_with fail
  go_ret
  exact ⟨rfl, (Fr.refl _ _).alloc _⟩
end
end Go.Proofs.YtfchbppfbepelaaGreat
