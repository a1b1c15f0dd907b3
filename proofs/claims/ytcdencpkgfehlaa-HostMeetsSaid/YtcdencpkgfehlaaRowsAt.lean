/- A slice of whatever structs that came in, read as a list. No program is spoken of here. -/
import Derived.Test.YtcdencpkgfehlaaMgA
import Derived.Deep.SlicePairs
import Derived.Deep.Slices
namespace Go.Proofs.Ytcdencpkgfehlaa
open Go.ChangeShapes Go.WideShapes Go.ChangeAt Go.RowKit Go.Deep
set_option linter.unusedVariables false
theorem cell_lt {w : World} {a : Addr} {v : Value} (h : w.cell? a = some v) : a.block < w.heap.size := by
  rcases Nat.lt_or_ge a.block w.heap.size with h' | h'
  · exact h'
  · simp [World.cell?, Array.getElem?_eq_none h'] at h
/-- A slice that came in reads as the list l, each element by its cells. -/
def RowsAt {α : Type} (w : World) (a : Option Addr) (len cap N : Nat) (f : α → List Value) (V : α → Prop) (l : List α) : Prop :=
  l.length = len ∧ len ≤ cap ∧ cap ≤ maxLen ∧ (∀ x, x ∈ l → V x) ∧ (len = 0 ∨ ∃ b off, a = some ⟨b, off, none⟩ ∧ b < w.heap.size ∧
    ∀ (i : Nat) (x : α), l[i]? = some x → ∀ (c : Nat) (v : Value), (f x)[c]? = some v → w.cell? ⟨b, off + i * N + c, none⟩ = some v)
section
variable {H : Type} {enc : TypeId × Value → H} {P : Program} {w : World} {base : Nat} {spare : Nat → Bool} {held : Bool} {α : Type}
theorem rows_of {t e : TypeId} {N : Nat} {f : α → List Value} {V : α → Prop} (ht : P.underlying t = some (.slice e)) (ce : P.cellsOf e = N) (hN : 0 < N)
    (dec : ∀ (n : Nat) (cs : List Value) (x : DataW H × List MemPlace), DataW.trod enc P w base spare held n e cs = some x → ∃ r, cs = f r ∧ V r)
    {a : Option Addr} {len cap : Nat} {d : DataW H} {ps : List MemPlace} (h : DataW.Trod enc P w base spare held t (.slice a len cap) d ps) :
    ∃ l, RowsAt w a len cap N f V l := by
  obtain ⟨fuel, hf⟩ := h
  rcases open_slice ht hf with ⟨hcs, _⟩ | ⟨x, len', cap', m, n, D, Pl, hcs, _, hl, hm, hmm, _, hx⟩
  · simp [Value.cells] at hcs
    obtain ⟨rfl, rfl, rfl⟩ := hcs
    exact ⟨[], rfl, Nat.le_refl _, Nat.zero_le _, by simp, .inl rfl⟩
  · simp [Value.cells] at hcs
    obtain ⟨rfl, rfl, rfl⟩ := hcs
    have hlm : len ≤ m := by rw [hmm]; split <;> omega
    have each : ∀ i, i < len → ∃ r : α, V r ∧ (f r).length = N ∧ ∀ c v, (f r)[c]? = some v → w.cell? ((x.add (i * N)).add c) = some v := by
      intro i hi
      obtain ⟨cs', hc, ht'⟩ := hx i (by omega)
      rw [ce] at hc
      obtain ⟨_, hcl, hat⟩ := World.cells?_some hc
      obtain ⟨r, rfl, hV⟩ := dec _ _ _ ht'
      refine ⟨r, hV, hcl, fun c v hv => ?_⟩
      have hcN : c < N := by have := (List.getElem?_eq_some_iff.1 hv).1; omega
      rw [hat c hcN, hv]
    have hch : ∃ q : Nat → Option α, ∀ i, i < len → ∃ r, q i = some r ∧ V r ∧ (f r).length = N ∧ ∀ c v, (f r)[c]? = some v → w.cell? ((x.add (i * N)).add c) = some v := by
      refine ⟨fun i => if h : i < len then some (each i h).choose else none, fun i hi => ⟨(each i hi).choose, by simp [hi], (each i hi).choose_spec⟩⟩
    obtain ⟨q, hq⟩ := hch
    have hl2 : ∀ k, k ≤ len → ∃ l : List α, l.length = k ∧ ∀ i y, l[i]? = some y → q i = some y ∧ i < len := by
      intro k
      induction k with
      | zero => exact fun _ => ⟨[], rfl, by simp⟩
      | succ k ih =>
        intro hk
        obtain ⟨l, h1, h2⟩ := ih (by omega)
        obtain ⟨r, hr, _⟩ := hq k (by omega)
        refine ⟨l ++ [r], by simp [h1], fun i y hy => ?_⟩
        by_cases hik : i < l.length
        · rw [List.getElem?_append_left hik] at hy
          exact h2 i y hy
        · rw [List.getElem?_append_right (by omega)] at hy
          have hi0 : i - l.length = 0 := by
            have := (List.getElem?_eq_some_iff.1 hy).1
            simp at this; omega
          rw [hi0] at hy
          simp at hy
          have : i = k := by omega
          subst this
          exact ⟨by rw [hr, hy], by omega⟩
    obtain ⟨l, hll, hlq⟩ := hl2 len (Nat.le_refl _)
    have hall : ∀ i y, l[i]? = some y → V y ∧ ∀ c v, (f y)[c]? = some v → w.cell? ((x.add (i * N)).add c) = some v := fun i y hy => by
      obtain ⟨h1, h2⟩ := hlq i y hy
      obtain ⟨r, hr, hV, _, hc⟩ := hq i h2
      rw [h1] at hr
      cases hr
      exact ⟨hV, hc⟩
    refine ⟨l, hll, hl, hm, fun y hy => ?_, ?_⟩
    · obtain ⟨i, hi, hiy⟩ := List.getElem_of_mem hy
      exact (hall i y (by rw [List.getElem?_eq_getElem hi, hiy])).1
    by_cases hz : len = 0
    · exact .inl hz
    · right
      obtain ⟨b, off, spot⟩ := x
      have h0 : ∃ y v, l[0]? = some y ∧ (f y)[0]? = some v := by
        obtain ⟨r, hr, hV, hlen, _⟩ := hq 0 (by omega)
        have h1 : 0 < l.length := by omega
        have h2 := hlq 0 l[0] (List.getElem?_eq_getElem h1)
        rw [hr] at h2
        have h3 : l[0] = r := by have := h2.1; injection this with this; exact this.symm
        exact ⟨r, (f r)[0]'(by omega), by rw [List.getElem?_eq_getElem h1, h3], List.getElem?_eq_getElem _⟩
      obtain ⟨y, v, hy, hv⟩ := h0
      have hc0 := (hall 0 y hy).2 0 v hv
      have hspot : spot = none := by simpa [Addr.add] using World.cell?_spot hc0
      subst hspot
      refine ⟨b, off, rfl, cell_lt (by simpa [add_plain] using hc0), fun i y hy c v hv => ?_⟩
      have := (hall i y hy).2 c v hv
      simpa [add_plain, Nat.add_assoc] using this
end
theorem RowsAt.at_ {α : Type} {w : World} {a : Option Addr} {len cap N : Nat} {f : α → List Value} {V : α → Prop} {l : List α} (h : RowsAt w a len cap N f V l) (k : Nat) (hk : k < len) :
    ∃ b off x, a = some ⟨b, off, none⟩ ∧ b < w.heap.size ∧ l[k]? = some x ∧ V x ∧ ∀ w', Fr [] w w' → ∀ (c : Nat) (v : Value), (f x)[c]? = some v → w'.cell? ⟨b, off + k * N + c, none⟩ = some v := by
  obtain ⟨h1, h2, h3, hV, h4⟩ := h
  rcases h4 with h4 | ⟨b, off, rfl, hb, hc⟩
  · omega
  · have hkl : k < l.length := by omega
    refine ⟨b, off, l[k], rfl, hb, List.getElem?_eq_getElem hkl, hV _ (List.getElem_mem hkl), fun w' hF c v hv => ?_⟩
    rw [World.cell?_of_block (hF.block b hb (by simp))]
    exact hc k _ (List.getElem?_eq_getElem hkl) c v hv
end Go.Proofs.Ytcdencpkgfehlaa
