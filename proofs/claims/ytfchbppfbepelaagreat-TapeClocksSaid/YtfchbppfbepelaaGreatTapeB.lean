/- Numbers as values; a row of the call's own across a frame. No program is spoken of here. -/
import Derived.Test.YtfchbppfbepelaaGreatRow
import Derived.Test.YtfchbppfbepelaaGreatOwn
namespace Go.Proofs.YtfchbppfbepelaaGreat
open Go.RowKit
set_option linter.unusedVariables false
def i64V (x : Int) : Value := .int .i64 x
def In64 (x : Int) : Prop := -9223372036854775808 ≤ x ∧ x ≤ 9223372036854775807
theorem own_fr {w w' : World} {e : TypeId} {size n base : Nat} {v : Value} {ys : List Value} {S : List Nat} (h : w.ownsRow base e size v n ys) (hF : Fr S w w') (hS : ∀ y, y ∈ S → y < base) : w'.ownsRow base e size v n ys := by
  refine ⟨h.1, ?_⟩
  rcases h.2 with h1 | ⟨g', cap', cur, h1, h2, hg, h3⟩
  · exact Or.inl h1
  · exact Or.inr ⟨g', cap', cur, h1, h2, by rw [hF.block g' (Array.getElem?_eq_some_iff.1 hg).1 (fun hs => by have := hS _ hs; omega)]; exact hg, h3⟩
end Go.Proofs.YtfchbppfbepelaaGreat
