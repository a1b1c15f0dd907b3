/- Frames by ranges of blocks. No program is spoken of here. -/
import Derived.Test.YtpljdnocdhppmaaBase
namespace Go.Proofs.Ytpljdnocdhppmaa
open Go.RowKit
set_option linter.unusedVariables false
/-- only blocks from b up to n may differ (and new ones) -/
def FrB (b n : Nat) (w w' : World) : Prop := ∃ Sx, Fr Sx w w' ∧ ∀ x, x ∈ Sx → b ≤ x ∧ x < n
theorem FrB.of (b n : Nat) {w w' : World} (h : Fr [] w w') : FrB b n w w' := ⟨[], h, fun x hx => by cases hx⟩
theorem FrB.blk {b n : Nat} {w w' : World} (h : FrB b n w w') {q T : Nat} {cs : Array Value} (hB : Blk w q cs T) (hq : q < b ∨ n ≤ q) : Blk w' q cs T := by
  obtain ⟨Sx, hF, hS⟩ := h
  exact hF.blk hB (fun hx => by have := hS _ hx; omega)
theorem FrB.sub {b n : Nat} {w0 w w' : World} (h0 : Fr [] w0 w) (h : FrB b n w w') (hb : w0.heap.size ≤ b) : Fr [] w0 w' := by
  obtain ⟨Sx, hF, hS⟩ := h
  exact h0.sub hF (fun x hx => Or.inr (Nat.le_trans hb (hS x hx).1))
theorem FrB.pre {b n : Nat} {w0 w w' : World} (h0 : Fr [] w0 w) (h : FrB b n w w') : FrB b n w0 w' := by
  obtain ⟨Sx, hF, hS⟩ := h
  exact ⟨Sx, (h0.mono (by simp)).trans hF, hS⟩
theorem FrB.trans {b n : Nat} {w0 w w' : World} (h0 : FrB b n w0 w) (h : FrB b n w w') : FrB b n w0 w' := by
  obtain ⟨S0, hF0, hS0⟩ := h0
  obtain ⟨Sx, hF, hS⟩ := h
  refine ⟨S0 ++ Sx, (hF0.mono (by intro k hk; exact List.mem_append_left _ hk)).trans (hF.mono (by intro k hk; exact List.mem_append_right _ hk)), fun x hx => ?_⟩
  rcases List.mem_append.1 hx with h | h
  · exact hS0 x h
  · exact hS x h
theorem FrB.size2 {b n : Nat} {w w' : World} (h : FrB b n w w') : w.heap.size ≤ w'.heap.size := by
  obtain ⟨Sx, hF, _⟩ := h
  exact hF.size
theorem FrB.mk' {b n : Nat} {S : List Nat} {w w' : World} (h : Fr S w w') (hS : ∀ x, x ∈ S → b ≤ x ∧ x < n) : FrB b n w w' := ⟨S, h, hS⟩
end Go.Proofs.Ytpljdnocdhppmaa
