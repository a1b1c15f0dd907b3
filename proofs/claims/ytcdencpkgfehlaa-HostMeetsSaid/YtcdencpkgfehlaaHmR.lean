/- Rows of texts that came in. -/
import Derived.Test.YtcdencpkgfehlaaHmB
import Derived.Test.YtcdencpkgfehlaaRowsAt
namespace Go.Proofs.Ytcdencpkgfehlaa
open Go.ChangeShapes Go.WideShapes Go.ChangeAt Go.RowKit Go.Deep
set_option linter.unusedVariables false
set_option maxRecDepth 100000
theorem str_cells : Try.prog.cellsOf 9 = 1 := by kernel_rfl
section
variable {H : Type} {enc : TypeId × Value → H} {w : World} {base : Nat} {spare : Nat → Bool} {held : Bool}
theorem dec_str (n : Nat) (cs : List Value) (x : DataW H × List MemPlace) (h : DataW.trod enc Try.prog w base spare held n 9 cs = some x) : ∃ s : List UInt8, cs = strF s ∧ True := by
  obtain ⟨d, e3, f3, _⟩ := DataW.trod_string Try.underlying9 h
  subst e3
  exact ⟨d.data.toList, by unfold strF; rw [← B_of], trivial⟩
theorem open_strs {a : Option Addr} {len cap : Nat} {d : DataW H} {ps : List MemPlace} (h : DataW.Trod enc Try.prog w base spare held 80 (.slice a len cap) d ps) : ∃ l, RowsAt w a len cap 1 strF (fun _ => True) l :=
  rows_of Try.underlying80 str_cells (by decide) dec_str h
end
theorem SIn.of_rows {w : World} {a : Option Addr} {len cap : Nat} {l : List (List UInt8)} (h : RowsAt w a len cap 1 strF (fun _ => True) l) : SIn w a l := by
  obtain ⟨h1, _, _, _, h5⟩ := h
  rcases h5 with h5 | ⟨b, off, h6, h7, h8⟩
  · left
    subst h5
    exact List.length_eq_zero_iff.1 h1
  · right
    refine ⟨b, off, h6, h7, fun i s hs => ?_⟩
    have := h8 i s hs 0 (.string (B s)) rfl
    simpa using this
end Go.Proofs.Ytcdencpkgfehlaa
