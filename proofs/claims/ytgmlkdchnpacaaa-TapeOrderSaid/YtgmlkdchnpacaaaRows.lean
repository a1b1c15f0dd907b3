/-
  No cell of these rows narrows 'for every input' (looked for: loops, veiled, ifaces, maps, wideKeys, modest, calm, conditions, laid).
  DERIVED. THE GIVEN ROWS OF THIS SEAT. 6 by the template 'for every input the law returns true; each argument reads behind the call as it read before'; 0 by the template 'total and deterministic' (their statements: YtgmlkdchnpacaaaTotals.lean).
  GIVEN WITH THE SEED: the statements are not yours to turn. If you find one false, say at which input.
  Laid BY PROGRAM, IN A SANDBOX (cutbox-rows.mjs): the forced cells as the released guide's own fill.sh prints them over the translation dca2fe02c571c389… (all of the seat's roots in one cut). By AI agents, Wed Nov 11 2026. No macro, syntax, notation, axiom, sorry.
-/
import Derived.Test.YtgmlkdchnpacaaaChecked
import GoSem.Claim
import GoSem.ClaimJoined
import GoSem.ClaimMapViews
import Derived.JoinedTies
import Derived.KernelRfl
namespace Go.Proofs.Ytgmlkdchnpacaaa
/- THE CELL 'sum', in the pinned program and in every row, IS THE sha256 OF THE DUMP (.gsa) THAT YtgmlkdchnpacaaaProg.lean LOADS. Nothing in Lean hashes anything: it is a label: what it is worth is what the hold of that sum in a sandbox is worth. -/
noncomputable def Try.pinned : Pinned := { name := "ytgmlkdchnpacaaa", sum := "dca2fe02c571c389451be497e480acf86eee6b1f865b1e370fdf25b4cbbd3fed", checked := Try.checked }
namespace Rows
def none {H : Type} : Left H := { results := [], args := [] }

/-- 'tollgatelaw3.TapePieces': WHATEVER THE INPUT: true; the input reads as it did. -/
def tapePiecesSpec : ChangeSpec := { name := "tapePieces", fn := fun _ => fun
  | [d1, d2, d3] => { results := [.lit (.bool true)], args := [d1, d2, d3] }
  | _ => none }
def tapePiecesRow : OpenClaim := { program := "ytgmlkdchnpacaaa", sum := "dca2fe02c571c389451be497e480acf86eee6b1f865b1e370fdf25b4cbbd3fed", func := "tollgate/tollgatelaw3.TapePieces", spec := "tapePieces", unfollowed := true, recurses := true, plainKeys := false, apart := false }
def TapePiecesSaid : Prop := tapePiecesRow.holds Try.pinned (OpenSpec.ofChange tapePiecesSpec)

/-- ITS FALSE NEIGHBOUR: 'it returns false'. Refute it at one input. -/
def tapePiecesWrong : ChangeSpec := { name := "tapePieces", fn := fun _ => fun
  | [d1, d2, d3] => { results := [.lit (.bool false)], args := [d1, d2, d3] }
  | _ => none }
def TapePiecesWrongFalsely : Prop := tapePiecesRow.holds Try.pinned (OpenSpec.ofChange tapePiecesWrong)

/-- 'tollgatelaw3.TapeAnew': WHATEVER THE INPUT: true; the input reads as it did. -/
def tapeAnewSpec : ChangeSpec := { name := "tapeAnew", fn := fun _ => fun
  | [d1, d2, d3] => { results := [.lit (.bool true)], args := [d1, d2, d3] }
  | _ => none }
def tapeAnewRow : OpenClaim := { program := "ytgmlkdchnpacaaa", sum := "dca2fe02c571c389451be497e480acf86eee6b1f865b1e370fdf25b4cbbd3fed", func := "tollgate/tollgatelaw3.TapeAnew", spec := "tapeAnew", unfollowed := true, recurses := true, plainKeys := false, apart := false }
def TapeAnewSaid : Prop := tapeAnewRow.holds Try.pinned (OpenSpec.ofChange tapeAnewSpec)

/-- ITS FALSE NEIGHBOUR: 'it returns false'. Refute it at one input. -/
def tapeAnewWrong : ChangeSpec := { name := "tapeAnew", fn := fun _ => fun
  | [d1, d2, d3] => { results := [.lit (.bool false)], args := [d1, d2, d3] }
  | _ => none }
def TapeAnewWrongFalsely : Prop := tapeAnewRow.holds Try.pinned (OpenSpec.ofChange tapeAnewWrong)

/-- 'tollgatelaw3.TapeDraws': WHATEVER THE INPUT: true; the input reads as it did. -/
def tapeDrawsSpec : ChangeSpec := { name := "tapeDraws", fn := fun _ => fun
  | [d1, d2, d3] => { results := [.lit (.bool true)], args := [d1, d2, d3] }
  | _ => none }
def tapeDrawsRow : OpenClaim := { program := "ytgmlkdchnpacaaa", sum := "dca2fe02c571c389451be497e480acf86eee6b1f865b1e370fdf25b4cbbd3fed", func := "tollgate/tollgatelaw3.TapeDraws", spec := "tapeDraws", unfollowed := true, recurses := true, plainKeys := false, apart := false }
def TapeDrawsSaid : Prop := tapeDrawsRow.holds Try.pinned (OpenSpec.ofChange tapeDrawsSpec)

/-- ITS FALSE NEIGHBOUR: 'it returns false'. Refute it at one input. -/
def tapeDrawsWrong : ChangeSpec := { name := "tapeDraws", fn := fun _ => fun
  | [d1, d2, d3] => { results := [.lit (.bool false)], args := [d1, d2, d3] }
  | _ => none }
def TapeDrawsWrongFalsely : Prop := tapeDrawsRow.holds Try.pinned (OpenSpec.ofChange tapeDrawsWrong)

/-- 'tollgatelaw3.TapeBytes': WHATEVER THE INPUT: true; the input reads as it did. -/
def tapeBytesSpec : ChangeSpec := { name := "tapeBytes", fn := fun _ => fun
  | [d1, d2] => { results := [.lit (.bool true)], args := [d1, d2] }
  | _ => none }
def tapeBytesRow : OpenClaim := { program := "ytgmlkdchnpacaaa", sum := "dca2fe02c571c389451be497e480acf86eee6b1f865b1e370fdf25b4cbbd3fed", func := "tollgate/tollgatelaw3.TapeBytes", spec := "tapeBytes", unfollowed := true, recurses := true, plainKeys := false, apart := false }
def TapeBytesSaid : Prop := tapeBytesRow.holds Try.pinned (OpenSpec.ofChange tapeBytesSpec)

/-- ITS FALSE NEIGHBOUR: 'it returns false'. Refute it at one input. -/
def tapeBytesWrong : ChangeSpec := { name := "tapeBytes", fn := fun _ => fun
  | [d1, d2] => { results := [.lit (.bool false)], args := [d1, d2] }
  | _ => none }
def TapeBytesWrongFalsely : Prop := tapeBytesRow.holds Try.pinned (OpenSpec.ofChange tapeBytesWrong)

/-- 'tollgatelaw3.TapeNone': WHATEVER THE INPUT: true; the input reads as it did. -/
def tapeNoneSpec : ChangeSpec := { name := "tapeNone", fn := fun _ => fun
  | [d1, d2] => { results := [.lit (.bool true)], args := [d1, d2] }
  | _ => none }
def tapeNoneRow : OpenClaim := { program := "ytgmlkdchnpacaaa", sum := "dca2fe02c571c389451be497e480acf86eee6b1f865b1e370fdf25b4cbbd3fed", func := "tollgate/tollgatelaw3.TapeNone", spec := "tapeNone", unfollowed := true, recurses := true, plainKeys := false, apart := false }
def TapeNoneSaid : Prop := tapeNoneRow.holds Try.pinned (OpenSpec.ofChange tapeNoneSpec)

/-- ITS FALSE NEIGHBOUR: 'it returns false'. Refute it at one input. -/
def tapeNoneWrong : ChangeSpec := { name := "tapeNone", fn := fun _ => fun
  | [d1, d2] => { results := [.lit (.bool false)], args := [d1, d2] }
  | _ => none }
def TapeNoneWrongFalsely : Prop := tapeNoneRow.holds Try.pinned (OpenSpec.ofChange tapeNoneWrong)

/-- 'tollgatelaw3.TapeOrder': WHATEVER THE INPUT: true; the input reads as it did. -/
def tapeOrderSpec : ChangeSpec := { name := "tapeOrder", fn := fun _ => fun
  | [d1, d2] => { results := [.lit (.bool true)], args := [d1, d2] }
  | _ => none }
def tapeOrderRow : OpenClaim := { program := "ytgmlkdchnpacaaa", sum := "dca2fe02c571c389451be497e480acf86eee6b1f865b1e370fdf25b4cbbd3fed", func := "tollgate/tollgatelaw3.TapeOrder", spec := "tapeOrder", unfollowed := true, recurses := true, plainKeys := false, apart := false }
def TapeOrderSaid : Prop := tapeOrderRow.holds Try.pinned (OpenSpec.ofChange tapeOrderSpec)

/-- ITS FALSE NEIGHBOUR: 'it returns false'. Refute it at one input. -/
def tapeOrderWrong : ChangeSpec := { name := "tapeOrder", fn := fun _ => fun
  | [d1, d2] => { results := [.lit (.bool false)], args := [d1, d2] }
  | _ => none }
def TapeOrderWrongFalsely : Prop := tapeOrderRow.holds Try.pinned (OpenSpec.ofChange tapeOrderWrong)

/- THE SECOND FORM. 'bulk': how many values and letters a reading holds, each counted each time it is reached (what is shared counts as often as it is met; a slice's spare places count too). A statement '..UptoSaid' is the law's where the arguments, and the package variables that the reading takes, are together of bulk at most 1048576: NARROWER than '..Said'. Prove '..Said' where nothing that the law and all that it calls make is longer than what came in: it says more and counts as full. Else prove '..UptoSaid'. A law counts once. -/
mutual
def uptoBulk {H : Type} : DataW H → Nat
  | .lit (.string bytes) => bytes.length + 1
  | .lit _ => 1
  | .nil => 1
  | .ptr d => uptoBulk d + 1
  | .slice elems spare => uptoBulkAll elems + uptoBulkAll spare + 1
  | .agg parts => uptoBulkAll parts + 1
  | .iface _ d => uptoBulk d + 1
  | .map entries => uptoBulkEntries entries + 1
  | .held _ => 1
def uptoBulkAll {H : Type} : List (DataW H) → Nat
  | [] => 0
  | d :: r => uptoBulk d + uptoBulkAll r
def uptoBulkEntries {H : Type} : List (Lit × DataW H) → Nat
  | [] => 0
  | x :: r => uptoBulkEntry x + uptoBulkEntries r
def uptoBulkEntry {H : Type} : Lit × DataW H → Nat
  | (.string bytes, d) => bytes.length + uptoBulk d + 1
  | (_, d) => uptoBulk d + 1
 end
def uptoSmall : (H : Type) → List (DataW H) → Bool := fun _ ds => decide (uptoBulkAll ds ≤ 1048576)
def OpenSpec.upto (s : _root_.Go.ChangeSpec) : _root_.Go.OpenSpec := { _root_.Go.OpenSpec.ofChange s with cond := some uptoSmall }

/-- 'tollgatelaw3.TapePieces', WHERE WHAT IT READS IS OF BULK AT MOST 1048576: true; the input reads as it did. -/
def tapePiecesUptoRow : OpenClaim := { program := "ytgmlkdchnpacaaa", sum := "dca2fe02c571c389451be497e480acf86eee6b1f865b1e370fdf25b4cbbd3fed", func := "tollgate/tollgatelaw3.TapePieces", spec := "tapePieces", unfollowed := true, recurses := true, plainKeys := false, apart := false, narrowed := true }
def TapePiecesUptoSaid : Prop := tapePiecesUptoRow.holds Try.pinned (OpenSpec.upto tapePiecesSpec)

/-- 'tollgatelaw3.TapeAnew', WHERE WHAT IT READS IS OF BULK AT MOST 1048576: true; the input reads as it did. -/
def tapeAnewUptoRow : OpenClaim := { program := "ytgmlkdchnpacaaa", sum := "dca2fe02c571c389451be497e480acf86eee6b1f865b1e370fdf25b4cbbd3fed", func := "tollgate/tollgatelaw3.TapeAnew", spec := "tapeAnew", unfollowed := true, recurses := true, plainKeys := false, apart := false, narrowed := true }
def TapeAnewUptoSaid : Prop := tapeAnewUptoRow.holds Try.pinned (OpenSpec.upto tapeAnewSpec)

/-- 'tollgatelaw3.TapeDraws', WHERE WHAT IT READS IS OF BULK AT MOST 1048576: true; the input reads as it did. -/
def tapeDrawsUptoRow : OpenClaim := { program := "ytgmlkdchnpacaaa", sum := "dca2fe02c571c389451be497e480acf86eee6b1f865b1e370fdf25b4cbbd3fed", func := "tollgate/tollgatelaw3.TapeDraws", spec := "tapeDraws", unfollowed := true, recurses := true, plainKeys := false, apart := false, narrowed := true }
def TapeDrawsUptoSaid : Prop := tapeDrawsUptoRow.holds Try.pinned (OpenSpec.upto tapeDrawsSpec)

/-- 'tollgatelaw3.TapeBytes', WHERE WHAT IT READS IS OF BULK AT MOST 1048576: true; the input reads as it did. -/
def tapeBytesUptoRow : OpenClaim := { program := "ytgmlkdchnpacaaa", sum := "dca2fe02c571c389451be497e480acf86eee6b1f865b1e370fdf25b4cbbd3fed", func := "tollgate/tollgatelaw3.TapeBytes", spec := "tapeBytes", unfollowed := true, recurses := true, plainKeys := false, apart := false, narrowed := true }
def TapeBytesUptoSaid : Prop := tapeBytesUptoRow.holds Try.pinned (OpenSpec.upto tapeBytesSpec)

/-- 'tollgatelaw3.TapeNone', WHERE WHAT IT READS IS OF BULK AT MOST 1048576: true; the input reads as it did. -/
def tapeNoneUptoRow : OpenClaim := { program := "ytgmlkdchnpacaaa", sum := "dca2fe02c571c389451be497e480acf86eee6b1f865b1e370fdf25b4cbbd3fed", func := "tollgate/tollgatelaw3.TapeNone", spec := "tapeNone", unfollowed := true, recurses := true, plainKeys := false, apart := false, narrowed := true }
def TapeNoneUptoSaid : Prop := tapeNoneUptoRow.holds Try.pinned (OpenSpec.upto tapeNoneSpec)

/-- 'tollgatelaw3.TapeOrder', WHERE WHAT IT READS IS OF BULK AT MOST 1048576: true; the input reads as it did. -/
def tapeOrderUptoRow : OpenClaim := { program := "ytgmlkdchnpacaaa", sum := "dca2fe02c571c389451be497e480acf86eee6b1f865b1e370fdf25b4cbbd3fed", func := "tollgate/tollgatelaw3.TapeOrder", spec := "tapeOrder", unfollowed := true, recurses := true, plainKeys := false, apart := false, narrowed := true }
def TapeOrderUptoSaid : Prop := tapeOrderUptoRow.holds Try.pinned (OpenSpec.upto tapeOrderSpec)

end Rows
end Go.Proofs.Ytgmlkdchnpacaaa
