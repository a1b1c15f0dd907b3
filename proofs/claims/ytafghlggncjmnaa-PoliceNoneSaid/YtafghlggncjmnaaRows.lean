/-
  No cell of these rows narrows 'for every input' (looked for: loops, veiled, ifaces, maps, wideKeys, modest, calm, conditions, laid).
  DERIVED. THE GIVEN ROWS OF THIS SEAT. 4 by the template 'for every input the law returns true; each argument reads behind the call as it read before'; 0 by the template 'total and deterministic' (their statements: YtafghlggncjmnaaTotals.lean).
  GIVEN WITH THE SEED: the statements are not yours to turn. If you find one false, say at which input.
  Laid BY PROGRAM, IN A SANDBOX (cutbox-rows.mjs): the forced cells as the released guide's own fill.sh prints them over the translation 5d1b61ad58261c87… (all of the seat's roots in one cut). By AI agents, Wed Nov 11 2026. No macro, syntax, notation, axiom, sorry.
-/
import Derived.Test.YtafghlggncjmnaaChecked
import GoSem.Claim
import GoSem.ClaimJoined
import GoSem.ClaimMapViews
import Derived.JoinedTies
import Derived.KernelRfl
namespace Go.Proofs.Ytafghlggncjmnaa
/- THE CELL 'sum', in the pinned program and in every row, IS THE sha256 OF THE DUMP (.gsa) THAT YtafghlggncjmnaaProg.lean LOADS. Nothing in Lean hashes anything: it is a label: what it is worth is what the hold of that sum in a sandbox is worth. -/
noncomputable def Try.pinned : Pinned := { name := "ytafghlggncjmnaa", sum := "5d1b61ad58261c876e2f5e53b23021e5f403a8eb918e75ce396ca6e432410852", checked := Try.checked }
namespace Rows
def none {H : Type} : Left H := { results := [], args := [] }

/-- 'tollgatelaw24.PolicePlays': WHATEVER THE INPUT: true; the input reads as it did. -/
def policePlaysSpec : ChangeSpec := { name := "policePlays", fn := fun _ => fun
  | [d1, d2, d3] => { results := [.lit (.bool true)], args := [d1, d2, d3] }
  | _ => none }
def policePlaysRow : OpenClaim := { program := "ytafghlggncjmnaa", sum := "5d1b61ad58261c876e2f5e53b23021e5f403a8eb918e75ce396ca6e432410852", func := "tollgate/tollgatelaw24.PolicePlays", spec := "policePlays", apart := false }
def PolicePlaysSaid : Prop := policePlaysRow.holds Try.pinned (OpenSpec.ofChange policePlaysSpec)

/-- ITS FALSE NEIGHBOUR: 'it returns false'. Refute it at one input. -/
def policePlaysWrong : ChangeSpec := { name := "policePlays", fn := fun _ => fun
  | [d1, d2, d3] => { results := [.lit (.bool false)], args := [d1, d2, d3] }
  | _ => none }
def PolicePlaysWrongFalsely : Prop := policePlaysRow.holds Try.pinned (OpenSpec.ofChange policePlaysWrong)

/-- 'tollgatelaw24.PoliceBound': WHATEVER THE INPUT: true; the input reads as it did. -/
def policeBoundSpec : ChangeSpec := { name := "policeBound", fn := fun _ => fun
  | [d1, d2, d3] => { results := [.lit (.bool true)], args := [d1, d2, d3] }
  | _ => none }
def policeBoundRow : OpenClaim := { program := "ytafghlggncjmnaa", sum := "5d1b61ad58261c876e2f5e53b23021e5f403a8eb918e75ce396ca6e432410852", func := "tollgate/tollgatelaw24.PoliceBound", spec := "policeBound", apart := false }
def PoliceBoundSaid : Prop := policeBoundRow.holds Try.pinned (OpenSpec.ofChange policeBoundSpec)

/-- ITS FALSE NEIGHBOUR: 'it returns false'. Refute it at one input. -/
def policeBoundWrong : ChangeSpec := { name := "policeBound", fn := fun _ => fun
  | [d1, d2, d3] => { results := [.lit (.bool false)], args := [d1, d2, d3] }
  | _ => none }
def PoliceBoundWrongFalsely : Prop := policeBoundRow.holds Try.pinned (OpenSpec.ofChange policeBoundWrong)

/-- 'tollgatelaw24.PoliceNone': WHATEVER THE INPUT: true; the input reads as it did. -/
def policeNoneSpec : ChangeSpec := { name := "policeNone", fn := fun _ => fun
  | [d] => { results := [.lit (.bool true)], args := [d] }
  | _ => none }
def policeNoneRow : OpenClaim := { program := "ytafghlggncjmnaa", sum := "5d1b61ad58261c876e2f5e53b23021e5f403a8eb918e75ce396ca6e432410852", func := "tollgate/tollgatelaw24.PoliceNone", spec := "policeNone", apart := false }
def PoliceNoneSaid : Prop := policeNoneRow.holds Try.pinned (OpenSpec.ofChange policeNoneSpec)

/-- ITS FALSE NEIGHBOUR: 'it returns false'. Refute it at one input. -/
def policeNoneWrong : ChangeSpec := { name := "policeNone", fn := fun _ => fun
  | [d] => { results := [.lit (.bool false)], args := [d] }
  | _ => none }
def PoliceNoneWrongFalsely : Prop := policeNoneRow.holds Try.pinned (OpenSpec.ofChange policeNoneWrong)

/-- 'tollgatelaw24.PoliceFills': WHATEVER THE INPUT: true; the input reads as it did. -/
def policeFillsSpec : ChangeSpec := { name := "policeFills", fn := fun _ => fun
  | [d1, d2, d3, d4, d5] => { results := [.lit (.bool true)], args := [d1, d2, d3, d4, d5] }
  | _ => none }
def policeFillsRow : OpenClaim := { program := "ytafghlggncjmnaa", sum := "5d1b61ad58261c876e2f5e53b23021e5f403a8eb918e75ce396ca6e432410852", func := "tollgate/tollgatelaw24.PoliceFills", spec := "policeFills", apart := false }
def PoliceFillsSaid : Prop := policeFillsRow.holds Try.pinned (OpenSpec.ofChange policeFillsSpec)

/-- ITS FALSE NEIGHBOUR: 'it returns false'. Refute it at one input. -/
def policeFillsWrong : ChangeSpec := { name := "policeFills", fn := fun _ => fun
  | [d1, d2, d3, d4, d5] => { results := [.lit (.bool false)], args := [d1, d2, d3, d4, d5] }
  | _ => none }
def PoliceFillsWrongFalsely : Prop := policeFillsRow.holds Try.pinned (OpenSpec.ofChange policeFillsWrong)

/- THE SECOND FORM. 'bulk': how many values and letters a reading holds, each counted each time it is reached (what is shared counts as often as it is met; a slice's spare places count too). A statement '..UptoSaid' is the law's where the arguments, and the package variables that the reading takes, are together of bulk at most 1048576: NARROWER than '..Said'. Prove '..Said' where nothing that the law and all that it calls make is longer than what came in: it says more and counts as full. Else prove '..UptoSaid'. A law counts once. -/
mutual
def uptoBulk {H : Type} : DataW H → Nat
  | .lit (.string bytes) => bytes.length + 1
  | .lit _ => 1
  | .nil => 1
  | .ptr d => uptoBulk d + 1
  | .slice elems spare => uptoBulkAll elems + uptoBulkAll spare + 1
  | .agg parts => uptoBulkAll parts + 1
  | .iface _ d => uptoBulk d + 1
  | .map entries => uptoBulkEntries entries + 1
  | .held _ => 1
def uptoBulkAll {H : Type} : List (DataW H) → Nat
  | [] => 0
  | d :: r => uptoBulk d + uptoBulkAll r
def uptoBulkEntries {H : Type} : List (Lit × DataW H) → Nat
  | [] => 0
  | x :: r => uptoBulkEntry x + uptoBulkEntries r
def uptoBulkEntry {H : Type} : Lit × DataW H → Nat
  | (.string bytes, d) => bytes.length + uptoBulk d + 1
  | (_, d) => uptoBulk d + 1
 end
def uptoSmall : (H : Type) → List (DataW H) → Bool := fun _ ds => decide (uptoBulkAll ds ≤ 1048576)
def OpenSpec.upto (s : _root_.Go.ChangeSpec) : _root_.Go.OpenSpec := { _root_.Go.OpenSpec.ofChange s with cond := some uptoSmall }

/-- 'tollgatelaw24.PolicePlays', WHERE WHAT IT READS IS OF BULK AT MOST 1048576: true; the input reads as it did. -/
def policePlaysUptoRow : OpenClaim := { program := "ytafghlggncjmnaa", sum := "5d1b61ad58261c876e2f5e53b23021e5f403a8eb918e75ce396ca6e432410852", func := "tollgate/tollgatelaw24.PolicePlays", spec := "policePlays", apart := false, narrowed := true }
def PolicePlaysUptoSaid : Prop := policePlaysUptoRow.holds Try.pinned (OpenSpec.upto policePlaysSpec)

/-- 'tollgatelaw24.PoliceBound', WHERE WHAT IT READS IS OF BULK AT MOST 1048576: true; the input reads as it did. -/
def policeBoundUptoRow : OpenClaim := { program := "ytafghlggncjmnaa", sum := "5d1b61ad58261c876e2f5e53b23021e5f403a8eb918e75ce396ca6e432410852", func := "tollgate/tollgatelaw24.PoliceBound", spec := "policeBound", apart := false, narrowed := true }
def PoliceBoundUptoSaid : Prop := policeBoundUptoRow.holds Try.pinned (OpenSpec.upto policeBoundSpec)

/-- 'tollgatelaw24.PoliceNone', WHERE WHAT IT READS IS OF BULK AT MOST 1048576: true; the input reads as it did. -/
def policeNoneUptoRow : OpenClaim := { program := "ytafghlggncjmnaa", sum := "5d1b61ad58261c876e2f5e53b23021e5f403a8eb918e75ce396ca6e432410852", func := "tollgate/tollgatelaw24.PoliceNone", spec := "policeNone", apart := false, narrowed := true }
def PoliceNoneUptoSaid : Prop := policeNoneUptoRow.holds Try.pinned (OpenSpec.upto policeNoneSpec)

/-- 'tollgatelaw24.PoliceFills', WHERE WHAT IT READS IS OF BULK AT MOST 1048576: true; the input reads as it did. -/
def policeFillsUptoRow : OpenClaim := { program := "ytafghlggncjmnaa", sum := "5d1b61ad58261c876e2f5e53b23021e5f403a8eb918e75ce396ca6e432410852", func := "tollgate/tollgatelaw24.PoliceFills", spec := "policeFills", apart := false, narrowed := true }
def PoliceFillsUptoSaid : Prop := policeFillsUptoRow.holds Try.pinned (OpenSpec.upto policeFillsSpec)

end Rows
end Go.Proofs.Ytafghlggncjmnaa
