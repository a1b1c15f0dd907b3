/-
  No cell of these rows narrows 'for every input' (looked for: loops, veiled, ifaces, maps, wideKeys, modest, calm, conditions, laid).
  DERIVED. THE GIVEN ROWS OF THIS SEAT. 5 by the template 'for every input the law returns true; each argument reads behind the call as it read before'; 0 by the template 'total and deterministic' (their statements: YtgkibgglalginaaTotals.lean).
  GIVEN WITH THE SEED: the statements are not yours to turn. If you find one false, say at which input.
  Laid BY PROGRAM, IN A SANDBOX (cutbox-rows.mjs): the forced cells as the released guide's own fill.sh prints them over the translation 101b71f98afbf67d… (all of the seat's roots in one cut). By AI agents, Wed Nov 11 2026. No macro, syntax, notation, axiom, sorry.
-/
import Derived.Test.YtgkibgglalginaaChecked
import GoSem.Claim
import GoSem.ClaimJoined
import GoSem.ClaimMapViews
import Derived.JoinedTies
import Derived.KernelRfl
namespace Go.Proofs.Ytgkibgglalginaa
/- THE CELL 'sum', in the pinned program and in every row, IS THE sha256 OF THE DUMP (.gsa) THAT YtgkibgglalginaaProg.lean LOADS. Nothing in Lean hashes anything: it is a label: what it is worth is what the hold of that sum in a sandbox is worth. -/
noncomputable def Try.pinned : Pinned := { name := "ytgkibgglalginaa", sum := "101b71f98afbf67d9a8c46b096169fb52eb092768d71650fc341d0048ed74481", checked := Try.checked }
namespace Rows
def none {H : Type} : Left H := { results := [], args := [] }

/-- 'tollgatelaw14.ChapBytes': WHATEVER THE INPUT: true; the input reads as it did. -/
def chapBytesSpec : ChangeSpec := { name := "chapBytes", fn := fun _ => fun
  | [d1, d2, d3] => { results := [.lit (.bool true)], args := [d1, d2, d3] }
  | _ => none }
def chapBytesRow : OpenClaim := { program := "ytgkibgglalginaa", sum := "101b71f98afbf67d9a8c46b096169fb52eb092768d71650fc341d0048ed74481", func := "tollgate/tollgatelaw14.ChapBytes", spec := "chapBytes", apart := false }
def ChapBytesSaid : Prop := chapBytesRow.holds Try.pinned (OpenSpec.ofChange chapBytesSpec)

/-- ITS FALSE NEIGHBOUR: 'it returns false'. Refute it at one input. -/
def chapBytesWrong : ChangeSpec := { name := "chapBytes", fn := fun _ => fun
  | [d1, d2, d3] => { results := [.lit (.bool false)], args := [d1, d2, d3] }
  | _ => none }
def ChapBytesWrongFalsely : Prop := chapBytesRow.holds Try.pinned (OpenSpec.ofChange chapBytesWrong)

/-- 'tollgatelaw14.ChapOnce': WHATEVER THE INPUT: true; the input reads as it did. -/
def chapOnceSpec : ChangeSpec := { name := "chapOnce", fn := fun _ => fun
  | [d1, d2, d3] => { results := [.lit (.bool true)], args := [d1, d2, d3] }
  | _ => none }
def chapOnceRow : OpenClaim := { program := "ytgkibgglalginaa", sum := "101b71f98afbf67d9a8c46b096169fb52eb092768d71650fc341d0048ed74481", func := "tollgate/tollgatelaw14.ChapOnce", spec := "chapOnce", apart := false }
def ChapOnceSaid : Prop := chapOnceRow.holds Try.pinned (OpenSpec.ofChange chapOnceSpec)

/-- ITS FALSE NEIGHBOUR: 'it returns false'. Refute it at one input. -/
def chapOnceWrong : ChangeSpec := { name := "chapOnce", fn := fun _ => fun
  | [d1, d2, d3] => { results := [.lit (.bool false)], args := [d1, d2, d3] }
  | _ => none }
def ChapOnceWrongFalsely : Prop := chapOnceRow.holds Try.pinned (OpenSpec.ofChange chapOnceWrong)

/-- 'tollgatelaw14.ChapProves': WHATEVER THE INPUT: true; the input reads as it did. -/
def chapProvesSpec : ChangeSpec := { name := "chapProves", fn := fun _ => fun
  | [d1, d2, d3, d4, d5] => { results := [.lit (.bool true)], args := [d1, d2, d3, d4, d5] }
  | _ => none }
def chapProvesRow : OpenClaim := { program := "ytgkibgglalginaa", sum := "101b71f98afbf67d9a8c46b096169fb52eb092768d71650fc341d0048ed74481", func := "tollgate/tollgatelaw14.ChapProves", spec := "chapProves", apart := false }
def ChapProvesSaid : Prop := chapProvesRow.holds Try.pinned (OpenSpec.ofChange chapProvesSpec)

/-- ITS FALSE NEIGHBOUR: 'it returns false'. Refute it at one input. -/
def chapProvesWrong : ChangeSpec := { name := "chapProves", fn := fun _ => fun
  | [d1, d2, d3, d4, d5] => { results := [.lit (.bool false)], args := [d1, d2, d3, d4, d5] }
  | _ => none }
def ChapProvesWrongFalsely : Prop := chapProvesRow.holds Try.pinned (OpenSpec.ofChange chapProvesWrong)

/-- 'tollgatelaw14.ChapAsks': WHATEVER THE INPUT: true; the input reads as it did. -/
def chapAsksSpec : ChangeSpec := { name := "chapAsks", fn := fun _ => fun
  | [d1, d2, d3] => { results := [.lit (.bool true)], args := [d1, d2, d3] }
  | _ => none }
def chapAsksRow : OpenClaim := { program := "ytgkibgglalginaa", sum := "101b71f98afbf67d9a8c46b096169fb52eb092768d71650fc341d0048ed74481", func := "tollgate/tollgatelaw14.ChapAsks", spec := "chapAsks", apart := false }
def ChapAsksSaid : Prop := chapAsksRow.holds Try.pinned (OpenSpec.ofChange chapAsksSpec)

/-- ITS FALSE NEIGHBOUR: 'it returns false'. Refute it at one input. -/
def chapAsksWrong : ChangeSpec := { name := "chapAsks", fn := fun _ => fun
  | [d1, d2, d3] => { results := [.lit (.bool false)], args := [d1, d2, d3] }
  | _ => none }
def ChapAsksWrongFalsely : Prop := chapAsksRow.holds Try.pinned (OpenSpec.ofChange chapAsksWrong)

/-- 'tollgatelaw14.ChapNone': WHATEVER THE INPUT: true; the input reads as it did. -/
def chapNoneSpec : ChangeSpec := { name := "chapNone", fn := fun _ => fun
  | [d1, d2] => { results := [.lit (.bool true)], args := [d1, d2] }
  | _ => none }
def chapNoneRow : OpenClaim := { program := "ytgkibgglalginaa", sum := "101b71f98afbf67d9a8c46b096169fb52eb092768d71650fc341d0048ed74481", func := "tollgate/tollgatelaw14.ChapNone", spec := "chapNone", apart := false }
def ChapNoneSaid : Prop := chapNoneRow.holds Try.pinned (OpenSpec.ofChange chapNoneSpec)

/-- ITS FALSE NEIGHBOUR: 'it returns false'. Refute it at one input. -/
def chapNoneWrong : ChangeSpec := { name := "chapNone", fn := fun _ => fun
  | [d1, d2] => { results := [.lit (.bool false)], args := [d1, d2] }
  | _ => none }
def ChapNoneWrongFalsely : Prop := chapNoneRow.holds Try.pinned (OpenSpec.ofChange chapNoneWrong)

/- THE SECOND FORM. 'bulk': how many values and letters a reading holds, each counted each time it is reached (what is shared counts as often as it is met; a slice's spare places count too). A statement '..UptoSaid' is the law's where the arguments, and the package variables that the reading takes, are together of bulk at most 1048576: NARROWER than '..Said'. Prove '..Said' where nothing that the law and all that it calls make is longer than what came in: it says more and counts as full. Else prove '..UptoSaid'. A law counts once. -/
mutual
def uptoBulk {H : Type} : DataW H → Nat
  | .lit (.string bytes) => bytes.length + 1
  | .lit _ => 1
  | .nil => 1
  | .ptr d => uptoBulk d + 1
  | .slice elems spare => uptoBulkAll elems + uptoBulkAll spare + 1
  | .agg parts => uptoBulkAll parts + 1
  | .iface _ d => uptoBulk d + 1
  | .map entries => uptoBulkEntries entries + 1
  | .held _ => 1
def uptoBulkAll {H : Type} : List (DataW H) → Nat
  | [] => 0
  | d :: r => uptoBulk d + uptoBulkAll r
def uptoBulkEntries {H : Type} : List (Lit × DataW H) → Nat
  | [] => 0
  | x :: r => uptoBulkEntry x + uptoBulkEntries r
def uptoBulkEntry {H : Type} : Lit × DataW H → Nat
  | (.string bytes, d) => bytes.length + uptoBulk d + 1
  | (_, d) => uptoBulk d + 1
 end
def uptoSmall : (H : Type) → List (DataW H) → Bool := fun _ ds => decide (uptoBulkAll ds ≤ 1048576)
def OpenSpec.upto (s : _root_.Go.ChangeSpec) : _root_.Go.OpenSpec := { _root_.Go.OpenSpec.ofChange s with cond := some uptoSmall }

/-- 'tollgatelaw14.ChapBytes', WHERE WHAT IT READS IS OF BULK AT MOST 1048576: true; the input reads as it did. -/
def chapBytesUptoRow : OpenClaim := { program := "ytgkibgglalginaa", sum := "101b71f98afbf67d9a8c46b096169fb52eb092768d71650fc341d0048ed74481", func := "tollgate/tollgatelaw14.ChapBytes", spec := "chapBytes", apart := false, narrowed := true }
def ChapBytesUptoSaid : Prop := chapBytesUptoRow.holds Try.pinned (OpenSpec.upto chapBytesSpec)

/-- 'tollgatelaw14.ChapOnce', WHERE WHAT IT READS IS OF BULK AT MOST 1048576: true; the input reads as it did. -/
def chapOnceUptoRow : OpenClaim := { program := "ytgkibgglalginaa", sum := "101b71f98afbf67d9a8c46b096169fb52eb092768d71650fc341d0048ed74481", func := "tollgate/tollgatelaw14.ChapOnce", spec := "chapOnce", apart := false, narrowed := true }
def ChapOnceUptoSaid : Prop := chapOnceUptoRow.holds Try.pinned (OpenSpec.upto chapOnceSpec)

/-- 'tollgatelaw14.ChapProves', WHERE WHAT IT READS IS OF BULK AT MOST 1048576: true; the input reads as it did. -/
def chapProvesUptoRow : OpenClaim := { program := "ytgkibgglalginaa", sum := "101b71f98afbf67d9a8c46b096169fb52eb092768d71650fc341d0048ed74481", func := "tollgate/tollgatelaw14.ChapProves", spec := "chapProves", apart := false, narrowed := true }
def ChapProvesUptoSaid : Prop := chapProvesUptoRow.holds Try.pinned (OpenSpec.upto chapProvesSpec)

/-- 'tollgatelaw14.ChapAsks', WHERE WHAT IT READS IS OF BULK AT MOST 1048576: true; the input reads as it did. -/
def chapAsksUptoRow : OpenClaim := { program := "ytgkibgglalginaa", sum := "101b71f98afbf67d9a8c46b096169fb52eb092768d71650fc341d0048ed74481", func := "tollgate/tollgatelaw14.ChapAsks", spec := "chapAsks", apart := false, narrowed := true }
def ChapAsksUptoSaid : Prop := chapAsksUptoRow.holds Try.pinned (OpenSpec.upto chapAsksSpec)

/-- 'tollgatelaw14.ChapNone', WHERE WHAT IT READS IS OF BULK AT MOST 1048576: true; the input reads as it did. -/
def chapNoneUptoRow : OpenClaim := { program := "ytgkibgglalginaa", sum := "101b71f98afbf67d9a8c46b096169fb52eb092768d71650fc341d0048ed74481", func := "tollgate/tollgatelaw14.ChapNone", spec := "chapNone", apart := false, narrowed := true }
def ChapNoneUptoSaid : Prop := chapNoneUptoRow.holds Try.pinned (OpenSpec.upto chapNoneSpec)

end Rows
end Go.Proofs.Ytgkibgglalginaa
