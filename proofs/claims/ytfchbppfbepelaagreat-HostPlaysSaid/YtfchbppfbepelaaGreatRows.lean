/-
  No cell of these rows narrows 'for every input' (looked for: loops, veiled, ifaces, maps, wideKeys, modest, calm, conditions, laid).
  DERIVED. THE GIVEN ROWS OF THIS SEAT. 6 by the template 'for every input the law returns true; each argument reads behind the call as it read before'; 0 by the template 'total and deterministic' (their statements: YtfchbppfbepelaaGreatTotals.lean).
  GIVEN WITH THE SEED: the statements are not yours to turn. If you find one false, say at which input.
  Laid BY PROGRAM, IN A SANDBOX (cutbox-rows.mjs): the forced cells as the released guide's own fill.sh prints them over the translation 81a6ba2505280da5… (all of the seat's roots in one cut). By AI agents, Wed Nov 11 2026. No macro, syntax, notation, axiom, sorry.
-/
import Derived.Test.YtfchbppfbepelaaGreatChecked
import GoSem.Claim
import GoSem.ClaimJoined
import GoSem.ClaimMapViews
import Derived.JoinedTies
import Derived.KernelRfl
namespace Go.Proofs.YtfchbppfbepelaaGreat
/- THE CELL 'sum', in the pinned program and in every row, IS THE sha256 OF THE DUMP (.gsa) THAT YtfchbppfbepelaaGreatProg.lean LOADS. Nothing in Lean hashes anything: it is a label: what it is worth is what the hold of that sum in a sandbox is worth. -/
noncomputable def Tryz.pinned : Pinned := { name := "ytfchbppfbepelaagreat", sum := "81a6ba2505280da575fab4a1130c04468f31157981ee2988a1226e4825b1e05e", checked := Tryz.checked }
namespace Rows
def none {H : Type} : Left H := { results := [], args := [] }

/-- 'tollgatelaw13.PapPlays': WHATEVER THE INPUT: true; the input reads as it did. -/
def papPlaysSpec : ChangeSpec := { name := "papPlays", fn := fun _ => fun
  | [d1, d2, d3, d4, d5] => { results := [.lit (.bool true)], args := [d1, d2, d3, d4, d5] }
  | _ => none }
def papPlaysRow : OpenClaim := { program := "ytfchbppfbepelaagreat", sum := "81a6ba2505280da575fab4a1130c04468f31157981ee2988a1226e4825b1e05e", func := "tollgate/tollgatelaw13.PapPlays", spec := "papPlays", plainKeys := false, apart := false }
def PapPlaysSaid : Prop := papPlaysRow.holds Tryz.pinned (OpenSpec.ofChange papPlaysSpec)

/-- ITS FALSE NEIGHBOUR: 'it returns false'. Refute it at one input. -/
def papPlaysWrong : ChangeSpec := { name := "papPlays", fn := fun _ => fun
  | [d1, d2, d3, d4, d5] => { results := [.lit (.bool false)], args := [d1, d2, d3, d4, d5] }
  | _ => none }
def PapPlaysWrongFalsely : Prop := papPlaysRow.holds Tryz.pinned (OpenSpec.ofChange papPlaysWrong)

/-- 'tollgatelaw14.ChapClient': WHATEVER THE INPUT: true; the input reads as it did. -/
def chapClientSpec : ChangeSpec := { name := "chapClient", fn := fun _ => fun
  | [d1, d2, d3] => { results := [.lit (.bool true)], args := [d1, d2, d3] }
  | _ => none }
def chapClientRow : OpenClaim := { program := "ytfchbppfbepelaagreat", sum := "81a6ba2505280da575fab4a1130c04468f31157981ee2988a1226e4825b1e05e", func := "tollgate/tollgatelaw14.ChapClient", spec := "chapClient", plainKeys := false, apart := false }
def ChapClientSaid : Prop := chapClientRow.holds Tryz.pinned (OpenSpec.ofChange chapClientSpec)

/-- ITS FALSE NEIGHBOUR: 'it returns false'. Refute it at one input. -/
def chapClientWrong : ChangeSpec := { name := "chapClient", fn := fun _ => fun
  | [d1, d2, d3] => { results := [.lit (.bool false)], args := [d1, d2, d3] }
  | _ => none }
def ChapClientWrongFalsely : Prop := chapClientRow.holds Tryz.pinned (OpenSpec.ofChange chapClientWrong)

/-- 'tollgatelaw14.ChapServer': WHATEVER THE INPUT: true; the input reads as it did. -/
def chapServerSpec : ChangeSpec := { name := "chapServer", fn := fun _ => fun
  | [d1, d2, d3, d4] => { results := [.lit (.bool true)], args := [d1, d2, d3, d4] }
  | _ => none }
def chapServerRow : OpenClaim := { program := "ytfchbppfbepelaagreat", sum := "81a6ba2505280da575fab4a1130c04468f31157981ee2988a1226e4825b1e05e", func := "tollgate/tollgatelaw14.ChapServer", spec := "chapServer", plainKeys := false, apart := false }
def ChapServerSaid : Prop := chapServerRow.holds Tryz.pinned (OpenSpec.ofChange chapServerSpec)

/-- ITS FALSE NEIGHBOUR: 'it returns false'. Refute it at one input. -/
def chapServerWrong : ChangeSpec := { name := "chapServer", fn := fun _ => fun
  | [d1, d2, d3, d4] => { results := [.lit (.bool false)], args := [d1, d2, d3, d4] }
  | _ => none }
def ChapServerWrongFalsely : Prop := chapServerRow.holds Tryz.pinned (OpenSpec.ofChange chapServerWrong)

/-- 'tollgatelaw8.HostPlays': WHATEVER THE INPUT: true; the input reads as it did. -/
def hostPlaysSpec : ChangeSpec := { name := "hostPlays", fn := fun _ => fun
  | [d1, d2, d3, d4, d5, d6] => { results := [.lit (.bool true)], args := [d1, d2, d3, d4, d5, d6] }
  | _ => none }
def hostPlaysRow : OpenClaim := { program := "ytfchbppfbepelaagreat", sum := "81a6ba2505280da575fab4a1130c04468f31157981ee2988a1226e4825b1e05e", func := "tollgate/tollgatelaw8.HostPlays", spec := "hostPlays", unfollowed := true, recurses := true, plainKeys := false, apart := false }
def HostPlaysSaid : Prop := hostPlaysRow.holds Tryz.pinned (OpenSpec.ofChange hostPlaysSpec)

/-- ITS FALSE NEIGHBOUR: 'it returns false'. Refute it at one input. -/
def hostPlaysWrong : ChangeSpec := { name := "hostPlays", fn := fun _ => fun
  | [d1, d2, d3, d4, d5, d6] => { results := [.lit (.bool false)], args := [d1, d2, d3, d4, d5, d6] }
  | _ => none }
def HostPlaysWrongFalsely : Prop := hostPlaysRow.holds Tryz.pinned (OpenSpec.ofChange hostPlaysWrong)

/-- 'tollgatelaw3.TapeClocks': WHATEVER THE INPUT: true; the input reads as it did. -/
def tapeClocksSpec : ChangeSpec := { name := "tapeClocks", fn := fun _ => fun
  | [d1, d2] => { results := [.lit (.bool true)], args := [d1, d2] }
  | _ => none }
def tapeClocksRow : OpenClaim := { program := "ytfchbppfbepelaagreat", sum := "81a6ba2505280da575fab4a1130c04468f31157981ee2988a1226e4825b1e05e", func := "tollgate/tollgatelaw3.TapeClocks", spec := "tapeClocks", unfollowed := true, recurses := true, plainKeys := false, apart := false }
def TapeClocksSaid : Prop := tapeClocksRow.holds Tryz.pinned (OpenSpec.ofChange tapeClocksSpec)

/-- ITS FALSE NEIGHBOUR: 'it returns false'. Refute it at one input. -/
def tapeClocksWrong : ChangeSpec := { name := "tapeClocks", fn := fun _ => fun
  | [d1, d2] => { results := [.lit (.bool false)], args := [d1, d2] }
  | _ => none }
def TapeClocksWrongFalsely : Prop := tapeClocksRow.holds Tryz.pinned (OpenSpec.ofChange tapeClocksWrong)

/-- 'tollgatelaw7.AcPlays': WHATEVER THE INPUT: true; the input reads as it did. -/
def acPlaysSpec : ChangeSpec := { name := "acPlays", fn := fun _ => fun
  | [d1, d2, d3, d4, d5, d6] => { results := [.lit (.bool true)], args := [d1, d2, d3, d4, d5, d6] }
  | _ => none }
def acPlaysRow : OpenClaim := { program := "ytfchbppfbepelaagreat", sum := "81a6ba2505280da575fab4a1130c04468f31157981ee2988a1226e4825b1e05e", func := "tollgate/tollgatelaw7.AcPlays", spec := "acPlays", unfollowed := true, recurses := true, plainKeys := false, apart := false }
def AcPlaysSaid : Prop := acPlaysRow.holds Tryz.pinned (OpenSpec.ofChange acPlaysSpec)

/-- ITS FALSE NEIGHBOUR: 'it returns false'. Refute it at one input. -/
def acPlaysWrong : ChangeSpec := { name := "acPlays", fn := fun _ => fun
  | [d1, d2, d3, d4, d5, d6] => { results := [.lit (.bool false)], args := [d1, d2, d3, d4, d5, d6] }
  | _ => none }
def AcPlaysWrongFalsely : Prop := acPlaysRow.holds Tryz.pinned (OpenSpec.ofChange acPlaysWrong)

/- THE SECOND FORM. 'bulk': how many values and letters a reading holds, each counted each time it is reached (what is shared counts as often as it is met; a slice's spare places count too). A statement '..UptoSaid' is the law's where the arguments, and the package variables that the reading takes, are together of bulk at most 1048576: NARROWER than '..Said'. Prove '..Said' where nothing that the law and all that it calls make is longer than what came in: it says more and counts as full. Else prove '..UptoSaid'. A law counts once. -/
mutual
def uptoBulk {H : Type} : DataW H → Nat
  | .lit (.string bytes) => bytes.length + 1
  | .lit _ => 1
  | .nil => 1
  | .ptr d => uptoBulk d + 1
  | .slice elems spare => uptoBulkAll elems + uptoBulkAll spare + 1
  | .agg parts => uptoBulkAll parts + 1
  | .iface _ d => uptoBulk d + 1
  | .map entries => uptoBulkEntries entries + 1
  | .held _ => 1
def uptoBulkAll {H : Type} : List (DataW H) → Nat
  | [] => 0
  | d :: r => uptoBulk d + uptoBulkAll r
def uptoBulkEntries {H : Type} : List (Lit × DataW H) → Nat
  | [] => 0
  | x :: r => uptoBulkEntry x + uptoBulkEntries r
def uptoBulkEntry {H : Type} : Lit × DataW H → Nat
  | (.string bytes, d) => bytes.length + uptoBulk d + 1
  | (_, d) => uptoBulk d + 1
 end
def uptoSmall : (H : Type) → List (DataW H) → Bool := fun _ ds => decide (uptoBulkAll ds ≤ 1048576)
def OpenSpec.upto (s : _root_.Go.ChangeSpec) : _root_.Go.OpenSpec := { _root_.Go.OpenSpec.ofChange s with cond := some uptoSmall }

/-- 'tollgatelaw13.PapPlays', WHERE WHAT IT READS IS OF BULK AT MOST 1048576: true; the input reads as it did. -/
def papPlaysUptoRow : OpenClaim := { program := "ytfchbppfbepelaagreat", sum := "81a6ba2505280da575fab4a1130c04468f31157981ee2988a1226e4825b1e05e", func := "tollgate/tollgatelaw13.PapPlays", spec := "papPlays", plainKeys := false, apart := false, narrowed := true }
def PapPlaysUptoSaid : Prop := papPlaysUptoRow.holds Tryz.pinned (OpenSpec.upto papPlaysSpec)

/-- 'tollgatelaw14.ChapClient', WHERE WHAT IT READS IS OF BULK AT MOST 1048576: true; the input reads as it did. -/
def chapClientUptoRow : OpenClaim := { program := "ytfchbppfbepelaagreat", sum := "81a6ba2505280da575fab4a1130c04468f31157981ee2988a1226e4825b1e05e", func := "tollgate/tollgatelaw14.ChapClient", spec := "chapClient", plainKeys := false, apart := false, narrowed := true }
def ChapClientUptoSaid : Prop := chapClientUptoRow.holds Tryz.pinned (OpenSpec.upto chapClientSpec)

/-- 'tollgatelaw14.ChapServer', WHERE WHAT IT READS IS OF BULK AT MOST 1048576: true; the input reads as it did. -/
def chapServerUptoRow : OpenClaim := { program := "ytfchbppfbepelaagreat", sum := "81a6ba2505280da575fab4a1130c04468f31157981ee2988a1226e4825b1e05e", func := "tollgate/tollgatelaw14.ChapServer", spec := "chapServer", plainKeys := false, apart := false, narrowed := true }
def ChapServerUptoSaid : Prop := chapServerUptoRow.holds Tryz.pinned (OpenSpec.upto chapServerSpec)

/-- 'tollgatelaw8.HostPlays', WHERE WHAT IT READS IS OF BULK AT MOST 1048576: true; the input reads as it did. -/
def hostPlaysUptoRow : OpenClaim := { program := "ytfchbppfbepelaagreat", sum := "81a6ba2505280da575fab4a1130c04468f31157981ee2988a1226e4825b1e05e", func := "tollgate/tollgatelaw8.HostPlays", spec := "hostPlays", unfollowed := true, recurses := true, plainKeys := false, apart := false, narrowed := true }
def HostPlaysUptoSaid : Prop := hostPlaysUptoRow.holds Tryz.pinned (OpenSpec.upto hostPlaysSpec)

/-- 'tollgatelaw3.TapeClocks', WHERE WHAT IT READS IS OF BULK AT MOST 1048576: true; the input reads as it did. -/
def tapeClocksUptoRow : OpenClaim := { program := "ytfchbppfbepelaagreat", sum := "81a6ba2505280da575fab4a1130c04468f31157981ee2988a1226e4825b1e05e", func := "tollgate/tollgatelaw3.TapeClocks", spec := "tapeClocks", unfollowed := true, recurses := true, plainKeys := false, apart := false, narrowed := true }
def TapeClocksUptoSaid : Prop := tapeClocksUptoRow.holds Tryz.pinned (OpenSpec.upto tapeClocksSpec)

/-- 'tollgatelaw7.AcPlays', WHERE WHAT IT READS IS OF BULK AT MOST 1048576: true; the input reads as it did. -/
def acPlaysUptoRow : OpenClaim := { program := "ytfchbppfbepelaagreat", sum := "81a6ba2505280da575fab4a1130c04468f31157981ee2988a1226e4825b1e05e", func := "tollgate/tollgatelaw7.AcPlays", spec := "acPlays", unfollowed := true, recurses := true, plainKeys := false, apart := false, narrowed := true }
def AcPlaysUptoSaid : Prop := acPlaysUptoRow.holds Tryz.pinned (OpenSpec.upto acPlaysSpec)

end Rows
end Go.Proofs.YtfchbppfbepelaaGreat
