/-
  No cell of these rows narrows 'for every input' (looked for: loops, veiled, ifaces, maps, wideKeys, modest, calm, conditions, laid).
  DERIVED. THE GIVEN ROWS OF THIS SEAT. 11 by the template 'for every input the law returns true; each argument reads behind the call as it read before'; 0 by the template 'total and deterministic' (their statements: YtmdgilhjiooalaaTotals.lean).
  GIVEN WITH THE SEED: the statements are not yours to turn. If you find one false, say at which input.
  Laid BY PROGRAM, IN A SANDBOX (cutbox-rows.mjs): the forced cells as the released guide's own fill.sh prints them over the translation da60151437be9236… (all of the seat's roots in one cut). By AI agents, Wed Nov 11 2026. No macro, syntax, notation, axiom, sorry.
-/
import Derived.Test.YtmdgilhjiooalaaChecked
import GoSem.Claim
import GoSem.ClaimJoined
import GoSem.ClaimMapViews
import Derived.JoinedTies
import Derived.KernelRfl
namespace Go.Proofs.Ytmdgilhjiooalaa
/- THE CELL 'sum', in the pinned program and in every row, IS THE sha256 OF THE DUMP (.gsa) THAT YtmdgilhjiooalaaProg.lean LOADS. Nothing in Lean hashes anything: it is a label: what it is worth is what the hold of that sum in a sandbox is worth. -/
noncomputable def Try.pinned : Pinned := { name := "ytmdgilhjiooalaa", sum := "da60151437be923684eb8c7509802a6f49c6a59590eff62ef40c496e6a3be2d9", checked := Try.checked }
namespace Rows
def none {H : Type} : Left H := { results := [], args := [] }

/-- 'tollgatelaw1.WireNumbers': WHATEVER THE INPUT: true; the input reads as it did. -/
def wireNumbersSpec : ChangeSpec := { name := "wireNumbers", fn := fun _ => fun
  | [d1, d2, d3, d4] => { results := [.lit (.bool true)], args := [d1, d2, d3, d4] }
  | _ => none }
def wireNumbersRow : OpenClaim := { program := "ytmdgilhjiooalaa", sum := "da60151437be923684eb8c7509802a6f49c6a59590eff62ef40c496e6a3be2d9", func := "tollgate/tollgatelaw1.WireNumbers", spec := "wireNumbers", apart := false }
def WireNumbersSaid : Prop := wireNumbersRow.holds Try.pinned (OpenSpec.ofChange wireNumbersSpec)

/-- ITS FALSE NEIGHBOUR: 'it returns false'. Refute it at one input. -/
def wireNumbersWrong : ChangeSpec := { name := "wireNumbers", fn := fun _ => fun
  | [d1, d2, d3, d4] => { results := [.lit (.bool false)], args := [d1, d2, d3, d4] }
  | _ => none }
def WireNumbersWrongFalsely : Prop := wireNumbersRow.holds Try.pinned (OpenSpec.ofChange wireNumbersWrong)

/-- 'tollgatelaw1.WireLow': WHATEVER THE INPUT: true; the input reads as it did. -/
def wireLowSpec : ChangeSpec := { name := "wireLow", fn := fun _ => fun
  | [d1, d2] => { results := [.lit (.bool true)], args := [d1, d2] }
  | _ => none }
def wireLowRow : OpenClaim := { program := "ytmdgilhjiooalaa", sum := "da60151437be923684eb8c7509802a6f49c6a59590eff62ef40c496e6a3be2d9", func := "tollgate/tollgatelaw1.WireLow", spec := "wireLow", apart := false }
def WireLowSaid : Prop := wireLowRow.holds Try.pinned (OpenSpec.ofChange wireLowSpec)

/-- ITS FALSE NEIGHBOUR: 'it returns false'. Refute it at one input. -/
def wireLowWrong : ChangeSpec := { name := "wireLow", fn := fun _ => fun
  | [d1, d2] => { results := [.lit (.bool false)], args := [d1, d2] }
  | _ => none }
def WireLowWrongFalsely : Prop := wireLowRow.holds Try.pinned (OpenSpec.ofChange wireLowWrong)

/-- 'tollgatelaw1.WireSealed': WHATEVER THE INPUT: true; the input reads as it did. -/
def wireSealedSpec : ChangeSpec := { name := "wireSealed", fn := fun _ => fun
  | [d1, d2] => { results := [.lit (.bool true)], args := [d1, d2] }
  | _ => none }
def wireSealedRow : OpenClaim := { program := "ytmdgilhjiooalaa", sum := "da60151437be923684eb8c7509802a6f49c6a59590eff62ef40c496e6a3be2d9", func := "tollgate/tollgatelaw1.WireSealed", spec := "wireSealed", apart := false }
def WireSealedSaid : Prop := wireSealedRow.holds Try.pinned (OpenSpec.ofChange wireSealedSpec)

/-- ITS FALSE NEIGHBOUR: 'it returns false'. Refute it at one input. -/
def wireSealedWrong : ChangeSpec := { name := "wireSealed", fn := fun _ => fun
  | [d1, d2] => { results := [.lit (.bool false)], args := [d1, d2] }
  | _ => none }
def WireSealedWrongFalsely : Prop := wireSealedRow.holds Try.pinned (OpenSpec.ofChange wireSealedWrong)

/-- 'tollgatelaw1.WireSums': WHATEVER THE INPUT: true; the input reads as it did. -/
def wireSumsSpec : ChangeSpec := { name := "wireSums", fn := fun _ => fun
  | [d] => { results := [.lit (.bool true)], args := [d] }
  | _ => none }
def wireSumsRow : OpenClaim := { program := "ytmdgilhjiooalaa", sum := "da60151437be923684eb8c7509802a6f49c6a59590eff62ef40c496e6a3be2d9", func := "tollgate/tollgatelaw1.WireSums", spec := "wireSums", apart := false }
def WireSumsSaid : Prop := wireSumsRow.holds Try.pinned (OpenSpec.ofChange wireSumsSpec)

/-- ITS FALSE NEIGHBOUR: 'it returns false'. Refute it at one input. -/
def wireSumsWrong : ChangeSpec := { name := "wireSums", fn := fun _ => fun
  | [d] => { results := [.lit (.bool false)], args := [d] }
  | _ => none }
def WireSumsWrongFalsely : Prop := wireSumsRow.holds Try.pinned (OpenSpec.ofChange wireSumsWrong)

/-- 'tollgatelaw1.WireChanged': WHATEVER THE INPUT: true; the input reads as it did. -/
def wireChangedSpec : ChangeSpec := { name := "wireChanged", fn := fun _ => fun
  | [d1, d2, d3] => { results := [.lit (.bool true)], args := [d1, d2, d3] }
  | _ => none }
def wireChangedRow : OpenClaim := { program := "ytmdgilhjiooalaa", sum := "da60151437be923684eb8c7509802a6f49c6a59590eff62ef40c496e6a3be2d9", func := "tollgate/tollgatelaw1.WireChanged", spec := "wireChanged", apart := false }
def WireChangedSaid : Prop := wireChangedRow.holds Try.pinned (OpenSpec.ofChange wireChangedSpec)

/-- ITS FALSE NEIGHBOUR: 'it returns false'. Refute it at one input. -/
def wireChangedWrong : ChangeSpec := { name := "wireChanged", fn := fun _ => fun
  | [d1, d2, d3] => { results := [.lit (.bool false)], args := [d1, d2, d3] }
  | _ => none }
def WireChangedWrongFalsely : Prop := wireChangedRow.holds Try.pinned (OpenSpec.ofChange wireChangedWrong)

/-- 'tollgatelaw1.WireHexes': WHATEVER THE INPUT: true; the input reads as it did. -/
def wireHexesSpec : ChangeSpec := { name := "wireHexes", fn := fun _ => fun
  | [d] => { results := [.lit (.bool true)], args := [d] }
  | _ => none }
def wireHexesRow : OpenClaim := { program := "ytmdgilhjiooalaa", sum := "da60151437be923684eb8c7509802a6f49c6a59590eff62ef40c496e6a3be2d9", func := "tollgate/tollgatelaw1.WireHexes", spec := "wireHexes", apart := false }
def WireHexesSaid : Prop := wireHexesRow.holds Try.pinned (OpenSpec.ofChange wireHexesSpec)

/-- ITS FALSE NEIGHBOUR: 'it returns false'. Refute it at one input. -/
def wireHexesWrong : ChangeSpec := { name := "wireHexes", fn := fun _ => fun
  | [d] => { results := [.lit (.bool false)], args := [d] }
  | _ => none }
def WireHexesWrongFalsely : Prop := wireHexesRow.holds Try.pinned (OpenSpec.ofChange wireHexesWrong)

/-- 'tollgatelaw1.WireDigits': WHATEVER THE INPUT: true; the input reads as it did. -/
def wireDigitsSpec : ChangeSpec := { name := "wireDigits", fn := fun _ => fun
  | [d1, d2] => { results := [.lit (.bool true)], args := [d1, d2] }
  | _ => none }
def wireDigitsRow : OpenClaim := { program := "ytmdgilhjiooalaa", sum := "da60151437be923684eb8c7509802a6f49c6a59590eff62ef40c496e6a3be2d9", func := "tollgate/tollgatelaw1.WireDigits", spec := "wireDigits", apart := false }
def WireDigitsSaid : Prop := wireDigitsRow.holds Try.pinned (OpenSpec.ofChange wireDigitsSpec)

/-- ITS FALSE NEIGHBOUR: 'it returns false'. Refute it at one input. -/
def wireDigitsWrong : ChangeSpec := { name := "wireDigits", fn := fun _ => fun
  | [d1, d2] => { results := [.lit (.bool false)], args := [d1, d2] }
  | _ => none }
def WireDigitsWrongFalsely : Prop := wireDigitsRow.holds Try.pinned (OpenSpec.ofChange wireDigitsWrong)

/-- 'tollgatelaw1.WireTexts': WHATEVER THE INPUT: true; the input reads as it did. -/
def wireTextsSpec : ChangeSpec := { name := "wireTexts", fn := fun _ => fun
  | [d1, d2] => { results := [.lit (.bool true)], args := [d1, d2] }
  | _ => none }
def wireTextsRow : OpenClaim := { program := "ytmdgilhjiooalaa", sum := "da60151437be923684eb8c7509802a6f49c6a59590eff62ef40c496e6a3be2d9", func := "tollgate/tollgatelaw1.WireTexts", spec := "wireTexts", apart := false }
def WireTextsSaid : Prop := wireTextsRow.holds Try.pinned (OpenSpec.ofChange wireTextsSpec)

/-- ITS FALSE NEIGHBOUR: 'it returns false'. Refute it at one input. -/
def wireTextsWrong : ChangeSpec := { name := "wireTexts", fn := fun _ => fun
  | [d1, d2] => { results := [.lit (.bool false)], args := [d1, d2] }
  | _ => none }
def WireTextsWrongFalsely : Prop := wireTextsRow.holds Try.pinned (OpenSpec.ofChange wireTextsWrong)

/-- 'tollgatelaw1.WireShort': WHATEVER THE INPUT: true; the input reads as it did. -/
def wireShortSpec : ChangeSpec := { name := "wireShort", fn := fun _ => fun
  | [d1, d2, d3] => { results := [.lit (.bool true)], args := [d1, d2, d3] }
  | _ => none }
def wireShortRow : OpenClaim := { program := "ytmdgilhjiooalaa", sum := "da60151437be923684eb8c7509802a6f49c6a59590eff62ef40c496e6a3be2d9", func := "tollgate/tollgatelaw1.WireShort", spec := "wireShort", apart := false }
def WireShortSaid : Prop := wireShortRow.holds Try.pinned (OpenSpec.ofChange wireShortSpec)

/-- ITS FALSE NEIGHBOUR: 'it returns false'. Refute it at one input. -/
def wireShortWrong : ChangeSpec := { name := "wireShort", fn := fun _ => fun
  | [d1, d2, d3] => { results := [.lit (.bool false)], args := [d1, d2, d3] }
  | _ => none }
def WireShortWrongFalsely : Prop := wireShortRow.holds Try.pinned (OpenSpec.ofChange wireShortWrong)

/-- 'tollgatelaw1.WireFrames': WHATEVER THE INPUT: true; the input reads as it did. -/
def wireFramesSpec : ChangeSpec := { name := "wireFrames", fn := fun _ => fun
  | [d1, d2, d3, d4] => { results := [.lit (.bool true)], args := [d1, d2, d3, d4] }
  | _ => none }
def wireFramesRow : OpenClaim := { program := "ytmdgilhjiooalaa", sum := "da60151437be923684eb8c7509802a6f49c6a59590eff62ef40c496e6a3be2d9", func := "tollgate/tollgatelaw1.WireFrames", spec := "wireFrames", apart := false }
def WireFramesSaid : Prop := wireFramesRow.holds Try.pinned (OpenSpec.ofChange wireFramesSpec)

/-- ITS FALSE NEIGHBOUR: 'it returns false'. Refute it at one input. -/
def wireFramesWrong : ChangeSpec := { name := "wireFrames", fn := fun _ => fun
  | [d1, d2, d3, d4] => { results := [.lit (.bool false)], args := [d1, d2, d3, d4] }
  | _ => none }
def WireFramesWrongFalsely : Prop := wireFramesRow.holds Try.pinned (OpenSpec.ofChange wireFramesWrong)

/-- 'tollgatelaw1.WireBack': WHATEVER THE INPUT: true; the input reads as it did. -/
def wireBackSpec : ChangeSpec := { name := "wireBack", fn := fun _ => fun
  | [d1, d2, d3, d4, d5, d6] => { results := [.lit (.bool true)], args := [d1, d2, d3, d4, d5, d6] }
  | _ => none }
def wireBackRow : OpenClaim := { program := "ytmdgilhjiooalaa", sum := "da60151437be923684eb8c7509802a6f49c6a59590eff62ef40c496e6a3be2d9", func := "tollgate/tollgatelaw1.WireBack", spec := "wireBack", apart := false }
def WireBackSaid : Prop := wireBackRow.holds Try.pinned (OpenSpec.ofChange wireBackSpec)

/-- ITS FALSE NEIGHBOUR: 'it returns false'. Refute it at one input. -/
def wireBackWrong : ChangeSpec := { name := "wireBack", fn := fun _ => fun
  | [d1, d2, d3, d4, d5, d6] => { results := [.lit (.bool false)], args := [d1, d2, d3, d4, d5, d6] }
  | _ => none }
def WireBackWrongFalsely : Prop := wireBackRow.holds Try.pinned (OpenSpec.ofChange wireBackWrong)

/- THE SECOND FORM. 'bulk': how many values and letters a reading holds, each counted each time it is reached (what is shared counts as often as it is met; a slice's spare places count too). A statement '..UptoSaid' is the law's where the arguments, and the package variables that the reading takes, are together of bulk at most 1048576: NARROWER than '..Said'. Prove '..Said' where nothing that the law and all that it calls make is longer than what came in: it says more and counts as full. Else prove '..UptoSaid'. A law counts once. -/
mutual
def uptoBulk {H : Type} : DataW H → Nat
  | .lit (.string bytes) => bytes.length + 1
  | .lit _ => 1
  | .nil => 1
  | .ptr d => uptoBulk d + 1
  | .slice elems spare => uptoBulkAll elems + uptoBulkAll spare + 1
  | .agg parts => uptoBulkAll parts + 1
  | .iface _ d => uptoBulk d + 1
  | .map entries => uptoBulkEntries entries + 1
  | .held _ => 1
def uptoBulkAll {H : Type} : List (DataW H) → Nat
  | [] => 0
  | d :: r => uptoBulk d + uptoBulkAll r
def uptoBulkEntries {H : Type} : List (Lit × DataW H) → Nat
  | [] => 0
  | x :: r => uptoBulkEntry x + uptoBulkEntries r
def uptoBulkEntry {H : Type} : Lit × DataW H → Nat
  | (.string bytes, d) => bytes.length + uptoBulk d + 1
  | (_, d) => uptoBulk d + 1
 end
def uptoSmall : (H : Type) → List (DataW H) → Bool := fun _ ds => decide (uptoBulkAll ds ≤ 1048576)
def OpenSpec.upto (s : _root_.Go.ChangeSpec) : _root_.Go.OpenSpec := { _root_.Go.OpenSpec.ofChange s with cond := some uptoSmall }

/-- 'tollgatelaw1.WireNumbers', WHERE WHAT IT READS IS OF BULK AT MOST 1048576: true; the input reads as it did. -/
def wireNumbersUptoRow : OpenClaim := { program := "ytmdgilhjiooalaa", sum := "da60151437be923684eb8c7509802a6f49c6a59590eff62ef40c496e6a3be2d9", func := "tollgate/tollgatelaw1.WireNumbers", spec := "wireNumbers", apart := false, narrowed := true }
def WireNumbersUptoSaid : Prop := wireNumbersUptoRow.holds Try.pinned (OpenSpec.upto wireNumbersSpec)

/-- 'tollgatelaw1.WireLow', WHERE WHAT IT READS IS OF BULK AT MOST 1048576: true; the input reads as it did. -/
def wireLowUptoRow : OpenClaim := { program := "ytmdgilhjiooalaa", sum := "da60151437be923684eb8c7509802a6f49c6a59590eff62ef40c496e6a3be2d9", func := "tollgate/tollgatelaw1.WireLow", spec := "wireLow", apart := false, narrowed := true }
def WireLowUptoSaid : Prop := wireLowUptoRow.holds Try.pinned (OpenSpec.upto wireLowSpec)

/-- 'tollgatelaw1.WireSealed', WHERE WHAT IT READS IS OF BULK AT MOST 1048576: true; the input reads as it did. -/
def wireSealedUptoRow : OpenClaim := { program := "ytmdgilhjiooalaa", sum := "da60151437be923684eb8c7509802a6f49c6a59590eff62ef40c496e6a3be2d9", func := "tollgate/tollgatelaw1.WireSealed", spec := "wireSealed", apart := false, narrowed := true }
def WireSealedUptoSaid : Prop := wireSealedUptoRow.holds Try.pinned (OpenSpec.upto wireSealedSpec)

/-- 'tollgatelaw1.WireSums', WHERE WHAT IT READS IS OF BULK AT MOST 1048576: true; the input reads as it did. -/
def wireSumsUptoRow : OpenClaim := { program := "ytmdgilhjiooalaa", sum := "da60151437be923684eb8c7509802a6f49c6a59590eff62ef40c496e6a3be2d9", func := "tollgate/tollgatelaw1.WireSums", spec := "wireSums", apart := false, narrowed := true }
def WireSumsUptoSaid : Prop := wireSumsUptoRow.holds Try.pinned (OpenSpec.upto wireSumsSpec)

/-- 'tollgatelaw1.WireChanged', WHERE WHAT IT READS IS OF BULK AT MOST 1048576: true; the input reads as it did. -/
def wireChangedUptoRow : OpenClaim := { program := "ytmdgilhjiooalaa", sum := "da60151437be923684eb8c7509802a6f49c6a59590eff62ef40c496e6a3be2d9", func := "tollgate/tollgatelaw1.WireChanged", spec := "wireChanged", apart := false, narrowed := true }
def WireChangedUptoSaid : Prop := wireChangedUptoRow.holds Try.pinned (OpenSpec.upto wireChangedSpec)

/-- 'tollgatelaw1.WireHexes', WHERE WHAT IT READS IS OF BULK AT MOST 1048576: true; the input reads as it did. -/
def wireHexesUptoRow : OpenClaim := { program := "ytmdgilhjiooalaa", sum := "da60151437be923684eb8c7509802a6f49c6a59590eff62ef40c496e6a3be2d9", func := "tollgate/tollgatelaw1.WireHexes", spec := "wireHexes", apart := false, narrowed := true }
def WireHexesUptoSaid : Prop := wireHexesUptoRow.holds Try.pinned (OpenSpec.upto wireHexesSpec)

/-- 'tollgatelaw1.WireDigits', WHERE WHAT IT READS IS OF BULK AT MOST 1048576: true; the input reads as it did. -/
def wireDigitsUptoRow : OpenClaim := { program := "ytmdgilhjiooalaa", sum := "da60151437be923684eb8c7509802a6f49c6a59590eff62ef40c496e6a3be2d9", func := "tollgate/tollgatelaw1.WireDigits", spec := "wireDigits", apart := false, narrowed := true }
def WireDigitsUptoSaid : Prop := wireDigitsUptoRow.holds Try.pinned (OpenSpec.upto wireDigitsSpec)

/-- 'tollgatelaw1.WireTexts', WHERE WHAT IT READS IS OF BULK AT MOST 1048576: true; the input reads as it did. -/
def wireTextsUptoRow : OpenClaim := { program := "ytmdgilhjiooalaa", sum := "da60151437be923684eb8c7509802a6f49c6a59590eff62ef40c496e6a3be2d9", func := "tollgate/tollgatelaw1.WireTexts", spec := "wireTexts", apart := false, narrowed := true }
def WireTextsUptoSaid : Prop := wireTextsUptoRow.holds Try.pinned (OpenSpec.upto wireTextsSpec)

/-- 'tollgatelaw1.WireShort', WHERE WHAT IT READS IS OF BULK AT MOST 1048576: true; the input reads as it did. -/
def wireShortUptoRow : OpenClaim := { program := "ytmdgilhjiooalaa", sum := "da60151437be923684eb8c7509802a6f49c6a59590eff62ef40c496e6a3be2d9", func := "tollgate/tollgatelaw1.WireShort", spec := "wireShort", apart := false, narrowed := true }
def WireShortUptoSaid : Prop := wireShortUptoRow.holds Try.pinned (OpenSpec.upto wireShortSpec)

/-- 'tollgatelaw1.WireFrames', WHERE WHAT IT READS IS OF BULK AT MOST 1048576: true; the input reads as it did. -/
def wireFramesUptoRow : OpenClaim := { program := "ytmdgilhjiooalaa", sum := "da60151437be923684eb8c7509802a6f49c6a59590eff62ef40c496e6a3be2d9", func := "tollgate/tollgatelaw1.WireFrames", spec := "wireFrames", apart := false, narrowed := true }
def WireFramesUptoSaid : Prop := wireFramesUptoRow.holds Try.pinned (OpenSpec.upto wireFramesSpec)

/-- 'tollgatelaw1.WireBack', WHERE WHAT IT READS IS OF BULK AT MOST 1048576: true; the input reads as it did. -/
def wireBackUptoRow : OpenClaim := { program := "ytmdgilhjiooalaa", sum := "da60151437be923684eb8c7509802a6f49c6a59590eff62ef40c496e6a3be2d9", func := "tollgate/tollgatelaw1.WireBack", spec := "wireBack", apart := false, narrowed := true }
def WireBackUptoSaid : Prop := wireBackUptoRow.holds Try.pinned (OpenSpec.upto wireBackSpec)

end Rows
end Go.Proofs.Ytmdgilhjiooalaa
