/-
  No cell of these rows narrows 'for every input' (looked for: loops, veiled, ifaces, maps, wideKeys, modest, calm, conditions, laid).
  DERIVED. THE GIVEN ROWS OF THIS SEAT. 10 by the template 'for every input the law returns true; each argument reads behind the call as it read before'; 0 by the template 'total and deterministic' (their statements: YtpljdnocdhppmaaTotals.lean).
  GIVEN WITH THE SEED: the statements are not yours to turn. If you find one false, say at which input.
  Laid BY PROGRAM, IN A SANDBOX (cutbox-rows.mjs): the forced cells as the released guide's own fill.sh prints them over the translation fbf179fc5380085e… (all of the seat's roots in one cut). By AI agents, Wed Nov 11 2026. No macro, syntax, notation, axiom, sorry.
-/
import Derived.Test.YtpljdnocdhppmaaChecked
import GoSem.Claim
import GoSem.ClaimJoined
import GoSem.ClaimMapViews
import Derived.JoinedTies
import Derived.KernelRfl
namespace Go.Proofs.Ytpljdnocdhppmaa
/- THE CELL 'sum', in the pinned program and in every row, IS THE sha256 OF THE DUMP (.gsa) THAT YtpljdnocdhppmaaProg.lean LOADS. Nothing in Lean hashes anything: it is a label: what it is worth is what the hold of that sum in a sandbox is worth. -/
noncomputable def Try.pinned : Pinned := { name := "ytpljdnocdhppmaa", sum := "fbf179fc5380085e8a6b66c53ec00816781af8ae102687bfbe35f14dfdbda6d7", checked := Try.checked }
namespace Rows
def none {H : Type} : Left H := { results := [], args := [] }

/-- 'tollgatelaw15.StoreSplits': WHATEVER THE INPUT: true; the input reads as it did. -/
def storeSplitsSpec : ChangeSpec := { name := "storeSplits", fn := fun _ => fun
  | [d] => { results := [.lit (.bool true)], args := [d] }
  | _ => none }
def storeSplitsRow : OpenClaim := { program := "ytpljdnocdhppmaa", sum := "fbf179fc5380085e8a6b66c53ec00816781af8ae102687bfbe35f14dfdbda6d7", func := "tollgate/tollgatelaw15.StoreSplits", spec := "storeSplits", unfollowed := true, recurses := true, plainKeys := false, apart := false }
def StoreSplitsSaid : Prop := storeSplitsRow.holds Try.pinned (OpenSpec.ofChange storeSplitsSpec)

/-- ITS FALSE NEIGHBOUR: 'it returns false'. Refute it at one input. -/
def storeSplitsWrong : ChangeSpec := { name := "storeSplits", fn := fun _ => fun
  | [d] => { results := [.lit (.bool false)], args := [d] }
  | _ => none }
def StoreSplitsWrongFalsely : Prop := storeSplitsRow.holds Try.pinned (OpenSpec.ofChange storeSplitsWrong)

/-- 'tollgatelaw13.PapBytes': WHATEVER THE INPUT: true; the input reads as it did. -/
def papBytesSpec : ChangeSpec := { name := "papBytes", fn := fun _ => fun
  | [d1, d2, d3] => { results := [.lit (.bool true)], args := [d1, d2, d3] }
  | _ => none }
def papBytesRow : OpenClaim := { program := "ytpljdnocdhppmaa", sum := "fbf179fc5380085e8a6b66c53ec00816781af8ae102687bfbe35f14dfdbda6d7", func := "tollgate/tollgatelaw13.PapBytes", spec := "papBytes", plainKeys := false, apart := false }
def PapBytesSaid : Prop := papBytesRow.holds Try.pinned (OpenSpec.ofChange papBytesSpec)

/-- ITS FALSE NEIGHBOUR: 'it returns false'. Refute it at one input. -/
def papBytesWrong : ChangeSpec := { name := "papBytes", fn := fun _ => fun
  | [d1, d2, d3] => { results := [.lit (.bool false)], args := [d1, d2, d3] }
  | _ => none }
def PapBytesWrongFalsely : Prop := papBytesRow.holds Try.pinned (OpenSpec.ofChange papBytesWrong)

/-- 'tollgatelaw13.PapBack': WHATEVER THE INPUT: true; the input reads as it did. -/
def papBackSpec : ChangeSpec := { name := "papBack", fn := fun _ => fun
  | [d1, d2, d3] => { results := [.lit (.bool true)], args := [d1, d2, d3] }
  | _ => none }
def papBackRow : OpenClaim := { program := "ytpljdnocdhppmaa", sum := "fbf179fc5380085e8a6b66c53ec00816781af8ae102687bfbe35f14dfdbda6d7", func := "tollgate/tollgatelaw13.PapBack", spec := "papBack", plainKeys := false, apart := false }
def PapBackSaid : Prop := papBackRow.holds Try.pinned (OpenSpec.ofChange papBackSpec)

/-- ITS FALSE NEIGHBOUR: 'it returns false'. Refute it at one input. -/
def papBackWrong : ChangeSpec := { name := "papBack", fn := fun _ => fun
  | [d1, d2, d3] => { results := [.lit (.bool false)], args := [d1, d2, d3] }
  | _ => none }
def PapBackWrongFalsely : Prop := papBackRow.holds Try.pinned (OpenSpec.ofChange papBackWrong)

/-- 'tollgatelaw15.StoreShuts': WHATEVER THE INPUT: true; the input reads as it did. -/
def storeShutsSpec : ChangeSpec := { name := "storeShuts", fn := fun _ => fun
  | [d1, d2, d3, d4] => { results := [.lit (.bool true)], args := [d1, d2, d3, d4] }
  | _ => none }
def storeShutsRow : OpenClaim := { program := "ytpljdnocdhppmaa", sum := "fbf179fc5380085e8a6b66c53ec00816781af8ae102687bfbe35f14dfdbda6d7", func := "tollgate/tollgatelaw15.StoreShuts", spec := "storeShuts", unfollowed := true, recurses := true, plainKeys := false, apart := false }
def StoreShutsSaid : Prop := storeShutsRow.holds Try.pinned (OpenSpec.ofChange storeShutsSpec)

/-- ITS FALSE NEIGHBOUR: 'it returns false'. Refute it at one input. -/
def storeShutsWrong : ChangeSpec := { name := "storeShuts", fn := fun _ => fun
  | [d1, d2, d3, d4] => { results := [.lit (.bool false)], args := [d1, d2, d3, d4] }
  | _ => none }
def StoreShutsWrongFalsely : Prop := storeShutsRow.holds Try.pinned (OpenSpec.ofChange storeShutsWrong)

/-- 'tollgatelaw15.StoreForgets': WHATEVER THE INPUT: true; the input reads as it did. -/
def storeForgetsSpec : ChangeSpec := { name := "storeForgets", fn := fun _ => fun
  | [d1, d2, d3] => { results := [.lit (.bool true)], args := [d1, d2, d3] }
  | _ => none }
def storeForgetsRow : OpenClaim := { program := "ytpljdnocdhppmaa", sum := "fbf179fc5380085e8a6b66c53ec00816781af8ae102687bfbe35f14dfdbda6d7", func := "tollgate/tollgatelaw15.StoreForgets", spec := "storeForgets", unfollowed := true, recurses := true, plainKeys := false, apart := false }
def StoreForgetsSaid : Prop := storeForgetsRow.holds Try.pinned (OpenSpec.ofChange storeForgetsSpec)

/-- ITS FALSE NEIGHBOUR: 'it returns false'. Refute it at one input. -/
def storeForgetsWrong : ChangeSpec := { name := "storeForgets", fn := fun _ => fun
  | [d1, d2, d3] => { results := [.lit (.bool false)], args := [d1, d2, d3] }
  | _ => none }
def StoreForgetsWrongFalsely : Prop := storeForgetsRow.holds Try.pinned (OpenSpec.ofChange storeForgetsWrong)

/-- 'tollgatelaw13.PapIds': WHATEVER THE INPUT: true; the input reads as it did. -/
def papIdsSpec : ChangeSpec := { name := "papIds", fn := fun _ => fun
  | [d1, d2, d3] => { results := [.lit (.bool true)], args := [d1, d2, d3] }
  | _ => none }
def papIdsRow : OpenClaim := { program := "ytpljdnocdhppmaa", sum := "fbf179fc5380085e8a6b66c53ec00816781af8ae102687bfbe35f14dfdbda6d7", func := "tollgate/tollgatelaw13.PapIds", spec := "papIds", plainKeys := false, apart := false }
def PapIdsSaid : Prop := papIdsRow.holds Try.pinned (OpenSpec.ofChange papIdsSpec)

/-- ITS FALSE NEIGHBOUR: 'it returns false'. Refute it at one input. -/
def papIdsWrong : ChangeSpec := { name := "papIds", fn := fun _ => fun
  | [d1, d2, d3] => { results := [.lit (.bool false)], args := [d1, d2, d3] }
  | _ => none }
def PapIdsWrongFalsely : Prop := papIdsRow.holds Try.pinned (OpenSpec.ofChange papIdsWrong)

/-- 'tollgatelaw13.PapAsks': WHATEVER THE INPUT: true; the input reads as it did. -/
def papAsksSpec : ChangeSpec := { name := "papAsks", fn := fun _ => fun
  | [d1, d2, d3, d4, d5, d6] => { results := [.lit (.bool true)], args := [d1, d2, d3, d4, d5, d6] }
  | _ => none }
def papAsksRow : OpenClaim := { program := "ytpljdnocdhppmaa", sum := "fbf179fc5380085e8a6b66c53ec00816781af8ae102687bfbe35f14dfdbda6d7", func := "tollgate/tollgatelaw13.PapAsks", spec := "papAsks", plainKeys := false, apart := false }
def PapAsksSaid : Prop := papAsksRow.holds Try.pinned (OpenSpec.ofChange papAsksSpec)

/-- ITS FALSE NEIGHBOUR: 'it returns false'. Refute it at one input. -/
def papAsksWrong : ChangeSpec := { name := "papAsks", fn := fun _ => fun
  | [d1, d2, d3, d4, d5, d6] => { results := [.lit (.bool false)], args := [d1, d2, d3, d4, d5, d6] }
  | _ => none }
def PapAsksWrongFalsely : Prop := papAsksRow.holds Try.pinned (OpenSpec.ofChange papAsksWrong)

/-- 'tollgatelaw13.PapNone': WHATEVER THE INPUT: true; the input reads as it did. -/
def papNoneSpec : ChangeSpec := { name := "papNone", fn := fun _ => fun
  | [d] => { results := [.lit (.bool true)], args := [d] }
  | _ => none }
def papNoneRow : OpenClaim := { program := "ytpljdnocdhppmaa", sum := "fbf179fc5380085e8a6b66c53ec00816781af8ae102687bfbe35f14dfdbda6d7", func := "tollgate/tollgatelaw13.PapNone", spec := "papNone", plainKeys := false, apart := false }
def PapNoneSaid : Prop := papNoneRow.holds Try.pinned (OpenSpec.ofChange papNoneSpec)

/-- ITS FALSE NEIGHBOUR: 'it returns false'. Refute it at one input. -/
def papNoneWrong : ChangeSpec := { name := "papNone", fn := fun _ => fun
  | [d] => { results := [.lit (.bool false)], args := [d] }
  | _ => none }
def PapNoneWrongFalsely : Prop := papNoneRow.holds Try.pinned (OpenSpec.ofChange papNoneWrong)

/-- 'tollgatelaw15.StoreKnows': WHATEVER THE INPUT: true; the input reads as it did. -/
def storeKnowsSpec : ChangeSpec := { name := "storeKnows", fn := fun _ => fun
  | [d1, d2, d3, d4, d5, d6, d7] => { results := [.lit (.bool true)], args := [d1, d2, d3, d4, d5, d6, d7] }
  | _ => none }
def storeKnowsRow : OpenClaim := { program := "ytpljdnocdhppmaa", sum := "fbf179fc5380085e8a6b66c53ec00816781af8ae102687bfbe35f14dfdbda6d7", func := "tollgate/tollgatelaw15.StoreKnows", spec := "storeKnows", unfollowed := true, recurses := true, plainKeys := false, apart := false }
def StoreKnowsSaid : Prop := storeKnowsRow.holds Try.pinned (OpenSpec.ofChange storeKnowsSpec)

/-- ITS FALSE NEIGHBOUR: 'it returns false'. Refute it at one input. -/
def storeKnowsWrong : ChangeSpec := { name := "storeKnows", fn := fun _ => fun
  | [d1, d2, d3, d4, d5, d6, d7] => { results := [.lit (.bool false)], args := [d1, d2, d3, d4, d5, d6, d7] }
  | _ => none }
def StoreKnowsWrongFalsely : Prop := storeKnowsRow.holds Try.pinned (OpenSpec.ofChange storeKnowsWrong)

/-- 'tollgatelaw15.StorePlays': WHATEVER THE INPUT: true; the input reads as it did. -/
def storePlaysSpec : ChangeSpec := { name := "storePlays", fn := fun _ => fun
  | [d1, d2, d3, d4] => { results := [.lit (.bool true)], args := [d1, d2, d3, d4] }
  | _ => none }
def storePlaysRow : OpenClaim := { program := "ytpljdnocdhppmaa", sum := "fbf179fc5380085e8a6b66c53ec00816781af8ae102687bfbe35f14dfdbda6d7", func := "tollgate/tollgatelaw15.StorePlays", spec := "storePlays", unfollowed := true, recurses := true, plainKeys := false, apart := false }
def StorePlaysSaid : Prop := storePlaysRow.holds Try.pinned (OpenSpec.ofChange storePlaysSpec)

/-- ITS FALSE NEIGHBOUR: 'it returns false'. Refute it at one input. -/
def storePlaysWrong : ChangeSpec := { name := "storePlays", fn := fun _ => fun
  | [d1, d2, d3, d4] => { results := [.lit (.bool false)], args := [d1, d2, d3, d4] }
  | _ => none }
def StorePlaysWrongFalsely : Prop := storePlaysRow.holds Try.pinned (OpenSpec.ofChange storePlaysWrong)

/- THE SECOND FORM. 'bulk': how many values and letters a reading holds, each counted each time it is reached (what is shared counts as often as it is met; a slice's spare places count too). A statement '..UptoSaid' is the law's where the arguments, and the package variables that the reading takes, are together of bulk at most 1048576: NARROWER than '..Said'. Prove '..Said' where nothing that the law and all that it calls make is longer than what came in: it says more and counts as full. Else prove '..UptoSaid'. A law counts once. -/
mutual
def uptoBulk {H : Type} : DataW H → Nat
  | .lit (.string bytes) => bytes.length + 1
  | .lit _ => 1
  | .nil => 1
  | .ptr d => uptoBulk d + 1
  | .slice elems spare => uptoBulkAll elems + uptoBulkAll spare + 1
  | .agg parts => uptoBulkAll parts + 1
  | .iface _ d => uptoBulk d + 1
  | .map entries => uptoBulkEntries entries + 1
  | .held _ => 1
def uptoBulkAll {H : Type} : List (DataW H) → Nat
  | [] => 0
  | d :: r => uptoBulk d + uptoBulkAll r
def uptoBulkEntries {H : Type} : List (Lit × DataW H) → Nat
  | [] => 0
  | x :: r => uptoBulkEntry x + uptoBulkEntries r
def uptoBulkEntry {H : Type} : Lit × DataW H → Nat
  | (.string bytes, d) => bytes.length + uptoBulk d + 1
  | (_, d) => uptoBulk d + 1
 end
def uptoSmall : (H : Type) → List (DataW H) → Bool := fun _ ds => decide (uptoBulkAll ds ≤ 1048576)
def OpenSpec.upto (s : _root_.Go.ChangeSpec) : _root_.Go.OpenSpec := { _root_.Go.OpenSpec.ofChange s with cond := some uptoSmall }

/-- 'tollgatelaw15.StoreSplits', WHERE WHAT IT READS IS OF BULK AT MOST 1048576: true; the input reads as it did. -/
def storeSplitsUptoRow : OpenClaim := { program := "ytpljdnocdhppmaa", sum := "fbf179fc5380085e8a6b66c53ec00816781af8ae102687bfbe35f14dfdbda6d7", func := "tollgate/tollgatelaw15.StoreSplits", spec := "storeSplits", unfollowed := true, recurses := true, plainKeys := false, apart := false, narrowed := true }
def StoreSplitsUptoSaid : Prop := storeSplitsUptoRow.holds Try.pinned (OpenSpec.upto storeSplitsSpec)

/-- 'tollgatelaw13.PapBytes', WHERE WHAT IT READS IS OF BULK AT MOST 1048576: true; the input reads as it did. -/
def papBytesUptoRow : OpenClaim := { program := "ytpljdnocdhppmaa", sum := "fbf179fc5380085e8a6b66c53ec00816781af8ae102687bfbe35f14dfdbda6d7", func := "tollgate/tollgatelaw13.PapBytes", spec := "papBytes", plainKeys := false, apart := false, narrowed := true }
def PapBytesUptoSaid : Prop := papBytesUptoRow.holds Try.pinned (OpenSpec.upto papBytesSpec)

/-- 'tollgatelaw13.PapBack', WHERE WHAT IT READS IS OF BULK AT MOST 1048576: true; the input reads as it did. -/
def papBackUptoRow : OpenClaim := { program := "ytpljdnocdhppmaa", sum := "fbf179fc5380085e8a6b66c53ec00816781af8ae102687bfbe35f14dfdbda6d7", func := "tollgate/tollgatelaw13.PapBack", spec := "papBack", plainKeys := false, apart := false, narrowed := true }
def PapBackUptoSaid : Prop := papBackUptoRow.holds Try.pinned (OpenSpec.upto papBackSpec)

/-- 'tollgatelaw15.StoreShuts', WHERE WHAT IT READS IS OF BULK AT MOST 1048576: true; the input reads as it did. -/
def storeShutsUptoRow : OpenClaim := { program := "ytpljdnocdhppmaa", sum := "fbf179fc5380085e8a6b66c53ec00816781af8ae102687bfbe35f14dfdbda6d7", func := "tollgate/tollgatelaw15.StoreShuts", spec := "storeShuts", unfollowed := true, recurses := true, plainKeys := false, apart := false, narrowed := true }
def StoreShutsUptoSaid : Prop := storeShutsUptoRow.holds Try.pinned (OpenSpec.upto storeShutsSpec)

/-- 'tollgatelaw15.StoreForgets', WHERE WHAT IT READS IS OF BULK AT MOST 1048576: true; the input reads as it did. -/
def storeForgetsUptoRow : OpenClaim := { program := "ytpljdnocdhppmaa", sum := "fbf179fc5380085e8a6b66c53ec00816781af8ae102687bfbe35f14dfdbda6d7", func := "tollgate/tollgatelaw15.StoreForgets", spec := "storeForgets", unfollowed := true, recurses := true, plainKeys := false, apart := false, narrowed := true }
def StoreForgetsUptoSaid : Prop := storeForgetsUptoRow.holds Try.pinned (OpenSpec.upto storeForgetsSpec)

/-- 'tollgatelaw13.PapIds', WHERE WHAT IT READS IS OF BULK AT MOST 1048576: true; the input reads as it did. -/
def papIdsUptoRow : OpenClaim := { program := "ytpljdnocdhppmaa", sum := "fbf179fc5380085e8a6b66c53ec00816781af8ae102687bfbe35f14dfdbda6d7", func := "tollgate/tollgatelaw13.PapIds", spec := "papIds", plainKeys := false, apart := false, narrowed := true }
def PapIdsUptoSaid : Prop := papIdsUptoRow.holds Try.pinned (OpenSpec.upto papIdsSpec)

/-- 'tollgatelaw13.PapAsks', WHERE WHAT IT READS IS OF BULK AT MOST 1048576: true; the input reads as it did. -/
def papAsksUptoRow : OpenClaim := { program := "ytpljdnocdhppmaa", sum := "fbf179fc5380085e8a6b66c53ec00816781af8ae102687bfbe35f14dfdbda6d7", func := "tollgate/tollgatelaw13.PapAsks", spec := "papAsks", plainKeys := false, apart := false, narrowed := true }
def PapAsksUptoSaid : Prop := papAsksUptoRow.holds Try.pinned (OpenSpec.upto papAsksSpec)

/-- 'tollgatelaw13.PapNone', WHERE WHAT IT READS IS OF BULK AT MOST 1048576: true; the input reads as it did. -/
def papNoneUptoRow : OpenClaim := { program := "ytpljdnocdhppmaa", sum := "fbf179fc5380085e8a6b66c53ec00816781af8ae102687bfbe35f14dfdbda6d7", func := "tollgate/tollgatelaw13.PapNone", spec := "papNone", plainKeys := false, apart := false, narrowed := true }
def PapNoneUptoSaid : Prop := papNoneUptoRow.holds Try.pinned (OpenSpec.upto papNoneSpec)

/-- 'tollgatelaw15.StoreKnows', WHERE WHAT IT READS IS OF BULK AT MOST 1048576: true; the input reads as it did. -/
def storeKnowsUptoRow : OpenClaim := { program := "ytpljdnocdhppmaa", sum := "fbf179fc5380085e8a6b66c53ec00816781af8ae102687bfbe35f14dfdbda6d7", func := "tollgate/tollgatelaw15.StoreKnows", spec := "storeKnows", unfollowed := true, recurses := true, plainKeys := false, apart := false, narrowed := true }
def StoreKnowsUptoSaid : Prop := storeKnowsUptoRow.holds Try.pinned (OpenSpec.upto storeKnowsSpec)

/-- 'tollgatelaw15.StorePlays', WHERE WHAT IT READS IS OF BULK AT MOST 1048576: true; the input reads as it did. -/
def storePlaysUptoRow : OpenClaim := { program := "ytpljdnocdhppmaa", sum := "fbf179fc5380085e8a6b66c53ec00816781af8ae102687bfbe35f14dfdbda6d7", func := "tollgate/tollgatelaw15.StorePlays", spec := "storePlays", unfollowed := true, recurses := true, plainKeys := false, apart := false, narrowed := true }
def StorePlaysUptoSaid : Prop := storePlaysUptoRow.holds Try.pinned (OpenSpec.upto storePlaysSpec)

end Rows
end Go.Proofs.Ytpljdnocdhppmaa
