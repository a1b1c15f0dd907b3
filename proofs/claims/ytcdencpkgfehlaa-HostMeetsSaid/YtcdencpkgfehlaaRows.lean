/-
  No cell of these rows narrows 'for every input' (looked for: loops, veiled, ifaces, maps, wideKeys, modest, calm, conditions, laid).
  DERIVED. THE GIVEN ROWS OF THIS SEAT. 10 by the template 'for every input the law returns true; each argument reads behind the call as it read before'; 0 by the template 'total and deterministic' (their statements: YtcdencpkgfehlaaTotals.lean).
  GIVEN WITH THE SEED: the statements are not yours to turn. If you find one false, say at which input.
  Laid BY PROGRAM, IN A SANDBOX (cutbox-rows.mjs): the forced cells as the released guide's own fill.sh prints them over the translation febc27d5298c0189… (all of the seat's roots in one cut). By AI agents, Wed Nov 11 2026. No macro, syntax, notation, axiom, sorry.
-/
import Derived.Test.YtcdencpkgfehlaaChecked
import GoSem.Claim
import GoSem.ClaimJoined
import GoSem.ClaimMapViews
import Derived.JoinedTies
import Derived.KernelRfl
namespace Go.Proofs.Ytcdencpkgfehlaa
/- THE CELL 'sum', in the pinned program and in every row, IS THE sha256 OF THE DUMP (.gsa) THAT YtcdencpkgfehlaaProg.lean LOADS. Nothing in Lean hashes anything: it is a label: what it is worth is what the hold of that sum in a sandbox is worth. -/
noncomputable def Try.pinned : Pinned := { name := "ytcdencpkgfehlaa", sum := "febc27d5298c0189f01d615e024a5f227b85c802436e2d24d6de1da572b073fa", checked := Try.checked }
namespace Rows
def none {H : Type} : Left H := { results := [], args := [] }

/-- 'tollgatelaw8.HostWaits': WHATEVER THE INPUT: true; the input reads as it did. -/
def hostWaitsSpec : ChangeSpec := { name := "hostWaits", fn := fun _ => fun
  | [d1, d2] => { results := [.lit (.bool true)], args := [d1, d2] }
  | _ => none }
def hostWaitsRow : OpenClaim := { program := "ytcdencpkgfehlaa", sum := "febc27d5298c0189f01d615e024a5f227b85c802436e2d24d6de1da572b073fa", func := "tollgate/tollgatelaw8.HostWaits", spec := "hostWaits", unfollowed := true, recurses := true, plainKeys := false, apart := false }
def HostWaitsSaid : Prop := hostWaitsRow.holds Try.pinned (OpenSpec.ofChange hostWaitsSpec)

/-- ITS FALSE NEIGHBOUR: 'it returns false'. Refute it at one input. -/
def hostWaitsWrong : ChangeSpec := { name := "hostWaits", fn := fun _ => fun
  | [d1, d2] => { results := [.lit (.bool false)], args := [d1, d2] }
  | _ => none }
def HostWaitsWrongFalsely : Prop := hostWaitsRow.holds Try.pinned (OpenSpec.ofChange hostWaitsWrong)

/-- 'tollgatelaw8.HostAgain': WHATEVER THE INPUT: true; the input reads as it did. -/
def hostAgainSpec : ChangeSpec := { name := "hostAgain", fn := fun _ => fun
  | [d1, d2, d3] => { results := [.lit (.bool true)], args := [d1, d2, d3] }
  | _ => none }
def hostAgainRow : OpenClaim := { program := "ytcdencpkgfehlaa", sum := "febc27d5298c0189f01d615e024a5f227b85c802436e2d24d6de1da572b073fa", func := "tollgate/tollgatelaw8.HostAgain", spec := "hostAgain", unfollowed := true, recurses := true, plainKeys := false, apart := false }
def HostAgainSaid : Prop := hostAgainRow.holds Try.pinned (OpenSpec.ofChange hostAgainSpec)

/-- ITS FALSE NEIGHBOUR: 'it returns false'. Refute it at one input. -/
def hostAgainWrong : ChangeSpec := { name := "hostAgain", fn := fun _ => fun
  | [d1, d2, d3] => { results := [.lit (.bool false)], args := [d1, d2, d3] }
  | _ => none }
def HostAgainWrongFalsely : Prop := hostAgainRow.holds Try.pinned (OpenSpec.ofChange hostAgainWrong)

/-- 'tollgatelaw8.HostIgnores': WHATEVER THE INPUT: true; the input reads as it did. -/
def hostIgnoresSpec : ChangeSpec := { name := "hostIgnores", fn := fun _ => fun
  | [d] => { results := [.lit (.bool true)], args := [d] }
  | _ => none }
def hostIgnoresRow : OpenClaim := { program := "ytcdencpkgfehlaa", sum := "febc27d5298c0189f01d615e024a5f227b85c802436e2d24d6de1da572b073fa", func := "tollgate/tollgatelaw8.HostIgnores", spec := "hostIgnores", unfollowed := true, recurses := true, plainKeys := false, apart := false }
def HostIgnoresSaid : Prop := hostIgnoresRow.holds Try.pinned (OpenSpec.ofChange hostIgnoresSpec)

/-- ITS FALSE NEIGHBOUR: 'it returns false'. Refute it at one input. -/
def hostIgnoresWrong : ChangeSpec := { name := "hostIgnores", fn := fun _ => fun
  | [d] => { results := [.lit (.bool false)], args := [d] }
  | _ => none }
def HostIgnoresWrongFalsely : Prop := hostIgnoresRow.holds Try.pinned (OpenSpec.ofChange hostIgnoresWrong)

/-- 'tollgatelaw8.HostNone': WHATEVER THE INPUT: true; the input reads as it did. -/
def hostNoneSpec : ChangeSpec := { name := "hostNone", fn := fun _ => fun
  | [d] => { results := [.lit (.bool true)], args := [d] }
  | _ => none }
def hostNoneRow : OpenClaim := { program := "ytcdencpkgfehlaa", sum := "febc27d5298c0189f01d615e024a5f227b85c802436e2d24d6de1da572b073fa", func := "tollgate/tollgatelaw8.HostNone", spec := "hostNone", unfollowed := true, recurses := true, plainKeys := false, apart := false }
def HostNoneSaid : Prop := hostNoneRow.holds Try.pinned (OpenSpec.ofChange hostNoneSpec)

/-- ITS FALSE NEIGHBOUR: 'it returns false'. Refute it at one input. -/
def hostNoneWrong : ChangeSpec := { name := "hostNone", fn := fun _ => fun
  | [d] => { results := [.lit (.bool false)], args := [d] }
  | _ => none }
def HostNoneWrongFalsely : Prop := hostNoneRow.holds Try.pinned (OpenSpec.ofChange hostNoneWrong)

/-- 'tollgatelaw7.AcRoom': WHATEVER THE INPUT: true; the input reads as it did. -/
def acRoomSpec : ChangeSpec := { name := "acRoom", fn := fun _ => fun
  | [d1, d2] => { results := [.lit (.bool true)], args := [d1, d2] }
  | _ => none }
def acRoomRow : OpenClaim := { program := "ytcdencpkgfehlaa", sum := "febc27d5298c0189f01d615e024a5f227b85c802436e2d24d6de1da572b073fa", func := "tollgate/tollgatelaw7.AcRoom", spec := "acRoom", unfollowed := true, recurses := true, plainKeys := false, apart := false }
def AcRoomSaid : Prop := acRoomRow.holds Try.pinned (OpenSpec.ofChange acRoomSpec)

/-- ITS FALSE NEIGHBOUR: 'it returns false'. Refute it at one input. -/
def acRoomWrong : ChangeSpec := { name := "acRoom", fn := fun _ => fun
  | [d1, d2] => { results := [.lit (.bool false)], args := [d1, d2] }
  | _ => none }
def AcRoomWrongFalsely : Prop := acRoomRow.holds Try.pinned (OpenSpec.ofChange acRoomWrong)

/-- 'tollgatelaw7.AcStrange': WHATEVER THE INPUT: true; the input reads as it did. -/
def acStrangeSpec : ChangeSpec := { name := "acStrange", fn := fun _ => fun
  | [d1, d2, d3, d4, d5] => { results := [.lit (.bool true)], args := [d1, d2, d3, d4, d5] }
  | _ => none }
def acStrangeRow : OpenClaim := { program := "ytcdencpkgfehlaa", sum := "febc27d5298c0189f01d615e024a5f227b85c802436e2d24d6de1da572b073fa", func := "tollgate/tollgatelaw7.AcStrange", spec := "acStrange", unfollowed := true, recurses := true, plainKeys := false, apart := false }
def AcStrangeSaid : Prop := acStrangeRow.holds Try.pinned (OpenSpec.ofChange acStrangeSpec)

/-- ITS FALSE NEIGHBOUR: 'it returns false'. Refute it at one input. -/
def acStrangeWrong : ChangeSpec := { name := "acStrange", fn := fun _ => fun
  | [d1, d2, d3, d4, d5] => { results := [.lit (.bool false)], args := [d1, d2, d3, d4, d5] }
  | _ => none }
def AcStrangeWrongFalsely : Prop := acStrangeRow.holds Try.pinned (OpenSpec.ofChange acStrangeWrong)

/-- 'tollgatelaw7.AcSame': WHATEVER THE INPUT: true; the input reads as it did. -/
def acSameSpec : ChangeSpec := { name := "acSame", fn := fun _ => fun
  | [d1, d2, d3, d4] => { results := [.lit (.bool true)], args := [d1, d2, d3, d4] }
  | _ => none }
def acSameRow : OpenClaim := { program := "ytcdencpkgfehlaa", sum := "febc27d5298c0189f01d615e024a5f227b85c802436e2d24d6de1da572b073fa", func := "tollgate/tollgatelaw7.AcSame", spec := "acSame", unfollowed := true, recurses := true, plainKeys := false, apart := false }
def AcSameSaid : Prop := acSameRow.holds Try.pinned (OpenSpec.ofChange acSameSpec)

/-- ITS FALSE NEIGHBOUR: 'it returns false'. Refute it at one input. -/
def acSameWrong : ChangeSpec := { name := "acSame", fn := fun _ => fun
  | [d1, d2, d3, d4] => { results := [.lit (.bool false)], args := [d1, d2, d3, d4] }
  | _ => none }
def AcSameWrongFalsely : Prop := acSameRow.holds Try.pinned (OpenSpec.ofChange acSameWrong)

/-- 'tollgatelaw7.AcUsed': WHATEVER THE INPUT: true; the input reads as it did. -/
def acUsedSpec : ChangeSpec := { name := "acUsed", fn := fun _ => fun
  | [d1, d2, d3] => { results := [.lit (.bool true)], args := [d1, d2, d3] }
  | _ => none }
def acUsedRow : OpenClaim := { program := "ytcdencpkgfehlaa", sum := "febc27d5298c0189f01d615e024a5f227b85c802436e2d24d6de1da572b073fa", func := "tollgate/tollgatelaw7.AcUsed", spec := "acUsed", unfollowed := true, recurses := true, plainKeys := false, apart := false }
def AcUsedSaid : Prop := acUsedRow.holds Try.pinned (OpenSpec.ofChange acUsedSpec)

/-- ITS FALSE NEIGHBOUR: 'it returns false'. Refute it at one input. -/
def acUsedWrong : ChangeSpec := { name := "acUsed", fn := fun _ => fun
  | [d1, d2, d3] => { results := [.lit (.bool false)], args := [d1, d2, d3] }
  | _ => none }
def AcUsedWrongFalsely : Prop := acUsedRow.holds Try.pinned (OpenSpec.ofChange acUsedWrong)

/-- 'tollgatelaw7.AcNone': WHATEVER THE INPUT: true; the input reads as it did. -/
def acNoneSpec : ChangeSpec := { name := "acNone", fn := fun _ => fun
  | [d1, d2] => { results := [.lit (.bool true)], args := [d1, d2] }
  | _ => none }
def acNoneRow : OpenClaim := { program := "ytcdencpkgfehlaa", sum := "febc27d5298c0189f01d615e024a5f227b85c802436e2d24d6de1da572b073fa", func := "tollgate/tollgatelaw7.AcNone", spec := "acNone", unfollowed := true, recurses := true, plainKeys := false, apart := false }
def AcNoneSaid : Prop := acNoneRow.holds Try.pinned (OpenSpec.ofChange acNoneSpec)

/-- ITS FALSE NEIGHBOUR: 'it returns false'. Refute it at one input. -/
def acNoneWrong : ChangeSpec := { name := "acNone", fn := fun _ => fun
  | [d1, d2] => { results := [.lit (.bool false)], args := [d1, d2] }
  | _ => none }
def AcNoneWrongFalsely : Prop := acNoneRow.holds Try.pinned (OpenSpec.ofChange acNoneWrong)

/-- 'tollgatelaw8.HostMeets': WHATEVER THE INPUT: true; the input reads as it did. -/
def hostMeetsSpec : ChangeSpec := { name := "hostMeets", fn := fun _ => fun
  | [d1, d2, d3, d4] => { results := [.lit (.bool true)], args := [d1, d2, d3, d4] }
  | _ => none }
def hostMeetsRow : OpenClaim := { program := "ytcdencpkgfehlaa", sum := "febc27d5298c0189f01d615e024a5f227b85c802436e2d24d6de1da572b073fa", func := "tollgate/tollgatelaw8.HostMeets", spec := "hostMeets", unfollowed := true, recurses := true, plainKeys := false, apart := false }
def HostMeetsSaid : Prop := hostMeetsRow.holds Try.pinned (OpenSpec.ofChange hostMeetsSpec)

/-- ITS FALSE NEIGHBOUR: 'it returns false'. Refute it at one input. -/
def hostMeetsWrong : ChangeSpec := { name := "hostMeets", fn := fun _ => fun
  | [d1, d2, d3, d4] => { results := [.lit (.bool false)], args := [d1, d2, d3, d4] }
  | _ => none }
def HostMeetsWrongFalsely : Prop := hostMeetsRow.holds Try.pinned (OpenSpec.ofChange hostMeetsWrong)

/- THE SECOND FORM. 'bulk': how many values and letters a reading holds, each counted each time it is reached (what is shared counts as often as it is met; a slice's spare places count too). A statement '..UptoSaid' is the law's where the arguments, and the package variables that the reading takes, are together of bulk at most 1048576: NARROWER than '..Said'. Prove '..Said' where nothing that the law and all that it calls make is longer than what came in: it says more and counts as full. Else prove '..UptoSaid'. A law counts once. -/
mutual
def uptoBulk {H : Type} : DataW H → Nat
  | .lit (.string bytes) => bytes.length + 1
  | .lit _ => 1
  | .nil => 1
  | .ptr d => uptoBulk d + 1
  | .slice elems spare => uptoBulkAll elems + uptoBulkAll spare + 1
  | .agg parts => uptoBulkAll parts + 1
  | .iface _ d => uptoBulk d + 1
  | .map entries => uptoBulkEntries entries + 1
  | .held _ => 1
def uptoBulkAll {H : Type} : List (DataW H) → Nat
  | [] => 0
  | d :: r => uptoBulk d + uptoBulkAll r
def uptoBulkEntries {H : Type} : List (Lit × DataW H) → Nat
  | [] => 0
  | x :: r => uptoBulkEntry x + uptoBulkEntries r
def uptoBulkEntry {H : Type} : Lit × DataW H → Nat
  | (.string bytes, d) => bytes.length + uptoBulk d + 1
  | (_, d) => uptoBulk d + 1
 end
def uptoSmall : (H : Type) → List (DataW H) → Bool := fun _ ds => decide (uptoBulkAll ds ≤ 1048576)
def OpenSpec.upto (s : _root_.Go.ChangeSpec) : _root_.Go.OpenSpec := { _root_.Go.OpenSpec.ofChange s with cond := some uptoSmall }

/-- 'tollgatelaw8.HostWaits', WHERE WHAT IT READS IS OF BULK AT MOST 1048576: true; the input reads as it did. -/
def hostWaitsUptoRow : OpenClaim := { program := "ytcdencpkgfehlaa", sum := "febc27d5298c0189f01d615e024a5f227b85c802436e2d24d6de1da572b073fa", func := "tollgate/tollgatelaw8.HostWaits", spec := "hostWaits", unfollowed := true, recurses := true, plainKeys := false, apart := false, narrowed := true }
def HostWaitsUptoSaid : Prop := hostWaitsUptoRow.holds Try.pinned (OpenSpec.upto hostWaitsSpec)

/-- 'tollgatelaw8.HostAgain', WHERE WHAT IT READS IS OF BULK AT MOST 1048576: true; the input reads as it did. -/
def hostAgainUptoRow : OpenClaim := { program := "ytcdencpkgfehlaa", sum := "febc27d5298c0189f01d615e024a5f227b85c802436e2d24d6de1da572b073fa", func := "tollgate/tollgatelaw8.HostAgain", spec := "hostAgain", unfollowed := true, recurses := true, plainKeys := false, apart := false, narrowed := true }
def HostAgainUptoSaid : Prop := hostAgainUptoRow.holds Try.pinned (OpenSpec.upto hostAgainSpec)

/-- 'tollgatelaw8.HostIgnores', WHERE WHAT IT READS IS OF BULK AT MOST 1048576: true; the input reads as it did. -/
def hostIgnoresUptoRow : OpenClaim := { program := "ytcdencpkgfehlaa", sum := "febc27d5298c0189f01d615e024a5f227b85c802436e2d24d6de1da572b073fa", func := "tollgate/tollgatelaw8.HostIgnores", spec := "hostIgnores", unfollowed := true, recurses := true, plainKeys := false, apart := false, narrowed := true }
def HostIgnoresUptoSaid : Prop := hostIgnoresUptoRow.holds Try.pinned (OpenSpec.upto hostIgnoresSpec)

/-- 'tollgatelaw8.HostNone', WHERE WHAT IT READS IS OF BULK AT MOST 1048576: true; the input reads as it did. -/
def hostNoneUptoRow : OpenClaim := { program := "ytcdencpkgfehlaa", sum := "febc27d5298c0189f01d615e024a5f227b85c802436e2d24d6de1da572b073fa", func := "tollgate/tollgatelaw8.HostNone", spec := "hostNone", unfollowed := true, recurses := true, plainKeys := false, apart := false, narrowed := true }
def HostNoneUptoSaid : Prop := hostNoneUptoRow.holds Try.pinned (OpenSpec.upto hostNoneSpec)

/-- 'tollgatelaw7.AcRoom', WHERE WHAT IT READS IS OF BULK AT MOST 1048576: true; the input reads as it did. -/
def acRoomUptoRow : OpenClaim := { program := "ytcdencpkgfehlaa", sum := "febc27d5298c0189f01d615e024a5f227b85c802436e2d24d6de1da572b073fa", func := "tollgate/tollgatelaw7.AcRoom", spec := "acRoom", unfollowed := true, recurses := true, plainKeys := false, apart := false, narrowed := true }
def AcRoomUptoSaid : Prop := acRoomUptoRow.holds Try.pinned (OpenSpec.upto acRoomSpec)

/-- 'tollgatelaw7.AcStrange', WHERE WHAT IT READS IS OF BULK AT MOST 1048576: true; the input reads as it did. -/
def acStrangeUptoRow : OpenClaim := { program := "ytcdencpkgfehlaa", sum := "febc27d5298c0189f01d615e024a5f227b85c802436e2d24d6de1da572b073fa", func := "tollgate/tollgatelaw7.AcStrange", spec := "acStrange", unfollowed := true, recurses := true, plainKeys := false, apart := false, narrowed := true }
def AcStrangeUptoSaid : Prop := acStrangeUptoRow.holds Try.pinned (OpenSpec.upto acStrangeSpec)

/-- 'tollgatelaw7.AcSame', WHERE WHAT IT READS IS OF BULK AT MOST 1048576: true; the input reads as it did. -/
def acSameUptoRow : OpenClaim := { program := "ytcdencpkgfehlaa", sum := "febc27d5298c0189f01d615e024a5f227b85c802436e2d24d6de1da572b073fa", func := "tollgate/tollgatelaw7.AcSame", spec := "acSame", unfollowed := true, recurses := true, plainKeys := false, apart := false, narrowed := true }
def AcSameUptoSaid : Prop := acSameUptoRow.holds Try.pinned (OpenSpec.upto acSameSpec)

/-- 'tollgatelaw7.AcUsed', WHERE WHAT IT READS IS OF BULK AT MOST 1048576: true; the input reads as it did. -/
def acUsedUptoRow : OpenClaim := { program := "ytcdencpkgfehlaa", sum := "febc27d5298c0189f01d615e024a5f227b85c802436e2d24d6de1da572b073fa", func := "tollgate/tollgatelaw7.AcUsed", spec := "acUsed", unfollowed := true, recurses := true, plainKeys := false, apart := false, narrowed := true }
def AcUsedUptoSaid : Prop := acUsedUptoRow.holds Try.pinned (OpenSpec.upto acUsedSpec)

/-- 'tollgatelaw7.AcNone', WHERE WHAT IT READS IS OF BULK AT MOST 1048576: true; the input reads as it did. -/
def acNoneUptoRow : OpenClaim := { program := "ytcdencpkgfehlaa", sum := "febc27d5298c0189f01d615e024a5f227b85c802436e2d24d6de1da572b073fa", func := "tollgate/tollgatelaw7.AcNone", spec := "acNone", unfollowed := true, recurses := true, plainKeys := false, apart := false, narrowed := true }
def AcNoneUptoSaid : Prop := acNoneUptoRow.holds Try.pinned (OpenSpec.upto acNoneSpec)

/-- 'tollgatelaw8.HostMeets', WHERE WHAT IT READS IS OF BULK AT MOST 1048576: true; the input reads as it did. -/
def hostMeetsUptoRow : OpenClaim := { program := "ytcdencpkgfehlaa", sum := "febc27d5298c0189f01d615e024a5f227b85c802436e2d24d6de1da572b073fa", func := "tollgate/tollgatelaw8.HostMeets", spec := "hostMeets", unfollowed := true, recurses := true, plainKeys := false, apart := false, narrowed := true }
def HostMeetsUptoSaid : Prop := hostMeetsUptoRow.holds Try.pinned (OpenSpec.upto hostMeetsSpec)

end Rows
end Go.Proofs.Ytcdencpkgfehlaa
