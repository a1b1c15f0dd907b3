/-
  No cell of these rows narrows 'for every input' (looked for: loops, veiled, ifaces, maps, wideKeys, modest, calm, conditions, laid).
  DERIVED. THE GIVEN ROWS OF THIS SEAT. 12 by the template 'for every input the law returns true; each argument reads behind the call as it read before'; 0 by the template 'total and deterministic' (their statements: YtgeoldcddfmgnaaTotals.lean).
  GIVEN WITH THE SEED: the statements are not yours to turn. If you find one false, say at which input.
  Laid BY PROGRAM, IN A SANDBOX (cutbox-rows.mjs): the forced cells as the released guide's own fill.sh prints them over the translation e9a088c2ad21f93b… (all of the seat's roots in one cut). By AI agents, Wed Nov 11 2026. No macro, syntax, notation, axiom, sorry.
-/
import Derived.Test.YtgeoldcddfmgnaaChecked
import GoSem.Claim
import GoSem.ClaimJoined
import GoSem.ClaimMapViews
import Derived.JoinedTies
import Derived.KernelRfl
namespace Go.Proofs.Ytgeoldcddfmgnaa
/- THE CELL 'sum', in the pinned program and in every row, IS THE sha256 OF THE DUMP (.gsa) THAT YtgeoldcddfmgnaaProg.lean LOADS. Nothing in Lean hashes anything: it is a label: what it is worth is what the hold of that sum in a sandbox is worth. -/
noncomputable def Try.pinned : Pinned := { name := "ytgeoldcddfmgnaa", sum := "e9a088c2ad21f93bf90a3c9efb695028e371c315355a21fdf0dc107d6cda38bb", checked := Try.checked }
namespace Rows
def none {H : Type} : Left H := { results := [], args := [] }

/-- 'tollgatelaw2.DigestMd5': WHATEVER THE INPUT: true; the input reads as it did. -/
def digestMd5Spec : ChangeSpec := { name := "digestMd5", fn := fun _ => fun
  | [d] => { results := [.lit (.bool true)], args := [d] }
  | _ => none }
def digestMd5Row : OpenClaim := { program := "ytgeoldcddfmgnaa", sum := "e9a088c2ad21f93bf90a3c9efb695028e371c315355a21fdf0dc107d6cda38bb", func := "tollgate/tollgatelaw2.DigestMd5", spec := "digestMd5", apart := false }
def DigestMd5Said : Prop := digestMd5Row.holds Try.pinned (OpenSpec.ofChange digestMd5Spec)

/-- ITS FALSE NEIGHBOUR: 'it returns false'. Refute it at one input. -/
def digestMd5Wrong : ChangeSpec := { name := "digestMd5", fn := fun _ => fun
  | [d] => { results := [.lit (.bool false)], args := [d] }
  | _ => none }
def DigestMd5WrongFalsely : Prop := digestMd5Row.holds Try.pinned (OpenSpec.ofChange digestMd5Wrong)

/-- 'tollgatelaw2.DigestTurns': WHATEVER THE INPUT: true; the input reads as it did. -/
def digestTurnsSpec : ChangeSpec := { name := "digestTurns", fn := fun _ => fun
  | [d1, d2, d3] => { results := [.lit (.bool true)], args := [d1, d2, d3] }
  | _ => none }
def digestTurnsRow : OpenClaim := { program := "ytgeoldcddfmgnaa", sum := "e9a088c2ad21f93bf90a3c9efb695028e371c315355a21fdf0dc107d6cda38bb", func := "tollgate/tollgatelaw2.DigestTurns", spec := "digestTurns", apart := false }
def DigestTurnsSaid : Prop := digestTurnsRow.holds Try.pinned (OpenSpec.ofChange digestTurnsSpec)

/-- ITS FALSE NEIGHBOUR: 'it returns false'. Refute it at one input. -/
def digestTurnsWrong : ChangeSpec := { name := "digestTurns", fn := fun _ => fun
  | [d1, d2, d3] => { results := [.lit (.bool false)], args := [d1, d2, d3] }
  | _ => none }
def DigestTurnsWrongFalsely : Prop := digestTurnsRow.holds Try.pinned (OpenSpec.ofChange digestTurnsWrong)

/-- 'tollgatelaw2.DigestGroup': WHATEVER THE INPUT: true; the input reads as it did. -/
def digestGroupSpec : ChangeSpec := { name := "digestGroup", fn := fun _ => fun
  | [d1, d2, d3] => { results := [.lit (.bool true)], args := [d1, d2, d3] }
  | _ => none }
def digestGroupRow : OpenClaim := { program := "ytgeoldcddfmgnaa", sum := "e9a088c2ad21f93bf90a3c9efb695028e371c315355a21fdf0dc107d6cda38bb", func := "tollgate/tollgatelaw2.DigestGroup", spec := "digestGroup", apart := false }
def DigestGroupSaid : Prop := digestGroupRow.holds Try.pinned (OpenSpec.ofChange digestGroupSpec)

/-- ITS FALSE NEIGHBOUR: 'it returns false'. Refute it at one input. -/
def digestGroupWrong : ChangeSpec := { name := "digestGroup", fn := fun _ => fun
  | [d1, d2, d3] => { results := [.lit (.bool false)], args := [d1, d2, d3] }
  | _ => none }
def DigestGroupWrongFalsely : Prop := digestGroupRow.holds Try.pinned (OpenSpec.ofChange digestGroupWrong)

/-- 'tollgatelaw2.DigestLike': WHATEVER THE INPUT: true; the input reads as it did. -/
def digestLikeSpec : ChangeSpec := { name := "digestLike", fn := fun _ => fun
  | [d1, d2, d3] => { results := [.lit (.bool true)], args := [d1, d2, d3] }
  | _ => none }
def digestLikeRow : OpenClaim := { program := "ytgeoldcddfmgnaa", sum := "e9a088c2ad21f93bf90a3c9efb695028e371c315355a21fdf0dc107d6cda38bb", func := "tollgate/tollgatelaw2.DigestLike", spec := "digestLike", apart := false }
def DigestLikeSaid : Prop := digestLikeRow.holds Try.pinned (OpenSpec.ofChange digestLikeSpec)

/-- ITS FALSE NEIGHBOUR: 'it returns false'. Refute it at one input. -/
def digestLikeWrong : ChangeSpec := { name := "digestLike", fn := fun _ => fun
  | [d1, d2, d3] => { results := [.lit (.bool false)], args := [d1, d2, d3] }
  | _ => none }
def DigestLikeWrongFalsely : Prop := digestLikeRow.holds Try.pinned (OpenSpec.ofChange digestLikeWrong)

/-- 'tollgatelaw2.DigestChap': WHATEVER THE INPUT: true; the input reads as it did. -/
def digestChapSpec : ChangeSpec := { name := "digestChap", fn := fun _ => fun
  | [d1, d2, d3, d4, d5] => { results := [.lit (.bool true)], args := [d1, d2, d3, d4, d5] }
  | _ => none }
def digestChapRow : OpenClaim := { program := "ytgeoldcddfmgnaa", sum := "e9a088c2ad21f93bf90a3c9efb695028e371c315355a21fdf0dc107d6cda38bb", func := "tollgate/tollgatelaw2.DigestChap", spec := "digestChap", apart := false }
def DigestChapSaid : Prop := digestChapRow.holds Try.pinned (OpenSpec.ofChange digestChapSpec)

/-- ITS FALSE NEIGHBOUR: 'it returns false'. Refute it at one input. -/
def digestChapWrong : ChangeSpec := { name := "digestChap", fn := fun _ => fun
  | [d1, d2, d3, d4, d5] => { results := [.lit (.bool false)], args := [d1, d2, d3, d4, d5] }
  | _ => none }
def DigestChapWrongFalsely : Prop := digestChapRow.holds Try.pinned (OpenSpec.ofChange digestChapWrong)

/-- 'tollgatelaw6.CookieTells': WHATEVER THE INPUT: true; the input reads as it did. -/
def cookieTellsSpec : ChangeSpec := { name := "cookieTells", fn := fun _ => fun
  | [d1, d2, d3, d4, d5] => { results := [.lit (.bool true)], args := [d1, d2, d3, d4, d5] }
  | _ => none }
def cookieTellsRow : OpenClaim := { program := "ytgeoldcddfmgnaa", sum := "e9a088c2ad21f93bf90a3c9efb695028e371c315355a21fdf0dc107d6cda38bb", func := "tollgate/tollgatelaw6.CookieTells", spec := "cookieTells", apart := false }
def CookieTellsSaid : Prop := cookieTellsRow.holds Try.pinned (OpenSpec.ofChange cookieTellsSpec)

/-- ITS FALSE NEIGHBOUR: 'it returns false'. Refute it at one input. -/
def cookieTellsWrong : ChangeSpec := { name := "cookieTells", fn := fun _ => fun
  | [d1, d2, d3, d4, d5] => { results := [.lit (.bool false)], args := [d1, d2, d3, d4, d5] }
  | _ => none }
def CookieTellsWrongFalsely : Prop := cookieTellsRow.holds Try.pinned (OpenSpec.ofChange cookieTellsWrong)

/-- 'tollgatelaw6.CookieLasts': WHATEVER THE INPUT: true; the input reads as it did. -/
def cookieLastsSpec : ChangeSpec := { name := "cookieLasts", fn := fun _ => fun
  | [d1, d2, d3, d4, d5] => { results := [.lit (.bool true)], args := [d1, d2, d3, d4, d5] }
  | _ => none }
def cookieLastsRow : OpenClaim := { program := "ytgeoldcddfmgnaa", sum := "e9a088c2ad21f93bf90a3c9efb695028e371c315355a21fdf0dc107d6cda38bb", func := "tollgate/tollgatelaw6.CookieLasts", spec := "cookieLasts", apart := false }
def CookieLastsSaid : Prop := cookieLastsRow.holds Try.pinned (OpenSpec.ofChange cookieLastsSpec)

/-- ITS FALSE NEIGHBOUR: 'it returns false'. Refute it at one input. -/
def cookieLastsWrong : ChangeSpec := { name := "cookieLasts", fn := fun _ => fun
  | [d1, d2, d3, d4, d5] => { results := [.lit (.bool false)], args := [d1, d2, d3, d4, d5] }
  | _ => none }
def CookieLastsWrongFalsely : Prop := cookieLastsRow.holds Try.pinned (OpenSpec.ofChange cookieLastsWrong)

/-- 'tollgatelaw6.CookieEpochs': WHATEVER THE INPUT: true; the input reads as it did. -/
def cookieEpochsSpec : ChangeSpec := { name := "cookieEpochs", fn := fun _ => fun
  | [d1, d2, d3, d4, d5] => { results := [.lit (.bool true)], args := [d1, d2, d3, d4, d5] }
  | _ => none }
def cookieEpochsRow : OpenClaim := { program := "ytgeoldcddfmgnaa", sum := "e9a088c2ad21f93bf90a3c9efb695028e371c315355a21fdf0dc107d6cda38bb", func := "tollgate/tollgatelaw6.CookieEpochs", spec := "cookieEpochs", apart := false }
def CookieEpochsSaid : Prop := cookieEpochsRow.holds Try.pinned (OpenSpec.ofChange cookieEpochsSpec)

/-- ITS FALSE NEIGHBOUR: 'it returns false'. Refute it at one input. -/
def cookieEpochsWrong : ChangeSpec := { name := "cookieEpochs", fn := fun _ => fun
  | [d1, d2, d3, d4, d5] => { results := [.lit (.bool false)], args := [d1, d2, d3, d4, d5] }
  | _ => none }
def CookieEpochsWrongFalsely : Prop := cookieEpochsRow.holds Try.pinned (OpenSpec.ofChange cookieEpochsWrong)

/-- 'tollgatelaw2.DigestMasks': WHATEVER THE INPUT: true; the input reads as it did. -/
def digestMasksSpec : ChangeSpec := { name := "digestMasks", fn := fun _ => fun
  | [d1, d2, d3, d4] => { results := [.lit (.bool true)], args := [d1, d2, d3, d4] }
  | _ => none }
def digestMasksRow : OpenClaim := { program := "ytgeoldcddfmgnaa", sum := "e9a088c2ad21f93bf90a3c9efb695028e371c315355a21fdf0dc107d6cda38bb", func := "tollgate/tollgatelaw2.DigestMasks", spec := "digestMasks", unfollowed := true, recurses := true, apart := false }
def DigestMasksSaid : Prop := digestMasksRow.holds Try.pinned (OpenSpec.ofChange digestMasksSpec)

/-- ITS FALSE NEIGHBOUR: 'it returns false'. Refute it at one input. -/
def digestMasksWrong : ChangeSpec := { name := "digestMasks", fn := fun _ => fun
  | [d1, d2, d3, d4] => { results := [.lit (.bool false)], args := [d1, d2, d3, d4] }
  | _ => none }
def DigestMasksWrongFalsely : Prop := digestMasksRow.holds Try.pinned (OpenSpec.ofChange digestMasksWrong)

/-- 'tollgatelaw2.DigestShows': WHATEVER THE INPUT: true; the input reads as it did. -/
def digestShowsSpec : ChangeSpec := { name := "digestShows", fn := fun _ => fun
  | [d1, d2, d3, d4, d5] => { results := [.lit (.bool true)], args := [d1, d2, d3, d4, d5] }
  | _ => none }
def digestShowsRow : OpenClaim := { program := "ytgeoldcddfmgnaa", sum := "e9a088c2ad21f93bf90a3c9efb695028e371c315355a21fdf0dc107d6cda38bb", func := "tollgate/tollgatelaw2.DigestShows", spec := "digestShows", unfollowed := true, recurses := true, apart := false }
def DigestShowsSaid : Prop := digestShowsRow.holds Try.pinned (OpenSpec.ofChange digestShowsSpec)

/-- ITS FALSE NEIGHBOUR: 'it returns false'. Refute it at one input. -/
def digestShowsWrong : ChangeSpec := { name := "digestShows", fn := fun _ => fun
  | [d1, d2, d3, d4, d5] => { results := [.lit (.bool false)], args := [d1, d2, d3, d4, d5] }
  | _ => none }
def DigestShowsWrongFalsely : Prop := digestShowsRow.holds Try.pinned (OpenSpec.ofChange digestShowsWrong)

/-- 'tollgatelaw2.DigestPieces': WHATEVER THE INPUT: true; the input reads as it did. -/
def digestPiecesSpec : ChangeSpec := { name := "digestPieces", fn := fun _ => fun
  | [d1, d2, d3, d4, d5] => { results := [.lit (.bool true)], args := [d1, d2, d3, d4, d5] }
  | _ => none }
def digestPiecesRow : OpenClaim := { program := "ytgeoldcddfmgnaa", sum := "e9a088c2ad21f93bf90a3c9efb695028e371c315355a21fdf0dc107d6cda38bb", func := "tollgate/tollgatelaw2.DigestPieces", spec := "digestPieces", unfollowed := true, recurses := true, apart := false }
def DigestPiecesSaid : Prop := digestPiecesRow.holds Try.pinned (OpenSpec.ofChange digestPiecesSpec)

/-- ITS FALSE NEIGHBOUR: 'it returns false'. Refute it at one input. -/
def digestPiecesWrong : ChangeSpec := { name := "digestPieces", fn := fun _ => fun
  | [d1, d2, d3, d4, d5] => { results := [.lit (.bool false)], args := [d1, d2, d3, d4, d5] }
  | _ => none }
def DigestPiecesWrongFalsely : Prop := digestPiecesRow.holds Try.pinned (OpenSpec.ofChange digestPiecesWrong)

/-- 'tollgatelaw6.CookieIs': WHATEVER THE INPUT: true; the input reads as it did. -/
def cookieIsSpec : ChangeSpec := { name := "cookieIs", fn := fun _ => fun
  | [d1, d2, d3, d4, d5, d6] => { results := [.lit (.bool true)], args := [d1, d2, d3, d4, d5, d6] }
  | _ => none }
def cookieIsRow : OpenClaim := { program := "ytgeoldcddfmgnaa", sum := "e9a088c2ad21f93bf90a3c9efb695028e371c315355a21fdf0dc107d6cda38bb", func := "tollgate/tollgatelaw6.CookieIs", spec := "cookieIs", apart := false }
def CookieIsSaid : Prop := cookieIsRow.holds Try.pinned (OpenSpec.ofChange cookieIsSpec)

/-- ITS FALSE NEIGHBOUR: 'it returns false'. Refute it at one input. -/
def cookieIsWrong : ChangeSpec := { name := "cookieIs", fn := fun _ => fun
  | [d1, d2, d3, d4, d5, d6] => { results := [.lit (.bool false)], args := [d1, d2, d3, d4, d5, d6] }
  | _ => none }
def CookieIsWrongFalsely : Prop := cookieIsRow.holds Try.pinned (OpenSpec.ofChange cookieIsWrong)

/- THE SECOND FORM. 'bulk': how many values and letters a reading holds, each counted each time it is reached (what is shared counts as often as it is met; a slice's spare places count too). A statement '..UptoSaid' is the law's where the arguments, and the package variables that the reading takes, are together of bulk at most 1048576: NARROWER than '..Said'. Prove '..Said' where nothing that the law and all that it calls make is longer than what came in: it says more and counts as full. Else prove '..UptoSaid'. A law counts once. -/
mutual
def uptoBulk {H : Type} : DataW H → Nat
  | .lit (.string bytes) => bytes.length + 1
  | .lit _ => 1
  | .nil => 1
  | .ptr d => uptoBulk d + 1
  | .slice elems spare => uptoBulkAll elems + uptoBulkAll spare + 1
  | .agg parts => uptoBulkAll parts + 1
  | .iface _ d => uptoBulk d + 1
  | .map entries => uptoBulkEntries entries + 1
  | .held _ => 1
def uptoBulkAll {H : Type} : List (DataW H) → Nat
  | [] => 0
  | d :: r => uptoBulk d + uptoBulkAll r
def uptoBulkEntries {H : Type} : List (Lit × DataW H) → Nat
  | [] => 0
  | x :: r => uptoBulkEntry x + uptoBulkEntries r
def uptoBulkEntry {H : Type} : Lit × DataW H → Nat
  | (.string bytes, d) => bytes.length + uptoBulk d + 1
  | (_, d) => uptoBulk d + 1
 end
def uptoSmall : (H : Type) → List (DataW H) → Bool := fun _ ds => decide (uptoBulkAll ds ≤ 1048576)
def OpenSpec.upto (s : _root_.Go.ChangeSpec) : _root_.Go.OpenSpec := { _root_.Go.OpenSpec.ofChange s with cond := some uptoSmall }

/-- 'tollgatelaw2.DigestMd5', WHERE WHAT IT READS IS OF BULK AT MOST 1048576: true; the input reads as it did. -/
def digestMd5UptoRow : OpenClaim := { program := "ytgeoldcddfmgnaa", sum := "e9a088c2ad21f93bf90a3c9efb695028e371c315355a21fdf0dc107d6cda38bb", func := "tollgate/tollgatelaw2.DigestMd5", spec := "digestMd5", apart := false, narrowed := true }
def DigestMd5UptoSaid : Prop := digestMd5UptoRow.holds Try.pinned (OpenSpec.upto digestMd5Spec)

/-- 'tollgatelaw2.DigestTurns', WHERE WHAT IT READS IS OF BULK AT MOST 1048576: true; the input reads as it did. -/
def digestTurnsUptoRow : OpenClaim := { program := "ytgeoldcddfmgnaa", sum := "e9a088c2ad21f93bf90a3c9efb695028e371c315355a21fdf0dc107d6cda38bb", func := "tollgate/tollgatelaw2.DigestTurns", spec := "digestTurns", apart := false, narrowed := true }
def DigestTurnsUptoSaid : Prop := digestTurnsUptoRow.holds Try.pinned (OpenSpec.upto digestTurnsSpec)

/-- 'tollgatelaw2.DigestGroup', WHERE WHAT IT READS IS OF BULK AT MOST 1048576: true; the input reads as it did. -/
def digestGroupUptoRow : OpenClaim := { program := "ytgeoldcddfmgnaa", sum := "e9a088c2ad21f93bf90a3c9efb695028e371c315355a21fdf0dc107d6cda38bb", func := "tollgate/tollgatelaw2.DigestGroup", spec := "digestGroup", apart := false, narrowed := true }
def DigestGroupUptoSaid : Prop := digestGroupUptoRow.holds Try.pinned (OpenSpec.upto digestGroupSpec)

/-- 'tollgatelaw2.DigestLike', WHERE WHAT IT READS IS OF BULK AT MOST 1048576: true; the input reads as it did. -/
def digestLikeUptoRow : OpenClaim := { program := "ytgeoldcddfmgnaa", sum := "e9a088c2ad21f93bf90a3c9efb695028e371c315355a21fdf0dc107d6cda38bb", func := "tollgate/tollgatelaw2.DigestLike", spec := "digestLike", apart := false, narrowed := true }
def DigestLikeUptoSaid : Prop := digestLikeUptoRow.holds Try.pinned (OpenSpec.upto digestLikeSpec)

/-- 'tollgatelaw2.DigestChap', WHERE WHAT IT READS IS OF BULK AT MOST 1048576: true; the input reads as it did. -/
def digestChapUptoRow : OpenClaim := { program := "ytgeoldcddfmgnaa", sum := "e9a088c2ad21f93bf90a3c9efb695028e371c315355a21fdf0dc107d6cda38bb", func := "tollgate/tollgatelaw2.DigestChap", spec := "digestChap", apart := false, narrowed := true }
def DigestChapUptoSaid : Prop := digestChapUptoRow.holds Try.pinned (OpenSpec.upto digestChapSpec)

/-- 'tollgatelaw6.CookieTells', WHERE WHAT IT READS IS OF BULK AT MOST 1048576: true; the input reads as it did. -/
def cookieTellsUptoRow : OpenClaim := { program := "ytgeoldcddfmgnaa", sum := "e9a088c2ad21f93bf90a3c9efb695028e371c315355a21fdf0dc107d6cda38bb", func := "tollgate/tollgatelaw6.CookieTells", spec := "cookieTells", apart := false, narrowed := true }
def CookieTellsUptoSaid : Prop := cookieTellsUptoRow.holds Try.pinned (OpenSpec.upto cookieTellsSpec)

/-- 'tollgatelaw6.CookieLasts', WHERE WHAT IT READS IS OF BULK AT MOST 1048576: true; the input reads as it did. -/
def cookieLastsUptoRow : OpenClaim := { program := "ytgeoldcddfmgnaa", sum := "e9a088c2ad21f93bf90a3c9efb695028e371c315355a21fdf0dc107d6cda38bb", func := "tollgate/tollgatelaw6.CookieLasts", spec := "cookieLasts", apart := false, narrowed := true }
def CookieLastsUptoSaid : Prop := cookieLastsUptoRow.holds Try.pinned (OpenSpec.upto cookieLastsSpec)

/-- 'tollgatelaw6.CookieEpochs', WHERE WHAT IT READS IS OF BULK AT MOST 1048576: true; the input reads as it did. -/
def cookieEpochsUptoRow : OpenClaim := { program := "ytgeoldcddfmgnaa", sum := "e9a088c2ad21f93bf90a3c9efb695028e371c315355a21fdf0dc107d6cda38bb", func := "tollgate/tollgatelaw6.CookieEpochs", spec := "cookieEpochs", apart := false, narrowed := true }
def CookieEpochsUptoSaid : Prop := cookieEpochsUptoRow.holds Try.pinned (OpenSpec.upto cookieEpochsSpec)

/-- 'tollgatelaw2.DigestMasks', WHERE WHAT IT READS IS OF BULK AT MOST 1048576: true; the input reads as it did. -/
def digestMasksUptoRow : OpenClaim := { program := "ytgeoldcddfmgnaa", sum := "e9a088c2ad21f93bf90a3c9efb695028e371c315355a21fdf0dc107d6cda38bb", func := "tollgate/tollgatelaw2.DigestMasks", spec := "digestMasks", unfollowed := true, recurses := true, apart := false, narrowed := true }
def DigestMasksUptoSaid : Prop := digestMasksUptoRow.holds Try.pinned (OpenSpec.upto digestMasksSpec)

/-- 'tollgatelaw2.DigestShows', WHERE WHAT IT READS IS OF BULK AT MOST 1048576: true; the input reads as it did. -/
def digestShowsUptoRow : OpenClaim := { program := "ytgeoldcddfmgnaa", sum := "e9a088c2ad21f93bf90a3c9efb695028e371c315355a21fdf0dc107d6cda38bb", func := "tollgate/tollgatelaw2.DigestShows", spec := "digestShows", unfollowed := true, recurses := true, apart := false, narrowed := true }
def DigestShowsUptoSaid : Prop := digestShowsUptoRow.holds Try.pinned (OpenSpec.upto digestShowsSpec)

/-- 'tollgatelaw2.DigestPieces', WHERE WHAT IT READS IS OF BULK AT MOST 1048576: true; the input reads as it did. -/
def digestPiecesUptoRow : OpenClaim := { program := "ytgeoldcddfmgnaa", sum := "e9a088c2ad21f93bf90a3c9efb695028e371c315355a21fdf0dc107d6cda38bb", func := "tollgate/tollgatelaw2.DigestPieces", spec := "digestPieces", unfollowed := true, recurses := true, apart := false, narrowed := true }
def DigestPiecesUptoSaid : Prop := digestPiecesUptoRow.holds Try.pinned (OpenSpec.upto digestPiecesSpec)

/-- 'tollgatelaw6.CookieIs', WHERE WHAT IT READS IS OF BULK AT MOST 1048576: true; the input reads as it did. -/
def cookieIsUptoRow : OpenClaim := { program := "ytgeoldcddfmgnaa", sum := "e9a088c2ad21f93bf90a3c9efb695028e371c315355a21fdf0dc107d6cda38bb", func := "tollgate/tollgatelaw6.CookieIs", spec := "cookieIs", apart := false, narrowed := true }
def CookieIsUptoSaid : Prop := cookieIsUptoRow.holds Try.pinned (OpenSpec.upto cookieIsSpec)

end Rows
end Go.Proofs.Ytgeoldcddfmgnaa
