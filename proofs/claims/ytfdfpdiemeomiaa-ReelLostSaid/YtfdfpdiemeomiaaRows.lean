/-
  No cell of these rows narrows 'for every input' (looked for: loops, veiled, ifaces, maps, wideKeys, modest, calm, conditions, laid).
  DERIVED. THE GIVEN ROWS OF THIS SEAT. 8 by the template 'for every input the law returns true; each argument reads behind the call as it read before'; 0 by the template 'total and deterministic' (their statements: YtfdfpdiemeomiaaTotals.lean).
  GIVEN WITH THE SEED: the statements are not yours to turn. If you find one false, say at which input.
  Laid BY PROGRAM, IN A SANDBOX (cutbox-rows.mjs): the forced cells as the released guide's own fill.sh prints them over the translation f9fdc60a4a9e3fc3… (all of the seat's roots in one cut). By AI agents, Wed Nov 11 2026. No macro, syntax, notation, axiom, sorry.
-/
import Derived.Test.YtfdfpdiemeomiaaChecked
import GoSem.Claim
import GoSem.ClaimJoined
import GoSem.ClaimMapViews
import Derived.JoinedTies
import Derived.KernelRfl
namespace Go.Proofs.Ytfdfpdiemeomiaa
/- THE CELL 'sum', in the pinned program and in every row, IS THE sha256 OF THE DUMP (.gsa) THAT YtfdfpdiemeomiaaProg.lean LOADS. Nothing in Lean hashes anything: it is a label: what it is worth is what the hold of that sum in a sandbox is worth. -/
noncomputable def Try.pinned : Pinned := { name := "ytfdfpdiemeomiaa", sum := "f9fdc60a4a9e3fc37a656b2e0903cbd8f20c3150d812fed65af06c9628acbb83", checked := Try.checked }
namespace Rows
def none {H : Type} : Left H := { results := [], args := [] }

/-- 'papermilllaw34.ReelChecks': WHATEVER THE INPUT: true; the input reads as it did. -/
def reelChecksSpec : ChangeSpec := { name := "reelChecks", fn := fun _ => fun
  | [d] => { results := [.lit (.bool true)], args := [d] }
  | _ => none }
def reelChecksRow : OpenClaim := { program := "ytfdfpdiemeomiaa", sum := "f9fdc60a4a9e3fc37a656b2e0903cbd8f20c3150d812fed65af06c9628acbb83", func := "papermill/papermilllaw34.ReelChecks", spec := "reelChecks", unfollowed := true, recurses := true, apart := false }
def ReelChecksSaid : Prop := reelChecksRow.holds Try.pinned (OpenSpec.ofChange reelChecksSpec)

/-- ITS FALSE NEIGHBOUR: 'it returns false'. Refute it at one input. -/
def reelChecksWrong : ChangeSpec := { name := "reelChecks", fn := fun _ => fun
  | [d] => { results := [.lit (.bool false)], args := [d] }
  | _ => none }
def ReelChecksWrongFalsely : Prop := reelChecksRow.holds Try.pinned (OpenSpec.ofChange reelChecksWrong)

/-- 'papermilllaw34.ReelCuts': WHATEVER THE INPUT: true; the input reads as it did. -/
def reelCutsSpec : ChangeSpec := { name := "reelCuts", fn := fun _ => fun
  | [d1, d2, d3] => { results := [.lit (.bool true)], args := [d1, d2, d3] }
  | _ => none }
def reelCutsRow : OpenClaim := { program := "ytfdfpdiemeomiaa", sum := "f9fdc60a4a9e3fc37a656b2e0903cbd8f20c3150d812fed65af06c9628acbb83", func := "papermill/papermilllaw34.ReelCuts", spec := "reelCuts", unfollowed := true, recurses := true, apart := false }
def ReelCutsSaid : Prop := reelCutsRow.holds Try.pinned (OpenSpec.ofChange reelCutsSpec)

/-- ITS FALSE NEIGHBOUR: 'it returns false'. Refute it at one input. -/
def reelCutsWrong : ChangeSpec := { name := "reelCuts", fn := fun _ => fun
  | [d1, d2, d3] => { results := [.lit (.bool false)], args := [d1, d2, d3] }
  | _ => none }
def ReelCutsWrongFalsely : Prop := reelCutsRow.holds Try.pinned (OpenSpec.ofChange reelCutsWrong)

/-- 'papermilllaw34.ReelParts': WHATEVER THE INPUT: true; the input reads as it did. -/
def reelPartsSpec : ChangeSpec := { name := "reelParts", fn := fun _ => fun
  | [d1, d2] => { results := [.lit (.bool true)], args := [d1, d2] }
  | _ => none }
def reelPartsRow : OpenClaim := { program := "ytfdfpdiemeomiaa", sum := "f9fdc60a4a9e3fc37a656b2e0903cbd8f20c3150d812fed65af06c9628acbb83", func := "papermill/papermilllaw34.ReelParts", spec := "reelParts", unfollowed := true, recurses := true, apart := false }
def ReelPartsSaid : Prop := reelPartsRow.holds Try.pinned (OpenSpec.ofChange reelPartsSpec)

/-- ITS FALSE NEIGHBOUR: 'it returns false'. Refute it at one input. -/
def reelPartsWrong : ChangeSpec := { name := "reelParts", fn := fun _ => fun
  | [d1, d2] => { results := [.lit (.bool false)], args := [d1, d2] }
  | _ => none }
def ReelPartsWrongFalsely : Prop := reelPartsRow.holds Try.pinned (OpenSpec.ofChange reelPartsWrong)

/-- 'papermilllaw34.ReelCovers': WHATEVER THE INPUT: true; the input reads as it did. -/
def reelCoversSpec : ChangeSpec := { name := "reelCovers", fn := fun _ => fun
  | [d1, d2, d3] => { results := [.lit (.bool true)], args := [d1, d2, d3] }
  | _ => none }
def reelCoversRow : OpenClaim := { program := "ytfdfpdiemeomiaa", sum := "f9fdc60a4a9e3fc37a656b2e0903cbd8f20c3150d812fed65af06c9628acbb83", func := "papermill/papermilllaw34.ReelCovers", spec := "reelCovers", unfollowed := true, recurses := true, apart := false }
def ReelCoversSaid : Prop := reelCoversRow.holds Try.pinned (OpenSpec.ofChange reelCoversSpec)

/-- ITS FALSE NEIGHBOUR: 'it returns false'. Refute it at one input. -/
def reelCoversWrong : ChangeSpec := { name := "reelCovers", fn := fun _ => fun
  | [d1, d2, d3] => { results := [.lit (.bool false)], args := [d1, d2, d3] }
  | _ => none }
def ReelCoversWrongFalsely : Prop := reelCoversRow.holds Try.pinned (OpenSpec.ofChange reelCoversWrong)

/-- 'papermilllaw34.ReelPhases': WHATEVER THE INPUT: true; the input reads as it did. -/
def reelPhasesSpec : ChangeSpec := { name := "reelPhases", fn := fun _ => fun
  | [d1, d2, d3] => { results := [.lit (.bool true)], args := [d1, d2, d3] }
  | _ => none }
def reelPhasesRow : OpenClaim := { program := "ytfdfpdiemeomiaa", sum := "f9fdc60a4a9e3fc37a656b2e0903cbd8f20c3150d812fed65af06c9628acbb83", func := "papermill/papermilllaw34.ReelPhases", spec := "reelPhases", unfollowed := true, recurses := true, apart := false }
def ReelPhasesSaid : Prop := reelPhasesRow.holds Try.pinned (OpenSpec.ofChange reelPhasesSpec)

/-- ITS FALSE NEIGHBOUR: 'it returns false'. Refute it at one input. -/
def reelPhasesWrong : ChangeSpec := { name := "reelPhases", fn := fun _ => fun
  | [d1, d2, d3] => { results := [.lit (.bool false)], args := [d1, d2, d3] }
  | _ => none }
def ReelPhasesWrongFalsely : Prop := reelPhasesRow.holds Try.pinned (OpenSpec.ofChange reelPhasesWrong)

/-- 'papermilllaw34.ReelTurns': WHATEVER THE INPUT: true; the input reads as it did. -/
def reelTurnsSpec : ChangeSpec := { name := "reelTurns", fn := fun _ => fun
  | [d1, d2, d3] => { results := [.lit (.bool true)], args := [d1, d2, d3] }
  | _ => none }
def reelTurnsRow : OpenClaim := { program := "ytfdfpdiemeomiaa", sum := "f9fdc60a4a9e3fc37a656b2e0903cbd8f20c3150d812fed65af06c9628acbb83", func := "papermill/papermilllaw34.ReelTurns", spec := "reelTurns", unfollowed := true, recurses := true, apart := false }
def ReelTurnsSaid : Prop := reelTurnsRow.holds Try.pinned (OpenSpec.ofChange reelTurnsSpec)

/-- ITS FALSE NEIGHBOUR: 'it returns false'. Refute it at one input. -/
def reelTurnsWrong : ChangeSpec := { name := "reelTurns", fn := fun _ => fun
  | [d1, d2, d3] => { results := [.lit (.bool false)], args := [d1, d2, d3] }
  | _ => none }
def ReelTurnsWrongFalsely : Prop := reelTurnsRow.holds Try.pinned (OpenSpec.ofChange reelTurnsWrong)

/-- 'papermilllaw34.ReelPieces': WHATEVER THE INPUT: true; the input reads as it did. -/
def reelPiecesSpec : ChangeSpec := { name := "reelPieces", fn := fun _ => fun
  | [d1, d2, d3] => { results := [.lit (.bool true)], args := [d1, d2, d3] }
  | _ => none }
def reelPiecesRow : OpenClaim := { program := "ytfdfpdiemeomiaa", sum := "f9fdc60a4a9e3fc37a656b2e0903cbd8f20c3150d812fed65af06c9628acbb83", func := "papermill/papermilllaw34.ReelPieces", spec := "reelPieces", unfollowed := true, recurses := true, apart := false }
def ReelPiecesSaid : Prop := reelPiecesRow.holds Try.pinned (OpenSpec.ofChange reelPiecesSpec)

/-- ITS FALSE NEIGHBOUR: 'it returns false'. Refute it at one input. -/
def reelPiecesWrong : ChangeSpec := { name := "reelPieces", fn := fun _ => fun
  | [d1, d2, d3] => { results := [.lit (.bool false)], args := [d1, d2, d3] }
  | _ => none }
def ReelPiecesWrongFalsely : Prop := reelPiecesRow.holds Try.pinned (OpenSpec.ofChange reelPiecesWrong)

/-- 'papermilllaw34.ReelLost': WHATEVER THE INPUT: true; the input reads as it did. -/
def reelLostSpec : ChangeSpec := { name := "reelLost", fn := fun _ => fun
  | [d1, d2] => { results := [.lit (.bool true)], args := [d1, d2] }
  | _ => none }
def reelLostRow : OpenClaim := { program := "ytfdfpdiemeomiaa", sum := "f9fdc60a4a9e3fc37a656b2e0903cbd8f20c3150d812fed65af06c9628acbb83", func := "papermill/papermilllaw34.ReelLost", spec := "reelLost", unfollowed := true, recurses := true, apart := false }
def ReelLostSaid : Prop := reelLostRow.holds Try.pinned (OpenSpec.ofChange reelLostSpec)

/-- ITS FALSE NEIGHBOUR: 'it returns false'. Refute it at one input. -/
def reelLostWrong : ChangeSpec := { name := "reelLost", fn := fun _ => fun
  | [d1, d2] => { results := [.lit (.bool false)], args := [d1, d2] }
  | _ => none }
def ReelLostWrongFalsely : Prop := reelLostRow.holds Try.pinned (OpenSpec.ofChange reelLostWrong)

/- THE SECOND FORM. 'bulk': how many values and letters a reading holds, each counted each time it is reached (what is shared counts as often as it is met; a slice's spare places count too). A statement '..UptoSaid' is the law's where the arguments, and the package variables that the reading takes, are together of bulk at most 1048576: NARROWER than '..Said'. Prove '..Said' where nothing that the law and all that it calls make is longer than what came in: it says more and counts as full. Else prove '..UptoSaid'. A law counts once. -/
mutual
def uptoBulk {H : Type} : DataW H → Nat
  | .lit (.string bytes) => bytes.length + 1
  | .lit _ => 1
  | .nil => 1
  | .ptr d => uptoBulk d + 1
  | .slice elems spare => uptoBulkAll elems + uptoBulkAll spare + 1
  | .agg parts => uptoBulkAll parts + 1
  | .iface _ d => uptoBulk d + 1
  | .map entries => uptoBulkEntries entries + 1
  | .held _ => 1
def uptoBulkAll {H : Type} : List (DataW H) → Nat
  | [] => 0
  | d :: r => uptoBulk d + uptoBulkAll r
def uptoBulkEntries {H : Type} : List (Lit × DataW H) → Nat
  | [] => 0
  | x :: r => uptoBulkEntry x + uptoBulkEntries r
def uptoBulkEntry {H : Type} : Lit × DataW H → Nat
  | (.string bytes, d) => bytes.length + uptoBulk d + 1
  | (_, d) => uptoBulk d + 1
 end
def uptoSmall : (H : Type) → List (DataW H) → Bool := fun _ ds => decide (uptoBulkAll ds ≤ 1048576)
def OpenSpec.upto (s : _root_.Go.ChangeSpec) : _root_.Go.OpenSpec := { _root_.Go.OpenSpec.ofChange s with cond := some uptoSmall }

/-- 'papermilllaw34.ReelChecks', WHERE WHAT IT READS IS OF BULK AT MOST 1048576: true; the input reads as it did. -/
def reelChecksUptoRow : OpenClaim := { program := "ytfdfpdiemeomiaa", sum := "f9fdc60a4a9e3fc37a656b2e0903cbd8f20c3150d812fed65af06c9628acbb83", func := "papermill/papermilllaw34.ReelChecks", spec := "reelChecks", unfollowed := true, recurses := true, apart := false, narrowed := true }
def ReelChecksUptoSaid : Prop := reelChecksUptoRow.holds Try.pinned (OpenSpec.upto reelChecksSpec)

/-- 'papermilllaw34.ReelCuts', WHERE WHAT IT READS IS OF BULK AT MOST 1048576: true; the input reads as it did. -/
def reelCutsUptoRow : OpenClaim := { program := "ytfdfpdiemeomiaa", sum := "f9fdc60a4a9e3fc37a656b2e0903cbd8f20c3150d812fed65af06c9628acbb83", func := "papermill/papermilllaw34.ReelCuts", spec := "reelCuts", unfollowed := true, recurses := true, apart := false, narrowed := true }
def ReelCutsUptoSaid : Prop := reelCutsUptoRow.holds Try.pinned (OpenSpec.upto reelCutsSpec)

/-- 'papermilllaw34.ReelParts', WHERE WHAT IT READS IS OF BULK AT MOST 1048576: true; the input reads as it did. -/
def reelPartsUptoRow : OpenClaim := { program := "ytfdfpdiemeomiaa", sum := "f9fdc60a4a9e3fc37a656b2e0903cbd8f20c3150d812fed65af06c9628acbb83", func := "papermill/papermilllaw34.ReelParts", spec := "reelParts", unfollowed := true, recurses := true, apart := false, narrowed := true }
def ReelPartsUptoSaid : Prop := reelPartsUptoRow.holds Try.pinned (OpenSpec.upto reelPartsSpec)

/-- 'papermilllaw34.ReelCovers', WHERE WHAT IT READS IS OF BULK AT MOST 1048576: true; the input reads as it did. -/
def reelCoversUptoRow : OpenClaim := { program := "ytfdfpdiemeomiaa", sum := "f9fdc60a4a9e3fc37a656b2e0903cbd8f20c3150d812fed65af06c9628acbb83", func := "papermill/papermilllaw34.ReelCovers", spec := "reelCovers", unfollowed := true, recurses := true, apart := false, narrowed := true }
def ReelCoversUptoSaid : Prop := reelCoversUptoRow.holds Try.pinned (OpenSpec.upto reelCoversSpec)

/-- 'papermilllaw34.ReelPhases', WHERE WHAT IT READS IS OF BULK AT MOST 1048576: true; the input reads as it did. -/
def reelPhasesUptoRow : OpenClaim := { program := "ytfdfpdiemeomiaa", sum := "f9fdc60a4a9e3fc37a656b2e0903cbd8f20c3150d812fed65af06c9628acbb83", func := "papermill/papermilllaw34.ReelPhases", spec := "reelPhases", unfollowed := true, recurses := true, apart := false, narrowed := true }
def ReelPhasesUptoSaid : Prop := reelPhasesUptoRow.holds Try.pinned (OpenSpec.upto reelPhasesSpec)

/-- 'papermilllaw34.ReelTurns', WHERE WHAT IT READS IS OF BULK AT MOST 1048576: true; the input reads as it did. -/
def reelTurnsUptoRow : OpenClaim := { program := "ytfdfpdiemeomiaa", sum := "f9fdc60a4a9e3fc37a656b2e0903cbd8f20c3150d812fed65af06c9628acbb83", func := "papermill/papermilllaw34.ReelTurns", spec := "reelTurns", unfollowed := true, recurses := true, apart := false, narrowed := true }
def ReelTurnsUptoSaid : Prop := reelTurnsUptoRow.holds Try.pinned (OpenSpec.upto reelTurnsSpec)

/-- 'papermilllaw34.ReelPieces', WHERE WHAT IT READS IS OF BULK AT MOST 1048576: true; the input reads as it did. -/
def reelPiecesUptoRow : OpenClaim := { program := "ytfdfpdiemeomiaa", sum := "f9fdc60a4a9e3fc37a656b2e0903cbd8f20c3150d812fed65af06c9628acbb83", func := "papermill/papermilllaw34.ReelPieces", spec := "reelPieces", unfollowed := true, recurses := true, apart := false, narrowed := true }
def ReelPiecesUptoSaid : Prop := reelPiecesUptoRow.holds Try.pinned (OpenSpec.upto reelPiecesSpec)

/-- 'papermilllaw34.ReelLost', WHERE WHAT IT READS IS OF BULK AT MOST 1048576: true; the input reads as it did. -/
def reelLostUptoRow : OpenClaim := { program := "ytfdfpdiemeomiaa", sum := "f9fdc60a4a9e3fc37a656b2e0903cbd8f20c3150d812fed65af06c9628acbb83", func := "papermill/papermilllaw34.ReelLost", spec := "reelLost", unfollowed := true, recurses := true, apart := false, narrowed := true }
def ReelLostUptoSaid : Prop := reelLostUptoRow.holds Try.pinned (OpenSpec.upto reelLostSpec)

end Rows
end Go.Proofs.Ytfdfpdiemeomiaa
