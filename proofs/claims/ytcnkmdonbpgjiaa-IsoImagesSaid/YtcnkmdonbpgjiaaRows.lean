/-
  No cell of these rows narrows 'for every input' (looked for: loops, veiled, ifaces, maps, wideKeys, modest, calm, conditions, laid).
  DERIVED. THE GIVEN ROWS OF THIS SEAT. 9 by the template 'for every input the law returns true; each argument reads behind the call as it read before'; 0 by the template 'total and deterministic' (their statements: YtcnkmdonbpgjiaaTotals.lean).
  GIVEN WITH THE SEED: the statements are not yours to turn. If you find one false, say at which input.
  Laid BY PROGRAM, IN A SANDBOX (cutbox-rows.mjs): the forced cells as the released guide's own fill.sh prints them over the translation 5e10df70bbd43a73… (all of the seat's roots in one cut). By AI agents, Wed Nov 11 2026. No macro, syntax, notation, axiom, sorry.
-/
import Derived.Test.YtcnkmdonbpgjiaaChecked
import GoSem.Claim
import GoSem.ClaimJoined
import GoSem.ClaimMapViews
import Derived.JoinedTies
import Derived.KernelRfl
namespace Go.Proofs.Ytcnkmdonbpgjiaa
/- THE CELL 'sum', in the pinned program and in every row, IS THE sha256 OF THE DUMP (.gsa) THAT YtcnkmdonbpgjiaaProg.lean LOADS. Nothing in Lean hashes anything: it is a label: what it is worth is what the hold of that sum in a sandbox is worth. -/
noncomputable def Try.pinned : Pinned := { name := "ytcnkmdonbpgjiaa", sum := "5e10df70bbd43a739d7a933f74c849c9f47d3f27852ce7e7a8dbd8bf06d07dfd", checked := Try.checked }
namespace Rows
def none {H : Type} : Left H := { results := [], args := [] }

/-- 'papermilllaw13.IsoChecks': WHATEVER THE INPUT: true; the input reads as it did. -/
def isoChecksSpec : ChangeSpec := { name := "isoChecks", fn := fun _ => fun
  | [d] => { results := [.lit (.bool true)], args := [d] }
  | _ => none }
def isoChecksRow : OpenClaim := { program := "ytcnkmdonbpgjiaa", sum := "5e10df70bbd43a739d7a933f74c849c9f47d3f27852ce7e7a8dbd8bf06d07dfd", func := "papermill/papermilllaw13.IsoChecks", spec := "isoChecks", unfollowed := true, recurses := true, apart := false }
def IsoChecksSaid : Prop := isoChecksRow.holds Try.pinned (OpenSpec.ofChange isoChecksSpec)

/-- ITS FALSE NEIGHBOUR: 'it returns false'. Refute it at one input. -/
def isoChecksWrong : ChangeSpec := { name := "isoChecks", fn := fun _ => fun
  | [d] => { results := [.lit (.bool false)], args := [d] }
  | _ => none }
def IsoChecksWrongFalsely : Prop := isoChecksRow.holds Try.pinned (OpenSpec.ofChange isoChecksWrong)

/-- 'papermilllaw13.IsoComposes': WHATEVER THE INPUT: true; the input reads as it did. -/
def isoComposesSpec : ChangeSpec := { name := "isoComposes", fn := fun _ => fun
  | [d1, d2] => { results := [.lit (.bool true)], args := [d1, d2] }
  | _ => none }
def isoComposesRow : OpenClaim := { program := "ytcnkmdonbpgjiaa", sum := "5e10df70bbd43a739d7a933f74c849c9f47d3f27852ce7e7a8dbd8bf06d07dfd", func := "papermill/papermilllaw13.IsoComposes", spec := "isoComposes", unfollowed := true, recurses := true, apart := false }
def IsoComposesSaid : Prop := isoComposesRow.holds Try.pinned (OpenSpec.ofChange isoComposesSpec)

/-- ITS FALSE NEIGHBOUR: 'it returns false'. Refute it at one input. -/
def isoComposesWrong : ChangeSpec := { name := "isoComposes", fn := fun _ => fun
  | [d1, d2] => { results := [.lit (.bool false)], args := [d1, d2] }
  | _ => none }
def IsoComposesWrongFalsely : Prop := isoComposesRow.holds Try.pinned (OpenSpec.ofChange isoComposesWrong)

/-- 'papermilllaw13.IsoNormal': WHATEVER THE INPUT: true; the input reads as it did. -/
def isoNormalSpec : ChangeSpec := { name := "isoNormal", fn := fun _ => fun
  | [d1, d2] => { results := [.lit (.bool true)], args := [d1, d2] }
  | _ => none }
def isoNormalRow : OpenClaim := { program := "ytcnkmdonbpgjiaa", sum := "5e10df70bbd43a739d7a933f74c849c9f47d3f27852ce7e7a8dbd8bf06d07dfd", func := "papermill/papermilllaw13.IsoNormal", spec := "isoNormal", unfollowed := true, recurses := true, apart := false }
def IsoNormalSaid : Prop := isoNormalRow.holds Try.pinned (OpenSpec.ofChange isoNormalSpec)

/-- ITS FALSE NEIGHBOUR: 'it returns false'. Refute it at one input. -/
def isoNormalWrong : ChangeSpec := { name := "isoNormal", fn := fun _ => fun
  | [d1, d2] => { results := [.lit (.bool false)], args := [d1, d2] }
  | _ => none }
def IsoNormalWrongFalsely : Prop := isoNormalRow.holds Try.pinned (OpenSpec.ofChange isoNormalWrong)

/-- 'papermilllaw13.IsoChains': WHATEVER THE INPUT: true; the input reads as it did. -/
def isoChainsSpec : ChangeSpec := { name := "isoChains", fn := fun _ => fun
  | [d1, d2, d3] => { results := [.lit (.bool true)], args := [d1, d2, d3] }
  | _ => none }
def isoChainsRow : OpenClaim := { program := "ytcnkmdonbpgjiaa", sum := "5e10df70bbd43a739d7a933f74c849c9f47d3f27852ce7e7a8dbd8bf06d07dfd", func := "papermill/papermilllaw13.IsoChains", spec := "isoChains", unfollowed := true, recurses := true, apart := false }
def IsoChainsSaid : Prop := isoChainsRow.holds Try.pinned (OpenSpec.ofChange isoChainsSpec)

/-- ITS FALSE NEIGHBOUR: 'it returns false'. Refute it at one input. -/
def isoChainsWrong : ChangeSpec := { name := "isoChains", fn := fun _ => fun
  | [d1, d2, d3] => { results := [.lit (.bool false)], args := [d1, d2, d3] }
  | _ => none }
def IsoChainsWrongFalsely : Prop := isoChainsRow.holds Try.pinned (OpenSpec.ofChange isoChainsWrong)

/-- 'papermilllaw13.IsoImages': WHATEVER THE INPUT: true; the input reads as it did. -/
def isoImagesSpec : ChangeSpec := { name := "isoImages", fn := fun _ => fun
  | [d1, d2, d3] => { results := [.lit (.bool true)], args := [d1, d2, d3] }
  | _ => none }
def isoImagesRow : OpenClaim := { program := "ytcnkmdonbpgjiaa", sum := "5e10df70bbd43a739d7a933f74c849c9f47d3f27852ce7e7a8dbd8bf06d07dfd", func := "papermill/papermilllaw13.IsoImages", spec := "isoImages", unfollowed := true, recurses := true, apart := false }
def IsoImagesSaid : Prop := isoImagesRow.holds Try.pinned (OpenSpec.ofChange isoImagesSpec)

/-- ITS FALSE NEIGHBOUR: 'it returns false'. Refute it at one input. -/
def isoImagesWrong : ChangeSpec := { name := "isoImages", fn := fun _ => fun
  | [d1, d2, d3] => { results := [.lit (.bool false)], args := [d1, d2, d3] }
  | _ => none }
def IsoImagesWrongFalsely : Prop := isoImagesRow.holds Try.pinned (OpenSpec.ofChange isoImagesWrong)

/-- 'papermilllaw13.IsoSingles': WHATEVER THE INPUT: true; the input reads as it did. -/
def isoSinglesSpec : ChangeSpec := { name := "isoSingles", fn := fun _ => fun
  | [d1, d2] => { results := [.lit (.bool true)], args := [d1, d2] }
  | _ => none }
def isoSinglesRow : OpenClaim := { program := "ytcnkmdonbpgjiaa", sum := "5e10df70bbd43a739d7a933f74c849c9f47d3f27852ce7e7a8dbd8bf06d07dfd", func := "papermill/papermilllaw13.IsoSingles", spec := "isoSingles", unfollowed := true, recurses := true, apart := false }
def IsoSinglesSaid : Prop := isoSinglesRow.holds Try.pinned (OpenSpec.ofChange isoSinglesSpec)

/-- ITS FALSE NEIGHBOUR: 'it returns false'. Refute it at one input. -/
def isoSinglesWrong : ChangeSpec := { name := "isoSingles", fn := fun _ => fun
  | [d1, d2] => { results := [.lit (.bool false)], args := [d1, d2] }
  | _ => none }
def IsoSinglesWrongFalsely : Prop := isoSinglesRow.holds Try.pinned (OpenSpec.ofChange isoSinglesWrong)

/-- 'papermilllaw13.IsoParts': WHATEVER THE INPUT: true; the input reads as it did. -/
def isoPartsSpec : ChangeSpec := { name := "isoParts", fn := fun _ => fun
  | [d1, d2, d3] => { results := [.lit (.bool true)], args := [d1, d2, d3] }
  | _ => none }
def isoPartsRow : OpenClaim := { program := "ytcnkmdonbpgjiaa", sum := "5e10df70bbd43a739d7a933f74c849c9f47d3f27852ce7e7a8dbd8bf06d07dfd", func := "papermill/papermilllaw13.IsoParts", spec := "isoParts", unfollowed := true, recurses := true, apart := false }
def IsoPartsSaid : Prop := isoPartsRow.holds Try.pinned (OpenSpec.ofChange isoPartsSpec)

/-- ITS FALSE NEIGHBOUR: 'it returns false'. Refute it at one input. -/
def isoPartsWrong : ChangeSpec := { name := "isoParts", fn := fun _ => fun
  | [d1, d2, d3] => { results := [.lit (.bool false)], args := [d1, d2, d3] }
  | _ => none }
def IsoPartsWrongFalsely : Prop := isoPartsRow.holds Try.pinned (OpenSpec.ofChange isoPartsWrong)

/-- 'papermilllaw13.IsoCompose': WHATEVER THE INPUT: true; the input reads as it did. -/
def isoComposeSpec : ChangeSpec := { name := "isoCompose", fn := fun _ => fun
  | [d1, d2, d3] => { results := [.lit (.bool true)], args := [d1, d2, d3] }
  | _ => none }
def isoComposeRow : OpenClaim := { program := "ytcnkmdonbpgjiaa", sum := "5e10df70bbd43a739d7a933f74c849c9f47d3f27852ce7e7a8dbd8bf06d07dfd", func := "papermill/papermilllaw13.IsoCompose", spec := "isoCompose", unfollowed := true, recurses := true, apart := false }
def IsoComposeSaid : Prop := isoComposeRow.holds Try.pinned (OpenSpec.ofChange isoComposeSpec)

/-- ITS FALSE NEIGHBOUR: 'it returns false'. Refute it at one input. -/
def isoComposeWrong : ChangeSpec := { name := "isoCompose", fn := fun _ => fun
  | [d1, d2, d3] => { results := [.lit (.bool false)], args := [d1, d2, d3] }
  | _ => none }
def IsoComposeWrongFalsely : Prop := isoComposeRow.holds Try.pinned (OpenSpec.ofChange isoComposeWrong)

/-- 'papermilllaw13.IsoHalves': WHATEVER THE INPUT: true; the input reads as it did. -/
def isoHalvesSpec : ChangeSpec := { name := "isoHalves", fn := fun _ => fun
  | [d1, d2] => { results := [.lit (.bool true)], args := [d1, d2] }
  | _ => none }
def isoHalvesRow : OpenClaim := { program := "ytcnkmdonbpgjiaa", sum := "5e10df70bbd43a739d7a933f74c849c9f47d3f27852ce7e7a8dbd8bf06d07dfd", func := "papermill/papermilllaw13.IsoHalves", spec := "isoHalves", unfollowed := true, recurses := true, apart := false }
def IsoHalvesSaid : Prop := isoHalvesRow.holds Try.pinned (OpenSpec.ofChange isoHalvesSpec)

/-- ITS FALSE NEIGHBOUR: 'it returns false'. Refute it at one input. -/
def isoHalvesWrong : ChangeSpec := { name := "isoHalves", fn := fun _ => fun
  | [d1, d2] => { results := [.lit (.bool false)], args := [d1, d2] }
  | _ => none }
def IsoHalvesWrongFalsely : Prop := isoHalvesRow.holds Try.pinned (OpenSpec.ofChange isoHalvesWrong)

/- THE SECOND FORM. 'bulk': how many values and letters a reading holds, each counted each time it is reached (what is shared counts as often as it is met; a slice's spare places count too). A statement '..UptoSaid' is the law's where the arguments, and the package variables that the reading takes, are together of bulk at most 1048576: NARROWER than '..Said'. Prove '..Said' where nothing that the law and all that it calls make is longer than what came in: it says more and counts as full. Else prove '..UptoSaid'. A law counts once. -/
mutual
def uptoBulk {H : Type} : DataW H → Nat
  | .lit (.string bytes) => bytes.length + 1
  | .lit _ => 1
  | .nil => 1
  | .ptr d => uptoBulk d + 1
  | .slice elems spare => uptoBulkAll elems + uptoBulkAll spare + 1
  | .agg parts => uptoBulkAll parts + 1
  | .iface _ d => uptoBulk d + 1
  | .map entries => uptoBulkEntries entries + 1
  | .held _ => 1
def uptoBulkAll {H : Type} : List (DataW H) → Nat
  | [] => 0
  | d :: r => uptoBulk d + uptoBulkAll r
def uptoBulkEntries {H : Type} : List (Lit × DataW H) → Nat
  | [] => 0
  | x :: r => uptoBulkEntry x + uptoBulkEntries r
def uptoBulkEntry {H : Type} : Lit × DataW H → Nat
  | (.string bytes, d) => bytes.length + uptoBulk d + 1
  | (_, d) => uptoBulk d + 1
 end
def uptoSmall : (H : Type) → List (DataW H) → Bool := fun _ ds => decide (uptoBulkAll ds ≤ 1048576)
def OpenSpec.upto (s : _root_.Go.ChangeSpec) : _root_.Go.OpenSpec := { _root_.Go.OpenSpec.ofChange s with cond := some uptoSmall }

/-- 'papermilllaw13.IsoChecks', WHERE WHAT IT READS IS OF BULK AT MOST 1048576: true; the input reads as it did. -/
def isoChecksUptoRow : OpenClaim := { program := "ytcnkmdonbpgjiaa", sum := "5e10df70bbd43a739d7a933f74c849c9f47d3f27852ce7e7a8dbd8bf06d07dfd", func := "papermill/papermilllaw13.IsoChecks", spec := "isoChecks", unfollowed := true, recurses := true, apart := false, narrowed := true }
def IsoChecksUptoSaid : Prop := isoChecksUptoRow.holds Try.pinned (OpenSpec.upto isoChecksSpec)

/-- 'papermilllaw13.IsoComposes', WHERE WHAT IT READS IS OF BULK AT MOST 1048576: true; the input reads as it did. -/
def isoComposesUptoRow : OpenClaim := { program := "ytcnkmdonbpgjiaa", sum := "5e10df70bbd43a739d7a933f74c849c9f47d3f27852ce7e7a8dbd8bf06d07dfd", func := "papermill/papermilllaw13.IsoComposes", spec := "isoComposes", unfollowed := true, recurses := true, apart := false, narrowed := true }
def IsoComposesUptoSaid : Prop := isoComposesUptoRow.holds Try.pinned (OpenSpec.upto isoComposesSpec)

/-- 'papermilllaw13.IsoNormal', WHERE WHAT IT READS IS OF BULK AT MOST 1048576: true; the input reads as it did. -/
def isoNormalUptoRow : OpenClaim := { program := "ytcnkmdonbpgjiaa", sum := "5e10df70bbd43a739d7a933f74c849c9f47d3f27852ce7e7a8dbd8bf06d07dfd", func := "papermill/papermilllaw13.IsoNormal", spec := "isoNormal", unfollowed := true, recurses := true, apart := false, narrowed := true }
def IsoNormalUptoSaid : Prop := isoNormalUptoRow.holds Try.pinned (OpenSpec.upto isoNormalSpec)

/-- 'papermilllaw13.IsoChains', WHERE WHAT IT READS IS OF BULK AT MOST 1048576: true; the input reads as it did. -/
def isoChainsUptoRow : OpenClaim := { program := "ytcnkmdonbpgjiaa", sum := "5e10df70bbd43a739d7a933f74c849c9f47d3f27852ce7e7a8dbd8bf06d07dfd", func := "papermill/papermilllaw13.IsoChains", spec := "isoChains", unfollowed := true, recurses := true, apart := false, narrowed := true }
def IsoChainsUptoSaid : Prop := isoChainsUptoRow.holds Try.pinned (OpenSpec.upto isoChainsSpec)

/-- 'papermilllaw13.IsoImages', WHERE WHAT IT READS IS OF BULK AT MOST 1048576: true; the input reads as it did. -/
def isoImagesUptoRow : OpenClaim := { program := "ytcnkmdonbpgjiaa", sum := "5e10df70bbd43a739d7a933f74c849c9f47d3f27852ce7e7a8dbd8bf06d07dfd", func := "papermill/papermilllaw13.IsoImages", spec := "isoImages", unfollowed := true, recurses := true, apart := false, narrowed := true }
def IsoImagesUptoSaid : Prop := isoImagesUptoRow.holds Try.pinned (OpenSpec.upto isoImagesSpec)

/-- 'papermilllaw13.IsoSingles', WHERE WHAT IT READS IS OF BULK AT MOST 1048576: true; the input reads as it did. -/
def isoSinglesUptoRow : OpenClaim := { program := "ytcnkmdonbpgjiaa", sum := "5e10df70bbd43a739d7a933f74c849c9f47d3f27852ce7e7a8dbd8bf06d07dfd", func := "papermill/papermilllaw13.IsoSingles", spec := "isoSingles", unfollowed := true, recurses := true, apart := false, narrowed := true }
def IsoSinglesUptoSaid : Prop := isoSinglesUptoRow.holds Try.pinned (OpenSpec.upto isoSinglesSpec)

/-- 'papermilllaw13.IsoParts', WHERE WHAT IT READS IS OF BULK AT MOST 1048576: true; the input reads as it did. -/
def isoPartsUptoRow : OpenClaim := { program := "ytcnkmdonbpgjiaa", sum := "5e10df70bbd43a739d7a933f74c849c9f47d3f27852ce7e7a8dbd8bf06d07dfd", func := "papermill/papermilllaw13.IsoParts", spec := "isoParts", unfollowed := true, recurses := true, apart := false, narrowed := true }
def IsoPartsUptoSaid : Prop := isoPartsUptoRow.holds Try.pinned (OpenSpec.upto isoPartsSpec)

/-- 'papermilllaw13.IsoCompose', WHERE WHAT IT READS IS OF BULK AT MOST 1048576: true; the input reads as it did. -/
def isoComposeUptoRow : OpenClaim := { program := "ytcnkmdonbpgjiaa", sum := "5e10df70bbd43a739d7a933f74c849c9f47d3f27852ce7e7a8dbd8bf06d07dfd", func := "papermill/papermilllaw13.IsoCompose", spec := "isoCompose", unfollowed := true, recurses := true, apart := false, narrowed := true }
def IsoComposeUptoSaid : Prop := isoComposeUptoRow.holds Try.pinned (OpenSpec.upto isoComposeSpec)

/-- 'papermilllaw13.IsoHalves', WHERE WHAT IT READS IS OF BULK AT MOST 1048576: true; the input reads as it did. -/
def isoHalvesUptoRow : OpenClaim := { program := "ytcnkmdonbpgjiaa", sum := "5e10df70bbd43a739d7a933f74c849c9f47d3f27852ce7e7a8dbd8bf06d07dfd", func := "papermill/papermilllaw13.IsoHalves", spec := "isoHalves", unfollowed := true, recurses := true, apart := false, narrowed := true }
def IsoHalvesUptoSaid : Prop := isoHalvesUptoRow.holds Try.pinned (OpenSpec.upto isoHalvesSpec)

end Rows
end Go.Proofs.Ytcnkmdonbpgjiaa
