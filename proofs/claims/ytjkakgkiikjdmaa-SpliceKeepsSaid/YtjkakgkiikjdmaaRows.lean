/-
  No cell of these rows narrows 'for every input' (looked for: loops, veiled, ifaces, maps, wideKeys, modest, calm, conditions, laid).
  DERIVED. THE GIVEN ROWS OF THIS SEAT. 8 by the template 'for every input the law returns true; each argument reads behind the call as it read before'; 0 by the template 'total and deterministic' (their statements: YtjkakgkiikjdmaaTotals.lean).
  GIVEN WITH THE SEED: the statements are not yours to turn. If you find one false, say at which input.
  Laid BY PROGRAM, IN A SANDBOX (cutbox-rows.mjs): the forced cells as the released guide's own fill.sh prints them over the translation 6340c9573456f02a… (all of the seat's roots in one cut). By AI agents, Wed Nov 11 2026. No macro, syntax, notation, axiom, sorry.
-/
import Derived.Test.YtjkakgkiikjdmaaChecked
import GoSem.Claim
import GoSem.ClaimJoined
import GoSem.ClaimMapViews
import Derived.JoinedTies
import Derived.KernelRfl
namespace Go.Proofs.Ytjkakgkiikjdmaa
/- THE CELL 'sum', in the pinned program and in every row, IS THE sha256 OF THE DUMP (.gsa) THAT YtjkakgkiikjdmaaProg.lean LOADS. Nothing in Lean hashes anything: it is a label: what it is worth is what the hold of that sum in a sandbox is worth. -/
noncomputable def Try.pinned : Pinned := { name := "ytjkakgkiikjdmaa", sum := "6340c9573456f02a74cf9c22265e020472f493d3e08f468d7e8a3858e3698023", checked := Try.checked }
namespace Rows
def none {H : Type} : Left H := { results := [], args := [] }

/-- 'papermilllaw40.SpliceCuts': WHATEVER THE INPUT: true; the input reads as it did. -/
def spliceCutsSpec : ChangeSpec := { name := "spliceCuts", fn := fun _ => fun
  | [d1, d2, d3] => { results := [.lit (.bool true)], args := [d1, d2, d3] }
  | _ => none }
def spliceCutsRow : OpenClaim := { program := "ytjkakgkiikjdmaa", sum := "6340c9573456f02a74cf9c22265e020472f493d3e08f468d7e8a3858e3698023", func := "papermill/papermilllaw40.SpliceCuts", spec := "spliceCuts", unfollowed := true, recurses := true, apart := false }
def SpliceCutsSaid : Prop := spliceCutsRow.holds Try.pinned (OpenSpec.ofChange spliceCutsSpec)

/-- ITS FALSE NEIGHBOUR: 'it returns false'. Refute it at one input. -/
def spliceCutsWrong : ChangeSpec := { name := "spliceCuts", fn := fun _ => fun
  | [d1, d2, d3] => { results := [.lit (.bool false)], args := [d1, d2, d3] }
  | _ => none }
def SpliceCutsWrongFalsely : Prop := spliceCutsRow.holds Try.pinned (OpenSpec.ofChange spliceCutsWrong)

/-- 'papermilllaw40.SpliceRuns': WHATEVER THE INPUT: true; the input reads as it did. -/
def spliceRunsSpec : ChangeSpec := { name := "spliceRuns", fn := fun _ => fun
  | [d] => { results := [.lit (.bool true)], args := [d] }
  | _ => none }
def spliceRunsRow : OpenClaim := { program := "ytjkakgkiikjdmaa", sum := "6340c9573456f02a74cf9c22265e020472f493d3e08f468d7e8a3858e3698023", func := "papermill/papermilllaw40.SpliceRuns", spec := "spliceRuns", unfollowed := true, recurses := true, apart := false }
def SpliceRunsSaid : Prop := spliceRunsRow.holds Try.pinned (OpenSpec.ofChange spliceRunsSpec)

/-- ITS FALSE NEIGHBOUR: 'it returns false'. Refute it at one input. -/
def spliceRunsWrong : ChangeSpec := { name := "spliceRuns", fn := fun _ => fun
  | [d] => { results := [.lit (.bool false)], args := [d] }
  | _ => none }
def SpliceRunsWrongFalsely : Prop := spliceRunsRow.holds Try.pinned (OpenSpec.ofChange spliceRunsWrong)

/-- 'papermilllaw40.SplicePlaces': WHATEVER THE INPUT: true; the input reads as it did. -/
def splicePlacesSpec : ChangeSpec := { name := "splicePlaces", fn := fun _ => fun
  | [d] => { results := [.lit (.bool true)], args := [d] }
  | _ => none }
def splicePlacesRow : OpenClaim := { program := "ytjkakgkiikjdmaa", sum := "6340c9573456f02a74cf9c22265e020472f493d3e08f468d7e8a3858e3698023", func := "papermill/papermilllaw40.SplicePlaces", spec := "splicePlaces", unfollowed := true, recurses := true, apart := false }
def SplicePlacesSaid : Prop := splicePlacesRow.holds Try.pinned (OpenSpec.ofChange splicePlacesSpec)

/-- ITS FALSE NEIGHBOUR: 'it returns false'. Refute it at one input. -/
def splicePlacesWrong : ChangeSpec := { name := "splicePlaces", fn := fun _ => fun
  | [d] => { results := [.lit (.bool false)], args := [d] }
  | _ => none }
def SplicePlacesWrongFalsely : Prop := splicePlacesRow.holds Try.pinned (OpenSpec.ofChange splicePlacesWrong)

/-- 'papermilllaw40.SpliceAllows': WHATEVER THE INPUT: true; the input reads as it did. -/
def spliceAllowsSpec : ChangeSpec := { name := "spliceAllows", fn := fun _ => fun
  | [d1, d2, d3] => { results := [.lit (.bool true)], args := [d1, d2, d3] }
  | _ => none }
def spliceAllowsRow : OpenClaim := { program := "ytjkakgkiikjdmaa", sum := "6340c9573456f02a74cf9c22265e020472f493d3e08f468d7e8a3858e3698023", func := "papermill/papermilllaw40.SpliceAllows", spec := "spliceAllows", unfollowed := true, recurses := true, apart := false }
def SpliceAllowsSaid : Prop := spliceAllowsRow.holds Try.pinned (OpenSpec.ofChange spliceAllowsSpec)

/-- ITS FALSE NEIGHBOUR: 'it returns false'. Refute it at one input. -/
def spliceAllowsWrong : ChangeSpec := { name := "spliceAllows", fn := fun _ => fun
  | [d1, d2, d3] => { results := [.lit (.bool false)], args := [d1, d2, d3] }
  | _ => none }
def SpliceAllowsWrongFalsely : Prop := spliceAllowsRow.holds Try.pinned (OpenSpec.ofChange spliceAllowsWrong)

/-- 'papermilllaw40.SpliceMore': WHATEVER THE INPUT: true; the input reads as it did. -/
def spliceMoreSpec : ChangeSpec := { name := "spliceMore", fn := fun _ => fun
  | [d1, d2, d3] => { results := [.lit (.bool true)], args := [d1, d2, d3] }
  | _ => none }
def spliceMoreRow : OpenClaim := { program := "ytjkakgkiikjdmaa", sum := "6340c9573456f02a74cf9c22265e020472f493d3e08f468d7e8a3858e3698023", func := "papermill/papermilllaw40.SpliceMore", spec := "spliceMore", unfollowed := true, recurses := true, apart := false }
def SpliceMoreSaid : Prop := spliceMoreRow.holds Try.pinned (OpenSpec.ofChange spliceMoreSpec)

/-- ITS FALSE NEIGHBOUR: 'it returns false'. Refute it at one input. -/
def spliceMoreWrong : ChangeSpec := { name := "spliceMore", fn := fun _ => fun
  | [d1, d2, d3] => { results := [.lit (.bool false)], args := [d1, d2, d3] }
  | _ => none }
def SpliceMoreWrongFalsely : Prop := spliceMoreRow.holds Try.pinned (OpenSpec.ofChange spliceMoreWrong)

/-- 'papermilllaw40.SpliceRolls': WHATEVER THE INPUT: true; the input reads as it did. -/
def spliceRollsSpec : ChangeSpec := { name := "spliceRolls", fn := fun _ => fun
  | [d1, d2, d3] => { results := [.lit (.bool true)], args := [d1, d2, d3] }
  | _ => none }
def spliceRollsRow : OpenClaim := { program := "ytjkakgkiikjdmaa", sum := "6340c9573456f02a74cf9c22265e020472f493d3e08f468d7e8a3858e3698023", func := "papermill/papermilllaw40.SpliceRolls", spec := "spliceRolls", unfollowed := true, recurses := true, apart := false }
def SpliceRollsSaid : Prop := spliceRollsRow.holds Try.pinned (OpenSpec.ofChange spliceRollsSpec)

/-- ITS FALSE NEIGHBOUR: 'it returns false'. Refute it at one input. -/
def spliceRollsWrong : ChangeSpec := { name := "spliceRolls", fn := fun _ => fun
  | [d1, d2, d3] => { results := [.lit (.bool false)], args := [d1, d2, d3] }
  | _ => none }
def SpliceRollsWrongFalsely : Prop := spliceRollsRow.holds Try.pinned (OpenSpec.ofChange spliceRollsWrong)

/-- 'papermilllaw40.SpliceKeeps': WHATEVER THE INPUT: true; the input reads as it did. -/
def spliceKeepsSpec : ChangeSpec := { name := "spliceKeeps", fn := fun _ => fun
  | [d1, d2, d3] => { results := [.lit (.bool true)], args := [d1, d2, d3] }
  | _ => none }
def spliceKeepsRow : OpenClaim := { program := "ytjkakgkiikjdmaa", sum := "6340c9573456f02a74cf9c22265e020472f493d3e08f468d7e8a3858e3698023", func := "papermill/papermilllaw40.SpliceKeeps", spec := "spliceKeeps", unfollowed := true, recurses := true, apart := false }
def SpliceKeepsSaid : Prop := spliceKeepsRow.holds Try.pinned (OpenSpec.ofChange spliceKeepsSpec)

/-- ITS FALSE NEIGHBOUR: 'it returns false'. Refute it at one input. -/
def spliceKeepsWrong : ChangeSpec := { name := "spliceKeeps", fn := fun _ => fun
  | [d1, d2, d3] => { results := [.lit (.bool false)], args := [d1, d2, d3] }
  | _ => none }
def SpliceKeepsWrongFalsely : Prop := spliceKeepsRow.holds Try.pinned (OpenSpec.ofChange spliceKeepsWrong)

/-- 'papermilllaw40.SpliceJoins': WHATEVER THE INPUT: true; the input reads as it did. -/
def spliceJoinsSpec : ChangeSpec := { name := "spliceJoins", fn := fun _ => fun
  | [d1, d2, d3] => { results := [.lit (.bool true)], args := [d1, d2, d3] }
  | _ => none }
def spliceJoinsRow : OpenClaim := { program := "ytjkakgkiikjdmaa", sum := "6340c9573456f02a74cf9c22265e020472f493d3e08f468d7e8a3858e3698023", func := "papermill/papermilllaw40.SpliceJoins", spec := "spliceJoins", unfollowed := true, recurses := true, apart := false }
def SpliceJoinsSaid : Prop := spliceJoinsRow.holds Try.pinned (OpenSpec.ofChange spliceJoinsSpec)

/-- ITS FALSE NEIGHBOUR: 'it returns false'. Refute it at one input. -/
def spliceJoinsWrong : ChangeSpec := { name := "spliceJoins", fn := fun _ => fun
  | [d1, d2, d3] => { results := [.lit (.bool false)], args := [d1, d2, d3] }
  | _ => none }
def SpliceJoinsWrongFalsely : Prop := spliceJoinsRow.holds Try.pinned (OpenSpec.ofChange spliceJoinsWrong)

/- THE SECOND FORM. 'bulk': how many values and letters a reading holds, each counted each time it is reached (what is shared counts as often as it is met; a slice's spare places count too). A statement '..UptoSaid' is the law's where the arguments, and the package variables that the reading takes, are together of bulk at most 1048576: NARROWER than '..Said'. Prove '..Said' where nothing that the law and all that it calls make is longer than what came in: it says more and counts as full. Else prove '..UptoSaid'. A law counts once. -/
mutual
def uptoBulk {H : Type} : DataW H → Nat
  | .lit (.string bytes) => bytes.length + 1
  | .lit _ => 1
  | .nil => 1
  | .ptr d => uptoBulk d + 1
  | .slice elems spare => uptoBulkAll elems + uptoBulkAll spare + 1
  | .agg parts => uptoBulkAll parts + 1
  | .iface _ d => uptoBulk d + 1
  | .map entries => uptoBulkEntries entries + 1
  | .held _ => 1
def uptoBulkAll {H : Type} : List (DataW H) → Nat
  | [] => 0
  | d :: r => uptoBulk d + uptoBulkAll r
def uptoBulkEntries {H : Type} : List (Lit × DataW H) → Nat
  | [] => 0
  | x :: r => uptoBulkEntry x + uptoBulkEntries r
def uptoBulkEntry {H : Type} : Lit × DataW H → Nat
  | (.string bytes, d) => bytes.length + uptoBulk d + 1
  | (_, d) => uptoBulk d + 1
 end
def uptoSmall : (H : Type) → List (DataW H) → Bool := fun _ ds => decide (uptoBulkAll ds ≤ 1048576)
def OpenSpec.upto (s : _root_.Go.ChangeSpec) : _root_.Go.OpenSpec := { _root_.Go.OpenSpec.ofChange s with cond := some uptoSmall }

/-- 'papermilllaw40.SpliceCuts', WHERE WHAT IT READS IS OF BULK AT MOST 1048576: true; the input reads as it did. -/
def spliceCutsUptoRow : OpenClaim := { program := "ytjkakgkiikjdmaa", sum := "6340c9573456f02a74cf9c22265e020472f493d3e08f468d7e8a3858e3698023", func := "papermill/papermilllaw40.SpliceCuts", spec := "spliceCuts", unfollowed := true, recurses := true, apart := false, narrowed := true }
def SpliceCutsUptoSaid : Prop := spliceCutsUptoRow.holds Try.pinned (OpenSpec.upto spliceCutsSpec)

/-- 'papermilllaw40.SpliceRuns', WHERE WHAT IT READS IS OF BULK AT MOST 1048576: true; the input reads as it did. -/
def spliceRunsUptoRow : OpenClaim := { program := "ytjkakgkiikjdmaa", sum := "6340c9573456f02a74cf9c22265e020472f493d3e08f468d7e8a3858e3698023", func := "papermill/papermilllaw40.SpliceRuns", spec := "spliceRuns", unfollowed := true, recurses := true, apart := false, narrowed := true }
def SpliceRunsUptoSaid : Prop := spliceRunsUptoRow.holds Try.pinned (OpenSpec.upto spliceRunsSpec)

/-- 'papermilllaw40.SplicePlaces', WHERE WHAT IT READS IS OF BULK AT MOST 1048576: true; the input reads as it did. -/
def splicePlacesUptoRow : OpenClaim := { program := "ytjkakgkiikjdmaa", sum := "6340c9573456f02a74cf9c22265e020472f493d3e08f468d7e8a3858e3698023", func := "papermill/papermilllaw40.SplicePlaces", spec := "splicePlaces", unfollowed := true, recurses := true, apart := false, narrowed := true }
def SplicePlacesUptoSaid : Prop := splicePlacesUptoRow.holds Try.pinned (OpenSpec.upto splicePlacesSpec)

/-- 'papermilllaw40.SpliceAllows', WHERE WHAT IT READS IS OF BULK AT MOST 1048576: true; the input reads as it did. -/
def spliceAllowsUptoRow : OpenClaim := { program := "ytjkakgkiikjdmaa", sum := "6340c9573456f02a74cf9c22265e020472f493d3e08f468d7e8a3858e3698023", func := "papermill/papermilllaw40.SpliceAllows", spec := "spliceAllows", unfollowed := true, recurses := true, apart := false, narrowed := true }
def SpliceAllowsUptoSaid : Prop := spliceAllowsUptoRow.holds Try.pinned (OpenSpec.upto spliceAllowsSpec)

/-- 'papermilllaw40.SpliceMore', WHERE WHAT IT READS IS OF BULK AT MOST 1048576: true; the input reads as it did. -/
def spliceMoreUptoRow : OpenClaim := { program := "ytjkakgkiikjdmaa", sum := "6340c9573456f02a74cf9c22265e020472f493d3e08f468d7e8a3858e3698023", func := "papermill/papermilllaw40.SpliceMore", spec := "spliceMore", unfollowed := true, recurses := true, apart := false, narrowed := true }
def SpliceMoreUptoSaid : Prop := spliceMoreUptoRow.holds Try.pinned (OpenSpec.upto spliceMoreSpec)

/-- 'papermilllaw40.SpliceRolls', WHERE WHAT IT READS IS OF BULK AT MOST 1048576: true; the input reads as it did. -/
def spliceRollsUptoRow : OpenClaim := { program := "ytjkakgkiikjdmaa", sum := "6340c9573456f02a74cf9c22265e020472f493d3e08f468d7e8a3858e3698023", func := "papermill/papermilllaw40.SpliceRolls", spec := "spliceRolls", unfollowed := true, recurses := true, apart := false, narrowed := true }
def SpliceRollsUptoSaid : Prop := spliceRollsUptoRow.holds Try.pinned (OpenSpec.upto spliceRollsSpec)

/-- 'papermilllaw40.SpliceKeeps', WHERE WHAT IT READS IS OF BULK AT MOST 1048576: true; the input reads as it did. -/
def spliceKeepsUptoRow : OpenClaim := { program := "ytjkakgkiikjdmaa", sum := "6340c9573456f02a74cf9c22265e020472f493d3e08f468d7e8a3858e3698023", func := "papermill/papermilllaw40.SpliceKeeps", spec := "spliceKeeps", unfollowed := true, recurses := true, apart := false, narrowed := true }
def SpliceKeepsUptoSaid : Prop := spliceKeepsUptoRow.holds Try.pinned (OpenSpec.upto spliceKeepsSpec)

/-- 'papermilllaw40.SpliceJoins', WHERE WHAT IT READS IS OF BULK AT MOST 1048576: true; the input reads as it did. -/
def spliceJoinsUptoRow : OpenClaim := { program := "ytjkakgkiikjdmaa", sum := "6340c9573456f02a74cf9c22265e020472f493d3e08f468d7e8a3858e3698023", func := "papermill/papermilllaw40.SpliceJoins", spec := "spliceJoins", unfollowed := true, recurses := true, apart := false, narrowed := true }
def SpliceJoinsUptoSaid : Prop := spliceJoinsUptoRow.holds Try.pinned (OpenSpec.upto spliceJoinsSpec)

end Rows
end Go.Proofs.Ytjkakgkiikjdmaa
