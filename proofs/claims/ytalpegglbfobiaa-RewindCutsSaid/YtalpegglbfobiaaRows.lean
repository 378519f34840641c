/-
  No cell of these rows narrows 'for every input' (looked for: loops, veiled, ifaces, maps, wideKeys, modest, calm, conditions, laid).
  DERIVED. THE GIVEN ROWS OF THIS SEAT. 8 by the template 'for every input the law returns true; each argument reads behind the call as it read before'; 0 by the template 'total and deterministic' (their statements: YtalpegglbfobiaaTotals.lean).
  GIVEN WITH THE SEED: the statements are not yours to turn. If you find one false, say at which input.
  Laid BY PROGRAM, IN A SANDBOX (cutbox-rows.mjs): the forced cells as the released guide's own fill.sh prints them over the translation 4f13f8b1b044afc6… (all of the seat's roots in one cut). By AI agents, Wed Nov 11 2026. No macro, syntax, notation, axiom, sorry.
-/
import Derived.Test.YtalpegglbfobiaaChecked
import GoSem.Claim
import GoSem.ClaimJoined
import GoSem.ClaimMapViews
import Derived.JoinedTies
import Derived.KernelRfl
namespace Go.Proofs.Ytalpegglbfobiaa
/- THE CELL 'sum', in the pinned program and in every row, IS THE sha256 OF THE DUMP (.gsa) THAT YtalpegglbfobiaaProg.lean LOADS. Nothing in Lean hashes anything: it is a label: what it is worth is what the hold of that sum in a sandbox is worth. -/
noncomputable def Try.pinned : Pinned := { name := "ytalpegglbfobiaa", sum := "4f13f8b1b044afc66bfe57d429c6289abe00495db9f9e7d278688957f2a9418a", checked := Try.checked }
namespace Rows
def none {H : Type} : Left H := { results := [], args := [] }

/-- 'papermilllaw41.RewindWholes': WHATEVER THE INPUT: true; the input reads as it did. -/
def rewindWholesSpec : ChangeSpec := { name := "rewindWholes", fn := fun _ => fun
  | [d] => { results := [.lit (.bool true)], args := [d] }
  | _ => none }
def rewindWholesRow : OpenClaim := { program := "ytalpegglbfobiaa", sum := "4f13f8b1b044afc66bfe57d429c6289abe00495db9f9e7d278688957f2a9418a", func := "papermill/papermilllaw41.RewindWholes", spec := "rewindWholes", unfollowed := true, recurses := true, apart := false }
def RewindWholesSaid : Prop := rewindWholesRow.holds Try.pinned (OpenSpec.ofChange rewindWholesSpec)

/-- ITS FALSE NEIGHBOUR: 'it returns false'. Refute it at one input. -/
def rewindWholesWrong : ChangeSpec := { name := "rewindWholes", fn := fun _ => fun
  | [d] => { results := [.lit (.bool false)], args := [d] }
  | _ => none }
def RewindWholesWrongFalsely : Prop := rewindWholesRow.holds Try.pinned (OpenSpec.ofChange rewindWholesWrong)

/-- 'papermilllaw41.RewindCulls': WHATEVER THE INPUT: true; the input reads as it did. -/
def rewindCullsSpec : ChangeSpec := { name := "rewindCulls", fn := fun _ => fun
  | [d1, d2, d3] => { results := [.lit (.bool true)], args := [d1, d2, d3] }
  | _ => none }
def rewindCullsRow : OpenClaim := { program := "ytalpegglbfobiaa", sum := "4f13f8b1b044afc66bfe57d429c6289abe00495db9f9e7d278688957f2a9418a", func := "papermill/papermilllaw41.RewindCulls", spec := "rewindCulls", unfollowed := true, recurses := true, apart := false }
def RewindCullsSaid : Prop := rewindCullsRow.holds Try.pinned (OpenSpec.ofChange rewindCullsSpec)

/-- ITS FALSE NEIGHBOUR: 'it returns false'. Refute it at one input. -/
def rewindCullsWrong : ChangeSpec := { name := "rewindCulls", fn := fun _ => fun
  | [d1, d2, d3] => { results := [.lit (.bool false)], args := [d1, d2, d3] }
  | _ => none }
def RewindCullsWrongFalsely : Prop := rewindCullsRow.holds Try.pinned (OpenSpec.ofChange rewindCullsWrong)

/-- 'papermilllaw41.RewindSplits': WHATEVER THE INPUT: true; the input reads as it did. -/
def rewindSplitsSpec : ChangeSpec := { name := "rewindSplits", fn := fun _ => fun
  | [d1, d2] => { results := [.lit (.bool true)], args := [d1, d2] }
  | _ => none }
def rewindSplitsRow : OpenClaim := { program := "ytalpegglbfobiaa", sum := "4f13f8b1b044afc66bfe57d429c6289abe00495db9f9e7d278688957f2a9418a", func := "papermill/papermilllaw41.RewindSplits", spec := "rewindSplits", unfollowed := true, recurses := true, apart := false }
def RewindSplitsSaid : Prop := rewindSplitsRow.holds Try.pinned (OpenSpec.ofChange rewindSplitsSpec)

/-- ITS FALSE NEIGHBOUR: 'it returns false'. Refute it at one input. -/
def rewindSplitsWrong : ChangeSpec := { name := "rewindSplits", fn := fun _ => fun
  | [d1, d2] => { results := [.lit (.bool false)], args := [d1, d2] }
  | _ => none }
def RewindSplitsWrongFalsely : Prop := rewindSplitsRow.holds Try.pinned (OpenSpec.ofChange rewindSplitsWrong)

/-- 'papermilllaw41.RewindAfters': WHATEVER THE INPUT: true; the input reads as it did. -/
def rewindAftersSpec : ChangeSpec := { name := "rewindAfters", fn := fun _ => fun
  | [d] => { results := [.lit (.bool true)], args := [d] }
  | _ => none }
def rewindAftersRow : OpenClaim := { program := "ytalpegglbfobiaa", sum := "4f13f8b1b044afc66bfe57d429c6289abe00495db9f9e7d278688957f2a9418a", func := "papermill/papermilllaw41.RewindAfters", spec := "rewindAfters", unfollowed := true, recurses := true, apart := false }
def RewindAftersSaid : Prop := rewindAftersRow.holds Try.pinned (OpenSpec.ofChange rewindAftersSpec)

/-- ITS FALSE NEIGHBOUR: 'it returns false'. Refute it at one input. -/
def rewindAftersWrong : ChangeSpec := { name := "rewindAfters", fn := fun _ => fun
  | [d] => { results := [.lit (.bool false)], args := [d] }
  | _ => none }
def RewindAftersWrongFalsely : Prop := rewindAftersRow.holds Try.pinned (OpenSpec.ofChange rewindAftersWrong)

/-- 'papermilllaw41.RewindBacks': WHATEVER THE INPUT: true; the input reads as it did. -/
def rewindBacksSpec : ChangeSpec := { name := "rewindBacks", fn := fun _ => fun
  | [d] => { results := [.lit (.bool true)], args := [d] }
  | _ => none }
def rewindBacksRow : OpenClaim := { program := "ytalpegglbfobiaa", sum := "4f13f8b1b044afc66bfe57d429c6289abe00495db9f9e7d278688957f2a9418a", func := "papermill/papermilllaw41.RewindBacks", spec := "rewindBacks", unfollowed := true, recurses := true, apart := false }
def RewindBacksSaid : Prop := rewindBacksRow.holds Try.pinned (OpenSpec.ofChange rewindBacksSpec)

/-- ITS FALSE NEIGHBOUR: 'it returns false'. Refute it at one input. -/
def rewindBacksWrong : ChangeSpec := { name := "rewindBacks", fn := fun _ => fun
  | [d] => { results := [.lit (.bool false)], args := [d] }
  | _ => none }
def RewindBacksWrongFalsely : Prop := rewindBacksRow.holds Try.pinned (OpenSpec.ofChange rewindBacksWrong)

/-- 'papermilllaw41.RewindTwice': WHATEVER THE INPUT: true; the input reads as it did. -/
def rewindTwiceSpec : ChangeSpec := { name := "rewindTwice", fn := fun _ => fun
  | [d1, d2] => { results := [.lit (.bool true)], args := [d1, d2] }
  | _ => none }
def rewindTwiceRow : OpenClaim := { program := "ytalpegglbfobiaa", sum := "4f13f8b1b044afc66bfe57d429c6289abe00495db9f9e7d278688957f2a9418a", func := "papermill/papermilllaw41.RewindTwice", spec := "rewindTwice", unfollowed := true, recurses := true, apart := false }
def RewindTwiceSaid : Prop := rewindTwiceRow.holds Try.pinned (OpenSpec.ofChange rewindTwiceSpec)

/-- ITS FALSE NEIGHBOUR: 'it returns false'. Refute it at one input. -/
def rewindTwiceWrong : ChangeSpec := { name := "rewindTwice", fn := fun _ => fun
  | [d1, d2] => { results := [.lit (.bool false)], args := [d1, d2] }
  | _ => none }
def RewindTwiceWrongFalsely : Prop := rewindTwiceRow.holds Try.pinned (OpenSpec.ofChange rewindTwiceWrong)

/-- 'papermilllaw41.RewindCuts': WHATEVER THE INPUT: true; the input reads as it did. -/
def rewindCutsSpec : ChangeSpec := { name := "rewindCuts", fn := fun _ => fun
  | [d1, d2, d3, d4] => { results := [.lit (.bool true)], args := [d1, d2, d3, d4] }
  | _ => none }
def rewindCutsRow : OpenClaim := { program := "ytalpegglbfobiaa", sum := "4f13f8b1b044afc66bfe57d429c6289abe00495db9f9e7d278688957f2a9418a", func := "papermill/papermilllaw41.RewindCuts", spec := "rewindCuts", unfollowed := true, recurses := true, apart := false }
def RewindCutsSaid : Prop := rewindCutsRow.holds Try.pinned (OpenSpec.ofChange rewindCutsSpec)

/-- ITS FALSE NEIGHBOUR: 'it returns false'. Refute it at one input. -/
def rewindCutsWrong : ChangeSpec := { name := "rewindCuts", fn := fun _ => fun
  | [d1, d2, d3, d4] => { results := [.lit (.bool false)], args := [d1, d2, d3, d4] }
  | _ => none }
def RewindCutsWrongFalsely : Prop := rewindCutsRow.holds Try.pinned (OpenSpec.ofChange rewindCutsWrong)

/-- 'papermilllaw41.RewindApart': WHATEVER THE INPUT: true; the input reads as it did. -/
def rewindApartSpec : ChangeSpec := { name := "rewindApart", fn := fun _ => fun
  | [d1, d2, d3, d4] => { results := [.lit (.bool true)], args := [d1, d2, d3, d4] }
  | _ => none }
def rewindApartRow : OpenClaim := { program := "ytalpegglbfobiaa", sum := "4f13f8b1b044afc66bfe57d429c6289abe00495db9f9e7d278688957f2a9418a", func := "papermill/papermilllaw41.RewindApart", spec := "rewindApart", unfollowed := true, recurses := true, apart := false }
def RewindApartSaid : Prop := rewindApartRow.holds Try.pinned (OpenSpec.ofChange rewindApartSpec)

/-- ITS FALSE NEIGHBOUR: 'it returns false'. Refute it at one input. -/
def rewindApartWrong : ChangeSpec := { name := "rewindApart", fn := fun _ => fun
  | [d1, d2, d3, d4] => { results := [.lit (.bool false)], args := [d1, d2, d3, d4] }
  | _ => none }
def RewindApartWrongFalsely : Prop := rewindApartRow.holds Try.pinned (OpenSpec.ofChange rewindApartWrong)

/- THE SECOND FORM. 'bulk': how many values and letters a reading holds, each counted each time it is reached (what is shared counts as often as it is met; a slice's spare places count too). A statement '..UptoSaid' is the law's where the arguments, and the package variables that the reading takes, are together of bulk at most 1048576: NARROWER than '..Said'. Prove '..Said' where nothing that the law and all that it calls make is longer than what came in: it says more and counts as full. Else prove '..UptoSaid'. A law counts once. -/
mutual
def uptoBulk {H : Type} : DataW H → Nat
  | .lit (.string bytes) => bytes.length + 1
  | .lit _ => 1
  | .nil => 1
  | .ptr d => uptoBulk d + 1
  | .slice elems spare => uptoBulkAll elems + uptoBulkAll spare + 1
  | .agg parts => uptoBulkAll parts + 1
  | .iface _ d => uptoBulk d + 1
  | .map entries => uptoBulkEntries entries + 1
  | .held _ => 1
def uptoBulkAll {H : Type} : List (DataW H) → Nat
  | [] => 0
  | d :: r => uptoBulk d + uptoBulkAll r
def uptoBulkEntries {H : Type} : List (Lit × DataW H) → Nat
  | [] => 0
  | x :: r => uptoBulkEntry x + uptoBulkEntries r
def uptoBulkEntry {H : Type} : Lit × DataW H → Nat
  | (.string bytes, d) => bytes.length + uptoBulk d + 1
  | (_, d) => uptoBulk d + 1
 end
def uptoSmall : (H : Type) → List (DataW H) → Bool := fun _ ds => decide (uptoBulkAll ds ≤ 1048576)
def OpenSpec.upto (s : _root_.Go.ChangeSpec) : _root_.Go.OpenSpec := { _root_.Go.OpenSpec.ofChange s with cond := some uptoSmall }

/-- 'papermilllaw41.RewindWholes', WHERE WHAT IT READS IS OF BULK AT MOST 1048576: true; the input reads as it did. -/
def rewindWholesUptoRow : OpenClaim := { program := "ytalpegglbfobiaa", sum := "4f13f8b1b044afc66bfe57d429c6289abe00495db9f9e7d278688957f2a9418a", func := "papermill/papermilllaw41.RewindWholes", spec := "rewindWholes", unfollowed := true, recurses := true, apart := false, narrowed := true }
def RewindWholesUptoSaid : Prop := rewindWholesUptoRow.holds Try.pinned (OpenSpec.upto rewindWholesSpec)

/-- 'papermilllaw41.RewindCulls', WHERE WHAT IT READS IS OF BULK AT MOST 1048576: true; the input reads as it did. -/
def rewindCullsUptoRow : OpenClaim := { program := "ytalpegglbfobiaa", sum := "4f13f8b1b044afc66bfe57d429c6289abe00495db9f9e7d278688957f2a9418a", func := "papermill/papermilllaw41.RewindCulls", spec := "rewindCulls", unfollowed := true, recurses := true, apart := false, narrowed := true }
def RewindCullsUptoSaid : Prop := rewindCullsUptoRow.holds Try.pinned (OpenSpec.upto rewindCullsSpec)

/-- 'papermilllaw41.RewindSplits', WHERE WHAT IT READS IS OF BULK AT MOST 1048576: true; the input reads as it did. -/
def rewindSplitsUptoRow : OpenClaim := { program := "ytalpegglbfobiaa", sum := "4f13f8b1b044afc66bfe57d429c6289abe00495db9f9e7d278688957f2a9418a", func := "papermill/papermilllaw41.RewindSplits", spec := "rewindSplits", unfollowed := true, recurses := true, apart := false, narrowed := true }
def RewindSplitsUptoSaid : Prop := rewindSplitsUptoRow.holds Try.pinned (OpenSpec.upto rewindSplitsSpec)

/-- 'papermilllaw41.RewindAfters', WHERE WHAT IT READS IS OF BULK AT MOST 1048576: true; the input reads as it did. -/
def rewindAftersUptoRow : OpenClaim := { program := "ytalpegglbfobiaa", sum := "4f13f8b1b044afc66bfe57d429c6289abe00495db9f9e7d278688957f2a9418a", func := "papermill/papermilllaw41.RewindAfters", spec := "rewindAfters", unfollowed := true, recurses := true, apart := false, narrowed := true }
def RewindAftersUptoSaid : Prop := rewindAftersUptoRow.holds Try.pinned (OpenSpec.upto rewindAftersSpec)

/-- 'papermilllaw41.RewindBacks', WHERE WHAT IT READS IS OF BULK AT MOST 1048576: true; the input reads as it did. -/
def rewindBacksUptoRow : OpenClaim := { program := "ytalpegglbfobiaa", sum := "4f13f8b1b044afc66bfe57d429c6289abe00495db9f9e7d278688957f2a9418a", func := "papermill/papermilllaw41.RewindBacks", spec := "rewindBacks", unfollowed := true, recurses := true, apart := false, narrowed := true }
def RewindBacksUptoSaid : Prop := rewindBacksUptoRow.holds Try.pinned (OpenSpec.upto rewindBacksSpec)

/-- 'papermilllaw41.RewindTwice', WHERE WHAT IT READS IS OF BULK AT MOST 1048576: true; the input reads as it did. -/
def rewindTwiceUptoRow : OpenClaim := { program := "ytalpegglbfobiaa", sum := "4f13f8b1b044afc66bfe57d429c6289abe00495db9f9e7d278688957f2a9418a", func := "papermill/papermilllaw41.RewindTwice", spec := "rewindTwice", unfollowed := true, recurses := true, apart := false, narrowed := true }
def RewindTwiceUptoSaid : Prop := rewindTwiceUptoRow.holds Try.pinned (OpenSpec.upto rewindTwiceSpec)

/-- 'papermilllaw41.RewindCuts', WHERE WHAT IT READS IS OF BULK AT MOST 1048576: true; the input reads as it did. -/
def rewindCutsUptoRow : OpenClaim := { program := "ytalpegglbfobiaa", sum := "4f13f8b1b044afc66bfe57d429c6289abe00495db9f9e7d278688957f2a9418a", func := "papermill/papermilllaw41.RewindCuts", spec := "rewindCuts", unfollowed := true, recurses := true, apart := false, narrowed := true }
def RewindCutsUptoSaid : Prop := rewindCutsUptoRow.holds Try.pinned (OpenSpec.upto rewindCutsSpec)

/-- 'papermilllaw41.RewindApart', WHERE WHAT IT READS IS OF BULK AT MOST 1048576: true; the input reads as it did. -/
def rewindApartUptoRow : OpenClaim := { program := "ytalpegglbfobiaa", sum := "4f13f8b1b044afc66bfe57d429c6289abe00495db9f9e7d278688957f2a9418a", func := "papermill/papermilllaw41.RewindApart", spec := "rewindApart", unfollowed := true, recurses := true, apart := false, narrowed := true }
def RewindApartUptoSaid : Prop := rewindApartUptoRow.holds Try.pinned (OpenSpec.upto rewindApartSpec)

end Rows
end Go.Proofs.Ytalpegglbfobiaa
