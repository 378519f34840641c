/-
  No cell of these rows narrows 'for every input' (looked for: loops, veiled, ifaces, maps, wideKeys, modest, calm, conditions, laid).
  DERIVED. THE GIVEN ROWS OF THIS SEAT. 9 by the template 'for every input the law returns true; each argument reads behind the call as it read before'; 0 by the template 'total and deterministic' (their statements: YtnfcpcgbdoiiiaaTotals.lean).
  GIVEN WITH THE SEED: the statements are not yours to turn. If you find one false, say at which input.
  Laid BY PROGRAM, IN A SANDBOX (cutbox-rows.mjs): the forced cells as the released guide's own fill.sh prints them over the translation 8782e047e6a4772d… (all of the seat's roots in one cut). By AI agents, Wed Nov 11 2026. No macro, syntax, notation, axiom, sorry.
-/
import Derived.Test.YtnfcpcgbdoiiiaaChecked
import GoSem.Claim
import GoSem.ClaimJoined
import GoSem.ClaimMapViews
import Derived.JoinedTies
import Derived.KernelRfl
namespace Go.Proofs.Ytnfcpcgbdoiiiaa
/- THE CELL 'sum', in the pinned program and in every row, IS THE sha256 OF THE DUMP (.gsa) THAT YtnfcpcgbdoiiiaaProg.lean LOADS. Nothing in Lean hashes anything: it is a label: what it is worth is what the hold of that sum in a sandbox is worth. -/
noncomputable def Try.pinned : Pinned := { name := "ytnfcpcgbdoiiiaa", sum := "8782e047e6a4772d0e94c7e821eb1e88ccab103117dd10cbae725b41da1ae6c0", checked := Try.checked }
namespace Rows
def none {H : Type} : Left H := { results := [], args := [] }

/-- 'papermilllaw52.SheetCuts': WHATEVER THE INPUT: true; the input reads as it did. -/
def sheetCutsSpec : ChangeSpec := { name := "sheetCuts", fn := fun _ => fun
  | [d1, d2, d3] => { results := [.lit (.bool true)], args := [d1, d2, d3] }
  | _ => none }
def sheetCutsRow : OpenClaim := { program := "ytnfcpcgbdoiiiaa", sum := "8782e047e6a4772d0e94c7e821eb1e88ccab103117dd10cbae725b41da1ae6c0", func := "papermill/papermilllaw52.SheetCuts", spec := "sheetCuts", unfollowed := true, recurses := true, apart := false }
def SheetCutsSaid : Prop := sheetCutsRow.holds Try.pinned (OpenSpec.ofChange sheetCutsSpec)

/-- ITS FALSE NEIGHBOUR: 'it returns false'. Refute it at one input. -/
def sheetCutsWrong : ChangeSpec := { name := "sheetCuts", fn := fun _ => fun
  | [d1, d2, d3] => { results := [.lit (.bool false)], args := [d1, d2, d3] }
  | _ => none }
def SheetCutsWrongFalsely : Prop := sheetCutsRow.holds Try.pinned (OpenSpec.ofChange sheetCutsWrong)

/-- 'papermilllaw52.SheetNumbers': WHATEVER THE INPUT: true; the input reads as it did. -/
def sheetNumbersSpec : ChangeSpec := { name := "sheetNumbers", fn := fun _ => fun
  | [d1, d2, d3, d4] => { results := [.lit (.bool true)], args := [d1, d2, d3, d4] }
  | _ => none }
def sheetNumbersRow : OpenClaim := { program := "ytnfcpcgbdoiiiaa", sum := "8782e047e6a4772d0e94c7e821eb1e88ccab103117dd10cbae725b41da1ae6c0", func := "papermill/papermilllaw52.SheetNumbers", spec := "sheetNumbers", unfollowed := true, recurses := true, apart := false }
def SheetNumbersSaid : Prop := sheetNumbersRow.holds Try.pinned (OpenSpec.ofChange sheetNumbersSpec)

/-- ITS FALSE NEIGHBOUR: 'it returns false'. Refute it at one input. -/
def sheetNumbersWrong : ChangeSpec := { name := "sheetNumbers", fn := fun _ => fun
  | [d1, d2, d3, d4] => { results := [.lit (.bool false)], args := [d1, d2, d3, d4] }
  | _ => none }
def SheetNumbersWrongFalsely : Prop := sheetNumbersRow.holds Try.pinned (OpenSpec.ofChange sheetNumbersWrong)

/-- 'papermilllaw52.SheetTogethers': WHATEVER THE INPUT: true; the input reads as it did. -/
def sheetTogethersSpec : ChangeSpec := { name := "sheetTogethers", fn := fun _ => fun
  | [d] => { results := [.lit (.bool true)], args := [d] }
  | _ => none }
def sheetTogethersRow : OpenClaim := { program := "ytnfcpcgbdoiiiaa", sum := "8782e047e6a4772d0e94c7e821eb1e88ccab103117dd10cbae725b41da1ae6c0", func := "papermill/papermilllaw52.SheetTogethers", spec := "sheetTogethers", unfollowed := true, recurses := true, apart := false }
def SheetTogethersSaid : Prop := sheetTogethersRow.holds Try.pinned (OpenSpec.ofChange sheetTogethersSpec)

/-- ITS FALSE NEIGHBOUR: 'it returns false'. Refute it at one input. -/
def sheetTogethersWrong : ChangeSpec := { name := "sheetTogethers", fn := fun _ => fun
  | [d] => { results := [.lit (.bool false)], args := [d] }
  | _ => none }
def SheetTogethersWrongFalsely : Prop := sheetTogethersRow.holds Try.pinned (OpenSpec.ofChange sheetTogethersWrong)

/-- 'papermilllaw52.SheetGoods': WHATEVER THE INPUT: true; the input reads as it did. -/
def sheetGoodsSpec : ChangeSpec := { name := "sheetGoods", fn := fun _ => fun
  | [d] => { results := [.lit (.bool true)], args := [d] }
  | _ => none }
def sheetGoodsRow : OpenClaim := { program := "ytnfcpcgbdoiiiaa", sum := "8782e047e6a4772d0e94c7e821eb1e88ccab103117dd10cbae725b41da1ae6c0", func := "papermill/papermilllaw52.SheetGoods", spec := "sheetGoods", unfollowed := true, recurses := true, apart := false }
def SheetGoodsSaid : Prop := sheetGoodsRow.holds Try.pinned (OpenSpec.ofChange sheetGoodsSpec)

/-- ITS FALSE NEIGHBOUR: 'it returns false'. Refute it at one input. -/
def sheetGoodsWrong : ChangeSpec := { name := "sheetGoods", fn := fun _ => fun
  | [d] => { results := [.lit (.bool false)], args := [d] }
  | _ => none }
def SheetGoodsWrongFalsely : Prop := sheetGoodsRow.holds Try.pinned (OpenSpec.ofChange sheetGoodsWrong)

/-- 'papermilllaw52.SheetPlaces': WHATEVER THE INPUT: true; the input reads as it did. -/
def sheetPlacesSpec : ChangeSpec := { name := "sheetPlaces", fn := fun _ => fun
  | [d1, d2, d3, d4, d5] => { results := [.lit (.bool true)], args := [d1, d2, d3, d4, d5] }
  | _ => none }
def sheetPlacesRow : OpenClaim := { program := "ytnfcpcgbdoiiiaa", sum := "8782e047e6a4772d0e94c7e821eb1e88ccab103117dd10cbae725b41da1ae6c0", func := "papermill/papermilllaw52.SheetPlaces", spec := "sheetPlaces", unfollowed := true, recurses := true, apart := false }
def SheetPlacesSaid : Prop := sheetPlacesRow.holds Try.pinned (OpenSpec.ofChange sheetPlacesSpec)

/-- ITS FALSE NEIGHBOUR: 'it returns false'. Refute it at one input. -/
def sheetPlacesWrong : ChangeSpec := { name := "sheetPlaces", fn := fun _ => fun
  | [d1, d2, d3, d4, d5] => { results := [.lit (.bool false)], args := [d1, d2, d3, d4, d5] }
  | _ => none }
def SheetPlacesWrongFalsely : Prop := sheetPlacesRow.holds Try.pinned (OpenSpec.ofChange sheetPlacesWrong)

/-- 'papermilllaw52.SheetBad': WHATEVER THE INPUT: true; the input reads as it did. -/
def sheetBadSpec : ChangeSpec := { name := "sheetBad", fn := fun _ => fun
  | [d1, d2, d3, d4] => { results := [.lit (.bool true)], args := [d1, d2, d3, d4] }
  | _ => none }
def sheetBadRow : OpenClaim := { program := "ytnfcpcgbdoiiiaa", sum := "8782e047e6a4772d0e94c7e821eb1e88ccab103117dd10cbae725b41da1ae6c0", func := "papermill/papermilllaw52.SheetBad", spec := "sheetBad", unfollowed := true, recurses := true, apart := false }
def SheetBadSaid : Prop := sheetBadRow.holds Try.pinned (OpenSpec.ofChange sheetBadSpec)

/-- ITS FALSE NEIGHBOUR: 'it returns false'. Refute it at one input. -/
def sheetBadWrong : ChangeSpec := { name := "sheetBad", fn := fun _ => fun
  | [d1, d2, d3, d4] => { results := [.lit (.bool false)], args := [d1, d2, d3, d4] }
  | _ => none }
def SheetBadWrongFalsely : Prop := sheetBadRow.holds Try.pinned (OpenSpec.ofChange sheetBadWrong)

/-- 'papermilllaw52.SheetBoth': WHATEVER THE INPUT: true; the input reads as it did. -/
def sheetBothSpec : ChangeSpec := { name := "sheetBoth", fn := fun _ => fun
  | [d1, d2, d3] => { results := [.lit (.bool true)], args := [d1, d2, d3] }
  | _ => none }
def sheetBothRow : OpenClaim := { program := "ytnfcpcgbdoiiiaa", sum := "8782e047e6a4772d0e94c7e821eb1e88ccab103117dd10cbae725b41da1ae6c0", func := "papermill/papermilllaw52.SheetBoth", spec := "sheetBoth", unfollowed := true, recurses := true, apart := false }
def SheetBothSaid : Prop := sheetBothRow.holds Try.pinned (OpenSpec.ofChange sheetBothSpec)

/-- ITS FALSE NEIGHBOUR: 'it returns false'. Refute it at one input. -/
def sheetBothWrong : ChangeSpec := { name := "sheetBoth", fn := fun _ => fun
  | [d1, d2, d3] => { results := [.lit (.bool false)], args := [d1, d2, d3] }
  | _ => none }
def SheetBothWrongFalsely : Prop := sheetBothRow.holds Try.pinned (OpenSpec.ofChange sheetBothWrong)

/-- 'papermilllaw34.ReelTurns': WHATEVER THE INPUT: true; the input reads as it did. -/
def reelTurnsSpec : ChangeSpec := { name := "reelTurns", fn := fun _ => fun
  | [d1, d2, d3] => { results := [.lit (.bool true)], args := [d1, d2, d3] }
  | _ => none }
def reelTurnsRow : OpenClaim := { program := "ytnfcpcgbdoiiiaa", sum := "8782e047e6a4772d0e94c7e821eb1e88ccab103117dd10cbae725b41da1ae6c0", func := "papermill/papermilllaw34.ReelTurns", spec := "reelTurns", unfollowed := true, recurses := true, apart := false }
def ReelTurnsSaid : Prop := reelTurnsRow.holds Try.pinned (OpenSpec.ofChange reelTurnsSpec)

/-- ITS FALSE NEIGHBOUR: 'it returns false'. Refute it at one input. -/
def reelTurnsWrong : ChangeSpec := { name := "reelTurns", fn := fun _ => fun
  | [d1, d2, d3] => { results := [.lit (.bool false)], args := [d1, d2, d3] }
  | _ => none }
def ReelTurnsWrongFalsely : Prop := reelTurnsRow.holds Try.pinned (OpenSpec.ofChange reelTurnsWrong)

/-- 'papermilllaw34.ReelLost': WHATEVER THE INPUT: true; the input reads as it did. -/
def reelLostSpec : ChangeSpec := { name := "reelLost", fn := fun _ => fun
  | [d1, d2] => { results := [.lit (.bool true)], args := [d1, d2] }
  | _ => none }
def reelLostRow : OpenClaim := { program := "ytnfcpcgbdoiiiaa", sum := "8782e047e6a4772d0e94c7e821eb1e88ccab103117dd10cbae725b41da1ae6c0", func := "papermill/papermilllaw34.ReelLost", spec := "reelLost", unfollowed := true, recurses := true, apart := false }
def ReelLostSaid : Prop := reelLostRow.holds Try.pinned (OpenSpec.ofChange reelLostSpec)

/-- ITS FALSE NEIGHBOUR: 'it returns false'. Refute it at one input. -/
def reelLostWrong : ChangeSpec := { name := "reelLost", fn := fun _ => fun
  | [d1, d2] => { results := [.lit (.bool false)], args := [d1, d2] }
  | _ => none }
def ReelLostWrongFalsely : Prop := reelLostRow.holds Try.pinned (OpenSpec.ofChange reelLostWrong)

/- THE SECOND FORM. 'bulk': how many values and letters a reading holds, each counted each time it is reached (what is shared counts as often as it is met; a slice's spare places count too). A statement '..UptoSaid' is the law's where the arguments, and the package variables that the reading takes, are together of bulk at most 1048576: NARROWER than '..Said'. Prove '..Said' where nothing that the law and all that it calls make is longer than what came in: it says more and counts as full. Else prove '..UptoSaid'. A law counts once. -/
mutual
def uptoBulk {H : Type} : DataW H → Nat
  | .lit (.string bytes) => bytes.length + 1
  | .lit _ => 1
  | .nil => 1
  | .ptr d => uptoBulk d + 1
  | .slice elems spare => uptoBulkAll elems + uptoBulkAll spare + 1
  | .agg parts => uptoBulkAll parts + 1
  | .iface _ d => uptoBulk d + 1
  | .map entries => uptoBulkEntries entries + 1
  | .held _ => 1
def uptoBulkAll {H : Type} : List (DataW H) → Nat
  | [] => 0
  | d :: r => uptoBulk d + uptoBulkAll r
def uptoBulkEntries {H : Type} : List (Lit × DataW H) → Nat
  | [] => 0
  | x :: r => uptoBulkEntry x + uptoBulkEntries r
def uptoBulkEntry {H : Type} : Lit × DataW H → Nat
  | (.string bytes, d) => bytes.length + uptoBulk d + 1
  | (_, d) => uptoBulk d + 1
 end
def uptoSmall : (H : Type) → List (DataW H) → Bool := fun _ ds => decide (uptoBulkAll ds ≤ 1048576)
def OpenSpec.upto (s : _root_.Go.ChangeSpec) : _root_.Go.OpenSpec := { _root_.Go.OpenSpec.ofChange s with cond := some uptoSmall }

/-- 'papermilllaw52.SheetCuts', WHERE WHAT IT READS IS OF BULK AT MOST 1048576: true; the input reads as it did. -/
def sheetCutsUptoRow : OpenClaim := { program := "ytnfcpcgbdoiiiaa", sum := "8782e047e6a4772d0e94c7e821eb1e88ccab103117dd10cbae725b41da1ae6c0", func := "papermill/papermilllaw52.SheetCuts", spec := "sheetCuts", unfollowed := true, recurses := true, apart := false, narrowed := true }
def SheetCutsUptoSaid : Prop := sheetCutsUptoRow.holds Try.pinned (OpenSpec.upto sheetCutsSpec)

/-- 'papermilllaw52.SheetNumbers', WHERE WHAT IT READS IS OF BULK AT MOST 1048576: true; the input reads as it did. -/
def sheetNumbersUptoRow : OpenClaim := { program := "ytnfcpcgbdoiiiaa", sum := "8782e047e6a4772d0e94c7e821eb1e88ccab103117dd10cbae725b41da1ae6c0", func := "papermill/papermilllaw52.SheetNumbers", spec := "sheetNumbers", unfollowed := true, recurses := true, apart := false, narrowed := true }
def SheetNumbersUptoSaid : Prop := sheetNumbersUptoRow.holds Try.pinned (OpenSpec.upto sheetNumbersSpec)

/-- 'papermilllaw52.SheetTogethers', WHERE WHAT IT READS IS OF BULK AT MOST 1048576: true; the input reads as it did. -/
def sheetTogethersUptoRow : OpenClaim := { program := "ytnfcpcgbdoiiiaa", sum := "8782e047e6a4772d0e94c7e821eb1e88ccab103117dd10cbae725b41da1ae6c0", func := "papermill/papermilllaw52.SheetTogethers", spec := "sheetTogethers", unfollowed := true, recurses := true, apart := false, narrowed := true }
def SheetTogethersUptoSaid : Prop := sheetTogethersUptoRow.holds Try.pinned (OpenSpec.upto sheetTogethersSpec)

/-- 'papermilllaw52.SheetGoods', WHERE WHAT IT READS IS OF BULK AT MOST 1048576: true; the input reads as it did. -/
def sheetGoodsUptoRow : OpenClaim := { program := "ytnfcpcgbdoiiiaa", sum := "8782e047e6a4772d0e94c7e821eb1e88ccab103117dd10cbae725b41da1ae6c0", func := "papermill/papermilllaw52.SheetGoods", spec := "sheetGoods", unfollowed := true, recurses := true, apart := false, narrowed := true }
def SheetGoodsUptoSaid : Prop := sheetGoodsUptoRow.holds Try.pinned (OpenSpec.upto sheetGoodsSpec)

/-- 'papermilllaw52.SheetPlaces', WHERE WHAT IT READS IS OF BULK AT MOST 1048576: true; the input reads as it did. -/
def sheetPlacesUptoRow : OpenClaim := { program := "ytnfcpcgbdoiiiaa", sum := "8782e047e6a4772d0e94c7e821eb1e88ccab103117dd10cbae725b41da1ae6c0", func := "papermill/papermilllaw52.SheetPlaces", spec := "sheetPlaces", unfollowed := true, recurses := true, apart := false, narrowed := true }
def SheetPlacesUptoSaid : Prop := sheetPlacesUptoRow.holds Try.pinned (OpenSpec.upto sheetPlacesSpec)

/-- 'papermilllaw52.SheetBad', WHERE WHAT IT READS IS OF BULK AT MOST 1048576: true; the input reads as it did. -/
def sheetBadUptoRow : OpenClaim := { program := "ytnfcpcgbdoiiiaa", sum := "8782e047e6a4772d0e94c7e821eb1e88ccab103117dd10cbae725b41da1ae6c0", func := "papermill/papermilllaw52.SheetBad", spec := "sheetBad", unfollowed := true, recurses := true, apart := false, narrowed := true }
def SheetBadUptoSaid : Prop := sheetBadUptoRow.holds Try.pinned (OpenSpec.upto sheetBadSpec)

/-- 'papermilllaw52.SheetBoth', WHERE WHAT IT READS IS OF BULK AT MOST 1048576: true; the input reads as it did. -/
def sheetBothUptoRow : OpenClaim := { program := "ytnfcpcgbdoiiiaa", sum := "8782e047e6a4772d0e94c7e821eb1e88ccab103117dd10cbae725b41da1ae6c0", func := "papermill/papermilllaw52.SheetBoth", spec := "sheetBoth", unfollowed := true, recurses := true, apart := false, narrowed := true }
def SheetBothUptoSaid : Prop := sheetBothUptoRow.holds Try.pinned (OpenSpec.upto sheetBothSpec)

/-- 'papermilllaw34.ReelTurns', WHERE WHAT IT READS IS OF BULK AT MOST 1048576: true; the input reads as it did. -/
def reelTurnsUptoRow : OpenClaim := { program := "ytnfcpcgbdoiiiaa", sum := "8782e047e6a4772d0e94c7e821eb1e88ccab103117dd10cbae725b41da1ae6c0", func := "papermill/papermilllaw34.ReelTurns", spec := "reelTurns", unfollowed := true, recurses := true, apart := false, narrowed := true }
def ReelTurnsUptoSaid : Prop := reelTurnsUptoRow.holds Try.pinned (OpenSpec.upto reelTurnsSpec)

/-- 'papermilllaw34.ReelLost', WHERE WHAT IT READS IS OF BULK AT MOST 1048576: true; the input reads as it did. -/
def reelLostUptoRow : OpenClaim := { program := "ytnfcpcgbdoiiiaa", sum := "8782e047e6a4772d0e94c7e821eb1e88ccab103117dd10cbae725b41da1ae6c0", func := "papermill/papermilllaw34.ReelLost", spec := "reelLost", unfollowed := true, recurses := true, apart := false, narrowed := true }
def ReelLostUptoSaid : Prop := reelLostUptoRow.holds Try.pinned (OpenSpec.upto reelLostSpec)

end Rows
end Go.Proofs.Ytnfcpcgbdoiiiaa
