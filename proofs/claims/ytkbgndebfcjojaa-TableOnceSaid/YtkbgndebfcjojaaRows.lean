/-
  No cell of these rows narrows 'for every input' (looked for: loops, veiled, ifaces, maps, wideKeys, modest, calm, conditions, laid).
  DERIVED. THE GIVEN ROWS OF THIS SEAT. 7 by the template 'for every input the law returns true; each argument reads behind the call as it read before'; 0 by the template 'total and deterministic' (their statements: YtkbgndebfcjojaaTotals.lean).
  GIVEN WITH THE SEED: the statements are not yours to turn. If you find one false, say at which input.
  Laid BY PROGRAM, IN A SANDBOX (cutbox-rows.mjs): the forced cells as the released guide's own fill.sh prints them over the translation 24160f8bd602b50f… (all of the seat's roots in one cut). By AI agents, Wed Nov 11 2026. No macro, syntax, notation, axiom, sorry.
-/
import Derived.Test.YtkbgndebfcjojaaChecked
import GoSem.Claim
import GoSem.ClaimJoined
import GoSem.ClaimMapViews
import Derived.JoinedTies
import Derived.KernelRfl
namespace Go.Proofs.Ytkbgndebfcjojaa
/- THE CELL 'sum', in the pinned program and in every row, IS THE sha256 OF THE DUMP (.gsa) THAT YtkbgndebfcjojaaProg.lean LOADS. Nothing in Lean hashes anything: it is a label: what it is worth is what the hold of that sum in a sandbox is worth. -/
noncomputable def Try.pinned : Pinned := { name := "ytkbgndebfcjojaa", sum := "24160f8bd602b50f2eaf4d399b1b16a96e50cdd2b0c36d7bd31cee2c59931fad", checked := Try.checked }
namespace Rows
def none {H : Type} : Left H := { results := [], args := [] }

/-- 'chantrylaw08.TableTakes': WHATEVER THE INPUT: true; the input reads as it did. -/
def tableTakesSpec : ChangeSpec := { name := "tableTakes", fn := fun _ => fun
  | [d1, d2] => { results := [.lit (.bool true)], args := [d1, d2] }
  | _ => none }
def tableTakesRow : OpenClaim := { program := "ytkbgndebfcjojaa", sum := "24160f8bd602b50f2eaf4d399b1b16a96e50cdd2b0c36d7bd31cee2c59931fad", func := "chantry/chantrylaw08.TableTakes", spec := "tableTakes", inPlace := ["slices.overlaps[chantry/table.Open]"], unfollowed := true, recurses := true, apart := false }
def TableTakesSaid : Prop := tableTakesRow.holds Try.pinned (OpenSpec.ofChange tableTakesSpec)

/-- ITS FALSE NEIGHBOUR: 'it returns false'. Refute it at one input. -/
def tableTakesWrong : ChangeSpec := { name := "tableTakes", fn := fun _ => fun
  | [d1, d2] => { results := [.lit (.bool false)], args := [d1, d2] }
  | _ => none }
def TableTakesWrongFalsely : Prop := tableTakesRow.holds Try.pinned (OpenSpec.ofChange tableTakesWrong)

/-- 'chantrylaw08.TableRow': WHATEVER THE INPUT: true; the input reads as it did. -/
def tableRowSpec : ChangeSpec := { name := "tableRow", fn := fun _ => fun
  | [d1, d2] => { results := [.lit (.bool true)], args := [d1, d2] }
  | _ => none }
def tableRowRow : OpenClaim := { program := "ytkbgndebfcjojaa", sum := "24160f8bd602b50f2eaf4d399b1b16a96e50cdd2b0c36d7bd31cee2c59931fad", func := "chantry/chantrylaw08.TableRow", spec := "tableRow", inPlace := ["slices.overlaps[chantry/table.Open]"], unfollowed := true, recurses := true, apart := false }
def TableRowSaid : Prop := tableRowRow.holds Try.pinned (OpenSpec.ofChange tableRowSpec)

/-- ITS FALSE NEIGHBOUR: 'it returns false'. Refute it at one input. -/
def tableRowWrong : ChangeSpec := { name := "tableRow", fn := fun _ => fun
  | [d1, d2] => { results := [.lit (.bool false)], args := [d1, d2] }
  | _ => none }
def TableRowWrongFalsely : Prop := tableRowRow.holds Try.pinned (OpenSpec.ofChange tableRowWrong)

/-- 'chantrylaw08.TableOnce': WHATEVER THE INPUT: true; the input reads as it did. -/
def tableOnceSpec : ChangeSpec := { name := "tableOnce", fn := fun _ => fun
  | [d1, d2] => { results := [.lit (.bool true)], args := [d1, d2] }
  | _ => none }
def tableOnceRow : OpenClaim := { program := "ytkbgndebfcjojaa", sum := "24160f8bd602b50f2eaf4d399b1b16a96e50cdd2b0c36d7bd31cee2c59931fad", func := "chantry/chantrylaw08.TableOnce", spec := "tableOnce", inPlace := ["slices.overlaps[chantry/table.Open]"], unfollowed := true, recurses := true, apart := false }
def TableOnceSaid : Prop := tableOnceRow.holds Try.pinned (OpenSpec.ofChange tableOnceSpec)

/-- ITS FALSE NEIGHBOUR: 'it returns false'. Refute it at one input. -/
def tableOnceWrong : ChangeSpec := { name := "tableOnce", fn := fun _ => fun
  | [d1, d2] => { results := [.lit (.bool false)], args := [d1, d2] }
  | _ => none }
def TableOnceWrongFalsely : Prop := tableOnceRow.holds Try.pinned (OpenSpec.ofChange tableOnceWrong)

/-- 'chantrylaw08.TableApart': WHATEVER THE INPUT: true; the input reads as it did. -/
def tableApartSpec : ChangeSpec := { name := "tableApart", fn := fun _ => fun
  | [d1, d2] => { results := [.lit (.bool true)], args := [d1, d2] }
  | _ => none }
def tableApartRow : OpenClaim := { program := "ytkbgndebfcjojaa", sum := "24160f8bd602b50f2eaf4d399b1b16a96e50cdd2b0c36d7bd31cee2c59931fad", func := "chantry/chantrylaw08.TableApart", spec := "tableApart", inPlace := ["slices.overlaps[chantry/table.Open]"], unfollowed := true, recurses := true, apart := false }
def TableApartSaid : Prop := tableApartRow.holds Try.pinned (OpenSpec.ofChange tableApartSpec)

/-- ITS FALSE NEIGHBOUR: 'it returns false'. Refute it at one input. -/
def tableApartWrong : ChangeSpec := { name := "tableApart", fn := fun _ => fun
  | [d1, d2] => { results := [.lit (.bool false)], args := [d1, d2] }
  | _ => none }
def TableApartWrongFalsely : Prop := tableApartRow.holds Try.pinned (OpenSpec.ofChange tableApartWrong)

/-- 'chantrylaw08.TableBase': WHATEVER THE INPUT: true; the input reads as it did. -/
def tableBaseSpec : ChangeSpec := { name := "tableBase", fn := fun _ => fun
  | [d1, d2, d3] => { results := [.lit (.bool true)], args := [d1, d2, d3] }
  | _ => none }
def tableBaseRow : OpenClaim := { program := "ytkbgndebfcjojaa", sum := "24160f8bd602b50f2eaf4d399b1b16a96e50cdd2b0c36d7bd31cee2c59931fad", func := "chantry/chantrylaw08.TableBase", spec := "tableBase", inPlace := ["slices.overlaps[chantry/table.Open]"], unfollowed := true, recurses := true, apart := false }
def TableBaseSaid : Prop := tableBaseRow.holds Try.pinned (OpenSpec.ofChange tableBaseSpec)

/-- ITS FALSE NEIGHBOUR: 'it returns false'. Refute it at one input. -/
def tableBaseWrong : ChangeSpec := { name := "tableBase", fn := fun _ => fun
  | [d1, d2, d3] => { results := [.lit (.bool false)], args := [d1, d2, d3] }
  | _ => none }
def TableBaseWrongFalsely : Prop := tableBaseRow.holds Try.pinned (OpenSpec.ofChange tableBaseWrong)

/-- 'chantrylaw08.TableLikeOne': WHATEVER THE INPUT: true; the input reads as it did. -/
def tableLikeOneSpec : ChangeSpec := { name := "tableLikeOne", fn := fun _ => fun
  | [d1, d2, d3] => { results := [.lit (.bool true)], args := [d1, d2, d3] }
  | _ => none }
def tableLikeOneRow : OpenClaim := { program := "ytkbgndebfcjojaa", sum := "24160f8bd602b50f2eaf4d399b1b16a96e50cdd2b0c36d7bd31cee2c59931fad", func := "chantry/chantrylaw08.TableLikeOne", spec := "tableLikeOne", inPlace := ["slices.overlaps[chantry/table.Open]"], unfollowed := true, recurses := true, apart := false }
def TableLikeOneSaid : Prop := tableLikeOneRow.holds Try.pinned (OpenSpec.ofChange tableLikeOneSpec)

/-- ITS FALSE NEIGHBOUR: 'it returns false'. Refute it at one input. -/
def tableLikeOneWrong : ChangeSpec := { name := "tableLikeOne", fn := fun _ => fun
  | [d1, d2, d3] => { results := [.lit (.bool false)], args := [d1, d2, d3] }
  | _ => none }
def TableLikeOneWrongFalsely : Prop := tableLikeOneRow.holds Try.pinned (OpenSpec.ofChange tableLikeOneWrong)

/-- 'chantrylaw08.TableViews': WHATEVER THE INPUT: true; the input reads as it did. -/
def tableViewsSpec : ChangeSpec := { name := "tableViews", fn := fun _ => fun
  | [d1, d2] => { results := [.lit (.bool true)], args := [d1, d2] }
  | _ => none }
def tableViewsRow : OpenClaim := { program := "ytkbgndebfcjojaa", sum := "24160f8bd602b50f2eaf4d399b1b16a96e50cdd2b0c36d7bd31cee2c59931fad", func := "chantry/chantrylaw08.TableViews", spec := "tableViews", inPlace := ["slices.overlaps[chantry/table.Open]"], unfollowed := true, recurses := true, apart := false }
def TableViewsSaid : Prop := tableViewsRow.holds Try.pinned (OpenSpec.ofChange tableViewsSpec)

/-- ITS FALSE NEIGHBOUR: 'it returns false'. Refute it at one input. -/
def tableViewsWrong : ChangeSpec := { name := "tableViews", fn := fun _ => fun
  | [d1, d2] => { results := [.lit (.bool false)], args := [d1, d2] }
  | _ => none }
def TableViewsWrongFalsely : Prop := tableViewsRow.holds Try.pinned (OpenSpec.ofChange tableViewsWrong)

/- THE SECOND FORM. 'bulk': how many values and letters a reading holds, each counted each time it is reached (what is shared counts as often as it is met; a slice's spare places count too). A statement '..UptoSaid' is the law's where the arguments, and the package variables that the reading takes, are together of bulk at most 1048576: NARROWER than '..Said'. Prove '..Said' where nothing that the law and all that it calls make is longer than what came in: it says more and counts as full. Else prove '..UptoSaid'. A law counts once. -/
mutual
def uptoBulk {H : Type} : DataW H → Nat
  | .lit (.string bytes) => bytes.length + 1
  | .lit _ => 1
  | .nil => 1
  | .ptr d => uptoBulk d + 1
  | .slice elems spare => uptoBulkAll elems + uptoBulkAll spare + 1
  | .agg parts => uptoBulkAll parts + 1
  | .iface _ d => uptoBulk d + 1
  | .map entries => uptoBulkEntries entries + 1
  | .held _ => 1
def uptoBulkAll {H : Type} : List (DataW H) → Nat
  | [] => 0
  | d :: r => uptoBulk d + uptoBulkAll r
def uptoBulkEntries {H : Type} : List (Lit × DataW H) → Nat
  | [] => 0
  | x :: r => uptoBulkEntry x + uptoBulkEntries r
def uptoBulkEntry {H : Type} : Lit × DataW H → Nat
  | (.string bytes, d) => bytes.length + uptoBulk d + 1
  | (_, d) => uptoBulk d + 1
 end
def uptoSmall : (H : Type) → List (DataW H) → Bool := fun _ ds => decide (uptoBulkAll ds ≤ 1048576)
def OpenSpec.upto (s : _root_.Go.ChangeSpec) : _root_.Go.OpenSpec := { _root_.Go.OpenSpec.ofChange s with cond := some uptoSmall }

/-- 'chantrylaw08.TableTakes', WHERE WHAT IT READS IS OF BULK AT MOST 1048576: true; the input reads as it did. -/
def tableTakesUptoRow : OpenClaim := { program := "ytkbgndebfcjojaa", sum := "24160f8bd602b50f2eaf4d399b1b16a96e50cdd2b0c36d7bd31cee2c59931fad", func := "chantry/chantrylaw08.TableTakes", spec := "tableTakes", inPlace := ["slices.overlaps[chantry/table.Open]"], unfollowed := true, recurses := true, apart := false, narrowed := true }
def TableTakesUptoSaid : Prop := tableTakesUptoRow.holds Try.pinned (OpenSpec.upto tableTakesSpec)

/-- 'chantrylaw08.TableRow', WHERE WHAT IT READS IS OF BULK AT MOST 1048576: true; the input reads as it did. -/
def tableRowUptoRow : OpenClaim := { program := "ytkbgndebfcjojaa", sum := "24160f8bd602b50f2eaf4d399b1b16a96e50cdd2b0c36d7bd31cee2c59931fad", func := "chantry/chantrylaw08.TableRow", spec := "tableRow", inPlace := ["slices.overlaps[chantry/table.Open]"], unfollowed := true, recurses := true, apart := false, narrowed := true }
def TableRowUptoSaid : Prop := tableRowUptoRow.holds Try.pinned (OpenSpec.upto tableRowSpec)

/-- 'chantrylaw08.TableOnce', WHERE WHAT IT READS IS OF BULK AT MOST 1048576: true; the input reads as it did. -/
def tableOnceUptoRow : OpenClaim := { program := "ytkbgndebfcjojaa", sum := "24160f8bd602b50f2eaf4d399b1b16a96e50cdd2b0c36d7bd31cee2c59931fad", func := "chantry/chantrylaw08.TableOnce", spec := "tableOnce", inPlace := ["slices.overlaps[chantry/table.Open]"], unfollowed := true, recurses := true, apart := false, narrowed := true }
def TableOnceUptoSaid : Prop := tableOnceUptoRow.holds Try.pinned (OpenSpec.upto tableOnceSpec)

/-- 'chantrylaw08.TableApart', WHERE WHAT IT READS IS OF BULK AT MOST 1048576: true; the input reads as it did. -/
def tableApartUptoRow : OpenClaim := { program := "ytkbgndebfcjojaa", sum := "24160f8bd602b50f2eaf4d399b1b16a96e50cdd2b0c36d7bd31cee2c59931fad", func := "chantry/chantrylaw08.TableApart", spec := "tableApart", inPlace := ["slices.overlaps[chantry/table.Open]"], unfollowed := true, recurses := true, apart := false, narrowed := true }
def TableApartUptoSaid : Prop := tableApartUptoRow.holds Try.pinned (OpenSpec.upto tableApartSpec)

/-- 'chantrylaw08.TableBase', WHERE WHAT IT READS IS OF BULK AT MOST 1048576: true; the input reads as it did. -/
def tableBaseUptoRow : OpenClaim := { program := "ytkbgndebfcjojaa", sum := "24160f8bd602b50f2eaf4d399b1b16a96e50cdd2b0c36d7bd31cee2c59931fad", func := "chantry/chantrylaw08.TableBase", spec := "tableBase", inPlace := ["slices.overlaps[chantry/table.Open]"], unfollowed := true, recurses := true, apart := false, narrowed := true }
def TableBaseUptoSaid : Prop := tableBaseUptoRow.holds Try.pinned (OpenSpec.upto tableBaseSpec)

/-- 'chantrylaw08.TableLikeOne', WHERE WHAT IT READS IS OF BULK AT MOST 1048576: true; the input reads as it did. -/
def tableLikeOneUptoRow : OpenClaim := { program := "ytkbgndebfcjojaa", sum := "24160f8bd602b50f2eaf4d399b1b16a96e50cdd2b0c36d7bd31cee2c59931fad", func := "chantry/chantrylaw08.TableLikeOne", spec := "tableLikeOne", inPlace := ["slices.overlaps[chantry/table.Open]"], unfollowed := true, recurses := true, apart := false, narrowed := true }
def TableLikeOneUptoSaid : Prop := tableLikeOneUptoRow.holds Try.pinned (OpenSpec.upto tableLikeOneSpec)

/-- 'chantrylaw08.TableViews', WHERE WHAT IT READS IS OF BULK AT MOST 1048576: true; the input reads as it did. -/
def tableViewsUptoRow : OpenClaim := { program := "ytkbgndebfcjojaa", sum := "24160f8bd602b50f2eaf4d399b1b16a96e50cdd2b0c36d7bd31cee2c59931fad", func := "chantry/chantrylaw08.TableViews", spec := "tableViews", inPlace := ["slices.overlaps[chantry/table.Open]"], unfollowed := true, recurses := true, apart := false, narrowed := true }
def TableViewsUptoSaid : Prop := tableViewsUptoRow.holds Try.pinned (OpenSpec.upto tableViewsSpec)

end Rows
end Go.Proofs.Ytkbgndebfcjojaa
