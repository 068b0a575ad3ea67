/-
  No cell of these rows narrows 'for every input' (looked for: loops, veiled, ifaces, maps, wideKeys, modest, calm, conditions, laid).
  DERIVED. THE GIVEN ROWS OF THIS SEAT. 6 by the template 'for every input the law returns true; each argument reads behind the call as it read before'; 0 by the template 'total and deterministic' (their statements: YtifchnkhnphibaaTotals.lean).
  GIVEN WITH THE SEED: the statements are not yours to turn. If you find one false, say at which input.
  Laid BY PROGRAM, IN A SANDBOX (cutbox-rows.mjs): the forced cells as the released guide's own fill.sh prints them over the translation 3bfb595698c81173… (all of the seat's roots in one cut). By AI agents, Wed Nov 11 2026. No macro, syntax, notation, axiom, sorry.
-/
import Derived.Test.YtifchnkhnphibaaChecked
import GoSem.Claim
import GoSem.ClaimJoined
import GoSem.ClaimMapViews
import Derived.JoinedTies
import Derived.KernelRfl
namespace Go.Proofs.Ytifchnkhnphibaa
/- THE CELL 'sum', in the pinned program and in every row, IS THE sha256 OF THE DUMP (.gsa) THAT YtifchnkhnphibaaProg.lean LOADS. Nothing in Lean hashes anything: it is a label: what it is worth is what the hold of that sum in a sandbox is worth. -/
noncomputable def Try.pinned : Pinned := { name := "ytifchnkhnphibaa", sum := "3bfb595698c811737a7d832a1ad213c2ac7924a4dc208e9e62dcbebf5f9bd044", checked := Try.checked }
namespace Rows
def none {H : Type} : Left H := { results := [], args := [] }

/-- 'chantrylaw09.PastVecs': WHATEVER THE INPUT: true; the input reads as it did. -/
def pastVecsSpec : ChangeSpec := { name := "pastVecs", fn := fun _ => fun
  | [d1, d2] => { results := [.lit (.bool true)], args := [d1, d2] }
  | _ => none }
def pastVecsRow : OpenClaim := { program := "ytifchnkhnphibaa", sum := "3bfb595698c811737a7d832a1ad213c2ac7924a4dc208e9e62dcbebf5f9bd044", func := "chantry/chantrylaw09.PastVecs", spec := "pastVecs", inPlace := ["math.Float64bits", "math.Float64frombits"], unfollowed := true, recurses := true, apart := false }
def PastVecsSaid : Prop := pastVecsRow.holds Try.pinned (OpenSpec.ofChange pastVecsSpec)

/-- ITS FALSE NEIGHBOUR: 'it returns false'. Refute it at one input. -/
def pastVecsWrong : ChangeSpec := { name := "pastVecs", fn := fun _ => fun
  | [d1, d2] => { results := [.lit (.bool false)], args := [d1, d2] }
  | _ => none }
def PastVecsWrongFalsely : Prop := pastVecsRow.holds Try.pinned (OpenSpec.ofChange pastVecsWrong)

/-- 'chantrylaw09.PastBodies': WHATEVER THE INPUT: true; the input reads as it did. -/
def pastBodiesSpec : ChangeSpec := { name := "pastBodies", fn := fun _ => fun
  | [d1, d2, d3] => { results := [.lit (.bool true)], args := [d1, d2, d3] }
  | _ => none }
def pastBodiesRow : OpenClaim := { program := "ytifchnkhnphibaa", sum := "3bfb595698c811737a7d832a1ad213c2ac7924a4dc208e9e62dcbebf5f9bd044", func := "chantry/chantrylaw09.PastBodies", spec := "pastBodies", inPlace := ["math.Float64bits", "math.Float64frombits"], unfollowed := true, recurses := true, apart := false }
def PastBodiesSaid : Prop := pastBodiesRow.holds Try.pinned (OpenSpec.ofChange pastBodiesSpec)

/-- ITS FALSE NEIGHBOUR: 'it returns false'. Refute it at one input. -/
def pastBodiesWrong : ChangeSpec := { name := "pastBodies", fn := fun _ => fun
  | [d1, d2, d3] => { results := [.lit (.bool false)], args := [d1, d2, d3] }
  | _ => none }
def PastBodiesWrongFalsely : Prop := pastBodiesRow.holds Try.pinned (OpenSpec.ofChange pastBodiesWrong)

/-- 'chantrylaw09.PastBack': WHATEVER THE INPUT: true; the input reads as it did. -/
def pastBackSpec : ChangeSpec := { name := "pastBack", fn := fun _ => fun
  | [d1, d2, d3] => { results := [.lit (.bool true)], args := [d1, d2, d3] }
  | _ => none }
def pastBackRow : OpenClaim := { program := "ytifchnkhnphibaa", sum := "3bfb595698c811737a7d832a1ad213c2ac7924a4dc208e9e62dcbebf5f9bd044", func := "chantry/chantrylaw09.PastBack", spec := "pastBack", inPlace := ["math.Float64bits", "math.Float64frombits"], unfollowed := true, recurses := true, apart := false }
def PastBackSaid : Prop := pastBackRow.holds Try.pinned (OpenSpec.ofChange pastBackSpec)

/-- ITS FALSE NEIGHBOUR: 'it returns false'. Refute it at one input. -/
def pastBackWrong : ChangeSpec := { name := "pastBack", fn := fun _ => fun
  | [d1, d2, d3] => { results := [.lit (.bool false)], args := [d1, d2, d3] }
  | _ => none }
def PastBackWrongFalsely : Prop := pastBackRow.holds Try.pinned (OpenSpec.ofChange pastBackWrong)

/-- 'chantrylaw09.PastJoins': WHATEVER THE INPUT: true; the input reads as it did. -/
def pastJoinsSpec : ChangeSpec := { name := "pastJoins", fn := fun _ => fun
  | [d1, d2, d3] => { results := [.lit (.bool true)], args := [d1, d2, d3] }
  | _ => none }
def pastJoinsRow : OpenClaim := { program := "ytifchnkhnphibaa", sum := "3bfb595698c811737a7d832a1ad213c2ac7924a4dc208e9e62dcbebf5f9bd044", func := "chantry/chantrylaw09.PastJoins", spec := "pastJoins", inPlace := ["math.Float64bits", "math.Float64frombits"], unfollowed := true, recurses := true, apart := false }
def PastJoinsSaid : Prop := pastJoinsRow.holds Try.pinned (OpenSpec.ofChange pastJoinsSpec)

/-- ITS FALSE NEIGHBOUR: 'it returns false'. Refute it at one input. -/
def pastJoinsWrong : ChangeSpec := { name := "pastJoins", fn := fun _ => fun
  | [d1, d2, d3] => { results := [.lit (.bool false)], args := [d1, d2, d3] }
  | _ => none }
def PastJoinsWrongFalsely : Prop := pastJoinsRow.holds Try.pinned (OpenSpec.ofChange pastJoinsWrong)

/-- 'chantrylaw09.PastRights': WHATEVER THE INPUT: true; the input reads as it did. -/
def pastRightsSpec : ChangeSpec := { name := "pastRights", fn := fun _ => fun
  | [d1, d2, d3] => { results := [.lit (.bool true)], args := [d1, d2, d3] }
  | _ => none }
def pastRightsRow : OpenClaim := { program := "ytifchnkhnphibaa", sum := "3bfb595698c811737a7d832a1ad213c2ac7924a4dc208e9e62dcbebf5f9bd044", func := "chantry/chantrylaw09.PastRights", spec := "pastRights", inPlace := ["math.Float64bits", "math.Float64frombits"], unfollowed := true, recurses := true, apart := false }
def PastRightsSaid : Prop := pastRightsRow.holds Try.pinned (OpenSpec.ofChange pastRightsSpec)

/-- ITS FALSE NEIGHBOUR: 'it returns false'. Refute it at one input. -/
def pastRightsWrong : ChangeSpec := { name := "pastRights", fn := fun _ => fun
  | [d1, d2, d3] => { results := [.lit (.bool false)], args := [d1, d2, d3] }
  | _ => none }
def PastRightsWrongFalsely : Prop := pastRightsRow.holds Try.pinned (OpenSpec.ofChange pastRightsWrong)

/-- 'chantrylaw09.PastOrder': WHATEVER THE INPUT: true; the input reads as it did. -/
def pastOrderSpec : ChangeSpec := { name := "pastOrder", fn := fun _ => fun
  | [d1, d2, d3] => { results := [.lit (.bool true)], args := [d1, d2, d3] }
  | _ => none }
def pastOrderRow : OpenClaim := { program := "ytifchnkhnphibaa", sum := "3bfb595698c811737a7d832a1ad213c2ac7924a4dc208e9e62dcbebf5f9bd044", func := "chantry/chantrylaw09.PastOrder", spec := "pastOrder", inPlace := ["math.Float64bits", "math.Float64frombits"], unfollowed := true, recurses := true, apart := false }
def PastOrderSaid : Prop := pastOrderRow.holds Try.pinned (OpenSpec.ofChange pastOrderSpec)

/-- ITS FALSE NEIGHBOUR: 'it returns false'. Refute it at one input. -/
def pastOrderWrong : ChangeSpec := { name := "pastOrder", fn := fun _ => fun
  | [d1, d2, d3] => { results := [.lit (.bool false)], args := [d1, d2, d3] }
  | _ => none }
def PastOrderWrongFalsely : Prop := pastOrderRow.holds Try.pinned (OpenSpec.ofChange pastOrderWrong)

/- THE SECOND FORM. 'bulk': how many values and letters a reading holds, each counted each time it is reached (what is shared counts as often as it is met; a slice's spare places count too). A statement '..UptoSaid' is the law's where the arguments, and the package variables that the reading takes, are together of bulk at most 1048576: NARROWER than '..Said'. Prove '..Said' where nothing that the law and all that it calls make is longer than what came in: it says more and counts as full. Else prove '..UptoSaid'. A law counts once. -/
mutual
def uptoBulk {H : Type} : DataW H → Nat
  | .lit (.string bytes) => bytes.length + 1
  | .lit _ => 1
  | .nil => 1
  | .ptr d => uptoBulk d + 1
  | .slice elems spare => uptoBulkAll elems + uptoBulkAll spare + 1
  | .agg parts => uptoBulkAll parts + 1
  | .iface _ d => uptoBulk d + 1
  | .map entries => uptoBulkEntries entries + 1
  | .held _ => 1
def uptoBulkAll {H : Type} : List (DataW H) → Nat
  | [] => 0
  | d :: r => uptoBulk d + uptoBulkAll r
def uptoBulkEntries {H : Type} : List (Lit × DataW H) → Nat
  | [] => 0
  | x :: r => uptoBulkEntry x + uptoBulkEntries r
def uptoBulkEntry {H : Type} : Lit × DataW H → Nat
  | (.string bytes, d) => bytes.length + uptoBulk d + 1
  | (_, d) => uptoBulk d + 1
 end
def uptoSmall : (H : Type) → List (DataW H) → Bool := fun _ ds => decide (uptoBulkAll ds ≤ 1048576)
def OpenSpec.upto (s : _root_.Go.ChangeSpec) : _root_.Go.OpenSpec := { _root_.Go.OpenSpec.ofChange s with cond := some uptoSmall }

/-- 'chantrylaw09.PastVecs', WHERE WHAT IT READS IS OF BULK AT MOST 1048576: true; the input reads as it did. -/
def pastVecsUptoRow : OpenClaim := { program := "ytifchnkhnphibaa", sum := "3bfb595698c811737a7d832a1ad213c2ac7924a4dc208e9e62dcbebf5f9bd044", func := "chantry/chantrylaw09.PastVecs", spec := "pastVecs", inPlace := ["math.Float64bits", "math.Float64frombits"], unfollowed := true, recurses := true, apart := false, narrowed := true }
def PastVecsUptoSaid : Prop := pastVecsUptoRow.holds Try.pinned (OpenSpec.upto pastVecsSpec)

/-- 'chantrylaw09.PastBodies', WHERE WHAT IT READS IS OF BULK AT MOST 1048576: true; the input reads as it did. -/
def pastBodiesUptoRow : OpenClaim := { program := "ytifchnkhnphibaa", sum := "3bfb595698c811737a7d832a1ad213c2ac7924a4dc208e9e62dcbebf5f9bd044", func := "chantry/chantrylaw09.PastBodies", spec := "pastBodies", inPlace := ["math.Float64bits", "math.Float64frombits"], unfollowed := true, recurses := true, apart := false, narrowed := true }
def PastBodiesUptoSaid : Prop := pastBodiesUptoRow.holds Try.pinned (OpenSpec.upto pastBodiesSpec)

/-- 'chantrylaw09.PastBack', WHERE WHAT IT READS IS OF BULK AT MOST 1048576: true; the input reads as it did. -/
def pastBackUptoRow : OpenClaim := { program := "ytifchnkhnphibaa", sum := "3bfb595698c811737a7d832a1ad213c2ac7924a4dc208e9e62dcbebf5f9bd044", func := "chantry/chantrylaw09.PastBack", spec := "pastBack", inPlace := ["math.Float64bits", "math.Float64frombits"], unfollowed := true, recurses := true, apart := false, narrowed := true }
def PastBackUptoSaid : Prop := pastBackUptoRow.holds Try.pinned (OpenSpec.upto pastBackSpec)

/-- 'chantrylaw09.PastJoins', WHERE WHAT IT READS IS OF BULK AT MOST 1048576: true; the input reads as it did. -/
def pastJoinsUptoRow : OpenClaim := { program := "ytifchnkhnphibaa", sum := "3bfb595698c811737a7d832a1ad213c2ac7924a4dc208e9e62dcbebf5f9bd044", func := "chantry/chantrylaw09.PastJoins", spec := "pastJoins", inPlace := ["math.Float64bits", "math.Float64frombits"], unfollowed := true, recurses := true, apart := false, narrowed := true }
def PastJoinsUptoSaid : Prop := pastJoinsUptoRow.holds Try.pinned (OpenSpec.upto pastJoinsSpec)

/-- 'chantrylaw09.PastRights', WHERE WHAT IT READS IS OF BULK AT MOST 1048576: true; the input reads as it did. -/
def pastRightsUptoRow : OpenClaim := { program := "ytifchnkhnphibaa", sum := "3bfb595698c811737a7d832a1ad213c2ac7924a4dc208e9e62dcbebf5f9bd044", func := "chantry/chantrylaw09.PastRights", spec := "pastRights", inPlace := ["math.Float64bits", "math.Float64frombits"], unfollowed := true, recurses := true, apart := false, narrowed := true }
def PastRightsUptoSaid : Prop := pastRightsUptoRow.holds Try.pinned (OpenSpec.upto pastRightsSpec)

/-- 'chantrylaw09.PastOrder', WHERE WHAT IT READS IS OF BULK AT MOST 1048576: true; the input reads as it did. -/
def pastOrderUptoRow : OpenClaim := { program := "ytifchnkhnphibaa", sum := "3bfb595698c811737a7d832a1ad213c2ac7924a4dc208e9e62dcbebf5f9bd044", func := "chantry/chantrylaw09.PastOrder", spec := "pastOrder", inPlace := ["math.Float64bits", "math.Float64frombits"], unfollowed := true, recurses := true, apart := false, narrowed := true }
def PastOrderUptoSaid : Prop := pastOrderUptoRow.holds Try.pinned (OpenSpec.upto pastOrderSpec)

end Rows
end Go.Proofs.Ytifchnkhnphibaa
