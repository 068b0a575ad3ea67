/-
  No cell of these rows narrows 'for every input' (looked for: loops, veiled, ifaces, maps, wideKeys, modest, calm, conditions, laid).
  DERIVED. THE GIVEN ROWS OF THIS SEAT. 10 by the template 'for every input the law returns true; each argument reads behind the call as it read before'; 0 by the template 'total and deterministic' (their statements: YtbponegjfccgfaaTotals.lean).
  GIVEN WITH THE SEED: the statements are not yours to turn. If you find one false, say at which input.
  Laid BY PROGRAM, IN A SANDBOX (cutbox-rows.mjs): the forced cells as the released guide's own fill.sh prints them over the translation 7d932ebcf5ea5aac… (all of the seat's roots in one cut). By AI agents, Wed Nov 11 2026. No macro, syntax, notation, axiom, sorry.
-/
import Derived.Test.YtbponegjfccgfaaChecked
import GoSem.Claim
import GoSem.ClaimJoined
import GoSem.ClaimMapViews
import Derived.JoinedTies
import Derived.KernelRfl
namespace Go.Proofs.Ytbponegjfccgfaa
/- THE CELL 'sum', in the pinned program and in every row, IS THE sha256 OF THE DUMP (.gsa) THAT YtbponegjfccgfaaProg.lean LOADS. Nothing in Lean hashes anything: it is a label: what it is worth is what the hold of that sum in a sandbox is worth. -/
noncomputable def Try.pinned : Pinned := { name := "ytbponegjfccgfaa", sum := "7d932ebcf5ea5aac3e9f0fa06ecff07ab481888edc332a21fdbc3885fe0a3d6d", checked := Try.checked }
namespace Rows
def none {H : Type} : Left H := { results := [], args := [] }

/-- 'chantrylaw13.FlushPuts': WHATEVER THE INPUT: true; the input reads as it did. -/
def flushPutsSpec : ChangeSpec := { name := "flushPuts", fn := fun _ => fun
  | [d1, d2, d3] => { results := [.lit (.bool true)], args := [d1, d2, d3] }
  | _ => none }
def flushPutsRow : OpenClaim := { program := "ytbponegjfccgfaa", sum := "7d932ebcf5ea5aac3e9f0fa06ecff07ab481888edc332a21fdbc3885fe0a3d6d", func := "chantry/chantrylaw13.FlushPuts", spec := "flushPuts", inPlace := ["slices.overlaps[chantry/flush.Mark]"], unfollowed := true, recurses := true, apart := false }
def FlushPutsSaid : Prop := flushPutsRow.holds Try.pinned (OpenSpec.ofChange flushPutsSpec)

/-- ITS FALSE NEIGHBOUR: 'it returns false'. Refute it at one input. -/
def flushPutsWrong : ChangeSpec := { name := "flushPuts", fn := fun _ => fun
  | [d1, d2, d3] => { results := [.lit (.bool false)], args := [d1, d2, d3] }
  | _ => none }
def FlushPutsWrongFalsely : Prop := flushPutsRow.holds Try.pinned (OpenSpec.ofChange flushPutsWrong)

/-- 'chantrylaw13.FlushRow': WHATEVER THE INPUT: true; the input reads as it did. -/
def flushRowSpec : ChangeSpec := { name := "flushRow", fn := fun _ => fun
  | [d1, d2] => { results := [.lit (.bool true)], args := [d1, d2] }
  | _ => none }
def flushRowRow : OpenClaim := { program := "ytbponegjfccgfaa", sum := "7d932ebcf5ea5aac3e9f0fa06ecff07ab481888edc332a21fdbc3885fe0a3d6d", func := "chantry/chantrylaw13.FlushRow", spec := "flushRow", inPlace := ["slices.overlaps[chantry/flush.Mark]"], unfollowed := true, recurses := true, apart := false }
def FlushRowSaid : Prop := flushRowRow.holds Try.pinned (OpenSpec.ofChange flushRowSpec)

/-- ITS FALSE NEIGHBOUR: 'it returns false'. Refute it at one input. -/
def flushRowWrong : ChangeSpec := { name := "flushRow", fn := fun _ => fun
  | [d1, d2] => { results := [.lit (.bool false)], args := [d1, d2] }
  | _ => none }
def FlushRowWrongFalsely : Prop := flushRowRow.holds Try.pinned (OpenSpec.ofChange flushRowWrong)

/-- 'chantrylaw13.FlushAny': WHATEVER THE INPUT: true; the input reads as it did. -/
def flushAnySpec : ChangeSpec := { name := "flushAny", fn := fun _ => fun
  | [d1, d2, d3] => { results := [.lit (.bool true)], args := [d1, d2, d3] }
  | _ => none }
def flushAnyRow : OpenClaim := { program := "ytbponegjfccgfaa", sum := "7d932ebcf5ea5aac3e9f0fa06ecff07ab481888edc332a21fdbc3885fe0a3d6d", func := "chantry/chantrylaw13.FlushAny", spec := "flushAny", inPlace := ["slices.overlaps[chantry/flush.Mark]"], unfollowed := true, recurses := true, apart := false }
def FlushAnySaid : Prop := flushAnyRow.holds Try.pinned (OpenSpec.ofChange flushAnySpec)

/-- ITS FALSE NEIGHBOUR: 'it returns false'. Refute it at one input. -/
def flushAnyWrong : ChangeSpec := { name := "flushAny", fn := fun _ => fun
  | [d1, d2, d3] => { results := [.lit (.bool false)], args := [d1, d2, d3] }
  | _ => none }
def FlushAnyWrongFalsely : Prop := flushAnyRow.holds Try.pinned (OpenSpec.ofChange flushAnyWrong)

/-- 'chantrylaw13.FlushLate': WHATEVER THE INPUT: true; the input reads as it did. -/
def flushLateSpec : ChangeSpec := { name := "flushLate", fn := fun _ => fun
  | [d1, d2, d3] => { results := [.lit (.bool true)], args := [d1, d2, d3] }
  | _ => none }
def flushLateRow : OpenClaim := { program := "ytbponegjfccgfaa", sum := "7d932ebcf5ea5aac3e9f0fa06ecff07ab481888edc332a21fdbc3885fe0a3d6d", func := "chantry/chantrylaw13.FlushLate", spec := "flushLate", inPlace := ["slices.overlaps[chantry/flush.Mark]"], unfollowed := true, recurses := true, apart := false }
def FlushLateSaid : Prop := flushLateRow.holds Try.pinned (OpenSpec.ofChange flushLateSpec)

/-- ITS FALSE NEIGHBOUR: 'it returns false'. Refute it at one input. -/
def flushLateWrong : ChangeSpec := { name := "flushLate", fn := fun _ => fun
  | [d1, d2, d3] => { results := [.lit (.bool false)], args := [d1, d2, d3] }
  | _ => none }
def FlushLateWrongFalsely : Prop := flushLateRow.holds Try.pinned (OpenSpec.ofChange flushLateWrong)

/-- 'chantrylaw13.FlushOnce': WHATEVER THE INPUT: true; the input reads as it did. -/
def flushOnceSpec : ChangeSpec := { name := "flushOnce", fn := fun _ => fun
  | [d1, d2] => { results := [.lit (.bool true)], args := [d1, d2] }
  | _ => none }
def flushOnceRow : OpenClaim := { program := "ytbponegjfccgfaa", sum := "7d932ebcf5ea5aac3e9f0fa06ecff07ab481888edc332a21fdbc3885fe0a3d6d", func := "chantry/chantrylaw13.FlushOnce", spec := "flushOnce", inPlace := ["slices.overlaps[chantry/flush.Mark]"], unfollowed := true, recurses := true, apart := false }
def FlushOnceSaid : Prop := flushOnceRow.holds Try.pinned (OpenSpec.ofChange flushOnceSpec)

/-- ITS FALSE NEIGHBOUR: 'it returns false'. Refute it at one input. -/
def flushOnceWrong : ChangeSpec := { name := "flushOnce", fn := fun _ => fun
  | [d1, d2] => { results := [.lit (.bool false)], args := [d1, d2] }
  | _ => none }
def FlushOnceWrongFalsely : Prop := flushOnceRow.holds Try.pinned (OpenSpec.ofChange flushOnceWrong)

/-- 'chantrylaw12.BallotPuts': WHATEVER THE INPUT: true; the input reads as it did. -/
def ballotPutsSpec : ChangeSpec := { name := "ballotPuts", fn := fun _ => fun
  | [d1, d2] => { results := [.lit (.bool true)], args := [d1, d2] }
  | _ => none }
def ballotPutsRow : OpenClaim := { program := "ytbponegjfccgfaa", sum := "7d932ebcf5ea5aac3e9f0fa06ecff07ab481888edc332a21fdbc3885fe0a3d6d", func := "chantry/chantrylaw12.BallotPuts", spec := "ballotPuts", inPlace := ["slices.overlaps[chantry/ballot.Cast]"], unfollowed := true, recurses := true, apart := false }
def BallotPutsSaid : Prop := ballotPutsRow.holds Try.pinned (OpenSpec.ofChange ballotPutsSpec)

/-- ITS FALSE NEIGHBOUR: 'it returns false'. Refute it at one input. -/
def ballotPutsWrong : ChangeSpec := { name := "ballotPuts", fn := fun _ => fun
  | [d1, d2] => { results := [.lit (.bool false)], args := [d1, d2] }
  | _ => none }
def BallotPutsWrongFalsely : Prop := ballotPutsRow.holds Try.pinned (OpenSpec.ofChange ballotPutsWrong)

/-- 'chantrylaw12.BallotRow': WHATEVER THE INPUT: true; the input reads as it did. -/
def ballotRowSpec : ChangeSpec := { name := "ballotRow", fn := fun _ => fun
  | [d1, d2] => { results := [.lit (.bool true)], args := [d1, d2] }
  | _ => none }
def ballotRowRow : OpenClaim := { program := "ytbponegjfccgfaa", sum := "7d932ebcf5ea5aac3e9f0fa06ecff07ab481888edc332a21fdbc3885fe0a3d6d", func := "chantry/chantrylaw12.BallotRow", spec := "ballotRow", inPlace := ["slices.overlaps[chantry/ballot.Cast]"], unfollowed := true, recurses := true, apart := false }
def BallotRowSaid : Prop := ballotRowRow.holds Try.pinned (OpenSpec.ofChange ballotRowSpec)

/-- ITS FALSE NEIGHBOUR: 'it returns false'. Refute it at one input. -/
def ballotRowWrong : ChangeSpec := { name := "ballotRow", fn := fun _ => fun
  | [d1, d2] => { results := [.lit (.bool false)], args := [d1, d2] }
  | _ => none }
def BallotRowWrongFalsely : Prop := ballotRowRow.holds Try.pinned (OpenSpec.ofChange ballotRowWrong)

/-- 'chantrylaw12.BallotOne': WHATEVER THE INPUT: true; the input reads as it did. -/
def ballotOneSpec : ChangeSpec := { name := "ballotOne", fn := fun _ => fun
  | [d1, d2] => { results := [.lit (.bool true)], args := [d1, d2] }
  | _ => none }
def ballotOneRow : OpenClaim := { program := "ytbponegjfccgfaa", sum := "7d932ebcf5ea5aac3e9f0fa06ecff07ab481888edc332a21fdbc3885fe0a3d6d", func := "chantry/chantrylaw12.BallotOne", spec := "ballotOne", inPlace := ["slices.overlaps[chantry/ballot.Cast]"], unfollowed := true, recurses := true, apart := false }
def BallotOneSaid : Prop := ballotOneRow.holds Try.pinned (OpenSpec.ofChange ballotOneSpec)

/-- ITS FALSE NEIGHBOUR: 'it returns false'. Refute it at one input. -/
def ballotOneWrong : ChangeSpec := { name := "ballotOne", fn := fun _ => fun
  | [d1, d2] => { results := [.lit (.bool false)], args := [d1, d2] }
  | _ => none }
def BallotOneWrongFalsely : Prop := ballotOneRow.holds Try.pinned (OpenSpec.ofChange ballotOneWrong)

/-- 'chantrylaw12.BallotAlike': WHATEVER THE INPUT: true; the input reads as it did. -/
def ballotAlikeSpec : ChangeSpec := { name := "ballotAlike", fn := fun _ => fun
  | [d1, d2, d3] => { results := [.lit (.bool true)], args := [d1, d2, d3] }
  | _ => none }
def ballotAlikeRow : OpenClaim := { program := "ytbponegjfccgfaa", sum := "7d932ebcf5ea5aac3e9f0fa06ecff07ab481888edc332a21fdbc3885fe0a3d6d", func := "chantry/chantrylaw12.BallotAlike", spec := "ballotAlike", inPlace := ["slices.overlaps[chantry/ballot.Cast]"], unfollowed := true, recurses := true, apart := false }
def BallotAlikeSaid : Prop := ballotAlikeRow.holds Try.pinned (OpenSpec.ofChange ballotAlikeSpec)

/-- ITS FALSE NEIGHBOUR: 'it returns false'. Refute it at one input. -/
def ballotAlikeWrong : ChangeSpec := { name := "ballotAlike", fn := fun _ => fun
  | [d1, d2, d3] => { results := [.lit (.bool false)], args := [d1, d2, d3] }
  | _ => none }
def BallotAlikeWrongFalsely : Prop := ballotAlikeRow.holds Try.pinned (OpenSpec.ofChange ballotAlikeWrong)

/-- 'chantrylaw12.BallotTwice': WHATEVER THE INPUT: true; the input reads as it did. -/
def ballotTwiceSpec : ChangeSpec := { name := "ballotTwice", fn := fun _ => fun
  | [d1, d2, d3] => { results := [.lit (.bool true)], args := [d1, d2, d3] }
  | _ => none }
def ballotTwiceRow : OpenClaim := { program := "ytbponegjfccgfaa", sum := "7d932ebcf5ea5aac3e9f0fa06ecff07ab481888edc332a21fdbc3885fe0a3d6d", func := "chantry/chantrylaw12.BallotTwice", spec := "ballotTwice", inPlace := ["slices.overlaps[chantry/ballot.Cast]"], unfollowed := true, recurses := true, apart := false }
def BallotTwiceSaid : Prop := ballotTwiceRow.holds Try.pinned (OpenSpec.ofChange ballotTwiceSpec)

/-- ITS FALSE NEIGHBOUR: 'it returns false'. Refute it at one input. -/
def ballotTwiceWrong : ChangeSpec := { name := "ballotTwice", fn := fun _ => fun
  | [d1, d2, d3] => { results := [.lit (.bool false)], args := [d1, d2, d3] }
  | _ => none }
def BallotTwiceWrongFalsely : Prop := ballotTwiceRow.holds Try.pinned (OpenSpec.ofChange ballotTwiceWrong)

/- THE SECOND FORM. 'bulk': how many values and letters a reading holds, each counted each time it is reached (what is shared counts as often as it is met; a slice's spare places count too). A statement '..UptoSaid' is the law's where the arguments, and the package variables that the reading takes, are together of bulk at most 1048576: NARROWER than '..Said'. Prove '..Said' where nothing that the law and all that it calls make is longer than what came in: it says more and counts as full. Else prove '..UptoSaid'. A law counts once. -/
mutual
def uptoBulk {H : Type} : DataW H → Nat
  | .lit (.string bytes) => bytes.length + 1
  | .lit _ => 1
  | .nil => 1
  | .ptr d => uptoBulk d + 1
  | .slice elems spare => uptoBulkAll elems + uptoBulkAll spare + 1
  | .agg parts => uptoBulkAll parts + 1
  | .iface _ d => uptoBulk d + 1
  | .map entries => uptoBulkEntries entries + 1
  | .held _ => 1
def uptoBulkAll {H : Type} : List (DataW H) → Nat
  | [] => 0
  | d :: r => uptoBulk d + uptoBulkAll r
def uptoBulkEntries {H : Type} : List (Lit × DataW H) → Nat
  | [] => 0
  | x :: r => uptoBulkEntry x + uptoBulkEntries r
def uptoBulkEntry {H : Type} : Lit × DataW H → Nat
  | (.string bytes, d) => bytes.length + uptoBulk d + 1
  | (_, d) => uptoBulk d + 1
 end
def uptoSmall : (H : Type) → List (DataW H) → Bool := fun _ ds => decide (uptoBulkAll ds ≤ 1048576)
def OpenSpec.upto (s : _root_.Go.ChangeSpec) : _root_.Go.OpenSpec := { _root_.Go.OpenSpec.ofChange s with cond := some uptoSmall }

/-- 'chantrylaw13.FlushPuts', WHERE WHAT IT READS IS OF BULK AT MOST 1048576: true; the input reads as it did. -/
def flushPutsUptoRow : OpenClaim := { program := "ytbponegjfccgfaa", sum := "7d932ebcf5ea5aac3e9f0fa06ecff07ab481888edc332a21fdbc3885fe0a3d6d", func := "chantry/chantrylaw13.FlushPuts", spec := "flushPuts", inPlace := ["slices.overlaps[chantry/flush.Mark]"], unfollowed := true, recurses := true, apart := false, narrowed := true }
def FlushPutsUptoSaid : Prop := flushPutsUptoRow.holds Try.pinned (OpenSpec.upto flushPutsSpec)

/-- 'chantrylaw13.FlushRow', WHERE WHAT IT READS IS OF BULK AT MOST 1048576: true; the input reads as it did. -/
def flushRowUptoRow : OpenClaim := { program := "ytbponegjfccgfaa", sum := "7d932ebcf5ea5aac3e9f0fa06ecff07ab481888edc332a21fdbc3885fe0a3d6d", func := "chantry/chantrylaw13.FlushRow", spec := "flushRow", inPlace := ["slices.overlaps[chantry/flush.Mark]"], unfollowed := true, recurses := true, apart := false, narrowed := true }
def FlushRowUptoSaid : Prop := flushRowUptoRow.holds Try.pinned (OpenSpec.upto flushRowSpec)

/-- 'chantrylaw13.FlushAny', WHERE WHAT IT READS IS OF BULK AT MOST 1048576: true; the input reads as it did. -/
def flushAnyUptoRow : OpenClaim := { program := "ytbponegjfccgfaa", sum := "7d932ebcf5ea5aac3e9f0fa06ecff07ab481888edc332a21fdbc3885fe0a3d6d", func := "chantry/chantrylaw13.FlushAny", spec := "flushAny", inPlace := ["slices.overlaps[chantry/flush.Mark]"], unfollowed := true, recurses := true, apart := false, narrowed := true }
def FlushAnyUptoSaid : Prop := flushAnyUptoRow.holds Try.pinned (OpenSpec.upto flushAnySpec)

/-- 'chantrylaw13.FlushLate', WHERE WHAT IT READS IS OF BULK AT MOST 1048576: true; the input reads as it did. -/
def flushLateUptoRow : OpenClaim := { program := "ytbponegjfccgfaa", sum := "7d932ebcf5ea5aac3e9f0fa06ecff07ab481888edc332a21fdbc3885fe0a3d6d", func := "chantry/chantrylaw13.FlushLate", spec := "flushLate", inPlace := ["slices.overlaps[chantry/flush.Mark]"], unfollowed := true, recurses := true, apart := false, narrowed := true }
def FlushLateUptoSaid : Prop := flushLateUptoRow.holds Try.pinned (OpenSpec.upto flushLateSpec)

/-- 'chantrylaw13.FlushOnce', WHERE WHAT IT READS IS OF BULK AT MOST 1048576: true; the input reads as it did. -/
def flushOnceUptoRow : OpenClaim := { program := "ytbponegjfccgfaa", sum := "7d932ebcf5ea5aac3e9f0fa06ecff07ab481888edc332a21fdbc3885fe0a3d6d", func := "chantry/chantrylaw13.FlushOnce", spec := "flushOnce", inPlace := ["slices.overlaps[chantry/flush.Mark]"], unfollowed := true, recurses := true, apart := false, narrowed := true }
def FlushOnceUptoSaid : Prop := flushOnceUptoRow.holds Try.pinned (OpenSpec.upto flushOnceSpec)

/-- 'chantrylaw12.BallotPuts', WHERE WHAT IT READS IS OF BULK AT MOST 1048576: true; the input reads as it did. -/
def ballotPutsUptoRow : OpenClaim := { program := "ytbponegjfccgfaa", sum := "7d932ebcf5ea5aac3e9f0fa06ecff07ab481888edc332a21fdbc3885fe0a3d6d", func := "chantry/chantrylaw12.BallotPuts", spec := "ballotPuts", inPlace := ["slices.overlaps[chantry/ballot.Cast]"], unfollowed := true, recurses := true, apart := false, narrowed := true }
def BallotPutsUptoSaid : Prop := ballotPutsUptoRow.holds Try.pinned (OpenSpec.upto ballotPutsSpec)

/-- 'chantrylaw12.BallotRow', WHERE WHAT IT READS IS OF BULK AT MOST 1048576: true; the input reads as it did. -/
def ballotRowUptoRow : OpenClaim := { program := "ytbponegjfccgfaa", sum := "7d932ebcf5ea5aac3e9f0fa06ecff07ab481888edc332a21fdbc3885fe0a3d6d", func := "chantry/chantrylaw12.BallotRow", spec := "ballotRow", inPlace := ["slices.overlaps[chantry/ballot.Cast]"], unfollowed := true, recurses := true, apart := false, narrowed := true }
def BallotRowUptoSaid : Prop := ballotRowUptoRow.holds Try.pinned (OpenSpec.upto ballotRowSpec)

/-- 'chantrylaw12.BallotOne', WHERE WHAT IT READS IS OF BULK AT MOST 1048576: true; the input reads as it did. -/
def ballotOneUptoRow : OpenClaim := { program := "ytbponegjfccgfaa", sum := "7d932ebcf5ea5aac3e9f0fa06ecff07ab481888edc332a21fdbc3885fe0a3d6d", func := "chantry/chantrylaw12.BallotOne", spec := "ballotOne", inPlace := ["slices.overlaps[chantry/ballot.Cast]"], unfollowed := true, recurses := true, apart := false, narrowed := true }
def BallotOneUptoSaid : Prop := ballotOneUptoRow.holds Try.pinned (OpenSpec.upto ballotOneSpec)

/-- 'chantrylaw12.BallotAlike', WHERE WHAT IT READS IS OF BULK AT MOST 1048576: true; the input reads as it did. -/
def ballotAlikeUptoRow : OpenClaim := { program := "ytbponegjfccgfaa", sum := "7d932ebcf5ea5aac3e9f0fa06ecff07ab481888edc332a21fdbc3885fe0a3d6d", func := "chantry/chantrylaw12.BallotAlike", spec := "ballotAlike", inPlace := ["slices.overlaps[chantry/ballot.Cast]"], unfollowed := true, recurses := true, apart := false, narrowed := true }
def BallotAlikeUptoSaid : Prop := ballotAlikeUptoRow.holds Try.pinned (OpenSpec.upto ballotAlikeSpec)

/-- 'chantrylaw12.BallotTwice', WHERE WHAT IT READS IS OF BULK AT MOST 1048576: true; the input reads as it did. -/
def ballotTwiceUptoRow : OpenClaim := { program := "ytbponegjfccgfaa", sum := "7d932ebcf5ea5aac3e9f0fa06ecff07ab481888edc332a21fdbc3885fe0a3d6d", func := "chantry/chantrylaw12.BallotTwice", spec := "ballotTwice", inPlace := ["slices.overlaps[chantry/ballot.Cast]"], unfollowed := true, recurses := true, apart := false, narrowed := true }
def BallotTwiceUptoSaid : Prop := ballotTwiceUptoRow.holds Try.pinned (OpenSpec.upto ballotTwiceSpec)

end Rows
end Go.Proofs.Ytbponegjfccgfaa
