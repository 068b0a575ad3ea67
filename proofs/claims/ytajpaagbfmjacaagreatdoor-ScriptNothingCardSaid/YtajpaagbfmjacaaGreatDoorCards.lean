/-
  DERIVED. GIVEN WITH THE SEED: THE CARDS: each row of YtajpaagbfmjacaaGreatDoorRows.lean that lists a variable, with what it lists TIED to the program's text (the seventh form; the later family's looks); each row that meets fmt, with fmt's text TOLD by the authors' own Lean function (tested against real Go, not proved from fmt's source: count such statements apart). THE CARD IS WHAT COUNTS. Prove the row's statement (the work); the ties are given (YtajpaagbfmjacaaGreatDoorTie.lean); close each card by the builder's one call (the guide's Derived/Test/ToyasCard.lean, 'card_holds'). Laid BY PROGRAM, IN A SANDBOX (cutbox-door.mjs). By AI agents, Wed Nov 11 2026. No macro, syntax, notation, axiom, sorry.
-/
import Derived.Test.YtajpaagbfmjacaaGreatDoorRows
import GoSem.ClaimSeven
namespace Go.Proofs.YtajpaagbfmjacaaGreatDoor
namespace Rows

/-- THE TIED CARD OF 'chantrylaw21.ScriptDecodes'. -/
def scriptDecodesCard : Claim7 := { stood := { row := scriptDecodesRow, standIns := [], harness := (true, "a83bd49c9b2505d663ac3e50df2d3e1b9ec7e2669191853e466daf0b09722c5a"), looks := true }, kinds := [], alts := [], laidByText := true, laidKinds := [.data, .data, .data, .sentinel, .sentinel], laidTests := true, laidLooks := .later }
def ScriptDecodesCardSaid : Prop := Claim7.holds Tryz.pinned (.plain (OpenSpec.ofChange scriptDecodesSpec)) scriptDecodesCard

/-- THE TIED CARD OF 'chantrylaw21.ScriptShort'. -/
def scriptShortCard : Claim7 := { stood := { row := scriptShortRow, standIns := [], harness := (true, "a83bd49c9b2505d663ac3e50df2d3e1b9ec7e2669191853e466daf0b09722c5a"), looks := true }, kinds := [], alts := [], laidByText := true, laidKinds := [.data, .data, .data, .sentinel, .sentinel], laidTests := true, laidLooks := .later }
def ScriptShortCardSaid : Prop := Claim7.holds Tryz.pinned (.plain (OpenSpec.ofChange scriptShortSpec)) scriptShortCard

/-- THE TIED CARD OF 'chantrylaw21.ScriptSteps'. -/
def scriptStepsCard : Claim7 := { stood := { row := scriptStepsRow, standIns := [], harness := (true, "a83bd49c9b2505d663ac3e50df2d3e1b9ec7e2669191853e466daf0b09722c5a"), looks := true }, kinds := [], alts := [], laidByText := true, laidKinds := [.data, .data, .data, .sentinel, .sentinel], laidTests := true, laidLooks := .later }
def ScriptStepsCardSaid : Prop := Claim7.holds Tryz.pinned (.plain (OpenSpec.ofChange scriptStepsSpec)) scriptStepsCard

/-- THE TIED CARD OF 'chantrylaw21.ScriptNothing'. -/
def scriptNothingCard : Claim7 := { stood := { row := scriptNothingRow, standIns := [], harness := (true, "a83bd49c9b2505d663ac3e50df2d3e1b9ec7e2669191853e466daf0b09722c5a"), looks := true }, kinds := [], alts := [], laidByText := true, laidKinds := [.data, .data, .data, .sentinel, .sentinel], laidTests := true, laidLooks := .later }
def ScriptNothingCardSaid : Prop := Claim7.holds Tryz.pinned (.plain (OpenSpec.ofChange scriptNothingSpec)) scriptNothingCard

/-- THE TIED CARD OF 'chantrylaw21.ScriptRuns'. -/
def scriptRunsCard : Claim7 := { stood := { row := scriptRunsRow, standIns := [], harness := (true, "a83bd49c9b2505d663ac3e50df2d3e1b9ec7e2669191853e466daf0b09722c5a"), looks := true }, kinds := [], alts := [], laidByText := true, laidKinds := [.data, .data, .data, .sentinel, .sentinel], laidTests := true, laidLooks := .later }
def ScriptRunsCardSaid : Prop := Claim7.holds Tryz.pinned (.plain (OpenSpec.ofChange scriptRunsSpec)) scriptRunsCard

/-- THE SECOND FORM's CARD OF 'chantrylaw21.ScriptDecodes'. -/
def scriptDecodesUptoCard : Claim7 := { stood := { row := scriptDecodesUptoRow, standIns := [], harness := (true, "a83bd49c9b2505d663ac3e50df2d3e1b9ec7e2669191853e466daf0b09722c5a"), looks := true }, kinds := [], alts := [], laidByText := true, laidKinds := [.data, .data, .data, .sentinel, .sentinel], laidTests := true, laidLooks := .later }
def ScriptDecodesUptoCardSaid : Prop := Claim7.holds Tryz.pinned (.plain (OpenSpec.upto scriptDecodesSpec)) scriptDecodesUptoCard

/-- THE SECOND FORM's CARD OF 'chantrylaw21.ScriptShort'. -/
def scriptShortUptoCard : Claim7 := { stood := { row := scriptShortUptoRow, standIns := [], harness := (true, "a83bd49c9b2505d663ac3e50df2d3e1b9ec7e2669191853e466daf0b09722c5a"), looks := true }, kinds := [], alts := [], laidByText := true, laidKinds := [.data, .data, .data, .sentinel, .sentinel], laidTests := true, laidLooks := .later }
def ScriptShortUptoCardSaid : Prop := Claim7.holds Tryz.pinned (.plain (OpenSpec.upto scriptShortSpec)) scriptShortUptoCard

/-- THE SECOND FORM's CARD OF 'chantrylaw21.ScriptSteps'. -/
def scriptStepsUptoCard : Claim7 := { stood := { row := scriptStepsUptoRow, standIns := [], harness := (true, "a83bd49c9b2505d663ac3e50df2d3e1b9ec7e2669191853e466daf0b09722c5a"), looks := true }, kinds := [], alts := [], laidByText := true, laidKinds := [.data, .data, .data, .sentinel, .sentinel], laidTests := true, laidLooks := .later }
def ScriptStepsUptoCardSaid : Prop := Claim7.holds Tryz.pinned (.plain (OpenSpec.upto scriptStepsSpec)) scriptStepsUptoCard

/-- THE SECOND FORM's CARD OF 'chantrylaw21.ScriptNothing'. -/
def scriptNothingUptoCard : Claim7 := { stood := { row := scriptNothingUptoRow, standIns := [], harness := (true, "a83bd49c9b2505d663ac3e50df2d3e1b9ec7e2669191853e466daf0b09722c5a"), looks := true }, kinds := [], alts := [], laidByText := true, laidKinds := [.data, .data, .data, .sentinel, .sentinel], laidTests := true, laidLooks := .later }
def ScriptNothingUptoCardSaid : Prop := Claim7.holds Tryz.pinned (.plain (OpenSpec.upto scriptNothingSpec)) scriptNothingUptoCard

/-- THE SECOND FORM's CARD OF 'chantrylaw21.ScriptRuns'. -/
def scriptRunsUptoCard : Claim7 := { stood := { row := scriptRunsUptoRow, standIns := [], harness := (true, "a83bd49c9b2505d663ac3e50df2d3e1b9ec7e2669191853e466daf0b09722c5a"), looks := true }, kinds := [], alts := [], laidByText := true, laidKinds := [.data, .data, .data, .sentinel, .sentinel], laidTests := true, laidLooks := .later }
def ScriptRunsUptoCardSaid : Prop := Claim7.holds Tryz.pinned (.plain (OpenSpec.upto scriptRunsSpec)) scriptRunsUptoCard
end Rows
end Go.Proofs.YtajpaagbfmjacaaGreatDoor
