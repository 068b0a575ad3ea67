/-
  DERIVED. GIVEN WITH THE SEED: THE CARDS: each row of YtjmgnodeohmboaaDoorRows.lean that lists a variable, with what it lists TIED to the program's text (the seventh form; the later family's looks); each row that meets fmt, with fmt's text TOLD by the authors' own Lean function (tested against real Go, not proved from fmt's source: count such statements apart). THE CARD IS WHAT COUNTS. Prove the row's statement (the work); the ties are given (YtjmgnodeohmboaaDoorTie.lean); close each card by the builder's one call (the guide's Derived/Test/ToyasCard.lean, 'card_holds'). Laid BY PROGRAM, IN A SANDBOX (cutbox-door.mjs). By AI agents, Wed Nov 11 2026. No macro, syntax, notation, axiom, sorry.
-/
import Derived.Test.YtjmgnodeohmboaaDoorRows
import GoSem.ClaimSeven
namespace Go.Proofs.YtjmgnodeohmboaaDoor
namespace Rows

/-- THE TIED CARD OF 'chantrylaw11.RollApplies'. -/
def rollAppliesCard : Claim7 := { stood := { row := rollAppliesRow, standIns := [], harness := (true, "96c18ff8d063007250b9116d840b855eae535bd679e18cb3eb19889442323dbd"), looks := true }, kinds := [], alts := [], laidByText := true, laidKinds := [.data, .data, .data, .sentinel, .sentinel], laidTests := true, laidLooks := .later }
def RollAppliesCardSaid : Prop := Claim7.holds Tryd.pinned (.plain (OpenSpec.ofChange rollAppliesSpec)) rollAppliesCard

/-- THE TIED CARD OF 'chantrylaw11.RollTexts'. -/
def rollTextsCard : Claim7 := { stood := { row := rollTextsRow, standIns := [], harness := (true, "96c18ff8d063007250b9116d840b855eae535bd679e18cb3eb19889442323dbd"), looks := true }, kinds := [], alts := [], laidByText := true, laidKinds := [.data, .data, .data, .sentinel, .sentinel], laidTests := true, laidLooks := .later }
def RollTextsCardSaid : Prop := Claim7.holds Tryd.pinned (.plain (OpenSpec.ofChange rollTextsSpec)) rollTextsCard

/-- THE TIED CARD OF 'chantrylaw11.RollMembers'. -/
def rollMembersCard : Claim7 := { stood := { row := rollMembersRow, standIns := [], harness := (true, "96c18ff8d063007250b9116d840b855eae535bd679e18cb3eb19889442323dbd"), looks := true }, kinds := [], alts := [], laidByText := true, laidKinds := [.data, .data, .data, .sentinel, .sentinel], laidTests := true, laidLooks := .later }
def RollMembersCardSaid : Prop := Claim7.holds Tryd.pinned (.plain (OpenSpec.ofChange rollMembersSpec)) rollMembersCard

/-- THE TIED CARD OF 'chantrylaw11.RollPaths'. -/
def rollPathsCard : Claim7 := { stood := { row := rollPathsRow, standIns := [], harness := (true, "96c18ff8d063007250b9116d840b855eae535bd679e18cb3eb19889442323dbd"), looks := true }, kinds := [], alts := [], laidByText := true, laidKinds := [.data, .data, .data, .sentinel, .sentinel], laidTests := true, laidLooks := .later }
def RollPathsCardSaid : Prop := Claim7.holds Tryd.pinned (.plain (OpenSpec.ofChange rollPathsSpec)) rollPathsCard

/-- THE TIED CARD OF 'chantrylaw11.RollBack'. -/
def rollBackCard : Claim7 := { stood := { row := rollBackRow, standIns := [], harness := (true, "96c18ff8d063007250b9116d840b855eae535bd679e18cb3eb19889442323dbd"), looks := true }, kinds := [], alts := [], laidByText := true, laidKinds := [.data, .data, .data, .sentinel, .sentinel], laidTests := true, laidLooks := .later }
def RollBackCardSaid : Prop := Claim7.holds Tryd.pinned (.plain (OpenSpec.ofChange rollBackSpec)) rollBackCard

/-- THE TIED CARD OF 'chantrylaw11.RollEnds'. -/
def rollEndsCard : Claim7 := { stood := { row := rollEndsRow, standIns := [], harness := (true, "96c18ff8d063007250b9116d840b855eae535bd679e18cb3eb19889442323dbd"), looks := true }, kinds := [], alts := [], laidByText := true, laidKinds := [.data, .data, .data, .sentinel, .sentinel], laidTests := true, laidLooks := .later }
def RollEndsCardSaid : Prop := Claim7.holds Tryd.pinned (.plain (OpenSpec.ofChange rollEndsSpec)) rollEndsCard

/-- THE SECOND FORM's CARD OF 'chantrylaw11.RollApplies'. -/
def rollAppliesUptoCard : Claim7 := { stood := { row := rollAppliesUptoRow, standIns := [], harness := (true, "96c18ff8d063007250b9116d840b855eae535bd679e18cb3eb19889442323dbd"), looks := true }, kinds := [], alts := [], laidByText := true, laidKinds := [.data, .data, .data, .sentinel, .sentinel], laidTests := true, laidLooks := .later }
def RollAppliesUptoCardSaid : Prop := Claim7.holds Tryd.pinned (.plain (OpenSpec.upto rollAppliesSpec)) rollAppliesUptoCard

/-- THE SECOND FORM's CARD OF 'chantrylaw11.RollTexts'. -/
def rollTextsUptoCard : Claim7 := { stood := { row := rollTextsUptoRow, standIns := [], harness := (true, "96c18ff8d063007250b9116d840b855eae535bd679e18cb3eb19889442323dbd"), looks := true }, kinds := [], alts := [], laidByText := true, laidKinds := [.data, .data, .data, .sentinel, .sentinel], laidTests := true, laidLooks := .later }
def RollTextsUptoCardSaid : Prop := Claim7.holds Tryd.pinned (.plain (OpenSpec.upto rollTextsSpec)) rollTextsUptoCard

/-- THE SECOND FORM's CARD OF 'chantrylaw11.RollMembers'. -/
def rollMembersUptoCard : Claim7 := { stood := { row := rollMembersUptoRow, standIns := [], harness := (true, "96c18ff8d063007250b9116d840b855eae535bd679e18cb3eb19889442323dbd"), looks := true }, kinds := [], alts := [], laidByText := true, laidKinds := [.data, .data, .data, .sentinel, .sentinel], laidTests := true, laidLooks := .later }
def RollMembersUptoCardSaid : Prop := Claim7.holds Tryd.pinned (.plain (OpenSpec.upto rollMembersSpec)) rollMembersUptoCard

/-- THE SECOND FORM's CARD OF 'chantrylaw11.RollPaths'. -/
def rollPathsUptoCard : Claim7 := { stood := { row := rollPathsUptoRow, standIns := [], harness := (true, "96c18ff8d063007250b9116d840b855eae535bd679e18cb3eb19889442323dbd"), looks := true }, kinds := [], alts := [], laidByText := true, laidKinds := [.data, .data, .data, .sentinel, .sentinel], laidTests := true, laidLooks := .later }
def RollPathsUptoCardSaid : Prop := Claim7.holds Tryd.pinned (.plain (OpenSpec.upto rollPathsSpec)) rollPathsUptoCard

/-- THE SECOND FORM's CARD OF 'chantrylaw11.RollBack'. -/
def rollBackUptoCard : Claim7 := { stood := { row := rollBackUptoRow, standIns := [], harness := (true, "96c18ff8d063007250b9116d840b855eae535bd679e18cb3eb19889442323dbd"), looks := true }, kinds := [], alts := [], laidByText := true, laidKinds := [.data, .data, .data, .sentinel, .sentinel], laidTests := true, laidLooks := .later }
def RollBackUptoCardSaid : Prop := Claim7.holds Tryd.pinned (.plain (OpenSpec.upto rollBackSpec)) rollBackUptoCard

/-- THE SECOND FORM's CARD OF 'chantrylaw11.RollEnds'. -/
def rollEndsUptoCard : Claim7 := { stood := { row := rollEndsUptoRow, standIns := [], harness := (true, "96c18ff8d063007250b9116d840b855eae535bd679e18cb3eb19889442323dbd"), looks := true }, kinds := [], alts := [], laidByText := true, laidKinds := [.data, .data, .data, .sentinel, .sentinel], laidTests := true, laidLooks := .later }
def RollEndsUptoCardSaid : Prop := Claim7.holds Tryd.pinned (.plain (OpenSpec.upto rollEndsSpec)) rollEndsUptoCard
end Rows
end Go.Proofs.YtjmgnodeohmboaaDoor
