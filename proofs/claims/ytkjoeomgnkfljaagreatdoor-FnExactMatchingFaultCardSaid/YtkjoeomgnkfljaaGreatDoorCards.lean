/-
  DERIVED. GIVEN WITH THE SEED: THE CARDS: each row of YtkjoeomgnkfljaaGreatDoorRows.lean that lists a variable, with what it lists TIED to the program's text (the seventh form; the later family's looks); each row that meets fmt, with fmt's text TOLD by the authors' own Lean function (tested against real Go, not proved from fmt's source: count such statements apart). THE CARD IS WHAT COUNTS. Prove the row's statement (the work); the ties are given (YtkjoeomgnkfljaaGreatDoorTie.lean); close each card by the builder's one call (the guide's Derived/Test/ToyasCard.lean, 'card_holds'). Laid BY PROGRAM, IN A SANDBOX (cutbox-door.mjs). By AI agents, Wed Nov 11 2026. No macro, syntax, notation, axiom, sorry.
-/
import Derived.Test.YtkjoeomgnkfljaaGreatDoorRows
import GoSem.ClaimSeven
namespace Go.Proofs.YtkjoeomgnkfljaaGreatDoor
namespace Rows

/-- THE TIED CARD OF 'laws.FnExactTurnOf'. -/
def fnExactTurnOfCard : Claim7 := { stood := { row := fnExactTurnOfRow, standIns := [], harness := (true, "5450d8ab5d396708ff44b27da4337cf6c854861ec42b75a55976cf3c41776a31"), looks := true }, kinds := [], alts := [], laidByText := true, laidKinds := [.data, .data, .data, .sentinel, .sentinel], laidTests := true, laidLooks := .later }
def FnExactTurnOfCardSaid : Prop := Claim7.holds Tryz.pinned (.plain (OpenSpec.ofChange fnExactTurnOfSpec)) fnExactTurnOfCard

/-- THE TIED CARD OF 'laws.FnExactFlowFault'. -/
def fnExactFlowFaultCard : Claim7 := { stood := { row := fnExactFlowFaultRow, standIns := [], harness := (true, "5450d8ab5d396708ff44b27da4337cf6c854861ec42b75a55976cf3c41776a31"), looks := true }, kinds := [], alts := [], laidByText := true, laidKinds := [.data, .data, .data, .sentinel, .sentinel], laidTests := true, laidLooks := .later }
def FnExactFlowFaultCardSaid : Prop := Claim7.holds Tryz.pinned (.plain (OpenSpec.ofChange fnExactFlowFaultSpec)) fnExactFlowFaultCard

/-- THE TIED CARD OF 'laws.FnExactVarsOf'. -/
def fnExactVarsOfCard : Claim7 := { stood := { row := fnExactVarsOfRow, standIns := [], harness := (true, "5450d8ab5d396708ff44b27da4337cf6c854861ec42b75a55976cf3c41776a31"), looks := true }, kinds := [], alts := [], laidByText := true, laidKinds := [.data, .data, .data, .data, .sentinel, .sentinel, .pinned], laidTests := true, laidLooks := .later }
def FnExactVarsOfCardSaid : Prop := Claim7.holds Tryz.pinned (.plain (OpenSpec.ofChange fnExactVarsOfSpec)) fnExactVarsOfCard

/-- THE TIED CARD OF 'laws.FnExactShowChanges'. -/
def fnExactShowChangesCard : Claim7 := { stood := { row := fnExactShowChangesRow, standIns := [], harness := (true, "5450d8ab5d396708ff44b27da4337cf6c854861ec42b75a55976cf3c41776a31"), looks := true }, kinds := [], alts := [], laidByText := true, laidKinds := [.data, .data, .data, .sentinel, .sentinel], laidTests := true, laidLooks := .later }
def FnExactShowChangesCardSaid : Prop := Claim7.holds Tryz.pinned (.plain (OpenSpec.ofChange fnExactShowChangesSpec)) fnExactShowChangesCard

/-- THE TIED CARD OF 'laws.FnExactSortNodes'. -/
def fnExactSortNodesCard : Claim7 := { stood := { row := fnExactSortNodesRow, standIns := [], harness := (true, "5450d8ab5d396708ff44b27da4337cf6c854861ec42b75a55976cf3c41776a31"), looks := true }, kinds := [], alts := [], laidByText := true, laidKinds := [.data, .data, .data, .sentinel, .sentinel], laidTests := true, laidLooks := .later }
def FnExactSortNodesCardSaid : Prop := Claim7.holds Tryz.pinned (.plain (OpenSpec.ofChange fnExactSortNodesSpec)) fnExactSortNodesCard

/-- THE TIED CARD OF 'laws.FnExactFindBox'. -/
def fnExactFindBoxCard : Claim7 := { stood := { row := fnExactFindBoxRow, standIns := [], harness := (true, "5450d8ab5d396708ff44b27da4337cf6c854861ec42b75a55976cf3c41776a31"), looks := true }, kinds := [], alts := [], laidByText := true, laidKinds := [.data, .data, .data, .sentinel, .sentinel], laidTests := true, laidLooks := .later }
def FnExactFindBoxCardSaid : Prop := Claim7.holds Tryz.pinned (.plain (OpenSpec.ofChange fnExactFindBoxSpec)) fnExactFindBoxCard

/-- THE TIED CARD OF 'laws.FnExactPlacingFault'. -/
def fnExactPlacingFaultCard : Claim7 := { stood := { row := fnExactPlacingFaultRow, standIns := [], harness := (true, "5450d8ab5d396708ff44b27da4337cf6c854861ec42b75a55976cf3c41776a31"), looks := true }, kinds := [], alts := [], laidByText := true, laidKinds := [.data, .data, .data, .sentinel, .sentinel], laidTests := true, laidLooks := .later }
def FnExactPlacingFaultCardSaid : Prop := Claim7.holds Tryz.pinned (.plain (OpenSpec.ofChange fnExactPlacingFaultSpec)) fnExactPlacingFaultCard

/-- THE TIED CARD OF 'laws.FnExactMatchingFault'. -/
def fnExactMatchingFaultCard : Claim7 := { stood := { row := fnExactMatchingFaultRow, standIns := [], harness := (true, "5450d8ab5d396708ff44b27da4337cf6c854861ec42b75a55976cf3c41776a31"), looks := true }, kinds := [], alts := [], laidByText := true, laidKinds := [.data, .data, .data, .sentinel, .sentinel], laidTests := true, laidLooks := .later }
def FnExactMatchingFaultCardSaid : Prop := Claim7.holds Tryz.pinned (.plain (OpenSpec.ofChange fnExactMatchingFaultSpec)) fnExactMatchingFaultCard

/-- THE SECOND FORM's CARD OF 'laws.FnExactTurnOf'. -/
def fnExactTurnOfUptoCard : Claim7 := { stood := { row := fnExactTurnOfUptoRow, standIns := [], harness := (true, "5450d8ab5d396708ff44b27da4337cf6c854861ec42b75a55976cf3c41776a31"), looks := true }, kinds := [], alts := [], laidByText := true, laidKinds := [.data, .data, .data, .sentinel, .sentinel], laidTests := true, laidLooks := .later }
def FnExactTurnOfUptoCardSaid : Prop := Claim7.holds Tryz.pinned (.plain (OpenSpec.upto fnExactTurnOfSpec)) fnExactTurnOfUptoCard

/-- THE SECOND FORM's CARD OF 'laws.FnExactFlowFault'. -/
def fnExactFlowFaultUptoCard : Claim7 := { stood := { row := fnExactFlowFaultUptoRow, standIns := [], harness := (true, "5450d8ab5d396708ff44b27da4337cf6c854861ec42b75a55976cf3c41776a31"), looks := true }, kinds := [], alts := [], laidByText := true, laidKinds := [.data, .data, .data, .sentinel, .sentinel], laidTests := true, laidLooks := .later }
def FnExactFlowFaultUptoCardSaid : Prop := Claim7.holds Tryz.pinned (.plain (OpenSpec.upto fnExactFlowFaultSpec)) fnExactFlowFaultUptoCard

/-- THE SECOND FORM's CARD OF 'laws.FnExactVarsOf'. -/
def fnExactVarsOfUptoCard : Claim7 := { stood := { row := fnExactVarsOfUptoRow, standIns := [], harness := (true, "5450d8ab5d396708ff44b27da4337cf6c854861ec42b75a55976cf3c41776a31"), looks := true }, kinds := [], alts := [], laidByText := true, laidKinds := [.data, .data, .data, .data, .sentinel, .sentinel, .pinned], laidTests := true, laidLooks := .later }
def FnExactVarsOfUptoCardSaid : Prop := Claim7.holds Tryz.pinned (.plain (OpenSpec.upto fnExactVarsOfSpec)) fnExactVarsOfUptoCard

/-- THE SECOND FORM's CARD OF 'laws.FnExactShowChanges'. -/
def fnExactShowChangesUptoCard : Claim7 := { stood := { row := fnExactShowChangesUptoRow, standIns := [], harness := (true, "5450d8ab5d396708ff44b27da4337cf6c854861ec42b75a55976cf3c41776a31"), looks := true }, kinds := [], alts := [], laidByText := true, laidKinds := [.data, .data, .data, .sentinel, .sentinel], laidTests := true, laidLooks := .later }
def FnExactShowChangesUptoCardSaid : Prop := Claim7.holds Tryz.pinned (.plain (OpenSpec.upto fnExactShowChangesSpec)) fnExactShowChangesUptoCard

/-- THE SECOND FORM's CARD OF 'laws.FnExactSortNodes'. -/
def fnExactSortNodesUptoCard : Claim7 := { stood := { row := fnExactSortNodesUptoRow, standIns := [], harness := (true, "5450d8ab5d396708ff44b27da4337cf6c854861ec42b75a55976cf3c41776a31"), looks := true }, kinds := [], alts := [], laidByText := true, laidKinds := [.data, .data, .data, .sentinel, .sentinel], laidTests := true, laidLooks := .later }
def FnExactSortNodesUptoCardSaid : Prop := Claim7.holds Tryz.pinned (.plain (OpenSpec.upto fnExactSortNodesSpec)) fnExactSortNodesUptoCard

/-- THE SECOND FORM's CARD OF 'laws.FnExactFindBox'. -/
def fnExactFindBoxUptoCard : Claim7 := { stood := { row := fnExactFindBoxUptoRow, standIns := [], harness := (true, "5450d8ab5d396708ff44b27da4337cf6c854861ec42b75a55976cf3c41776a31"), looks := true }, kinds := [], alts := [], laidByText := true, laidKinds := [.data, .data, .data, .sentinel, .sentinel], laidTests := true, laidLooks := .later }
def FnExactFindBoxUptoCardSaid : Prop := Claim7.holds Tryz.pinned (.plain (OpenSpec.upto fnExactFindBoxSpec)) fnExactFindBoxUptoCard

/-- THE SECOND FORM's CARD OF 'laws.FnExactPlacingFault'. -/
def fnExactPlacingFaultUptoCard : Claim7 := { stood := { row := fnExactPlacingFaultUptoRow, standIns := [], harness := (true, "5450d8ab5d396708ff44b27da4337cf6c854861ec42b75a55976cf3c41776a31"), looks := true }, kinds := [], alts := [], laidByText := true, laidKinds := [.data, .data, .data, .sentinel, .sentinel], laidTests := true, laidLooks := .later }
def FnExactPlacingFaultUptoCardSaid : Prop := Claim7.holds Tryz.pinned (.plain (OpenSpec.upto fnExactPlacingFaultSpec)) fnExactPlacingFaultUptoCard

/-- THE SECOND FORM's CARD OF 'laws.FnExactMatchingFault'. -/
def fnExactMatchingFaultUptoCard : Claim7 := { stood := { row := fnExactMatchingFaultUptoRow, standIns := [], harness := (true, "5450d8ab5d396708ff44b27da4337cf6c854861ec42b75a55976cf3c41776a31"), looks := true }, kinds := [], alts := [], laidByText := true, laidKinds := [.data, .data, .data, .sentinel, .sentinel], laidTests := true, laidLooks := .later }
def FnExactMatchingFaultUptoCardSaid : Prop := Claim7.holds Tryz.pinned (.plain (OpenSpec.upto fnExactMatchingFaultSpec)) fnExactMatchingFaultUptoCard
end Rows
end Go.Proofs.YtkjoeomgnkfljaaGreatDoor
