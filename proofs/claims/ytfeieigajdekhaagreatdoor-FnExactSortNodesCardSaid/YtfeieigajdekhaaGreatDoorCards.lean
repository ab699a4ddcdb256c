/-
  DERIVED. GIVEN WITH THE SEED: THE CARDS: each row of YtfeieigajdekhaaGreatDoorRows.lean that lists a variable, with what it lists TIED to the program's text (the seventh form; the later family's looks); each row that meets fmt, with fmt's text TOLD by the authors' own Lean function (tested against real Go, not proved from fmt's source: count such statements apart). THE CARD IS WHAT COUNTS. Prove the row's statement (the work); the ties are given (YtfeieigajdekhaaGreatDoorTie.lean); close each card by the builder's one call (the guide's Derived/Test/ToyasCard.lean, 'card_holds'). Laid BY PROGRAM, IN A SANDBOX (cutbox-door.mjs). By AI agents, Wed Nov 11 2026. No macro, syntax, notation, axiom, sorry.
-/
import Derived.Test.YtfeieigajdekhaaGreatDoorRows
import GoSem.ClaimSeven
namespace Go.Proofs.YtfeieigajdekhaaGreatDoor
namespace Rows

/-- THE TIED CARD OF 'laws.FnExactSortNodes'. -/
def fnExactSortNodesCard : Claim7 := { stood := { row := fnExactSortNodesRow, standIns := [], harness := (true, "bf98dc0a5645ecb3f1b4e2c2cf976f9b3c97f77860cb7839d152a722718fbad0"), looks := true }, kinds := [], alts := [], laidByText := true, laidKinds := [.data, .data, .data, .sentinel, .sentinel], laidTests := true, laidLooks := .later }
def FnExactSortNodesCardSaid : Prop := Claim7.holds Tryz.pinned (.plain (OpenSpec.ofChange fnExactSortNodesSpec)) fnExactSortNodesCard

/-- THE SECOND FORM's CARD OF 'laws.FnExactSortNodes'. -/
def fnExactSortNodesUptoCard : Claim7 := { stood := { row := fnExactSortNodesUptoRow, standIns := [], harness := (true, "bf98dc0a5645ecb3f1b4e2c2cf976f9b3c97f77860cb7839d152a722718fbad0"), looks := true }, kinds := [], alts := [], laidByText := true, laidKinds := [.data, .data, .data, .sentinel, .sentinel], laidTests := true, laidLooks := .later }
def FnExactSortNodesUptoCardSaid : Prop := Claim7.holds Tryz.pinned (.plain (OpenSpec.upto fnExactSortNodesSpec)) fnExactSortNodesUptoCard
end Rows
end Go.Proofs.YtfeieigajdekhaaGreatDoor
