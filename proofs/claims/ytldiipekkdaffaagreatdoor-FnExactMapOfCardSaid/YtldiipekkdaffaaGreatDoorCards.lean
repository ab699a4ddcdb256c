/-
  DERIVED. GIVEN WITH THE SEED: THE CARDS: each row of YtldiipekkdaffaaGreatDoorRows.lean that lists a variable, with what it lists TIED to the program's text (the seventh form; the later family's looks); each row that meets fmt, with fmt's text TOLD by the authors' own Lean function (tested against real Go, not proved from fmt's source: count such statements apart). THE CARD IS WHAT COUNTS. Prove the row's statement (the work); the ties are given (YtldiipekkdaffaaGreatDoorTie.lean); close each card by the builder's one call (the guide's Derived/Test/ToyasCard.lean, 'card_holds'). Laid BY PROGRAM, IN A SANDBOX (cutbox-door.mjs). By AI agents, Wed Nov 11 2026. No macro, syntax, notation, axiom, sorry.
-/
import Derived.Test.YtldiipekkdaffaaGreatDoorRows
import GoSem.ClaimSeven
namespace Go.Proofs.YtldiipekkdaffaaGreatDoor
namespace Rows

/-- THE TIED CARD OF 'laws.FnExactListOf'. -/
def fnExactListOfCard : Claim7 := { stood := { row := fnExactListOfRow, standIns := [], harness := (true, "144abdd9494a1ad045573b57fcb3abd7d1ea29cd09518cade8f0f788d4a79664"), looks := true }, kinds := [], alts := [], laidByText := true, laidKinds := [.data, .data, .data, .sentinel, .sentinel], laidTests := true, laidLooks := .later }
def FnExactListOfCardSaid : Prop := Claim7.holds Tryz.pinned (.plain (OpenSpec.ofChange fnExactListOfSpec)) fnExactListOfCard

/-- THE TIED CARD OF 'laws.FnExactMapOf'. -/
def fnExactMapOfCard : Claim7 := { stood := { row := fnExactMapOfRow, standIns := [], harness := (true, "144abdd9494a1ad045573b57fcb3abd7d1ea29cd09518cade8f0f788d4a79664"), looks := true }, kinds := [], alts := [], laidByText := true, laidKinds := [.data, .data, .data, .sentinel, .sentinel], laidTests := true, laidLooks := .later }
def FnExactMapOfCardSaid : Prop := Claim7.holds Tryz.pinned (.plain (OpenSpec.ofChange fnExactMapOfSpec)) fnExactMapOfCard

/-- THE TIED CARD OF 'laws.FnExactItemsOf'. -/
def fnExactItemsOfCard : Claim7 := { stood := { row := fnExactItemsOfRow, standIns := [], harness := (true, "144abdd9494a1ad045573b57fcb3abd7d1ea29cd09518cade8f0f788d4a79664"), looks := true }, kinds := [], alts := [], laidByText := true, laidKinds := [.data, .data, .data, .sentinel, .sentinel], laidTests := true, laidLooks := .later }
def FnExactItemsOfCardSaid : Prop := Claim7.holds Tryz.pinned (.plain (OpenSpec.ofChange fnExactItemsOfSpec)) fnExactItemsOfCard

/-- THE TIED CARD OF 'laws.FnExactFieldsOf'. -/
def fnExactFieldsOfCard : Claim7 := { stood := { row := fnExactFieldsOfRow, standIns := [], harness := (true, "144abdd9494a1ad045573b57fcb3abd7d1ea29cd09518cade8f0f788d4a79664"), looks := true }, kinds := [], alts := [], laidByText := true, laidKinds := [.data, .data, .data, .sentinel, .sentinel], laidTests := true, laidLooks := .later }
def FnExactFieldsOfCardSaid : Prop := Claim7.holds Tryz.pinned (.plain (OpenSpec.ofChange fnExactFieldsOfSpec)) fnExactFieldsOfCard

/-- THE SECOND FORM's CARD OF 'laws.FnExactListOf'. -/
def fnExactListOfUptoCard : Claim7 := { stood := { row := fnExactListOfUptoRow, standIns := [], harness := (true, "144abdd9494a1ad045573b57fcb3abd7d1ea29cd09518cade8f0f788d4a79664"), looks := true }, kinds := [], alts := [], laidByText := true, laidKinds := [.data, .data, .data, .sentinel, .sentinel], laidTests := true, laidLooks := .later }
def FnExactListOfUptoCardSaid : Prop := Claim7.holds Tryz.pinned (.plain (OpenSpec.upto fnExactListOfSpec)) fnExactListOfUptoCard

/-- THE SECOND FORM's CARD OF 'laws.FnExactMapOf'. -/
def fnExactMapOfUptoCard : Claim7 := { stood := { row := fnExactMapOfUptoRow, standIns := [], harness := (true, "144abdd9494a1ad045573b57fcb3abd7d1ea29cd09518cade8f0f788d4a79664"), looks := true }, kinds := [], alts := [], laidByText := true, laidKinds := [.data, .data, .data, .sentinel, .sentinel], laidTests := true, laidLooks := .later }
def FnExactMapOfUptoCardSaid : Prop := Claim7.holds Tryz.pinned (.plain (OpenSpec.upto fnExactMapOfSpec)) fnExactMapOfUptoCard

/-- THE SECOND FORM's CARD OF 'laws.FnExactItemsOf'. -/
def fnExactItemsOfUptoCard : Claim7 := { stood := { row := fnExactItemsOfUptoRow, standIns := [], harness := (true, "144abdd9494a1ad045573b57fcb3abd7d1ea29cd09518cade8f0f788d4a79664"), looks := true }, kinds := [], alts := [], laidByText := true, laidKinds := [.data, .data, .data, .sentinel, .sentinel], laidTests := true, laidLooks := .later }
def FnExactItemsOfUptoCardSaid : Prop := Claim7.holds Tryz.pinned (.plain (OpenSpec.upto fnExactItemsOfSpec)) fnExactItemsOfUptoCard

/-- THE SECOND FORM's CARD OF 'laws.FnExactFieldsOf'. -/
def fnExactFieldsOfUptoCard : Claim7 := { stood := { row := fnExactFieldsOfUptoRow, standIns := [], harness := (true, "144abdd9494a1ad045573b57fcb3abd7d1ea29cd09518cade8f0f788d4a79664"), looks := true }, kinds := [], alts := [], laidByText := true, laidKinds := [.data, .data, .data, .sentinel, .sentinel], laidTests := true, laidLooks := .later }
def FnExactFieldsOfUptoCardSaid : Prop := Claim7.holds Tryz.pinned (.plain (OpenSpec.upto fnExactFieldsOfSpec)) fnExactFieldsOfUptoCard
end Rows
end Go.Proofs.YtldiipekkdaffaaGreatDoor
