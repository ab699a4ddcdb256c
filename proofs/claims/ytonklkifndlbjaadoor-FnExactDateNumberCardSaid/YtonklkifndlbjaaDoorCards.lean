/-
  DERIVED. GIVEN WITH THE SEED: THE CARDS: each row of YtonklkifndlbjaaDoorRows.lean that lists a variable, with what it lists TIED to the program's text (the seventh form; the later family's looks); each row that meets fmt, with fmt's text TOLD by the authors' own Lean function (tested against real Go, not proved from fmt's source: count such statements apart). THE CARD IS WHAT COUNTS. Prove the row's statement (the work); the ties are given (YtonklkifndlbjaaDoorTie.lean); close each card by the builder's one call (the guide's Derived/Test/ToyasCard.lean, 'card_holds'). Laid BY PROGRAM, IN A SANDBOX (cutbox-door.mjs). By AI agents, Wed Nov 11 2026. No macro, syntax, notation, axiom, sorry.
-/
import Derived.Test.YtonklkifndlbjaaDoorRows
import GoSem.ClaimSeven
namespace Go.Proofs.YtonklkifndlbjaaDoor
namespace Rows

/-- THE TIED CARD OF 'laws.FnExactKindOf'. -/
def fnExactKindOfCard : Claim7 := { stood := { row := fnExactKindOfRow, standIns := [], harness := (true, "63a2b72730a2fb37834710e7198484f236c4cc8820429f49c9745dd328c174c0"), looks := true }, kinds := [], alts := [], laidByText := true, laidKinds := [.data, .data, .data, .sentinel, .sentinel], laidTests := true, laidLooks := .later }
def FnExactKindOfCardSaid : Prop := Claim7.holds Tryd.pinned (.plain (OpenSpec.ofChange fnExactKindOfSpec)) fnExactKindOfCard

/-- THE TIED CARD OF 'laws.FnExactTextOf'. -/
def fnExactTextOfCard : Claim7 := { stood := { row := fnExactTextOfRow, standIns := [], harness := (true, "63a2b72730a2fb37834710e7198484f236c4cc8820429f49c9745dd328c174c0"), looks := true }, kinds := [], alts := [], laidByText := true, laidKinds := [.data, .data, .data, .sentinel, .sentinel], laidTests := true, laidLooks := .later }
def FnExactTextOfCardSaid : Prop := Claim7.holds Tryd.pinned (.plain (OpenSpec.ofChange fnExactTextOfSpec)) fnExactTextOfCard

/-- THE TIED CARD OF 'laws.FnExactValueFault'. -/
def fnExactValueFaultCard : Claim7 := { stood := { row := fnExactValueFaultRow, standIns := [], harness := (true, "63a2b72730a2fb37834710e7198484f236c4cc8820429f49c9745dd328c174c0"), looks := true }, kinds := [], alts := [], laidByText := true, laidKinds := [.data, .data, .data, .sentinel, .sentinel], laidTests := true, laidLooks := .later }
def FnExactValueFaultCardSaid : Prop := Claim7.holds Tryd.pinned (.plain (OpenSpec.ofChange fnExactValueFaultSpec)) fnExactValueFaultCard

/-- THE TIED CARD OF 'laws.FnExactDateNumber'. -/
def fnExactDateNumberCard : Claim7 := { stood := { row := fnExactDateNumberRow, standIns := [], harness := (true, "63a2b72730a2fb37834710e7198484f236c4cc8820429f49c9745dd328c174c0"), looks := true }, kinds := [], alts := [], laidByText := true, laidKinds := [.data, .data, .data, .sentinel, .sentinel], laidTests := true, laidLooks := .later }
def FnExactDateNumberCardSaid : Prop := Claim7.holds Tryd.pinned (.plain (OpenSpec.ofChange fnExactDateNumberSpec)) fnExactDateNumberCard

/-- THE SECOND FORM's CARD OF 'laws.FnExactKindOf'. -/
def fnExactKindOfUptoCard : Claim7 := { stood := { row := fnExactKindOfUptoRow, standIns := [], harness := (true, "63a2b72730a2fb37834710e7198484f236c4cc8820429f49c9745dd328c174c0"), looks := true }, kinds := [], alts := [], laidByText := true, laidKinds := [.data, .data, .data, .sentinel, .sentinel], laidTests := true, laidLooks := .later }
def FnExactKindOfUptoCardSaid : Prop := Claim7.holds Tryd.pinned (.plain (OpenSpec.upto fnExactKindOfSpec)) fnExactKindOfUptoCard

/-- THE SECOND FORM's CARD OF 'laws.FnExactTextOf'. -/
def fnExactTextOfUptoCard : Claim7 := { stood := { row := fnExactTextOfUptoRow, standIns := [], harness := (true, "63a2b72730a2fb37834710e7198484f236c4cc8820429f49c9745dd328c174c0"), looks := true }, kinds := [], alts := [], laidByText := true, laidKinds := [.data, .data, .data, .sentinel, .sentinel], laidTests := true, laidLooks := .later }
def FnExactTextOfUptoCardSaid : Prop := Claim7.holds Tryd.pinned (.plain (OpenSpec.upto fnExactTextOfSpec)) fnExactTextOfUptoCard

/-- THE SECOND FORM's CARD OF 'laws.FnExactValueFault'. -/
def fnExactValueFaultUptoCard : Claim7 := { stood := { row := fnExactValueFaultUptoRow, standIns := [], harness := (true, "63a2b72730a2fb37834710e7198484f236c4cc8820429f49c9745dd328c174c0"), looks := true }, kinds := [], alts := [], laidByText := true, laidKinds := [.data, .data, .data, .sentinel, .sentinel], laidTests := true, laidLooks := .later }
def FnExactValueFaultUptoCardSaid : Prop := Claim7.holds Tryd.pinned (.plain (OpenSpec.upto fnExactValueFaultSpec)) fnExactValueFaultUptoCard

/-- THE SECOND FORM's CARD OF 'laws.FnExactDateNumber'. -/
def fnExactDateNumberUptoCard : Claim7 := { stood := { row := fnExactDateNumberUptoRow, standIns := [], harness := (true, "63a2b72730a2fb37834710e7198484f236c4cc8820429f49c9745dd328c174c0"), looks := true }, kinds := [], alts := [], laidByText := true, laidKinds := [.data, .data, .data, .sentinel, .sentinel], laidTests := true, laidLooks := .later }
def FnExactDateNumberUptoCardSaid : Prop := Claim7.holds Tryd.pinned (.plain (OpenSpec.upto fnExactDateNumberSpec)) fnExactDateNumberUptoCard
end Rows
end Go.Proofs.YtonklkifndlbjaaDoor
