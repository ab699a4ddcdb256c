/-
  DERIVED. GIVEN WITH THE SEED: THE CARDS: each row of YtadopgcbfghnpaaDoorRows.lean that lists a variable, with what it lists TIED to the program's text (the seventh form; the later family's looks); each row that meets fmt, with fmt's text TOLD by the authors' own Lean function (tested against real Go, not proved from fmt's source: count such statements apart). THE CARD IS WHAT COUNTS. Prove the row's statement (the work); the ties are given (YtadopgcbfghnpaaDoorTie.lean); close each card by the builder's one call (the guide's Derived/Test/ToyasCard.lean, 'card_holds'). Laid BY PROGRAM, IN A SANDBOX (cutbox-door.mjs). By AI agents, Wed Nov 11 2026. No macro, syntax, notation, axiom, sorry.
-/
import Derived.Test.YtadopgcbfghnpaaDoorRows
import GoSem.ClaimSeven
namespace Go.Proofs.YtadopgcbfghnpaaDoor
namespace Rows

/-- THE TIED CARD OF 'laws.FnExactCompareValues'. -/
def fnExactCompareValuesCard : Claim7 := { stood := { row := fnExactCompareValuesRow, standIns := [], harness := (true, "42b9289cc9b085817d4b406e82b6f52e6d037fb350a197e7635a179489bc5d1d"), looks := true }, kinds := [], alts := [], laidByText := true, laidKinds := [.data, .data, .data, .sentinel, .sentinel], laidTests := true, laidLooks := .later }
def FnExactCompareValuesCardSaid : Prop := Claim7.holds Tryd.pinned (.plain (OpenSpec.ofChange fnExactCompareValuesSpec)) fnExactCompareValuesCard

/-- THE TIED CARD OF 'laws.FnExactLessValues'. -/
def fnExactLessValuesCard : Claim7 := { stood := { row := fnExactLessValuesRow, standIns := [], harness := (true, "42b9289cc9b085817d4b406e82b6f52e6d037fb350a197e7635a179489bc5d1d"), looks := true }, kinds := [], alts := [], laidByText := true, laidKinds := [.data, .data, .data, .sentinel, .sentinel], laidTests := true, laidLooks := .later }
def FnExactLessValuesCardSaid : Prop := Claim7.holds Tryd.pinned (.plain (OpenSpec.ofChange fnExactLessValuesSpec)) fnExactLessValuesCard

/-- THE TIED CARD OF 'laws.FnExactSameValues'. -/
def fnExactSameValuesCard : Claim7 := { stood := { row := fnExactSameValuesRow, standIns := [], harness := (true, "42b9289cc9b085817d4b406e82b6f52e6d037fb350a197e7635a179489bc5d1d"), looks := true }, kinds := [], alts := [], laidByText := true, laidKinds := [.data, .data, .data, .sentinel, .sentinel], laidTests := true, laidLooks := .later }
def FnExactSameValuesCardSaid : Prop := Claim7.holds Tryd.pinned (.plain (OpenSpec.ofChange fnExactSameValuesSpec)) fnExactSameValuesCard

/-- THE SECOND FORM's CARD OF 'laws.FnExactCompareValues'. -/
def fnExactCompareValuesUptoCard : Claim7 := { stood := { row := fnExactCompareValuesUptoRow, standIns := [], harness := (true, "42b9289cc9b085817d4b406e82b6f52e6d037fb350a197e7635a179489bc5d1d"), looks := true }, kinds := [], alts := [], laidByText := true, laidKinds := [.data, .data, .data, .sentinel, .sentinel], laidTests := true, laidLooks := .later }
def FnExactCompareValuesUptoCardSaid : Prop := Claim7.holds Tryd.pinned (.plain (OpenSpec.upto fnExactCompareValuesSpec)) fnExactCompareValuesUptoCard

/-- THE SECOND FORM's CARD OF 'laws.FnExactLessValues'. -/
def fnExactLessValuesUptoCard : Claim7 := { stood := { row := fnExactLessValuesUptoRow, standIns := [], harness := (true, "42b9289cc9b085817d4b406e82b6f52e6d037fb350a197e7635a179489bc5d1d"), looks := true }, kinds := [], alts := [], laidByText := true, laidKinds := [.data, .data, .data, .sentinel, .sentinel], laidTests := true, laidLooks := .later }
def FnExactLessValuesUptoCardSaid : Prop := Claim7.holds Tryd.pinned (.plain (OpenSpec.upto fnExactLessValuesSpec)) fnExactLessValuesUptoCard

/-- THE SECOND FORM's CARD OF 'laws.FnExactSameValues'. -/
def fnExactSameValuesUptoCard : Claim7 := { stood := { row := fnExactSameValuesUptoRow, standIns := [], harness := (true, "42b9289cc9b085817d4b406e82b6f52e6d037fb350a197e7635a179489bc5d1d"), looks := true }, kinds := [], alts := [], laidByText := true, laidKinds := [.data, .data, .data, .sentinel, .sentinel], laidTests := true, laidLooks := .later }
def FnExactSameValuesUptoCardSaid : Prop := Claim7.holds Tryd.pinned (.plain (OpenSpec.upto fnExactSameValuesSpec)) fnExactSameValuesUptoCard
end Rows
end Go.Proofs.YtadopgcbfghnpaaDoor
