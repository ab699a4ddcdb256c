/-
  DERIVED. GIVEN WITH THE SEED: THE CARDS: each row of YtadopgcbfghnpaaGreatDoorRows.lean that lists a variable, with what it lists TIED to the program's text (the seventh form; the later family's looks); each row that meets fmt, with fmt's text TOLD by the authors' own Lean function (tested against real Go, not proved from fmt's source: count such statements apart). THE CARD IS WHAT COUNTS. Prove the row's statement (the work); the ties are given (YtadopgcbfghnpaaGreatDoorTie.lean); close each card by the builder's one call (the guide's Derived/Test/ToyasCard.lean, 'card_holds'). Laid BY PROGRAM, IN A SANDBOX (cutbox-door.mjs). By AI agents, Wed Nov 11 2026. No macro, syntax, notation, axiom, sorry.
-/
import Derived.Test.YtadopgcbfghnpaaGreatDoorRows
import GoSem.ClaimSeven
namespace Go.Proofs.YtadopgcbfghnpaaGreatDoor
namespace Rows

/-- THE TIED CARD OF 'laws.FnExactQuoteText'. -/
def fnExactQuoteTextCard : Claim7 := { stood := { row := fnExactQuoteTextRow, standIns := [], harness := (true, "62c430bc2cbb26b713ae10d19c34850b8f135887fdb34455c09e71ea8e8e942f"), looks := true }, kinds := [], alts := [], laidByText := true, laidKinds := [.data, .data, .data, .sentinel, .sentinel], laidTests := true, laidLooks := .later }
def FnExactQuoteTextCardSaid : Prop := Claim7.holds Tryz.pinned (.plain (OpenSpec.ofChange fnExactQuoteTextSpec)) fnExactQuoteTextCard

/-- THE TIED CARD OF 'laws.FnExactListOf'. -/
def fnExactListOfCard : Claim7 := { stood := { row := fnExactListOfRow, standIns := [], harness := (true, "62c430bc2cbb26b713ae10d19c34850b8f135887fdb34455c09e71ea8e8e942f"), looks := true }, kinds := [], alts := [], laidByText := true, laidKinds := [.data, .data, .data, .sentinel, .sentinel], laidTests := true, laidLooks := .later }
def FnExactListOfCardSaid : Prop := Claim7.holds Tryz.pinned (.plain (OpenSpec.ofChange fnExactListOfSpec)) fnExactListOfCard

/-- THE TIED CARD OF 'laws.FnExactMapOf'. -/
def fnExactMapOfCard : Claim7 := { stood := { row := fnExactMapOfRow, standIns := [], harness := (true, "62c430bc2cbb26b713ae10d19c34850b8f135887fdb34455c09e71ea8e8e942f"), looks := true }, kinds := [], alts := [], laidByText := true, laidKinds := [.data, .data, .data, .sentinel, .sentinel], laidTests := true, laidLooks := .later }
def FnExactMapOfCardSaid : Prop := Claim7.holds Tryz.pinned (.plain (OpenSpec.ofChange fnExactMapOfSpec)) fnExactMapOfCard

/-- THE TIED CARD OF 'laws.FnExactItemsOf'. -/
def fnExactItemsOfCard : Claim7 := { stood := { row := fnExactItemsOfRow, standIns := [], harness := (true, "62c430bc2cbb26b713ae10d19c34850b8f135887fdb34455c09e71ea8e8e942f"), looks := true }, kinds := [], alts := [], laidByText := true, laidKinds := [.data, .data, .data, .sentinel, .sentinel], laidTests := true, laidLooks := .later }
def FnExactItemsOfCardSaid : Prop := Claim7.holds Tryz.pinned (.plain (OpenSpec.ofChange fnExactItemsOfSpec)) fnExactItemsOfCard

/-- THE TIED CARD OF 'laws.FnExactFieldsOf'. -/
def fnExactFieldsOfCard : Claim7 := { stood := { row := fnExactFieldsOfRow, standIns := [], harness := (true, "62c430bc2cbb26b713ae10d19c34850b8f135887fdb34455c09e71ea8e8e942f"), looks := true }, kinds := [], alts := [], laidByText := true, laidKinds := [.data, .data, .data, .sentinel, .sentinel], laidTests := true, laidLooks := .later }
def FnExactFieldsOfCardSaid : Prop := Claim7.holds Tryz.pinned (.plain (OpenSpec.ofChange fnExactFieldsOfSpec)) fnExactFieldsOfCard

/-- THE SECOND FORM's CARD OF 'laws.FnExactQuoteText'. -/
def fnExactQuoteTextUptoCard : Claim7 := { stood := { row := fnExactQuoteTextUptoRow, standIns := [], harness := (true, "62c430bc2cbb26b713ae10d19c34850b8f135887fdb34455c09e71ea8e8e942f"), looks := true }, kinds := [], alts := [], laidByText := true, laidKinds := [.data, .data, .data, .sentinel, .sentinel], laidTests := true, laidLooks := .later }
def FnExactQuoteTextUptoCardSaid : Prop := Claim7.holds Tryz.pinned (.plain (OpenSpec.upto fnExactQuoteTextSpec)) fnExactQuoteTextUptoCard

/-- THE SECOND FORM's CARD OF 'laws.FnExactListOf'. -/
def fnExactListOfUptoCard : Claim7 := { stood := { row := fnExactListOfUptoRow, standIns := [], harness := (true, "62c430bc2cbb26b713ae10d19c34850b8f135887fdb34455c09e71ea8e8e942f"), looks := true }, kinds := [], alts := [], laidByText := true, laidKinds := [.data, .data, .data, .sentinel, .sentinel], laidTests := true, laidLooks := .later }
def FnExactListOfUptoCardSaid : Prop := Claim7.holds Tryz.pinned (.plain (OpenSpec.upto fnExactListOfSpec)) fnExactListOfUptoCard

/-- THE SECOND FORM's CARD OF 'laws.FnExactMapOf'. -/
def fnExactMapOfUptoCard : Claim7 := { stood := { row := fnExactMapOfUptoRow, standIns := [], harness := (true, "62c430bc2cbb26b713ae10d19c34850b8f135887fdb34455c09e71ea8e8e942f"), looks := true }, kinds := [], alts := [], laidByText := true, laidKinds := [.data, .data, .data, .sentinel, .sentinel], laidTests := true, laidLooks := .later }
def FnExactMapOfUptoCardSaid : Prop := Claim7.holds Tryz.pinned (.plain (OpenSpec.upto fnExactMapOfSpec)) fnExactMapOfUptoCard

/-- THE SECOND FORM's CARD OF 'laws.FnExactItemsOf'. -/
def fnExactItemsOfUptoCard : Claim7 := { stood := { row := fnExactItemsOfUptoRow, standIns := [], harness := (true, "62c430bc2cbb26b713ae10d19c34850b8f135887fdb34455c09e71ea8e8e942f"), looks := true }, kinds := [], alts := [], laidByText := true, laidKinds := [.data, .data, .data, .sentinel, .sentinel], laidTests := true, laidLooks := .later }
def FnExactItemsOfUptoCardSaid : Prop := Claim7.holds Tryz.pinned (.plain (OpenSpec.upto fnExactItemsOfSpec)) fnExactItemsOfUptoCard

/-- THE SECOND FORM's CARD OF 'laws.FnExactFieldsOf'. -/
def fnExactFieldsOfUptoCard : Claim7 := { stood := { row := fnExactFieldsOfUptoRow, standIns := [], harness := (true, "62c430bc2cbb26b713ae10d19c34850b8f135887fdb34455c09e71ea8e8e942f"), looks := true }, kinds := [], alts := [], laidByText := true, laidKinds := [.data, .data, .data, .sentinel, .sentinel], laidTests := true, laidLooks := .later }
def FnExactFieldsOfUptoCardSaid : Prop := Claim7.holds Tryz.pinned (.plain (OpenSpec.upto fnExactFieldsOfSpec)) fnExactFieldsOfUptoCard
end Rows
end Go.Proofs.YtadopgcbfghnpaaGreatDoor
