/-
  DERIVED. GIVEN WITH THE SEED: THE CARDS: each row of YtfjckgcbgepndaaDoorRows.lean that lists a variable, with what it lists TIED to the program's text (the seventh form; the later family's looks); each row that meets fmt, with fmt's text TOLD by the authors' own Lean function (tested against real Go, not proved from fmt's source: count such statements apart). THE CARD IS WHAT COUNTS. Prove the row's statement (the work); the ties are given (YtfjckgcbgepndaaDoorTie.lean); close each card by the builder's one call (the guide's Derived/Test/ToyasCard.lean, 'card_holds'). Laid BY PROGRAM, IN A SANDBOX (cutbox-door.mjs). By AI agents, Wed Nov 11 2026. No macro, syntax, notation, axiom, sorry.
-/
import Derived.Test.YtfjckgcbgepndaaDoorRows
import GoSem.ClaimSeven
namespace Go.Proofs.YtfjckgcbgepndaaDoor
namespace Rows

/-- THE TIED CARD OF 'laws.FnExactShowPattern'. -/
def fnExactShowPatternCard : Claim7 := { stood := { row := fnExactShowPatternRow, standIns := [], harness := (true, "d5bb8da04bf34c4f13e11310c2040c1a00d1bb1ec82586f9ed45ed4e4929d310"), looks := false }, kinds := [], alts := [], laidByText := true, laidKinds := [.data, .data, .data], laidTests := true, laidLooks := .later }
def FnExactShowPatternCardSaid : Prop := Claim7.holds Tryd.pinned (.plain (OpenSpec.ofChange fnExactShowPatternSpec)) fnExactShowPatternCard

/-- THE SECOND FORM's CARD OF 'laws.FnExactShowPattern'. -/
def fnExactShowPatternUptoCard : Claim7 := { stood := { row := fnExactShowPatternUptoRow, standIns := [], harness := (true, "d5bb8da04bf34c4f13e11310c2040c1a00d1bb1ec82586f9ed45ed4e4929d310"), looks := false }, kinds := [], alts := [], laidByText := true, laidKinds := [.data, .data, .data], laidTests := true, laidLooks := .later }
def FnExactShowPatternUptoCardSaid : Prop := Claim7.holds Tryd.pinned (.plain (OpenSpec.upto fnExactShowPatternSpec)) fnExactShowPatternUptoCard
end Rows
end Go.Proofs.YtfjckgcbgepndaaDoor
