/-
  DERIVED. GIVEN WITH THE SEED: THE CARDS: each row of YtfjckgcbgepndaaGreatDoorRows.lean that lists a variable, with what it lists TIED to the program's text (the seventh form; the later family's looks); each row that meets fmt, with fmt's text TOLD by the authors' own Lean function (tested against real Go, not proved from fmt's source: count such statements apart). THE CARD IS WHAT COUNTS. Prove the row's statement (the work); the ties are given (YtfjckgcbgepndaaGreatDoorTie.lean); close each card by the builder's one call (the guide's Derived/Test/ToyasCard.lean, 'card_holds'). Laid BY PROGRAM, IN A SANDBOX (cutbox-door.mjs). By AI agents, Wed Nov 11 2026. No macro, syntax, notation, axiom, sorry.
-/
import Derived.Test.YtfjckgcbgepndaaGreatDoorRows
import GoSem.ClaimSeven
namespace Go.Proofs.YtfjckgcbgepndaaGreatDoor
namespace Rows

/-- THE TIED CARD OF 'laws.FnExactIndexFault'. -/
def fnExactIndexFaultCard : Claim7 := { stood := { row := fnExactIndexFaultRow, standIns := [], harness := (true, "60013ea63ce21a8e2a793959e0b551177480833620aab4d9930444ebf301b2a2"), looks := true }, kinds := [], alts := [], laidByText := true, laidKinds := [.data, .data, .data, .sentinel, .sentinel], laidTests := true, laidLooks := .later }
def FnExactIndexFaultCardSaid : Prop := Claim7.holds Tryz.pinned (.plain (OpenSpec.ofChange fnExactIndexFaultSpec)) fnExactIndexFaultCard

/-- THE TIED CARD OF 'laws.FnExactFindFirst'. -/
def fnExactFindFirstCard : Claim7 := { stood := { row := fnExactFindFirstRow, standIns := [], harness := (true, "60013ea63ce21a8e2a793959e0b551177480833620aab4d9930444ebf301b2a2"), looks := true }, kinds := [], alts := [], laidByText := true, laidKinds := [.data, .data, .data, .sentinel, .sentinel], laidTests := true, laidLooks := .later }
def FnExactFindFirstCardSaid : Prop := Claim7.holds Tryz.pinned (.plain (OpenSpec.ofChange fnExactFindFirstSpec)) fnExactFindFirstCard

/-- THE TIED CARD OF 'laws.FnExactFindRange'. -/
def fnExactFindRangeCard : Claim7 := { stood := { row := fnExactFindRangeRow, standIns := [], harness := (true, "60013ea63ce21a8e2a793959e0b551177480833620aab4d9930444ebf301b2a2"), looks := true }, kinds := [], alts := [], laidByText := true, laidKinds := [.data, .data, .data, .sentinel, .sentinel], laidTests := true, laidLooks := .later }
def FnExactFindRangeCardSaid : Prop := Claim7.holds Tryz.pinned (.plain (OpenSpec.ofChange fnExactFindRangeSpec)) fnExactFindRangeCard

/-- THE TIED CARD OF 'laws.FnExactGraphFault'. -/
def fnExactGraphFaultCard : Claim7 := { stood := { row := fnExactGraphFaultRow, standIns := [], harness := (true, "60013ea63ce21a8e2a793959e0b551177480833620aab4d9930444ebf301b2a2"), looks := true }, kinds := [], alts := [], laidByText := true, laidKinds := [.data, .data, .data, .sentinel, .sentinel], laidTests := true, laidLooks := .later }
def FnExactGraphFaultCardSaid : Prop := Claim7.holds Tryz.pinned (.plain (OpenSpec.ofChange fnExactGraphFaultSpec)) fnExactGraphFaultCard

/-- THE TIED CARD OF 'laws.FnExactShowGraph'. -/
def fnExactShowGraphCard : Claim7 := { stood := { row := fnExactShowGraphRow, standIns := [], harness := (true, "60013ea63ce21a8e2a793959e0b551177480833620aab4d9930444ebf301b2a2"), looks := true }, kinds := [], alts := [], laidByText := true, laidKinds := [.data, .data, .data, .sentinel, .sentinel], laidTests := true, laidLooks := .later }
def FnExactShowGraphCardSaid : Prop := Claim7.holds Tryz.pinned (.plain (OpenSpec.ofChange fnExactShowGraphSpec)) fnExactShowGraphCard

/-- THE TIED CARD OF 'laws.FnExactInOf'. -/
def fnExactInOfCard : Claim7 := { stood := { row := fnExactInOfRow, standIns := [], harness := (true, "60013ea63ce21a8e2a793959e0b551177480833620aab4d9930444ebf301b2a2"), looks := true }, kinds := [], alts := [], laidByText := true, laidKinds := [.data, .data, .data, .sentinel, .sentinel], laidTests := true, laidLooks := .later }
def FnExactInOfCardSaid : Prop := Claim7.holds Tryz.pinned (.plain (OpenSpec.ofChange fnExactInOfSpec)) fnExactInOfCard

/-- THE TIED CARD OF 'laws.FnExactOutOf'. -/
def fnExactOutOfCard : Claim7 := { stood := { row := fnExactOutOfRow, standIns := [], harness := (true, "60013ea63ce21a8e2a793959e0b551177480833620aab4d9930444ebf301b2a2"), looks := true }, kinds := [], alts := [], laidByText := true, laidKinds := [.data, .data, .data, .sentinel, .sentinel], laidTests := true, laidLooks := .later }
def FnExactOutOfCardSaid : Prop := Claim7.holds Tryz.pinned (.plain (OpenSpec.ofChange fnExactOutOfSpec)) fnExactOutOfCard

/-- THE TIED CARD OF 'laws.FnExactExprFault'. -/
def fnExactExprFaultCard : Claim7 := { stood := { row := fnExactExprFaultRow, standIns := [], harness := (true, "60013ea63ce21a8e2a793959e0b551177480833620aab4d9930444ebf301b2a2"), looks := true }, kinds := [], alts := [], laidByText := true, laidKinds := [.data, .data, .data, .data, .sentinel, .sentinel, .pinned], laidTests := true, laidLooks := .later }
def FnExactExprFaultCardSaid : Prop := Claim7.holds Tryz.pinned (.plain (OpenSpec.ofChange fnExactExprFaultSpec)) fnExactExprFaultCard

/-- THE TIED CARD OF 'laws.FnExactRankOf'. -/
def fnExactRankOfCard : Claim7 := { stood := { row := fnExactRankOfRow, standIns := [], harness := (true, "60013ea63ce21a8e2a793959e0b551177480833620aab4d9930444ebf301b2a2"), looks := true }, kinds := [], alts := [], laidByText := true, laidKinds := [.data, .data, .data, .sentinel, .sentinel], laidTests := true, laidLooks := .later }
def FnExactRankOfCardSaid : Prop := Claim7.holds Tryz.pinned (.plain (OpenSpec.ofChange fnExactRankOfSpec)) fnExactRankOfCard

/-- THE TIED CARD OF 'laws.FnExactAlike'. -/
def fnExactAlikeCard : Claim7 := { stood := { row := fnExactAlikeRow, standIns := [], harness := (true, "60013ea63ce21a8e2a793959e0b551177480833620aab4d9930444ebf301b2a2"), looks := true }, kinds := [], alts := [], laidByText := true, laidKinds := [.data, .data, .data, .sentinel, .sentinel], laidTests := true, laidLooks := .later }
def FnExactAlikeCardSaid : Prop := Claim7.holds Tryz.pinned (.plain (OpenSpec.ofChange fnExactAlikeSpec)) fnExactAlikeCard

/-- THE TIED CARD OF 'laws.FnExactParamsOf'. -/
def fnExactParamsOfCard : Claim7 := { stood := { row := fnExactParamsOfRow, standIns := [], harness := (true, "60013ea63ce21a8e2a793959e0b551177480833620aab4d9930444ebf301b2a2"), looks := true }, kinds := [], alts := [], laidByText := true, laidKinds := [.data, .data, .data, .data, .sentinel, .sentinel, .pinned], laidTests := true, laidLooks := .later }
def FnExactParamsOfCardSaid : Prop := Claim7.holds Tryz.pinned (.plain (OpenSpec.ofChange fnExactParamsOfSpec)) fnExactParamsOfCard

/-- THE SECOND FORM's CARD OF 'laws.FnExactIndexFault'. -/
def fnExactIndexFaultUptoCard : Claim7 := { stood := { row := fnExactIndexFaultUptoRow, standIns := [], harness := (true, "60013ea63ce21a8e2a793959e0b551177480833620aab4d9930444ebf301b2a2"), looks := true }, kinds := [], alts := [], laidByText := true, laidKinds := [.data, .data, .data, .sentinel, .sentinel], laidTests := true, laidLooks := .later }
def FnExactIndexFaultUptoCardSaid : Prop := Claim7.holds Tryz.pinned (.plain (OpenSpec.upto fnExactIndexFaultSpec)) fnExactIndexFaultUptoCard

/-- THE SECOND FORM's CARD OF 'laws.FnExactFindFirst'. -/
def fnExactFindFirstUptoCard : Claim7 := { stood := { row := fnExactFindFirstUptoRow, standIns := [], harness := (true, "60013ea63ce21a8e2a793959e0b551177480833620aab4d9930444ebf301b2a2"), looks := true }, kinds := [], alts := [], laidByText := true, laidKinds := [.data, .data, .data, .sentinel, .sentinel], laidTests := true, laidLooks := .later }
def FnExactFindFirstUptoCardSaid : Prop := Claim7.holds Tryz.pinned (.plain (OpenSpec.upto fnExactFindFirstSpec)) fnExactFindFirstUptoCard

/-- THE SECOND FORM's CARD OF 'laws.FnExactFindRange'. -/
def fnExactFindRangeUptoCard : Claim7 := { stood := { row := fnExactFindRangeUptoRow, standIns := [], harness := (true, "60013ea63ce21a8e2a793959e0b551177480833620aab4d9930444ebf301b2a2"), looks := true }, kinds := [], alts := [], laidByText := true, laidKinds := [.data, .data, .data, .sentinel, .sentinel], laidTests := true, laidLooks := .later }
def FnExactFindRangeUptoCardSaid : Prop := Claim7.holds Tryz.pinned (.plain (OpenSpec.upto fnExactFindRangeSpec)) fnExactFindRangeUptoCard

/-- THE SECOND FORM's CARD OF 'laws.FnExactGraphFault'. -/
def fnExactGraphFaultUptoCard : Claim7 := { stood := { row := fnExactGraphFaultUptoRow, standIns := [], harness := (true, "60013ea63ce21a8e2a793959e0b551177480833620aab4d9930444ebf301b2a2"), looks := true }, kinds := [], alts := [], laidByText := true, laidKinds := [.data, .data, .data, .sentinel, .sentinel], laidTests := true, laidLooks := .later }
def FnExactGraphFaultUptoCardSaid : Prop := Claim7.holds Tryz.pinned (.plain (OpenSpec.upto fnExactGraphFaultSpec)) fnExactGraphFaultUptoCard

/-- THE SECOND FORM's CARD OF 'laws.FnExactShowGraph'. -/
def fnExactShowGraphUptoCard : Claim7 := { stood := { row := fnExactShowGraphUptoRow, standIns := [], harness := (true, "60013ea63ce21a8e2a793959e0b551177480833620aab4d9930444ebf301b2a2"), looks := true }, kinds := [], alts := [], laidByText := true, laidKinds := [.data, .data, .data, .sentinel, .sentinel], laidTests := true, laidLooks := .later }
def FnExactShowGraphUptoCardSaid : Prop := Claim7.holds Tryz.pinned (.plain (OpenSpec.upto fnExactShowGraphSpec)) fnExactShowGraphUptoCard

/-- THE SECOND FORM's CARD OF 'laws.FnExactInOf'. -/
def fnExactInOfUptoCard : Claim7 := { stood := { row := fnExactInOfUptoRow, standIns := [], harness := (true, "60013ea63ce21a8e2a793959e0b551177480833620aab4d9930444ebf301b2a2"), looks := true }, kinds := [], alts := [], laidByText := true, laidKinds := [.data, .data, .data, .sentinel, .sentinel], laidTests := true, laidLooks := .later }
def FnExactInOfUptoCardSaid : Prop := Claim7.holds Tryz.pinned (.plain (OpenSpec.upto fnExactInOfSpec)) fnExactInOfUptoCard

/-- THE SECOND FORM's CARD OF 'laws.FnExactOutOf'. -/
def fnExactOutOfUptoCard : Claim7 := { stood := { row := fnExactOutOfUptoRow, standIns := [], harness := (true, "60013ea63ce21a8e2a793959e0b551177480833620aab4d9930444ebf301b2a2"), looks := true }, kinds := [], alts := [], laidByText := true, laidKinds := [.data, .data, .data, .sentinel, .sentinel], laidTests := true, laidLooks := .later }
def FnExactOutOfUptoCardSaid : Prop := Claim7.holds Tryz.pinned (.plain (OpenSpec.upto fnExactOutOfSpec)) fnExactOutOfUptoCard

/-- THE SECOND FORM's CARD OF 'laws.FnExactExprFault'. -/
def fnExactExprFaultUptoCard : Claim7 := { stood := { row := fnExactExprFaultUptoRow, standIns := [], harness := (true, "60013ea63ce21a8e2a793959e0b551177480833620aab4d9930444ebf301b2a2"), looks := true }, kinds := [], alts := [], laidByText := true, laidKinds := [.data, .data, .data, .data, .sentinel, .sentinel, .pinned], laidTests := true, laidLooks := .later }
def FnExactExprFaultUptoCardSaid : Prop := Claim7.holds Tryz.pinned (.plain (OpenSpec.upto fnExactExprFaultSpec)) fnExactExprFaultUptoCard

/-- THE SECOND FORM's CARD OF 'laws.FnExactRankOf'. -/
def fnExactRankOfUptoCard : Claim7 := { stood := { row := fnExactRankOfUptoRow, standIns := [], harness := (true, "60013ea63ce21a8e2a793959e0b551177480833620aab4d9930444ebf301b2a2"), looks := true }, kinds := [], alts := [], laidByText := true, laidKinds := [.data, .data, .data, .sentinel, .sentinel], laidTests := true, laidLooks := .later }
def FnExactRankOfUptoCardSaid : Prop := Claim7.holds Tryz.pinned (.plain (OpenSpec.upto fnExactRankOfSpec)) fnExactRankOfUptoCard

/-- THE SECOND FORM's CARD OF 'laws.FnExactAlike'. -/
def fnExactAlikeUptoCard : Claim7 := { stood := { row := fnExactAlikeUptoRow, standIns := [], harness := (true, "60013ea63ce21a8e2a793959e0b551177480833620aab4d9930444ebf301b2a2"), looks := true }, kinds := [], alts := [], laidByText := true, laidKinds := [.data, .data, .data, .sentinel, .sentinel], laidTests := true, laidLooks := .later }
def FnExactAlikeUptoCardSaid : Prop := Claim7.holds Tryz.pinned (.plain (OpenSpec.upto fnExactAlikeSpec)) fnExactAlikeUptoCard

/-- THE SECOND FORM's CARD OF 'laws.FnExactParamsOf'. -/
def fnExactParamsOfUptoCard : Claim7 := { stood := { row := fnExactParamsOfUptoRow, standIns := [], harness := (true, "60013ea63ce21a8e2a793959e0b551177480833620aab4d9930444ebf301b2a2"), looks := true }, kinds := [], alts := [], laidByText := true, laidKinds := [.data, .data, .data, .data, .sentinel, .sentinel, .pinned], laidTests := true, laidLooks := .later }
def FnExactParamsOfUptoCardSaid : Prop := Claim7.holds Tryz.pinned (.plain (OpenSpec.upto fnExactParamsOfSpec)) fnExactParamsOfUptoCard
end Rows
end Go.Proofs.YtfjckgcbgepndaaGreatDoor
