/-
  DERIVED. GIVEN WITH THE SEED: THE CARDS: each row of YtfcpfihblbbelaaGreatDoorRows.lean that lists a variable, with what it lists TIED to the program's text (the seventh form; the later family's looks); each row that meets fmt, with fmt's text TOLD by the authors' own Lean function (tested against real Go, not proved from fmt's source: count such statements apart). THE CARD IS WHAT COUNTS. Prove the row's statement (the work); the ties are given (YtfcpfihblbbelaaGreatDoorTie.lean); close each card by the builder's one call (the guide's Derived/Test/ToyasCard.lean, 'card_holds'). Laid BY PROGRAM, IN A SANDBOX (cutbox-door.mjs). By AI agents, Wed Nov 11 2026. No macro, syntax, notation, axiom, sorry.
-/
import Derived.Test.YtfcpfihblbbelaaGreatDoorRows
import GoSem.ClaimSeven
namespace Go.Proofs.YtfcpfihblbbelaaGreatDoor
namespace Rows

/-- THE TIED CARD OF 'ganseylaw17.MeaningsOf'. -/
def meaningsOfCard : Claim7 := { stood := { row := meaningsOfRow, standIns := [], harness := (true, "8e0aeab5f0ddde02778e0e4863178ddbfc874970ce87017bac6a9efce39aa703"), looks := false }, kinds := [], alts := [], laidByText := true, laidKinds := [.data], laidTests := true, laidLooks := .later }
def MeaningsOfCardSaid : Prop := Claim7.holds Tryz.pinned (.plain (OpenSpec.ofChange meaningsOfSpec)) meaningsOfCard

/-- THE TIED CARD OF 'ganseylaw17.MeaningsUntil'. -/
def meaningsUntilCard : Claim7 := { stood := { row := meaningsUntilRow, standIns := [], harness := (true, "8e0aeab5f0ddde02778e0e4863178ddbfc874970ce87017bac6a9efce39aa703"), looks := false }, kinds := [], alts := [], laidByText := true, laidKinds := [.data], laidTests := true, laidLooks := .later }
def MeaningsUntilCardSaid : Prop := Claim7.holds Tryz.pinned (.plain (OpenSpec.ofChange meaningsUntilSpec)) meaningsUntilCard

/-- THE TIED CARD OF 'ganseylaw17.MeaningsBind'. -/
def meaningsBindCard : Claim7 := { stood := { row := meaningsBindRow, standIns := [], harness := (true, "8e0aeab5f0ddde02778e0e4863178ddbfc874970ce87017bac6a9efce39aa703"), looks := false }, kinds := [], alts := [], laidByText := true, laidKinds := [.data], laidTests := true, laidLooks := .later }
def MeaningsBindCardSaid : Prop := Claim7.holds Tryz.pinned (.plain (OpenSpec.ofChange meaningsBindSpec)) meaningsBindCard

/-- THE TIED CARD OF 'ganseylaw17.MeaningsLoops'. -/
def meaningsLoopsCard : Claim7 := { stood := { row := meaningsLoopsRow, standIns := [], harness := (true, "8e0aeab5f0ddde02778e0e4863178ddbfc874970ce87017bac6a9efce39aa703"), looks := false }, kinds := [], alts := [], laidByText := true, laidKinds := [.data], laidTests := true, laidLooks := .later }
def MeaningsLoopsCardSaid : Prop := Claim7.holds Tryz.pinned (.plain (OpenSpec.ofChange meaningsLoopsSpec)) meaningsLoopsCard

/-- THE TIED CARD OF 'ganseylaw17.MeaningsNames'. -/
def meaningsNamesCard : Claim7 := { stood := { row := meaningsNamesRow, standIns := [], harness := (true, "8e0aeab5f0ddde02778e0e4863178ddbfc874970ce87017bac6a9efce39aa703"), looks := false }, kinds := [], alts := [], laidByText := true, laidKinds := [.data], laidTests := true, laidLooks := .later }
def MeaningsNamesCardSaid : Prop := Claim7.holds Tryz.pinned (.plain (OpenSpec.ofChange meaningsNamesSpec)) meaningsNamesCard

/-- THE TIED CARD OF 'ganseylaw17.MeaningsErrors'. -/
def meaningsErrorsCard : Claim7 := { stood := { row := meaningsErrorsRow, standIns := [], harness := (true, "8e0aeab5f0ddde02778e0e4863178ddbfc874970ce87017bac6a9efce39aa703"), looks := false }, kinds := [], alts := [], laidByText := true, laidKinds := [.data], laidTests := true, laidLooks := .later }
def MeaningsErrorsCardSaid : Prop := Claim7.holds Tryz.pinned (.plain (OpenSpec.ofChange meaningsErrorsSpec)) meaningsErrorsCard

/-- THE TIED CARD OF 'ganseylaw17.MeaningsSound'. -/
def meaningsSoundCard : Claim7 := { stood := { row := meaningsSoundRow, standIns := [], harness := (true, "8e0aeab5f0ddde02778e0e4863178ddbfc874970ce87017bac6a9efce39aa703"), looks := false }, kinds := [], alts := [], laidByText := true, laidKinds := [.data], laidTests := true, laidLooks := .later }
def MeaningsSoundCardSaid : Prop := Claim7.holds Tryz.pinned (.plain (OpenSpec.ofChange meaningsSoundSpec)) meaningsSoundCard

/-- THE TIED CARD OF 'ganseylaw17.MeaningsKnown'. -/
def meaningsKnownCard : Claim7 := { stood := { row := meaningsKnownRow, standIns := [], harness := (true, "8e0aeab5f0ddde02778e0e4863178ddbfc874970ce87017bac6a9efce39aa703"), looks := false }, kinds := [], alts := [], laidByText := true, laidKinds := [.data], laidTests := true, laidLooks := .later }
def MeaningsKnownCardSaid : Prop := Claim7.holds Tryz.pinned (.plain (OpenSpec.ofChange meaningsKnownSpec)) meaningsKnownCard

/-- THE SECOND FORM's CARD OF 'ganseylaw17.MeaningsOf'. -/
def meaningsOfUptoCard : Claim7 := { stood := { row := meaningsOfUptoRow, standIns := [], harness := (true, "8e0aeab5f0ddde02778e0e4863178ddbfc874970ce87017bac6a9efce39aa703"), looks := false }, kinds := [], alts := [], laidByText := true, laidKinds := [.data], laidTests := true, laidLooks := .later }
def MeaningsOfUptoCardSaid : Prop := Claim7.holds Tryz.pinned (.plain (OpenSpec.upto meaningsOfSpec)) meaningsOfUptoCard

/-- THE SECOND FORM's CARD OF 'ganseylaw17.MeaningsUntil'. -/
def meaningsUntilUptoCard : Claim7 := { stood := { row := meaningsUntilUptoRow, standIns := [], harness := (true, "8e0aeab5f0ddde02778e0e4863178ddbfc874970ce87017bac6a9efce39aa703"), looks := false }, kinds := [], alts := [], laidByText := true, laidKinds := [.data], laidTests := true, laidLooks := .later }
def MeaningsUntilUptoCardSaid : Prop := Claim7.holds Tryz.pinned (.plain (OpenSpec.upto meaningsUntilSpec)) meaningsUntilUptoCard

/-- THE SECOND FORM's CARD OF 'ganseylaw17.MeaningsBind'. -/
def meaningsBindUptoCard : Claim7 := { stood := { row := meaningsBindUptoRow, standIns := [], harness := (true, "8e0aeab5f0ddde02778e0e4863178ddbfc874970ce87017bac6a9efce39aa703"), looks := false }, kinds := [], alts := [], laidByText := true, laidKinds := [.data], laidTests := true, laidLooks := .later }
def MeaningsBindUptoCardSaid : Prop := Claim7.holds Tryz.pinned (.plain (OpenSpec.upto meaningsBindSpec)) meaningsBindUptoCard

/-- THE SECOND FORM's CARD OF 'ganseylaw17.MeaningsLoops'. -/
def meaningsLoopsUptoCard : Claim7 := { stood := { row := meaningsLoopsUptoRow, standIns := [], harness := (true, "8e0aeab5f0ddde02778e0e4863178ddbfc874970ce87017bac6a9efce39aa703"), looks := false }, kinds := [], alts := [], laidByText := true, laidKinds := [.data], laidTests := true, laidLooks := .later }
def MeaningsLoopsUptoCardSaid : Prop := Claim7.holds Tryz.pinned (.plain (OpenSpec.upto meaningsLoopsSpec)) meaningsLoopsUptoCard

/-- THE SECOND FORM's CARD OF 'ganseylaw17.MeaningsNames'. -/
def meaningsNamesUptoCard : Claim7 := { stood := { row := meaningsNamesUptoRow, standIns := [], harness := (true, "8e0aeab5f0ddde02778e0e4863178ddbfc874970ce87017bac6a9efce39aa703"), looks := false }, kinds := [], alts := [], laidByText := true, laidKinds := [.data], laidTests := true, laidLooks := .later }
def MeaningsNamesUptoCardSaid : Prop := Claim7.holds Tryz.pinned (.plain (OpenSpec.upto meaningsNamesSpec)) meaningsNamesUptoCard

/-- THE SECOND FORM's CARD OF 'ganseylaw17.MeaningsErrors'. -/
def meaningsErrorsUptoCard : Claim7 := { stood := { row := meaningsErrorsUptoRow, standIns := [], harness := (true, "8e0aeab5f0ddde02778e0e4863178ddbfc874970ce87017bac6a9efce39aa703"), looks := false }, kinds := [], alts := [], laidByText := true, laidKinds := [.data], laidTests := true, laidLooks := .later }
def MeaningsErrorsUptoCardSaid : Prop := Claim7.holds Tryz.pinned (.plain (OpenSpec.upto meaningsErrorsSpec)) meaningsErrorsUptoCard

/-- THE SECOND FORM's CARD OF 'ganseylaw17.MeaningsSound'. -/
def meaningsSoundUptoCard : Claim7 := { stood := { row := meaningsSoundUptoRow, standIns := [], harness := (true, "8e0aeab5f0ddde02778e0e4863178ddbfc874970ce87017bac6a9efce39aa703"), looks := false }, kinds := [], alts := [], laidByText := true, laidKinds := [.data], laidTests := true, laidLooks := .later }
def MeaningsSoundUptoCardSaid : Prop := Claim7.holds Tryz.pinned (.plain (OpenSpec.upto meaningsSoundSpec)) meaningsSoundUptoCard

/-- THE SECOND FORM's CARD OF 'ganseylaw17.MeaningsKnown'. -/
def meaningsKnownUptoCard : Claim7 := { stood := { row := meaningsKnownUptoRow, standIns := [], harness := (true, "8e0aeab5f0ddde02778e0e4863178ddbfc874970ce87017bac6a9efce39aa703"), looks := false }, kinds := [], alts := [], laidByText := true, laidKinds := [.data], laidTests := true, laidLooks := .later }
def MeaningsKnownUptoCardSaid : Prop := Claim7.holds Tryz.pinned (.plain (OpenSpec.upto meaningsKnownSpec)) meaningsKnownUptoCard
end Rows
end Go.Proofs.YtfcpfihblbbelaaGreatDoor
