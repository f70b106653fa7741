/-
  DERIVED. GIVEN WITH THE SEED: THE CARDS: each row of YtifccdcnhibceaaGreatDoorRows.lean that lists a variable, with what it lists TIED to the program's text (the seventh form; the later family's looks); each row that meets fmt, with fmt's text TOLD by the authors' own Lean function (tested against real Go, not proved from fmt's source: count such statements apart). THE CARD IS WHAT COUNTS. Prove the row's statement (the work); the ties are given (YtifccdcnhibceaaGreatDoorTie.lean); close each card by the builder's one call (the guide's Derived/Test/ToyasCard.lean, 'card_holds'). Laid BY PROGRAM, IN A SANDBOX (cutbox-door.mjs). By AI agents, Wed Nov 11 2026. No macro, syntax, notation, axiom, sorry.
-/
import Derived.Test.YtifccdcnhibceaaGreatDoorRows
import GoSem.ClaimSeven
namespace Go.Proofs.YtifccdcnhibceaaGreatDoor
namespace Rows

/-- THE TIED CARD OF 'ganseylaw16.RowsCast'. -/
def rowsCastCard : Claim7 := { stood := { row := rowsCastRow, standIns := [], harness := (true, "8d2206fbb67e88c8bb40b3b6eb67cb53534e75ea94c8ddb48dace023d650372f"), looks := false }, kinds := [], alts := [], laidByText := true, laidKinds := [.data], laidTests := true, laidLooks := .later }
def RowsCastCardSaid : Prop := Claim7.holds Tryz.pinned (.plain (OpenSpec.ofChange rowsCastSpec)) rowsCastCard

/-- THE TIED CARD OF 'ganseylaw16.RowsRow'. -/
def rowsRowCard : Claim7 := { stood := { row := rowsRowRow, standIns := [], harness := (true, "8d2206fbb67e88c8bb40b3b6eb67cb53534e75ea94c8ddb48dace023d650372f"), looks := false }, kinds := [], alts := [], laidByText := true, laidKinds := [.data], laidTests := true, laidLooks := .later }
def RowsRowCardSaid : Prop := Claim7.holds Tryz.pinned (.plain (OpenSpec.ofChange rowsRowSpec)) rowsRowCard

/-- THE TIED CARD OF 'ganseylaw16.RowsCheck'. -/
def rowsCheckCard : Claim7 := { stood := { row := rowsCheckRow, standIns := [], harness := (true, "8d2206fbb67e88c8bb40b3b6eb67cb53534e75ea94c8ddb48dace023d650372f"), looks := false }, kinds := [], alts := [], laidByText := true, laidKinds := [.data], laidTests := true, laidLooks := .later }
def RowsCheckCardSaid : Prop := Claim7.holds Tryz.pinned (.plain (OpenSpec.ofChange rowsCheckSpec)) rowsCheckCard

/-- THE TIED CARD OF 'ganseylaw16.RowsPast'. -/
def rowsPastCard : Claim7 := { stood := { row := rowsPastRow, standIns := [], harness := (true, "8d2206fbb67e88c8bb40b3b6eb67cb53534e75ea94c8ddb48dace023d650372f"), looks := false }, kinds := [], alts := [], laidByText := true, laidKinds := [.data], laidTests := true, laidLooks := .later }
def RowsPastCardSaid : Prop := Claim7.holds Tryz.pinned (.plain (OpenSpec.ofChange rowsPastSpec)) rowsPastCard

/-- THE TIED CARD OF 'ganseylaw16.RowsPrepare'. -/
def rowsPrepareCard : Claim7 := { stood := { row := rowsPrepareRow, standIns := [], harness := (true, "8d2206fbb67e88c8bb40b3b6eb67cb53534e75ea94c8ddb48dace023d650372f"), looks := false }, kinds := [], alts := [], laidByText := true, laidKinds := [.data], laidTests := true, laidLooks := .later }
def RowsPrepareCardSaid : Prop := Claim7.holds Tryz.pinned (.plain (OpenSpec.ofChange rowsPrepareSpec)) rowsPrepareCard

/-- THE TIED CARD OF 'ganseylaw16.RowsCross'. -/
def rowsCrossCard : Claim7 := { stood := { row := rowsCrossRow, standIns := [], harness := (true, "8d2206fbb67e88c8bb40b3b6eb67cb53534e75ea94c8ddb48dace023d650372f"), looks := false }, kinds := [], alts := [], laidByText := true, laidKinds := [.data], laidTests := true, laidLooks := .later }
def RowsCrossCardSaid : Prop := Claim7.holds Tryz.pinned (.plain (OpenSpec.ofChange rowsCrossSpec)) rowsCrossCard

/-- THE TIED CARD OF 'ganseylaw16.RowsSlip'. -/
def rowsSlipCard : Claim7 := { stood := { row := rowsSlipRow, standIns := [], harness := (true, "8d2206fbb67e88c8bb40b3b6eb67cb53534e75ea94c8ddb48dace023d650372f"), looks := false }, kinds := [], alts := [], laidByText := true, laidKinds := [.data], laidTests := true, laidLooks := .later }
def RowsSlipCardSaid : Prop := Claim7.holds Tryz.pinned (.plain (OpenSpec.ofChange rowsSlipSpec)) rowsSlipCard

/-- THE TIED CARD OF 'ganseylaw16.RowsTogether'. -/
def rowsTogetherCard : Claim7 := { stood := { row := rowsTogetherRow, standIns := [], harness := (true, "8d2206fbb67e88c8bb40b3b6eb67cb53534e75ea94c8ddb48dace023d650372f"), looks := false }, kinds := [], alts := [], laidByText := true, laidKinds := [.data], laidTests := true, laidLooks := .later }
def RowsTogetherCardSaid : Prop := Claim7.holds Tryz.pinned (.plain (OpenSpec.ofChange rowsTogetherSpec)) rowsTogetherCard

/-- THE TIED CARD OF 'ganseylaw16.RowsErrors'. -/
def rowsErrorsCard : Claim7 := { stood := { row := rowsErrorsRow, standIns := [], harness := (true, "8d2206fbb67e88c8bb40b3b6eb67cb53534e75ea94c8ddb48dace023d650372f"), looks := false }, kinds := [], alts := [], laidByText := true, laidKinds := [.data], laidTests := true, laidLooks := .later }
def RowsErrorsCardSaid : Prop := Claim7.holds Tryz.pinned (.plain (OpenSpec.ofChange rowsErrorsSpec)) rowsErrorsCard

/-- THE TIED CARD OF 'ganseylaw16.RowsKnown'. -/
def rowsKnownCard : Claim7 := { stood := { row := rowsKnownRow, standIns := [], harness := (true, "8d2206fbb67e88c8bb40b3b6eb67cb53534e75ea94c8ddb48dace023d650372f"), looks := false }, kinds := [], alts := [], laidByText := true, laidKinds := [.data], laidTests := true, laidLooks := .later }
def RowsKnownCardSaid : Prop := Claim7.holds Tryz.pinned (.plain (OpenSpec.ofChange rowsKnownSpec)) rowsKnownCard

/-- THE SECOND FORM's CARD OF 'ganseylaw16.RowsCast'. -/
def rowsCastUptoCard : Claim7 := { stood := { row := rowsCastUptoRow, standIns := [], harness := (true, "8d2206fbb67e88c8bb40b3b6eb67cb53534e75ea94c8ddb48dace023d650372f"), looks := false }, kinds := [], alts := [], laidByText := true, laidKinds := [.data], laidTests := true, laidLooks := .later }
def RowsCastUptoCardSaid : Prop := Claim7.holds Tryz.pinned (.plain (OpenSpec.upto rowsCastSpec)) rowsCastUptoCard

/-- THE SECOND FORM's CARD OF 'ganseylaw16.RowsRow'. -/
def rowsRowUptoCard : Claim7 := { stood := { row := rowsRowUptoRow, standIns := [], harness := (true, "8d2206fbb67e88c8bb40b3b6eb67cb53534e75ea94c8ddb48dace023d650372f"), looks := false }, kinds := [], alts := [], laidByText := true, laidKinds := [.data], laidTests := true, laidLooks := .later }
def RowsRowUptoCardSaid : Prop := Claim7.holds Tryz.pinned (.plain (OpenSpec.upto rowsRowSpec)) rowsRowUptoCard

/-- THE SECOND FORM's CARD OF 'ganseylaw16.RowsCheck'. -/
def rowsCheckUptoCard : Claim7 := { stood := { row := rowsCheckUptoRow, standIns := [], harness := (true, "8d2206fbb67e88c8bb40b3b6eb67cb53534e75ea94c8ddb48dace023d650372f"), looks := false }, kinds := [], alts := [], laidByText := true, laidKinds := [.data], laidTests := true, laidLooks := .later }
def RowsCheckUptoCardSaid : Prop := Claim7.holds Tryz.pinned (.plain (OpenSpec.upto rowsCheckSpec)) rowsCheckUptoCard

/-- THE SECOND FORM's CARD OF 'ganseylaw16.RowsPast'. -/
def rowsPastUptoCard : Claim7 := { stood := { row := rowsPastUptoRow, standIns := [], harness := (true, "8d2206fbb67e88c8bb40b3b6eb67cb53534e75ea94c8ddb48dace023d650372f"), looks := false }, kinds := [], alts := [], laidByText := true, laidKinds := [.data], laidTests := true, laidLooks := .later }
def RowsPastUptoCardSaid : Prop := Claim7.holds Tryz.pinned (.plain (OpenSpec.upto rowsPastSpec)) rowsPastUptoCard

/-- THE SECOND FORM's CARD OF 'ganseylaw16.RowsPrepare'. -/
def rowsPrepareUptoCard : Claim7 := { stood := { row := rowsPrepareUptoRow, standIns := [], harness := (true, "8d2206fbb67e88c8bb40b3b6eb67cb53534e75ea94c8ddb48dace023d650372f"), looks := false }, kinds := [], alts := [], laidByText := true, laidKinds := [.data], laidTests := true, laidLooks := .later }
def RowsPrepareUptoCardSaid : Prop := Claim7.holds Tryz.pinned (.plain (OpenSpec.upto rowsPrepareSpec)) rowsPrepareUptoCard

/-- THE SECOND FORM's CARD OF 'ganseylaw16.RowsCross'. -/
def rowsCrossUptoCard : Claim7 := { stood := { row := rowsCrossUptoRow, standIns := [], harness := (true, "8d2206fbb67e88c8bb40b3b6eb67cb53534e75ea94c8ddb48dace023d650372f"), looks := false }, kinds := [], alts := [], laidByText := true, laidKinds := [.data], laidTests := true, laidLooks := .later }
def RowsCrossUptoCardSaid : Prop := Claim7.holds Tryz.pinned (.plain (OpenSpec.upto rowsCrossSpec)) rowsCrossUptoCard

/-- THE SECOND FORM's CARD OF 'ganseylaw16.RowsSlip'. -/
def rowsSlipUptoCard : Claim7 := { stood := { row := rowsSlipUptoRow, standIns := [], harness := (true, "8d2206fbb67e88c8bb40b3b6eb67cb53534e75ea94c8ddb48dace023d650372f"), looks := false }, kinds := [], alts := [], laidByText := true, laidKinds := [.data], laidTests := true, laidLooks := .later }
def RowsSlipUptoCardSaid : Prop := Claim7.holds Tryz.pinned (.plain (OpenSpec.upto rowsSlipSpec)) rowsSlipUptoCard

/-- THE SECOND FORM's CARD OF 'ganseylaw16.RowsTogether'. -/
def rowsTogetherUptoCard : Claim7 := { stood := { row := rowsTogetherUptoRow, standIns := [], harness := (true, "8d2206fbb67e88c8bb40b3b6eb67cb53534e75ea94c8ddb48dace023d650372f"), looks := false }, kinds := [], alts := [], laidByText := true, laidKinds := [.data], laidTests := true, laidLooks := .later }
def RowsTogetherUptoCardSaid : Prop := Claim7.holds Tryz.pinned (.plain (OpenSpec.upto rowsTogetherSpec)) rowsTogetherUptoCard

/-- THE SECOND FORM's CARD OF 'ganseylaw16.RowsErrors'. -/
def rowsErrorsUptoCard : Claim7 := { stood := { row := rowsErrorsUptoRow, standIns := [], harness := (true, "8d2206fbb67e88c8bb40b3b6eb67cb53534e75ea94c8ddb48dace023d650372f"), looks := false }, kinds := [], alts := [], laidByText := true, laidKinds := [.data], laidTests := true, laidLooks := .later }
def RowsErrorsUptoCardSaid : Prop := Claim7.holds Tryz.pinned (.plain (OpenSpec.upto rowsErrorsSpec)) rowsErrorsUptoCard

/-- THE SECOND FORM's CARD OF 'ganseylaw16.RowsKnown'. -/
def rowsKnownUptoCard : Claim7 := { stood := { row := rowsKnownUptoRow, standIns := [], harness := (true, "8d2206fbb67e88c8bb40b3b6eb67cb53534e75ea94c8ddb48dace023d650372f"), looks := false }, kinds := [], alts := [], laidByText := true, laidKinds := [.data], laidTests := true, laidLooks := .later }
def RowsKnownUptoCardSaid : Prop := Claim7.holds Tryz.pinned (.plain (OpenSpec.upto rowsKnownSpec)) rowsKnownUptoCard
end Rows
end Go.Proofs.YtifccdcnhibceaaGreatDoor
