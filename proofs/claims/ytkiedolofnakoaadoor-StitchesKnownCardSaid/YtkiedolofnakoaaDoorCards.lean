/-
  DERIVED. GIVEN WITH THE SEED: THE CARDS: each row of YtkiedolofnakoaaDoorRows.lean that lists a variable, with what it lists TIED to the program's text (the seventh form; the later family's looks); each row that meets fmt, with fmt's text TOLD by the authors' own Lean function (tested against real Go, not proved from fmt's source: count such statements apart). THE CARD IS WHAT COUNTS. Prove the row's statement (the work); the ties are given (YtkiedolofnakoaaDoorTie.lean); close each card by the builder's one call (the guide's Derived/Test/ToyasCard.lean, 'card_holds'). Laid BY PROGRAM, IN A SANDBOX (cutbox-door.mjs). By AI agents, Wed Nov 11 2026. No macro, syntax, notation, axiom, sorry.
-/
import Derived.Test.YtkiedolofnakoaaDoorRows
import GoSem.ClaimSeven
namespace Go.Proofs.YtkiedolofnakoaaDoor
namespace Rows

/-- THE TIED CARD OF 'ganseylaw12.StitchesLoads'. -/
def stitchesLoadsCard : Claim7 := { stood := { row := stitchesLoadsRow, standIns := [], harness := (true, "251394e1c9aa8db76be0e3edcfd4b91969fe1d38522da26bb610a739a6f2b787"), looks := false }, kinds := [], alts := [], laidByText := true, laidKinds := [.data], laidTests := true, laidLooks := .later }
def StitchesLoadsCardSaid : Prop := Claim7.holds Tryd.pinned (.plain (OpenSpec.ofChange stitchesLoadsSpec)) stitchesLoadsCard

/-- THE TIED CARD OF 'ganseylaw12.StitchesFit'. -/
def stitchesFitCard : Claim7 := { stood := { row := stitchesFitRow, standIns := [], harness := (true, "251394e1c9aa8db76be0e3edcfd4b91969fe1d38522da26bb610a739a6f2b787"), looks := false }, kinds := [], alts := [], laidByText := true, laidKinds := [.data], laidTests := true, laidLooks := .later }
def StitchesFitCardSaid : Prop := Claim7.holds Tryd.pinned (.plain (OpenSpec.ofChange stitchesFitSpec)) stitchesFitCard

/-- THE TIED CARD OF 'ganseylaw12.StitchesMirror'. -/
def stitchesMirrorCard : Claim7 := { stood := { row := stitchesMirrorRow, standIns := [], harness := (true, "251394e1c9aa8db76be0e3edcfd4b91969fe1d38522da26bb610a739a6f2b787"), looks := false }, kinds := [], alts := [], laidByText := true, laidKinds := [.data], laidTests := true, laidLooks := .later }
def StitchesMirrorCardSaid : Prop := Claim7.holds Tryd.pinned (.plain (OpenSpec.ofChange stitchesMirrorSpec)) stitchesMirrorCard

/-- THE TIED CARD OF 'ganseylaw12.StitchesText'. -/
def stitchesTextCard : Claim7 := { stood := { row := stitchesTextRow, standIns := [], harness := (true, "251394e1c9aa8db76be0e3edcfd4b91969fe1d38522da26bb610a739a6f2b787"), looks := false }, kinds := [], alts := [], laidByText := true, laidKinds := [.data], laidTests := true, laidLooks := .later }
def StitchesTextCardSaid : Prop := Claim7.holds Tryd.pinned (.plain (OpenSpec.ofChange stitchesTextSpec)) stitchesTextCard

/-- THE TIED CARD OF 'ganseylaw12.StitchesApart'. -/
def stitchesApartCard : Claim7 := { stood := { row := stitchesApartRow, standIns := [], harness := (true, "251394e1c9aa8db76be0e3edcfd4b91969fe1d38522da26bb610a739a6f2b787"), looks := false }, kinds := [], alts := [], laidByText := true, laidKinds := [.data], laidTests := true, laidLooks := .later }
def StitchesApartCardSaid : Prop := Claim7.holds Tryd.pinned (.plain (OpenSpec.ofChange stitchesApartSpec)) stitchesApartCard

/-- THE TIED CARD OF 'ganseylaw12.StitchesCheck'. -/
def stitchesCheckCard : Claim7 := { stood := { row := stitchesCheckRow, standIns := [], harness := (true, "251394e1c9aa8db76be0e3edcfd4b91969fe1d38522da26bb610a739a6f2b787"), looks := false }, kinds := [], alts := [], laidByText := true, laidKinds := [.data], laidTests := true, laidLooks := .later }
def StitchesCheckCardSaid : Prop := Claim7.holds Tryd.pinned (.plain (OpenSpec.ofChange stitchesCheckSpec)) stitchesCheckCard

/-- THE TIED CARD OF 'ganseylaw12.StitchesKnown'. -/
def stitchesKnownCard : Claim7 := { stood := { row := stitchesKnownRow, standIns := [], harness := (true, "251394e1c9aa8db76be0e3edcfd4b91969fe1d38522da26bb610a739a6f2b787"), looks := false }, kinds := [], alts := [], laidByText := true, laidKinds := [.data], laidTests := true, laidLooks := .later }
def StitchesKnownCardSaid : Prop := Claim7.holds Tryd.pinned (.plain (OpenSpec.ofChange stitchesKnownSpec)) stitchesKnownCard

/-- THE SECOND FORM's CARD OF 'ganseylaw12.StitchesLoads'. -/
def stitchesLoadsUptoCard : Claim7 := { stood := { row := stitchesLoadsUptoRow, standIns := [], harness := (true, "251394e1c9aa8db76be0e3edcfd4b91969fe1d38522da26bb610a739a6f2b787"), looks := false }, kinds := [], alts := [], laidByText := true, laidKinds := [.data], laidTests := true, laidLooks := .later }
def StitchesLoadsUptoCardSaid : Prop := Claim7.holds Tryd.pinned (.plain (OpenSpec.upto stitchesLoadsSpec)) stitchesLoadsUptoCard

/-- THE SECOND FORM's CARD OF 'ganseylaw12.StitchesFit'. -/
def stitchesFitUptoCard : Claim7 := { stood := { row := stitchesFitUptoRow, standIns := [], harness := (true, "251394e1c9aa8db76be0e3edcfd4b91969fe1d38522da26bb610a739a6f2b787"), looks := false }, kinds := [], alts := [], laidByText := true, laidKinds := [.data], laidTests := true, laidLooks := .later }
def StitchesFitUptoCardSaid : Prop := Claim7.holds Tryd.pinned (.plain (OpenSpec.upto stitchesFitSpec)) stitchesFitUptoCard

/-- THE SECOND FORM's CARD OF 'ganseylaw12.StitchesMirror'. -/
def stitchesMirrorUptoCard : Claim7 := { stood := { row := stitchesMirrorUptoRow, standIns := [], harness := (true, "251394e1c9aa8db76be0e3edcfd4b91969fe1d38522da26bb610a739a6f2b787"), looks := false }, kinds := [], alts := [], laidByText := true, laidKinds := [.data], laidTests := true, laidLooks := .later }
def StitchesMirrorUptoCardSaid : Prop := Claim7.holds Tryd.pinned (.plain (OpenSpec.upto stitchesMirrorSpec)) stitchesMirrorUptoCard

/-- THE SECOND FORM's CARD OF 'ganseylaw12.StitchesText'. -/
def stitchesTextUptoCard : Claim7 := { stood := { row := stitchesTextUptoRow, standIns := [], harness := (true, "251394e1c9aa8db76be0e3edcfd4b91969fe1d38522da26bb610a739a6f2b787"), looks := false }, kinds := [], alts := [], laidByText := true, laidKinds := [.data], laidTests := true, laidLooks := .later }
def StitchesTextUptoCardSaid : Prop := Claim7.holds Tryd.pinned (.plain (OpenSpec.upto stitchesTextSpec)) stitchesTextUptoCard

/-- THE SECOND FORM's CARD OF 'ganseylaw12.StitchesApart'. -/
def stitchesApartUptoCard : Claim7 := { stood := { row := stitchesApartUptoRow, standIns := [], harness := (true, "251394e1c9aa8db76be0e3edcfd4b91969fe1d38522da26bb610a739a6f2b787"), looks := false }, kinds := [], alts := [], laidByText := true, laidKinds := [.data], laidTests := true, laidLooks := .later }
def StitchesApartUptoCardSaid : Prop := Claim7.holds Tryd.pinned (.plain (OpenSpec.upto stitchesApartSpec)) stitchesApartUptoCard

/-- THE SECOND FORM's CARD OF 'ganseylaw12.StitchesCheck'. -/
def stitchesCheckUptoCard : Claim7 := { stood := { row := stitchesCheckUptoRow, standIns := [], harness := (true, "251394e1c9aa8db76be0e3edcfd4b91969fe1d38522da26bb610a739a6f2b787"), looks := false }, kinds := [], alts := [], laidByText := true, laidKinds := [.data], laidTests := true, laidLooks := .later }
def StitchesCheckUptoCardSaid : Prop := Claim7.holds Tryd.pinned (.plain (OpenSpec.upto stitchesCheckSpec)) stitchesCheckUptoCard

/-- THE SECOND FORM's CARD OF 'ganseylaw12.StitchesKnown'. -/
def stitchesKnownUptoCard : Claim7 := { stood := { row := stitchesKnownUptoRow, standIns := [], harness := (true, "251394e1c9aa8db76be0e3edcfd4b91969fe1d38522da26bb610a739a6f2b787"), looks := false }, kinds := [], alts := [], laidByText := true, laidKinds := [.data], laidTests := true, laidLooks := .later }
def StitchesKnownUptoCardSaid : Prop := Claim7.holds Tryd.pinned (.plain (OpenSpec.upto stitchesKnownSpec)) stitchesKnownUptoCard
end Rows
end Go.Proofs.YtkiedolofnakoaaDoor
