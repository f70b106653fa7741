/-
  NARROWER THAN 'FOR EVERY INPUT', by the rows' own cells (each row's printed sentence says how): RowsCast: laid · RowsRow: laid · RowsCheck: laid · RowsPast: laid · RowsPrepare: laid · RowsCross: laid · RowsSlip: laid · RowsTogether: laid · RowsErrors: laid · RowsKnown: laid.
  DERIVED. THE GIVEN ROWS OF THIS SEAT. 10 by the template 'for every input the law returns true; each argument reads behind the call as it read before'; 0 by the template 'total and deterministic' (their statements: YtifccdcnhibceaaGreatDoorTotals.lean).
  GIVEN WITH THE SEED: the statements are not yours to turn. If you find one false, say at which input.
  Laid BY PROGRAM, IN A SANDBOX (cutbox-rows.mjs): the forced cells as the released guide's own fill.sh prints them over the translation 0c3506eb15414d61… (all of the seat's roots in one cut). By AI agents, Wed Nov 11 2026. No macro, syntax, notation, axiom, sorry.
-/
import Derived.Test.YtifccdcnhibceaaGreatDoorChecked
import GoSem.Claim
import GoSem.ClaimJoined
import GoSem.ClaimMapViews
import Derived.JoinedTies
import Derived.KernelRfl
namespace Go.Proofs.YtifccdcnhibceaaGreatDoor
/- THE CELL 'sum', in the pinned program and in every row, IS THE sha256 OF THE DUMP (.gsa) THAT YtifccdcnhibceaaGreatDoorProg.lean LOADS. Nothing in Lean hashes anything: it is a label: what it is worth is what the hold of that sum in a sandbox is worth. -/
noncomputable def Tryz.pinned : Pinned := { name := "ytifccdcnhibceaagreatdoor", sum := "0c3506eb15414d61395b749f264bf3c3d936381f7c4800f0ec041077f7d37b84", checked := Tryz.checked }
namespace Rows
def none {H : Type} : Left H := { results := [], args := [] }

/- WHAT THE LISTED PACKAGE-LEVEL VARIABLES READ AS WHEN THE CALL BEGINS. Each datum BY PROGRAM (the guide's laid-datum.mjs) off the statement by which the dump's own 'gosem.cut.vars' lays the variable. In a bare row this is a premise. The card (YtifccdcnhibceaaGreatDoorCards.lean) ties it to the program's text. -/
def laid_gansey_stitches_symbols {H : Type} : DataW H := .agg [.lit (.int .u8 107), .lit (.int .u8 112), .lit (.int .u8 111), .lit (.int .u8 47), .lit (.int .u8 118), .lit (.int .u8 116), .lit (.int .u8 115), .lit (.int .u8 99)]

/-- 'ganseylaw16.RowsCast': WHATEVER THE INPUT: true; the input reads as it did. -/
def rowsCastSpec : ChangeSpec := { name := "rowsCast", fn := fun _ => fun
  | [d1, d2] => { results := [.lit (.bool true)], args := [d1, d2] }
  | _ => none }
def rowsCastRow : OpenClaim := { program := "ytifccdcnhibceaagreatdoor", sum := "0c3506eb15414d61395b749f264bf3c3d936381f7c4800f0ec041077f7d37b84", func := "gansey/ganseylaw16.RowsCast", spec := "rowsCast", unfollowed := true, recurses := true, named := ["gansey/stitches.symbols"], plainKeys := false, apart := false, laid := [("gansey/stitches.symbols", laid_gansey_stitches_symbols)] }
def RowsCastSaid : Prop := rowsCastRow.holds Tryz.pinned (OpenSpec.ofChange rowsCastSpec)

/-- ITS FALSE NEIGHBOUR: 'it returns false'. Refute it at one input. -/
def rowsCastWrong : ChangeSpec := { name := "rowsCast", fn := fun _ => fun
  | [d1, d2] => { results := [.lit (.bool false)], args := [d1, d2] }
  | _ => none }
def RowsCastWrongFalsely : Prop := rowsCastRow.holds Tryz.pinned (OpenSpec.ofChange rowsCastWrong)

/-- 'ganseylaw16.RowsRow': WHATEVER THE INPUT: true; the input reads as it did. -/
def rowsRowSpec : ChangeSpec := { name := "rowsRow", fn := fun _ => fun
  | [d] => { results := [.lit (.bool true)], args := [d] }
  | _ => none }
def rowsRowRow : OpenClaim := { program := "ytifccdcnhibceaagreatdoor", sum := "0c3506eb15414d61395b749f264bf3c3d936381f7c4800f0ec041077f7d37b84", func := "gansey/ganseylaw16.RowsRow", spec := "rowsRow", unfollowed := true, recurses := true, named := ["gansey/stitches.symbols"], plainKeys := false, apart := false, laid := [("gansey/stitches.symbols", laid_gansey_stitches_symbols)] }
def RowsRowSaid : Prop := rowsRowRow.holds Tryz.pinned (OpenSpec.ofChange rowsRowSpec)

/-- ITS FALSE NEIGHBOUR: 'it returns false'. Refute it at one input. -/
def rowsRowWrong : ChangeSpec := { name := "rowsRow", fn := fun _ => fun
  | [d] => { results := [.lit (.bool false)], args := [d] }
  | _ => none }
def RowsRowWrongFalsely : Prop := rowsRowRow.holds Tryz.pinned (OpenSpec.ofChange rowsRowWrong)

/-- 'ganseylaw16.RowsCheck': WHATEVER THE INPUT: true; the input reads as it did. -/
def rowsCheckSpec : ChangeSpec := { name := "rowsCheck", fn := fun _ => fun
  | [d1, d2, d3] => { results := [.lit (.bool true)], args := [d1, d2, d3] }
  | _ => none }
def rowsCheckRow : OpenClaim := { program := "ytifccdcnhibceaagreatdoor", sum := "0c3506eb15414d61395b749f264bf3c3d936381f7c4800f0ec041077f7d37b84", func := "gansey/ganseylaw16.RowsCheck", spec := "rowsCheck", unfollowed := true, recurses := true, named := ["gansey/stitches.symbols"], plainKeys := false, apart := false, laid := [("gansey/stitches.symbols", laid_gansey_stitches_symbols)] }
def RowsCheckSaid : Prop := rowsCheckRow.holds Tryz.pinned (OpenSpec.ofChange rowsCheckSpec)

/-- ITS FALSE NEIGHBOUR: 'it returns false'. Refute it at one input. -/
def rowsCheckWrong : ChangeSpec := { name := "rowsCheck", fn := fun _ => fun
  | [d1, d2, d3] => { results := [.lit (.bool false)], args := [d1, d2, d3] }
  | _ => none }
def RowsCheckWrongFalsely : Prop := rowsCheckRow.holds Tryz.pinned (OpenSpec.ofChange rowsCheckWrong)

/-- 'ganseylaw16.RowsPast': WHATEVER THE INPUT: true; the input reads as it did. -/
def rowsPastSpec : ChangeSpec := { name := "rowsPast", fn := fun _ => fun
  | [d1, d2] => { results := [.lit (.bool true)], args := [d1, d2] }
  | _ => none }
def rowsPastRow : OpenClaim := { program := "ytifccdcnhibceaagreatdoor", sum := "0c3506eb15414d61395b749f264bf3c3d936381f7c4800f0ec041077f7d37b84", func := "gansey/ganseylaw16.RowsPast", spec := "rowsPast", unfollowed := true, recurses := true, named := ["gansey/stitches.symbols"], plainKeys := false, apart := false, laid := [("gansey/stitches.symbols", laid_gansey_stitches_symbols)] }
def RowsPastSaid : Prop := rowsPastRow.holds Tryz.pinned (OpenSpec.ofChange rowsPastSpec)

/-- ITS FALSE NEIGHBOUR: 'it returns false'. Refute it at one input. -/
def rowsPastWrong : ChangeSpec := { name := "rowsPast", fn := fun _ => fun
  | [d1, d2] => { results := [.lit (.bool false)], args := [d1, d2] }
  | _ => none }
def RowsPastWrongFalsely : Prop := rowsPastRow.holds Tryz.pinned (OpenSpec.ofChange rowsPastWrong)

/-- 'ganseylaw16.RowsPrepare': WHATEVER THE INPUT: true; the input reads as it did. -/
def rowsPrepareSpec : ChangeSpec := { name := "rowsPrepare", fn := fun _ => fun
  | [d1, d2] => { results := [.lit (.bool true)], args := [d1, d2] }
  | _ => none }
def rowsPrepareRow : OpenClaim := { program := "ytifccdcnhibceaagreatdoor", sum := "0c3506eb15414d61395b749f264bf3c3d936381f7c4800f0ec041077f7d37b84", func := "gansey/ganseylaw16.RowsPrepare", spec := "rowsPrepare", unfollowed := true, recurses := true, named := ["gansey/stitches.symbols"], plainKeys := false, apart := false, laid := [("gansey/stitches.symbols", laid_gansey_stitches_symbols)] }
def RowsPrepareSaid : Prop := rowsPrepareRow.holds Tryz.pinned (OpenSpec.ofChange rowsPrepareSpec)

/-- ITS FALSE NEIGHBOUR: 'it returns false'. Refute it at one input. -/
def rowsPrepareWrong : ChangeSpec := { name := "rowsPrepare", fn := fun _ => fun
  | [d1, d2] => { results := [.lit (.bool false)], args := [d1, d2] }
  | _ => none }
def RowsPrepareWrongFalsely : Prop := rowsPrepareRow.holds Tryz.pinned (OpenSpec.ofChange rowsPrepareWrong)

/-- 'ganseylaw16.RowsCross': WHATEVER THE INPUT: true; the input reads as it did. -/
def rowsCrossSpec : ChangeSpec := { name := "rowsCross", fn := fun _ => fun
  | [d1, d2] => { results := [.lit (.bool true)], args := [d1, d2] }
  | _ => none }
def rowsCrossRow : OpenClaim := { program := "ytifccdcnhibceaagreatdoor", sum := "0c3506eb15414d61395b749f264bf3c3d936381f7c4800f0ec041077f7d37b84", func := "gansey/ganseylaw16.RowsCross", spec := "rowsCross", unfollowed := true, recurses := true, named := ["gansey/stitches.symbols"], plainKeys := false, apart := false, laid := [("gansey/stitches.symbols", laid_gansey_stitches_symbols)] }
def RowsCrossSaid : Prop := rowsCrossRow.holds Tryz.pinned (OpenSpec.ofChange rowsCrossSpec)

/-- ITS FALSE NEIGHBOUR: 'it returns false'. Refute it at one input. -/
def rowsCrossWrong : ChangeSpec := { name := "rowsCross", fn := fun _ => fun
  | [d1, d2] => { results := [.lit (.bool false)], args := [d1, d2] }
  | _ => none }
def RowsCrossWrongFalsely : Prop := rowsCrossRow.holds Tryz.pinned (OpenSpec.ofChange rowsCrossWrong)

/-- 'ganseylaw16.RowsSlip': WHATEVER THE INPUT: true; the input reads as it did. -/
def rowsSlipSpec : ChangeSpec := { name := "rowsSlip", fn := fun _ => fun
  | [d1, d2] => { results := [.lit (.bool true)], args := [d1, d2] }
  | _ => none }
def rowsSlipRow : OpenClaim := { program := "ytifccdcnhibceaagreatdoor", sum := "0c3506eb15414d61395b749f264bf3c3d936381f7c4800f0ec041077f7d37b84", func := "gansey/ganseylaw16.RowsSlip", spec := "rowsSlip", unfollowed := true, recurses := true, named := ["gansey/stitches.symbols"], plainKeys := false, apart := false, laid := [("gansey/stitches.symbols", laid_gansey_stitches_symbols)] }
def RowsSlipSaid : Prop := rowsSlipRow.holds Tryz.pinned (OpenSpec.ofChange rowsSlipSpec)

/-- ITS FALSE NEIGHBOUR: 'it returns false'. Refute it at one input. -/
def rowsSlipWrong : ChangeSpec := { name := "rowsSlip", fn := fun _ => fun
  | [d1, d2] => { results := [.lit (.bool false)], args := [d1, d2] }
  | _ => none }
def RowsSlipWrongFalsely : Prop := rowsSlipRow.holds Tryz.pinned (OpenSpec.ofChange rowsSlipWrong)

/-- 'ganseylaw16.RowsTogether': WHATEVER THE INPUT: true; the input reads as it did. -/
def rowsTogetherSpec : ChangeSpec := { name := "rowsTogether", fn := fun _ => fun
  | [d1, d2, d3] => { results := [.lit (.bool true)], args := [d1, d2, d3] }
  | _ => none }
def rowsTogetherRow : OpenClaim := { program := "ytifccdcnhibceaagreatdoor", sum := "0c3506eb15414d61395b749f264bf3c3d936381f7c4800f0ec041077f7d37b84", func := "gansey/ganseylaw16.RowsTogether", spec := "rowsTogether", unfollowed := true, recurses := true, named := ["gansey/stitches.symbols"], plainKeys := false, apart := false, laid := [("gansey/stitches.symbols", laid_gansey_stitches_symbols)] }
def RowsTogetherSaid : Prop := rowsTogetherRow.holds Tryz.pinned (OpenSpec.ofChange rowsTogetherSpec)

/-- ITS FALSE NEIGHBOUR: 'it returns false'. Refute it at one input. -/
def rowsTogetherWrong : ChangeSpec := { name := "rowsTogether", fn := fun _ => fun
  | [d1, d2, d3] => { results := [.lit (.bool false)], args := [d1, d2, d3] }
  | _ => none }
def RowsTogetherWrongFalsely : Prop := rowsTogetherRow.holds Tryz.pinned (OpenSpec.ofChange rowsTogetherWrong)

/-- 'ganseylaw16.RowsErrors': WHATEVER THE INPUT: true; the input reads as it did. -/
def rowsErrorsSpec : ChangeSpec := { name := "rowsErrors", fn := fun _ => fun
  | [d1, d2, d3] => { results := [.lit (.bool true)], args := [d1, d2, d3] }
  | _ => none }
def rowsErrorsRow : OpenClaim := { program := "ytifccdcnhibceaagreatdoor", sum := "0c3506eb15414d61395b749f264bf3c3d936381f7c4800f0ec041077f7d37b84", func := "gansey/ganseylaw16.RowsErrors", spec := "rowsErrors", unfollowed := true, recurses := true, named := ["gansey/stitches.symbols"], plainKeys := false, apart := false, laid := [("gansey/stitches.symbols", laid_gansey_stitches_symbols)] }
def RowsErrorsSaid : Prop := rowsErrorsRow.holds Tryz.pinned (OpenSpec.ofChange rowsErrorsSpec)

/-- ITS FALSE NEIGHBOUR: 'it returns false'. Refute it at one input. -/
def rowsErrorsWrong : ChangeSpec := { name := "rowsErrors", fn := fun _ => fun
  | [d1, d2, d3] => { results := [.lit (.bool false)], args := [d1, d2, d3] }
  | _ => none }
def RowsErrorsWrongFalsely : Prop := rowsErrorsRow.holds Tryz.pinned (OpenSpec.ofChange rowsErrorsWrong)

/-- 'ganseylaw16.RowsKnown': WHATEVER THE INPUT: true; the input reads as it did. -/
def rowsKnownSpec : ChangeSpec := { name := "rowsKnown", fn := fun _ => fun
  | [] => { results := [.lit (.bool true)], args := [] }
  | _ => none }
def rowsKnownRow : OpenClaim := { program := "ytifccdcnhibceaagreatdoor", sum := "0c3506eb15414d61395b749f264bf3c3d936381f7c4800f0ec041077f7d37b84", func := "gansey/ganseylaw16.RowsKnown", spec := "rowsKnown", unfollowed := true, recurses := true, named := ["gansey/stitches.symbols"], plainKeys := false, apart := false, laid := [("gansey/stitches.symbols", laid_gansey_stitches_symbols)] }
def RowsKnownSaid : Prop := rowsKnownRow.holds Tryz.pinned (OpenSpec.ofChange rowsKnownSpec)

/-- ITS FALSE NEIGHBOUR: 'it returns false'. Refute it at one input. -/
def rowsKnownWrong : ChangeSpec := { name := "rowsKnown", fn := fun _ => fun
  | [] => { results := [.lit (.bool false)], args := [] }
  | _ => none }
def RowsKnownWrongFalsely : Prop := rowsKnownRow.holds Tryz.pinned (OpenSpec.ofChange rowsKnownWrong)

/- THE SECOND FORM. 'bulk': how many values and letters a reading holds, each counted each time it is reached (what is shared counts as often as it is met; a slice's spare places count too). A statement '..UptoSaid' is the law's where the arguments, and the package variables that the reading takes, are together of bulk at most 1048576: NARROWER than '..Said'. Prove '..Said' where nothing that the law and all that it calls make is longer than what came in: it says more and counts as full. Else prove '..UptoSaid'. A law counts once. -/
mutual
def uptoBulk {H : Type} : DataW H → Nat
  | .lit (.string bytes) => bytes.length + 1
  | .lit _ => 1
  | .nil => 1
  | .ptr d => uptoBulk d + 1
  | .slice elems spare => uptoBulkAll elems + uptoBulkAll spare + 1
  | .agg parts => uptoBulkAll parts + 1
  | .iface _ d => uptoBulk d + 1
  | .map entries => uptoBulkEntries entries + 1
  | .held _ => 1
def uptoBulkAll {H : Type} : List (DataW H) → Nat
  | [] => 0
  | d :: r => uptoBulk d + uptoBulkAll r
def uptoBulkEntries {H : Type} : List (Lit × DataW H) → Nat
  | [] => 0
  | x :: r => uptoBulkEntry x + uptoBulkEntries r
def uptoBulkEntry {H : Type} : Lit × DataW H → Nat
  | (.string bytes, d) => bytes.length + uptoBulk d + 1
  | (_, d) => uptoBulk d + 1
 end
def uptoSmall : (H : Type) → List (DataW H) → Bool := fun _ ds => decide (uptoBulkAll ds ≤ 1048576)
def OpenSpec.upto (s : _root_.Go.ChangeSpec) : _root_.Go.OpenSpec := { _root_.Go.OpenSpec.ofChange s with cond := some uptoSmall }

/-- 'ganseylaw16.RowsCast', WHERE WHAT IT READS IS OF BULK AT MOST 1048576: true; the input reads as it did. -/
def rowsCastUptoRow : OpenClaim := { program := "ytifccdcnhibceaagreatdoor", sum := "0c3506eb15414d61395b749f264bf3c3d936381f7c4800f0ec041077f7d37b84", func := "gansey/ganseylaw16.RowsCast", spec := "rowsCast", unfollowed := true, recurses := true, named := ["gansey/stitches.symbols"], plainKeys := false, apart := false, laid := [("gansey/stitches.symbols", laid_gansey_stitches_symbols)], narrowed := true }
def RowsCastUptoSaid : Prop := rowsCastUptoRow.holds Tryz.pinned (OpenSpec.upto rowsCastSpec)

/-- 'ganseylaw16.RowsRow', WHERE WHAT IT READS IS OF BULK AT MOST 1048576: true; the input reads as it did. -/
def rowsRowUptoRow : OpenClaim := { program := "ytifccdcnhibceaagreatdoor", sum := "0c3506eb15414d61395b749f264bf3c3d936381f7c4800f0ec041077f7d37b84", func := "gansey/ganseylaw16.RowsRow", spec := "rowsRow", unfollowed := true, recurses := true, named := ["gansey/stitches.symbols"], plainKeys := false, apart := false, laid := [("gansey/stitches.symbols", laid_gansey_stitches_symbols)], narrowed := true }
def RowsRowUptoSaid : Prop := rowsRowUptoRow.holds Tryz.pinned (OpenSpec.upto rowsRowSpec)

/-- 'ganseylaw16.RowsCheck', WHERE WHAT IT READS IS OF BULK AT MOST 1048576: true; the input reads as it did. -/
def rowsCheckUptoRow : OpenClaim := { program := "ytifccdcnhibceaagreatdoor", sum := "0c3506eb15414d61395b749f264bf3c3d936381f7c4800f0ec041077f7d37b84", func := "gansey/ganseylaw16.RowsCheck", spec := "rowsCheck", unfollowed := true, recurses := true, named := ["gansey/stitches.symbols"], plainKeys := false, apart := false, laid := [("gansey/stitches.symbols", laid_gansey_stitches_symbols)], narrowed := true }
def RowsCheckUptoSaid : Prop := rowsCheckUptoRow.holds Tryz.pinned (OpenSpec.upto rowsCheckSpec)

/-- 'ganseylaw16.RowsPast', WHERE WHAT IT READS IS OF BULK AT MOST 1048576: true; the input reads as it did. -/
def rowsPastUptoRow : OpenClaim := { program := "ytifccdcnhibceaagreatdoor", sum := "0c3506eb15414d61395b749f264bf3c3d936381f7c4800f0ec041077f7d37b84", func := "gansey/ganseylaw16.RowsPast", spec := "rowsPast", unfollowed := true, recurses := true, named := ["gansey/stitches.symbols"], plainKeys := false, apart := false, laid := [("gansey/stitches.symbols", laid_gansey_stitches_symbols)], narrowed := true }
def RowsPastUptoSaid : Prop := rowsPastUptoRow.holds Tryz.pinned (OpenSpec.upto rowsPastSpec)

/-- 'ganseylaw16.RowsPrepare', WHERE WHAT IT READS IS OF BULK AT MOST 1048576: true; the input reads as it did. -/
def rowsPrepareUptoRow : OpenClaim := { program := "ytifccdcnhibceaagreatdoor", sum := "0c3506eb15414d61395b749f264bf3c3d936381f7c4800f0ec041077f7d37b84", func := "gansey/ganseylaw16.RowsPrepare", spec := "rowsPrepare", unfollowed := true, recurses := true, named := ["gansey/stitches.symbols"], plainKeys := false, apart := false, laid := [("gansey/stitches.symbols", laid_gansey_stitches_symbols)], narrowed := true }
def RowsPrepareUptoSaid : Prop := rowsPrepareUptoRow.holds Tryz.pinned (OpenSpec.upto rowsPrepareSpec)

/-- 'ganseylaw16.RowsCross', WHERE WHAT IT READS IS OF BULK AT MOST 1048576: true; the input reads as it did. -/
def rowsCrossUptoRow : OpenClaim := { program := "ytifccdcnhibceaagreatdoor", sum := "0c3506eb15414d61395b749f264bf3c3d936381f7c4800f0ec041077f7d37b84", func := "gansey/ganseylaw16.RowsCross", spec := "rowsCross", unfollowed := true, recurses := true, named := ["gansey/stitches.symbols"], plainKeys := false, apart := false, laid := [("gansey/stitches.symbols", laid_gansey_stitches_symbols)], narrowed := true }
def RowsCrossUptoSaid : Prop := rowsCrossUptoRow.holds Tryz.pinned (OpenSpec.upto rowsCrossSpec)

/-- 'ganseylaw16.RowsSlip', WHERE WHAT IT READS IS OF BULK AT MOST 1048576: true; the input reads as it did. -/
def rowsSlipUptoRow : OpenClaim := { program := "ytifccdcnhibceaagreatdoor", sum := "0c3506eb15414d61395b749f264bf3c3d936381f7c4800f0ec041077f7d37b84", func := "gansey/ganseylaw16.RowsSlip", spec := "rowsSlip", unfollowed := true, recurses := true, named := ["gansey/stitches.symbols"], plainKeys := false, apart := false, laid := [("gansey/stitches.symbols", laid_gansey_stitches_symbols)], narrowed := true }
def RowsSlipUptoSaid : Prop := rowsSlipUptoRow.holds Tryz.pinned (OpenSpec.upto rowsSlipSpec)

/-- 'ganseylaw16.RowsTogether', WHERE WHAT IT READS IS OF BULK AT MOST 1048576: true; the input reads as it did. -/
def rowsTogetherUptoRow : OpenClaim := { program := "ytifccdcnhibceaagreatdoor", sum := "0c3506eb15414d61395b749f264bf3c3d936381f7c4800f0ec041077f7d37b84", func := "gansey/ganseylaw16.RowsTogether", spec := "rowsTogether", unfollowed := true, recurses := true, named := ["gansey/stitches.symbols"], plainKeys := false, apart := false, laid := [("gansey/stitches.symbols", laid_gansey_stitches_symbols)], narrowed := true }
def RowsTogetherUptoSaid : Prop := rowsTogetherUptoRow.holds Tryz.pinned (OpenSpec.upto rowsTogetherSpec)

/-- 'ganseylaw16.RowsErrors', WHERE WHAT IT READS IS OF BULK AT MOST 1048576: true; the input reads as it did. -/
def rowsErrorsUptoRow : OpenClaim := { program := "ytifccdcnhibceaagreatdoor", sum := "0c3506eb15414d61395b749f264bf3c3d936381f7c4800f0ec041077f7d37b84", func := "gansey/ganseylaw16.RowsErrors", spec := "rowsErrors", unfollowed := true, recurses := true, named := ["gansey/stitches.symbols"], plainKeys := false, apart := false, laid := [("gansey/stitches.symbols", laid_gansey_stitches_symbols)], narrowed := true }
def RowsErrorsUptoSaid : Prop := rowsErrorsUptoRow.holds Tryz.pinned (OpenSpec.upto rowsErrorsSpec)

/-- 'ganseylaw16.RowsKnown', WHERE WHAT IT READS IS OF BULK AT MOST 1048576: true; the input reads as it did. -/
def rowsKnownUptoRow : OpenClaim := { program := "ytifccdcnhibceaagreatdoor", sum := "0c3506eb15414d61395b749f264bf3c3d936381f7c4800f0ec041077f7d37b84", func := "gansey/ganseylaw16.RowsKnown", spec := "rowsKnown", unfollowed := true, recurses := true, named := ["gansey/stitches.symbols"], plainKeys := false, apart := false, laid := [("gansey/stitches.symbols", laid_gansey_stitches_symbols)], narrowed := true }
def RowsKnownUptoSaid : Prop := rowsKnownUptoRow.holds Tryz.pinned (OpenSpec.upto rowsKnownSpec)

end Rows
end Go.Proofs.YtifccdcnhibceaaGreatDoor
