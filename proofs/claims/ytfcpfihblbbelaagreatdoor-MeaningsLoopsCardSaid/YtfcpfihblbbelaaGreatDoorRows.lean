/-
  NARROWER THAN 'FOR EVERY INPUT', by the rows' own cells (each row's printed sentence says how): MeaningsOf: laid · MeaningsUntil: laid · MeaningsBind: laid · MeaningsLoops: laid · MeaningsNames: laid · MeaningsErrors: laid · MeaningsSound: laid · MeaningsKnown: laid.
  DERIVED. THE GIVEN ROWS OF THIS SEAT. 8 by the template 'for every input the law returns true; each argument reads behind the call as it read before'; 0 by the template 'total and deterministic' (their statements: YtfcpfihblbbelaaGreatDoorTotals.lean).
  GIVEN WITH THE SEED: the statements are not yours to turn. If you find one false, say at which input.
  Laid BY PROGRAM, IN A SANDBOX (cutbox-rows.mjs): the forced cells as the released guide's own fill.sh prints them over the translation 73fc61ef26577f78… (all of the seat's roots in one cut). By AI agents, Wed Nov 11 2026. No macro, syntax, notation, axiom, sorry.
-/
import Derived.Test.YtfcpfihblbbelaaGreatDoorChecked
import GoSem.Claim
import GoSem.ClaimJoined
import GoSem.ClaimMapViews
import Derived.JoinedTies
import Derived.KernelRfl
namespace Go.Proofs.YtfcpfihblbbelaaGreatDoor
/- THE CELL 'sum', in the pinned program and in every row, IS THE sha256 OF THE DUMP (.gsa) THAT YtfcpfihblbbelaaGreatDoorProg.lean LOADS. Nothing in Lean hashes anything: it is a label: what it is worth is what the hold of that sum in a sandbox is worth. -/
noncomputable def Tryz.pinned : Pinned := { name := "ytfcpfihblbbelaagreatdoor", sum := "73fc61ef26577f78f95604b08e301b42a1fc710d80bd426ffa043679c2ec48d1", checked := Tryz.checked }
namespace Rows
def none {H : Type} : Left H := { results := [], args := [] }

/- WHAT THE LISTED PACKAGE-LEVEL VARIABLES READ AS WHEN THE CALL BEGINS. Each datum BY PROGRAM (the guide's laid-datum.mjs) off the statement by which the dump's own 'gosem.cut.vars' lays the variable. In a bare row this is a premise. The card (YtfcpfihblbbelaaGreatDoorCards.lean) ties it to the program's text. -/
def laid_gansey_stitches_symbols {H : Type} : DataW H := .agg [.lit (.int .u8 107), .lit (.int .u8 112), .lit (.int .u8 111), .lit (.int .u8 47), .lit (.int .u8 118), .lit (.int .u8 116), .lit (.int .u8 115), .lit (.int .u8 99)]

/-- 'ganseylaw17.MeaningsOf': WHATEVER THE INPUT: true; the input reads as it did. -/
def meaningsOfSpec : ChangeSpec := { name := "meaningsOf", fn := fun _ => fun
  | [d] => { results := [.lit (.bool true)], args := [d] }
  | _ => none }
def meaningsOfRow : OpenClaim := { program := "ytfcpfihblbbelaagreatdoor", sum := "73fc61ef26577f78f95604b08e301b42a1fc710d80bd426ffa043679c2ec48d1", func := "gansey/ganseylaw17.MeaningsOf", spec := "meaningsOf", unfollowed := true, recurses := true, named := ["gansey/stitches.symbols"], plainKeys := false, apart := false, laid := [("gansey/stitches.symbols", laid_gansey_stitches_symbols)] }
def MeaningsOfSaid : Prop := meaningsOfRow.holds Tryz.pinned (OpenSpec.ofChange meaningsOfSpec)

/-- ITS FALSE NEIGHBOUR: 'it returns false'. Refute it at one input. -/
def meaningsOfWrong : ChangeSpec := { name := "meaningsOf", fn := fun _ => fun
  | [d] => { results := [.lit (.bool false)], args := [d] }
  | _ => none }
def MeaningsOfWrongFalsely : Prop := meaningsOfRow.holds Tryz.pinned (OpenSpec.ofChange meaningsOfWrong)

/-- 'ganseylaw17.MeaningsUntil': WHATEVER THE INPUT: true; the input reads as it did. -/
def meaningsUntilSpec : ChangeSpec := { name := "meaningsUntil", fn := fun _ => fun
  | [d1, d2] => { results := [.lit (.bool true)], args := [d1, d2] }
  | _ => none }
def meaningsUntilRow : OpenClaim := { program := "ytfcpfihblbbelaagreatdoor", sum := "73fc61ef26577f78f95604b08e301b42a1fc710d80bd426ffa043679c2ec48d1", func := "gansey/ganseylaw17.MeaningsUntil", spec := "meaningsUntil", unfollowed := true, recurses := true, named := ["gansey/stitches.symbols"], plainKeys := false, apart := false, laid := [("gansey/stitches.symbols", laid_gansey_stitches_symbols)] }
def MeaningsUntilSaid : Prop := meaningsUntilRow.holds Tryz.pinned (OpenSpec.ofChange meaningsUntilSpec)

/-- ITS FALSE NEIGHBOUR: 'it returns false'. Refute it at one input. -/
def meaningsUntilWrong : ChangeSpec := { name := "meaningsUntil", fn := fun _ => fun
  | [d1, d2] => { results := [.lit (.bool false)], args := [d1, d2] }
  | _ => none }
def MeaningsUntilWrongFalsely : Prop := meaningsUntilRow.holds Tryz.pinned (OpenSpec.ofChange meaningsUntilWrong)

/-- 'ganseylaw17.MeaningsBind': WHATEVER THE INPUT: true; the input reads as it did. -/
def meaningsBindSpec : ChangeSpec := { name := "meaningsBind", fn := fun _ => fun
  | [d1, d2, d3] => { results := [.lit (.bool true)], args := [d1, d2, d3] }
  | _ => none }
def meaningsBindRow : OpenClaim := { program := "ytfcpfihblbbelaagreatdoor", sum := "73fc61ef26577f78f95604b08e301b42a1fc710d80bd426ffa043679c2ec48d1", func := "gansey/ganseylaw17.MeaningsBind", spec := "meaningsBind", unfollowed := true, recurses := true, named := ["gansey/stitches.symbols"], plainKeys := false, apart := false, laid := [("gansey/stitches.symbols", laid_gansey_stitches_symbols)] }
def MeaningsBindSaid : Prop := meaningsBindRow.holds Tryz.pinned (OpenSpec.ofChange meaningsBindSpec)

/-- ITS FALSE NEIGHBOUR: 'it returns false'. Refute it at one input. -/
def meaningsBindWrong : ChangeSpec := { name := "meaningsBind", fn := fun _ => fun
  | [d1, d2, d3] => { results := [.lit (.bool false)], args := [d1, d2, d3] }
  | _ => none }
def MeaningsBindWrongFalsely : Prop := meaningsBindRow.holds Tryz.pinned (OpenSpec.ofChange meaningsBindWrong)

/-- 'ganseylaw17.MeaningsLoops': WHATEVER THE INPUT: true; the input reads as it did. -/
def meaningsLoopsSpec : ChangeSpec := { name := "meaningsLoops", fn := fun _ => fun
  | [d] => { results := [.lit (.bool true)], args := [d] }
  | _ => none }
def meaningsLoopsRow : OpenClaim := { program := "ytfcpfihblbbelaagreatdoor", sum := "73fc61ef26577f78f95604b08e301b42a1fc710d80bd426ffa043679c2ec48d1", func := "gansey/ganseylaw17.MeaningsLoops", spec := "meaningsLoops", unfollowed := true, recurses := true, named := ["gansey/stitches.symbols"], plainKeys := false, apart := false, laid := [("gansey/stitches.symbols", laid_gansey_stitches_symbols)] }
def MeaningsLoopsSaid : Prop := meaningsLoopsRow.holds Tryz.pinned (OpenSpec.ofChange meaningsLoopsSpec)

/-- ITS FALSE NEIGHBOUR: 'it returns false'. Refute it at one input. -/
def meaningsLoopsWrong : ChangeSpec := { name := "meaningsLoops", fn := fun _ => fun
  | [d] => { results := [.lit (.bool false)], args := [d] }
  | _ => none }
def MeaningsLoopsWrongFalsely : Prop := meaningsLoopsRow.holds Tryz.pinned (OpenSpec.ofChange meaningsLoopsWrong)

/-- 'ganseylaw17.MeaningsNames': WHATEVER THE INPUT: true; the input reads as it did. -/
def meaningsNamesSpec : ChangeSpec := { name := "meaningsNames", fn := fun _ => fun
  | [d1, d2] => { results := [.lit (.bool true)], args := [d1, d2] }
  | _ => none }
def meaningsNamesRow : OpenClaim := { program := "ytfcpfihblbbelaagreatdoor", sum := "73fc61ef26577f78f95604b08e301b42a1fc710d80bd426ffa043679c2ec48d1", func := "gansey/ganseylaw17.MeaningsNames", spec := "meaningsNames", unfollowed := true, recurses := true, named := ["gansey/stitches.symbols"], plainKeys := false, apart := false, laid := [("gansey/stitches.symbols", laid_gansey_stitches_symbols)] }
def MeaningsNamesSaid : Prop := meaningsNamesRow.holds Tryz.pinned (OpenSpec.ofChange meaningsNamesSpec)

/-- ITS FALSE NEIGHBOUR: 'it returns false'. Refute it at one input. -/
def meaningsNamesWrong : ChangeSpec := { name := "meaningsNames", fn := fun _ => fun
  | [d1, d2] => { results := [.lit (.bool false)], args := [d1, d2] }
  | _ => none }
def MeaningsNamesWrongFalsely : Prop := meaningsNamesRow.holds Tryz.pinned (OpenSpec.ofChange meaningsNamesWrong)

/-- 'ganseylaw17.MeaningsErrors': WHATEVER THE INPUT: true; the input reads as it did. -/
def meaningsErrorsSpec : ChangeSpec := { name := "meaningsErrors", fn := fun _ => fun
  | [d1, d2, d3] => { results := [.lit (.bool true)], args := [d1, d2, d3] }
  | _ => none }
def meaningsErrorsRow : OpenClaim := { program := "ytfcpfihblbbelaagreatdoor", sum := "73fc61ef26577f78f95604b08e301b42a1fc710d80bd426ffa043679c2ec48d1", func := "gansey/ganseylaw17.MeaningsErrors", spec := "meaningsErrors", unfollowed := true, recurses := true, named := ["gansey/stitches.symbols"], plainKeys := false, apart := false, laid := [("gansey/stitches.symbols", laid_gansey_stitches_symbols)] }
def MeaningsErrorsSaid : Prop := meaningsErrorsRow.holds Tryz.pinned (OpenSpec.ofChange meaningsErrorsSpec)

/-- ITS FALSE NEIGHBOUR: 'it returns false'. Refute it at one input. -/
def meaningsErrorsWrong : ChangeSpec := { name := "meaningsErrors", fn := fun _ => fun
  | [d1, d2, d3] => { results := [.lit (.bool false)], args := [d1, d2, d3] }
  | _ => none }
def MeaningsErrorsWrongFalsely : Prop := meaningsErrorsRow.holds Tryz.pinned (OpenSpec.ofChange meaningsErrorsWrong)

/-- 'ganseylaw17.MeaningsSound': WHATEVER THE INPUT: true; the input reads as it did. -/
def meaningsSoundSpec : ChangeSpec := { name := "meaningsSound", fn := fun _ => fun
  | [d] => { results := [.lit (.bool true)], args := [d] }
  | _ => none }
def meaningsSoundRow : OpenClaim := { program := "ytfcpfihblbbelaagreatdoor", sum := "73fc61ef26577f78f95604b08e301b42a1fc710d80bd426ffa043679c2ec48d1", func := "gansey/ganseylaw17.MeaningsSound", spec := "meaningsSound", unfollowed := true, recurses := true, named := ["gansey/stitches.symbols"], plainKeys := false, apart := false, laid := [("gansey/stitches.symbols", laid_gansey_stitches_symbols)] }
def MeaningsSoundSaid : Prop := meaningsSoundRow.holds Tryz.pinned (OpenSpec.ofChange meaningsSoundSpec)

/-- ITS FALSE NEIGHBOUR: 'it returns false'. Refute it at one input. -/
def meaningsSoundWrong : ChangeSpec := { name := "meaningsSound", fn := fun _ => fun
  | [d] => { results := [.lit (.bool false)], args := [d] }
  | _ => none }
def MeaningsSoundWrongFalsely : Prop := meaningsSoundRow.holds Tryz.pinned (OpenSpec.ofChange meaningsSoundWrong)

/-- 'ganseylaw17.MeaningsKnown': WHATEVER THE INPUT: true; the input reads as it did. -/
def meaningsKnownSpec : ChangeSpec := { name := "meaningsKnown", fn := fun _ => fun
  | [] => { results := [.lit (.bool true)], args := [] }
  | _ => none }
def meaningsKnownRow : OpenClaim := { program := "ytfcpfihblbbelaagreatdoor", sum := "73fc61ef26577f78f95604b08e301b42a1fc710d80bd426ffa043679c2ec48d1", func := "gansey/ganseylaw17.MeaningsKnown", spec := "meaningsKnown", unfollowed := true, recurses := true, named := ["gansey/stitches.symbols"], plainKeys := false, apart := false, laid := [("gansey/stitches.symbols", laid_gansey_stitches_symbols)] }
def MeaningsKnownSaid : Prop := meaningsKnownRow.holds Tryz.pinned (OpenSpec.ofChange meaningsKnownSpec)

/-- ITS FALSE NEIGHBOUR: 'it returns false'. Refute it at one input. -/
def meaningsKnownWrong : ChangeSpec := { name := "meaningsKnown", fn := fun _ => fun
  | [] => { results := [.lit (.bool false)], args := [] }
  | _ => none }
def MeaningsKnownWrongFalsely : Prop := meaningsKnownRow.holds Tryz.pinned (OpenSpec.ofChange meaningsKnownWrong)

/- THE SECOND FORM. 'bulk': how many values and letters a reading holds, each counted each time it is reached (what is shared counts as often as it is met; a slice's spare places count too). A statement '..UptoSaid' is the law's where the arguments, and the package variables that the reading takes, are together of bulk at most 1048576: NARROWER than '..Said'. Prove '..Said' where nothing that the law and all that it calls make is longer than what came in: it says more and counts as full. Else prove '..UptoSaid'. A law counts once. -/
mutual
def uptoBulk {H : Type} : DataW H → Nat
  | .lit (.string bytes) => bytes.length + 1
  | .lit _ => 1
  | .nil => 1
  | .ptr d => uptoBulk d + 1
  | .slice elems spare => uptoBulkAll elems + uptoBulkAll spare + 1
  | .agg parts => uptoBulkAll parts + 1
  | .iface _ d => uptoBulk d + 1
  | .map entries => uptoBulkEntries entries + 1
  | .held _ => 1
def uptoBulkAll {H : Type} : List (DataW H) → Nat
  | [] => 0
  | d :: r => uptoBulk d + uptoBulkAll r
def uptoBulkEntries {H : Type} : List (Lit × DataW H) → Nat
  | [] => 0
  | x :: r => uptoBulkEntry x + uptoBulkEntries r
def uptoBulkEntry {H : Type} : Lit × DataW H → Nat
  | (.string bytes, d) => bytes.length + uptoBulk d + 1
  | (_, d) => uptoBulk d + 1
 end
def uptoSmall : (H : Type) → List (DataW H) → Bool := fun _ ds => decide (uptoBulkAll ds ≤ 1048576)
def OpenSpec.upto (s : _root_.Go.ChangeSpec) : _root_.Go.OpenSpec := { _root_.Go.OpenSpec.ofChange s with cond := some uptoSmall }

/-- 'ganseylaw17.MeaningsOf', WHERE WHAT IT READS IS OF BULK AT MOST 1048576: true; the input reads as it did. -/
def meaningsOfUptoRow : OpenClaim := { program := "ytfcpfihblbbelaagreatdoor", sum := "73fc61ef26577f78f95604b08e301b42a1fc710d80bd426ffa043679c2ec48d1", func := "gansey/ganseylaw17.MeaningsOf", spec := "meaningsOf", unfollowed := true, recurses := true, named := ["gansey/stitches.symbols"], plainKeys := false, apart := false, laid := [("gansey/stitches.symbols", laid_gansey_stitches_symbols)], narrowed := true }
def MeaningsOfUptoSaid : Prop := meaningsOfUptoRow.holds Tryz.pinned (OpenSpec.upto meaningsOfSpec)

/-- 'ganseylaw17.MeaningsUntil', WHERE WHAT IT READS IS OF BULK AT MOST 1048576: true; the input reads as it did. -/
def meaningsUntilUptoRow : OpenClaim := { program := "ytfcpfihblbbelaagreatdoor", sum := "73fc61ef26577f78f95604b08e301b42a1fc710d80bd426ffa043679c2ec48d1", func := "gansey/ganseylaw17.MeaningsUntil", spec := "meaningsUntil", unfollowed := true, recurses := true, named := ["gansey/stitches.symbols"], plainKeys := false, apart := false, laid := [("gansey/stitches.symbols", laid_gansey_stitches_symbols)], narrowed := true }
def MeaningsUntilUptoSaid : Prop := meaningsUntilUptoRow.holds Tryz.pinned (OpenSpec.upto meaningsUntilSpec)

/-- 'ganseylaw17.MeaningsBind', WHERE WHAT IT READS IS OF BULK AT MOST 1048576: true; the input reads as it did. -/
def meaningsBindUptoRow : OpenClaim := { program := "ytfcpfihblbbelaagreatdoor", sum := "73fc61ef26577f78f95604b08e301b42a1fc710d80bd426ffa043679c2ec48d1", func := "gansey/ganseylaw17.MeaningsBind", spec := "meaningsBind", unfollowed := true, recurses := true, named := ["gansey/stitches.symbols"], plainKeys := false, apart := false, laid := [("gansey/stitches.symbols", laid_gansey_stitches_symbols)], narrowed := true }
def MeaningsBindUptoSaid : Prop := meaningsBindUptoRow.holds Tryz.pinned (OpenSpec.upto meaningsBindSpec)

/-- 'ganseylaw17.MeaningsLoops', WHERE WHAT IT READS IS OF BULK AT MOST 1048576: true; the input reads as it did. -/
def meaningsLoopsUptoRow : OpenClaim := { program := "ytfcpfihblbbelaagreatdoor", sum := "73fc61ef26577f78f95604b08e301b42a1fc710d80bd426ffa043679c2ec48d1", func := "gansey/ganseylaw17.MeaningsLoops", spec := "meaningsLoops", unfollowed := true, recurses := true, named := ["gansey/stitches.symbols"], plainKeys := false, apart := false, laid := [("gansey/stitches.symbols", laid_gansey_stitches_symbols)], narrowed := true }
def MeaningsLoopsUptoSaid : Prop := meaningsLoopsUptoRow.holds Tryz.pinned (OpenSpec.upto meaningsLoopsSpec)

/-- 'ganseylaw17.MeaningsNames', WHERE WHAT IT READS IS OF BULK AT MOST 1048576: true; the input reads as it did. -/
def meaningsNamesUptoRow : OpenClaim := { program := "ytfcpfihblbbelaagreatdoor", sum := "73fc61ef26577f78f95604b08e301b42a1fc710d80bd426ffa043679c2ec48d1", func := "gansey/ganseylaw17.MeaningsNames", spec := "meaningsNames", unfollowed := true, recurses := true, named := ["gansey/stitches.symbols"], plainKeys := false, apart := false, laid := [("gansey/stitches.symbols", laid_gansey_stitches_symbols)], narrowed := true }
def MeaningsNamesUptoSaid : Prop := meaningsNamesUptoRow.holds Tryz.pinned (OpenSpec.upto meaningsNamesSpec)

/-- 'ganseylaw17.MeaningsErrors', WHERE WHAT IT READS IS OF BULK AT MOST 1048576: true; the input reads as it did. -/
def meaningsErrorsUptoRow : OpenClaim := { program := "ytfcpfihblbbelaagreatdoor", sum := "73fc61ef26577f78f95604b08e301b42a1fc710d80bd426ffa043679c2ec48d1", func := "gansey/ganseylaw17.MeaningsErrors", spec := "meaningsErrors", unfollowed := true, recurses := true, named := ["gansey/stitches.symbols"], plainKeys := false, apart := false, laid := [("gansey/stitches.symbols", laid_gansey_stitches_symbols)], narrowed := true }
def MeaningsErrorsUptoSaid : Prop := meaningsErrorsUptoRow.holds Tryz.pinned (OpenSpec.upto meaningsErrorsSpec)

/-- 'ganseylaw17.MeaningsSound', WHERE WHAT IT READS IS OF BULK AT MOST 1048576: true; the input reads as it did. -/
def meaningsSoundUptoRow : OpenClaim := { program := "ytfcpfihblbbelaagreatdoor", sum := "73fc61ef26577f78f95604b08e301b42a1fc710d80bd426ffa043679c2ec48d1", func := "gansey/ganseylaw17.MeaningsSound", spec := "meaningsSound", unfollowed := true, recurses := true, named := ["gansey/stitches.symbols"], plainKeys := false, apart := false, laid := [("gansey/stitches.symbols", laid_gansey_stitches_symbols)], narrowed := true }
def MeaningsSoundUptoSaid : Prop := meaningsSoundUptoRow.holds Tryz.pinned (OpenSpec.upto meaningsSoundSpec)

/-- 'ganseylaw17.MeaningsKnown', WHERE WHAT IT READS IS OF BULK AT MOST 1048576: true; the input reads as it did. -/
def meaningsKnownUptoRow : OpenClaim := { program := "ytfcpfihblbbelaagreatdoor", sum := "73fc61ef26577f78f95604b08e301b42a1fc710d80bd426ffa043679c2ec48d1", func := "gansey/ganseylaw17.MeaningsKnown", spec := "meaningsKnown", unfollowed := true, recurses := true, named := ["gansey/stitches.symbols"], plainKeys := false, apart := false, laid := [("gansey/stitches.symbols", laid_gansey_stitches_symbols)], narrowed := true }
def MeaningsKnownUptoSaid : Prop := meaningsKnownUptoRow.holds Tryz.pinned (OpenSpec.upto meaningsKnownSpec)

end Rows
end Go.Proofs.YtfcpfihblbbelaaGreatDoor
