/-
  No cell of these rows narrows 'for every input' (looked for: loops, veiled, ifaces, maps, wideKeys, modest, calm, conditions, laid).
  DERIVED. THE GIVEN ROWS OF THIS SEAT. 6 by the template 'for every input the law returns true; each argument reads behind the call as it read before'; 0 by the template 'total and deterministic' (their statements: YtlaganadekpcjaaTotals.lean).
  GIVEN WITH THE SEED: the statements are not yours to turn. If you find one false, say at which input.
  Laid BY PROGRAM, IN A SANDBOX (cutbox-rows.mjs): the forced cells as the released guide's own fill.sh prints them over the translation 1ff1904bf4d8bb84… (all of the seat's roots in one cut). By AI agents, Wed Nov 11 2026. No macro, syntax, notation, axiom, sorry.
-/
import Derived.Test.YtlaganadekpcjaaChecked
import GoSem.Claim
import GoSem.ClaimJoined
import GoSem.ClaimMapViews
import Derived.JoinedTies
import Derived.KernelRfl
namespace Go.Proofs.Ytlaganadekpcjaa
/- THE CELL 'sum', in the pinned program and in every row, IS THE sha256 OF THE DUMP (.gsa) THAT YtlaganadekpcjaaProg.lean LOADS. Nothing in Lean hashes anything: it is a label: what it is worth is what the hold of that sum in a sandbox is worth. -/
noncomputable def Try.pinned : Pinned := { name := "ytlaganadekpcjaa", sum := "1ff1904bf4d8bb84a769aca157fe69d7c0a7cd428a0965b99b83b7ebe1a1b289", checked := Try.checked }
namespace Rows
def none {H : Type} : Left H := { results := [], args := [] }

/-- 'ganseylaw41.JobsOrder': WHATEVER THE INPUT: true; the input reads as it did. -/
def jobsOrderSpec : ChangeSpec := { name := "jobsOrder", fn := fun _ => fun
  | [d1, d2] => { results := [.lit (.bool true)], args := [d1, d2] }
  | _ => none }
def jobsOrderRow : OpenClaim := { program := "ytlaganadekpcjaa", sum := "1ff1904bf4d8bb84a769aca157fe69d7c0a7cd428a0965b99b83b7ebe1a1b289", func := "gansey/ganseylaw41.JobsOrder", spec := "jobsOrder", unfollowed := true, recurses := true, apart := false }
def JobsOrderSaid : Prop := jobsOrderRow.holds Try.pinned (OpenSpec.ofChange jobsOrderSpec)

/-- ITS FALSE NEIGHBOUR: 'it returns false'. Refute it at one input. -/
def jobsOrderWrong : ChangeSpec := { name := "jobsOrder", fn := fun _ => fun
  | [d1, d2] => { results := [.lit (.bool false)], args := [d1, d2] }
  | _ => none }
def JobsOrderWrongFalsely : Prop := jobsOrderRow.holds Try.pinned (OpenSpec.ofChange jobsOrderWrong)

/-- 'ganseylaw41.JobsBest': WHATEVER THE INPUT: true; the input reads as it did. -/
def jobsBestSpec : ChangeSpec := { name := "jobsBest", fn := fun _ => fun
  | [d] => { results := [.lit (.bool true)], args := [d] }
  | _ => none }
def jobsBestRow : OpenClaim := { program := "ytlaganadekpcjaa", sum := "1ff1904bf4d8bb84a769aca157fe69d7c0a7cd428a0965b99b83b7ebe1a1b289", func := "gansey/ganseylaw41.JobsBest", spec := "jobsBest", unfollowed := true, recurses := true, apart := false }
def JobsBestSaid : Prop := jobsBestRow.holds Try.pinned (OpenSpec.ofChange jobsBestSpec)

/-- ITS FALSE NEIGHBOUR: 'it returns false'. Refute it at one input. -/
def jobsBestWrong : ChangeSpec := { name := "jobsBest", fn := fun _ => fun
  | [d] => { results := [.lit (.bool false)], args := [d] }
  | _ => none }
def JobsBestWrongFalsely : Prop := jobsBestRow.holds Try.pinned (OpenSpec.ofChange jobsBestWrong)

/-- 'ganseylaw41.JobsPunctual': WHATEVER THE INPUT: true; the input reads as it did. -/
def jobsPunctualSpec : ChangeSpec := { name := "jobsPunctual", fn := fun _ => fun
  | [d] => { results := [.lit (.bool true)], args := [d] }
  | _ => none }
def jobsPunctualRow : OpenClaim := { program := "ytlaganadekpcjaa", sum := "1ff1904bf4d8bb84a769aca157fe69d7c0a7cd428a0965b99b83b7ebe1a1b289", func := "gansey/ganseylaw41.JobsPunctual", spec := "jobsPunctual", unfollowed := true, recurses := true, apart := false }
def JobsPunctualSaid : Prop := jobsPunctualRow.holds Try.pinned (OpenSpec.ofChange jobsPunctualSpec)

/-- ITS FALSE NEIGHBOUR: 'it returns false'. Refute it at one input. -/
def jobsPunctualWrong : ChangeSpec := { name := "jobsPunctual", fn := fun _ => fun
  | [d] => { results := [.lit (.bool false)], args := [d] }
  | _ => none }
def JobsPunctualWrongFalsely : Prop := jobsPunctualRow.holds Try.pinned (OpenSpec.ofChange jobsPunctualWrong)

/-- 'ganseylaw41.JobsPlan': WHATEVER THE INPUT: true; the input reads as it did. -/
def jobsPlanSpec : ChangeSpec := { name := "jobsPlan", fn := fun _ => fun
  | [d1, d2, d3] => { results := [.lit (.bool true)], args := [d1, d2, d3] }
  | _ => none }
def jobsPlanRow : OpenClaim := { program := "ytlaganadekpcjaa", sum := "1ff1904bf4d8bb84a769aca157fe69d7c0a7cd428a0965b99b83b7ebe1a1b289", func := "gansey/ganseylaw41.JobsPlan", spec := "jobsPlan", unfollowed := true, recurses := true, apart := false }
def JobsPlanSaid : Prop := jobsPlanRow.holds Try.pinned (OpenSpec.ofChange jobsPlanSpec)

/-- ITS FALSE NEIGHBOUR: 'it returns false'. Refute it at one input. -/
def jobsPlanWrong : ChangeSpec := { name := "jobsPlan", fn := fun _ => fun
  | [d1, d2, d3] => { results := [.lit (.bool false)], args := [d1, d2, d3] }
  | _ => none }
def JobsPlanWrongFalsely : Prop := jobsPlanRow.holds Try.pinned (OpenSpec.ofChange jobsPlanWrong)

/-- 'ganseylaw41.JobsPromise': WHATEVER THE INPUT: true; the input reads as it did. -/
def jobsPromiseSpec : ChangeSpec := { name := "jobsPromise", fn := fun _ => fun
  | [d1, d2, d3] => { results := [.lit (.bool true)], args := [d1, d2, d3] }
  | _ => none }
def jobsPromiseRow : OpenClaim := { program := "ytlaganadekpcjaa", sum := "1ff1904bf4d8bb84a769aca157fe69d7c0a7cd428a0965b99b83b7ebe1a1b289", func := "gansey/ganseylaw41.JobsPromise", spec := "jobsPromise", unfollowed := true, recurses := true, apart := false }
def JobsPromiseSaid : Prop := jobsPromiseRow.holds Try.pinned (OpenSpec.ofChange jobsPromiseSpec)

/-- ITS FALSE NEIGHBOUR: 'it returns false'. Refute it at one input. -/
def jobsPromiseWrong : ChangeSpec := { name := "jobsPromise", fn := fun _ => fun
  | [d1, d2, d3] => { results := [.lit (.bool false)], args := [d1, d2, d3] }
  | _ => none }
def JobsPromiseWrongFalsely : Prop := jobsPromiseRow.holds Try.pinned (OpenSpec.ofChange jobsPromiseWrong)

/-- 'ganseylaw41.JobsKnown': WHATEVER THE INPUT: true; the input reads as it did. -/
def jobsKnownSpec : ChangeSpec := { name := "jobsKnown", fn := fun _ => fun
  | [] => { results := [.lit (.bool true)], args := [] }
  | _ => none }
def jobsKnownRow : OpenClaim := { program := "ytlaganadekpcjaa", sum := "1ff1904bf4d8bb84a769aca157fe69d7c0a7cd428a0965b99b83b7ebe1a1b289", func := "gansey/ganseylaw41.JobsKnown", spec := "jobsKnown", unfollowed := true, recurses := true, apart := false }
def JobsKnownSaid : Prop := jobsKnownRow.holds Try.pinned (OpenSpec.ofChange jobsKnownSpec)

/-- ITS FALSE NEIGHBOUR: 'it returns false'. Refute it at one input. -/
def jobsKnownWrong : ChangeSpec := { name := "jobsKnown", fn := fun _ => fun
  | [] => { results := [.lit (.bool false)], args := [] }
  | _ => none }
def JobsKnownWrongFalsely : Prop := jobsKnownRow.holds Try.pinned (OpenSpec.ofChange jobsKnownWrong)

/- THE SECOND FORM. 'bulk': how many values and letters a reading holds, each counted each time it is reached (what is shared counts as often as it is met; a slice's spare places count too). A statement '..UptoSaid' is the law's where the arguments, and the package variables that the reading takes, are together of bulk at most 1048576: NARROWER than '..Said'. Prove '..Said' where nothing that the law and all that it calls make is longer than what came in: it says more and counts as full. Else prove '..UptoSaid'. A law counts once. -/
mutual
def uptoBulk {H : Type} : DataW H → Nat
  | .lit (.string bytes) => bytes.length + 1
  | .lit _ => 1
  | .nil => 1
  | .ptr d => uptoBulk d + 1
  | .slice elems spare => uptoBulkAll elems + uptoBulkAll spare + 1
  | .agg parts => uptoBulkAll parts + 1
  | .iface _ d => uptoBulk d + 1
  | .map entries => uptoBulkEntries entries + 1
  | .held _ => 1
def uptoBulkAll {H : Type} : List (DataW H) → Nat
  | [] => 0
  | d :: r => uptoBulk d + uptoBulkAll r
def uptoBulkEntries {H : Type} : List (Lit × DataW H) → Nat
  | [] => 0
  | x :: r => uptoBulkEntry x + uptoBulkEntries r
def uptoBulkEntry {H : Type} : Lit × DataW H → Nat
  | (.string bytes, d) => bytes.length + uptoBulk d + 1
  | (_, d) => uptoBulk d + 1
 end
def uptoSmall : (H : Type) → List (DataW H) → Bool := fun _ ds => decide (uptoBulkAll ds ≤ 1048576)
def OpenSpec.upto (s : _root_.Go.ChangeSpec) : _root_.Go.OpenSpec := { _root_.Go.OpenSpec.ofChange s with cond := some uptoSmall }

/-- 'ganseylaw41.JobsOrder', WHERE WHAT IT READS IS OF BULK AT MOST 1048576: true; the input reads as it did. -/
def jobsOrderUptoRow : OpenClaim := { program := "ytlaganadekpcjaa", sum := "1ff1904bf4d8bb84a769aca157fe69d7c0a7cd428a0965b99b83b7ebe1a1b289", func := "gansey/ganseylaw41.JobsOrder", spec := "jobsOrder", unfollowed := true, recurses := true, apart := false, narrowed := true }
def JobsOrderUptoSaid : Prop := jobsOrderUptoRow.holds Try.pinned (OpenSpec.upto jobsOrderSpec)

/-- 'ganseylaw41.JobsBest', WHERE WHAT IT READS IS OF BULK AT MOST 1048576: true; the input reads as it did. -/
def jobsBestUptoRow : OpenClaim := { program := "ytlaganadekpcjaa", sum := "1ff1904bf4d8bb84a769aca157fe69d7c0a7cd428a0965b99b83b7ebe1a1b289", func := "gansey/ganseylaw41.JobsBest", spec := "jobsBest", unfollowed := true, recurses := true, apart := false, narrowed := true }
def JobsBestUptoSaid : Prop := jobsBestUptoRow.holds Try.pinned (OpenSpec.upto jobsBestSpec)

/-- 'ganseylaw41.JobsPunctual', WHERE WHAT IT READS IS OF BULK AT MOST 1048576: true; the input reads as it did. -/
def jobsPunctualUptoRow : OpenClaim := { program := "ytlaganadekpcjaa", sum := "1ff1904bf4d8bb84a769aca157fe69d7c0a7cd428a0965b99b83b7ebe1a1b289", func := "gansey/ganseylaw41.JobsPunctual", spec := "jobsPunctual", unfollowed := true, recurses := true, apart := false, narrowed := true }
def JobsPunctualUptoSaid : Prop := jobsPunctualUptoRow.holds Try.pinned (OpenSpec.upto jobsPunctualSpec)

/-- 'ganseylaw41.JobsPlan', WHERE WHAT IT READS IS OF BULK AT MOST 1048576: true; the input reads as it did. -/
def jobsPlanUptoRow : OpenClaim := { program := "ytlaganadekpcjaa", sum := "1ff1904bf4d8bb84a769aca157fe69d7c0a7cd428a0965b99b83b7ebe1a1b289", func := "gansey/ganseylaw41.JobsPlan", spec := "jobsPlan", unfollowed := true, recurses := true, apart := false, narrowed := true }
def JobsPlanUptoSaid : Prop := jobsPlanUptoRow.holds Try.pinned (OpenSpec.upto jobsPlanSpec)

/-- 'ganseylaw41.JobsPromise', WHERE WHAT IT READS IS OF BULK AT MOST 1048576: true; the input reads as it did. -/
def jobsPromiseUptoRow : OpenClaim := { program := "ytlaganadekpcjaa", sum := "1ff1904bf4d8bb84a769aca157fe69d7c0a7cd428a0965b99b83b7ebe1a1b289", func := "gansey/ganseylaw41.JobsPromise", spec := "jobsPromise", unfollowed := true, recurses := true, apart := false, narrowed := true }
def JobsPromiseUptoSaid : Prop := jobsPromiseUptoRow.holds Try.pinned (OpenSpec.upto jobsPromiseSpec)

/-- 'ganseylaw41.JobsKnown', WHERE WHAT IT READS IS OF BULK AT MOST 1048576: true; the input reads as it did. -/
def jobsKnownUptoRow : OpenClaim := { program := "ytlaganadekpcjaa", sum := "1ff1904bf4d8bb84a769aca157fe69d7c0a7cd428a0965b99b83b7ebe1a1b289", func := "gansey/ganseylaw41.JobsKnown", spec := "jobsKnown", unfollowed := true, recurses := true, apart := false, narrowed := true }
def JobsKnownUptoSaid : Prop := jobsKnownUptoRow.holds Try.pinned (OpenSpec.upto jobsKnownSpec)

end Rows
end Go.Proofs.Ytlaganadekpcjaa
