/-
  No cell of these rows narrows 'for every input' (looked for: loops, veiled, ifaces, maps, wideKeys, modest, calm, conditions, laid).
  DERIVED. THE GIVEN ROWS OF THIS SEAT. 7 by the template 'for every input the law returns true; each argument reads behind the call as it read before'; 0 by the template 'total and deterministic' (their statements: YtjjnbjkbgjgpoaaTotals.lean).
  GIVEN WITH THE SEED: the statements are not yours to turn. If you find one false, say at which input.
  Laid BY PROGRAM, IN A SANDBOX (cutbox-rows.mjs): the forced cells as the released guide's own fill.sh prints them over the translation d75e61cbe752f12c… (all of the seat's roots in one cut). By AI agents, Wed Nov 11 2026. No macro, syntax, notation, axiom, sorry.
-/
import Derived.Test.YtjjnbjkbgjgpoaaChecked
import GoSem.Claim
import GoSem.ClaimJoined
import GoSem.ClaimMapViews
import Derived.JoinedTies
import Derived.KernelRfl
namespace Go.Proofs.Ytjjnbjkbgjgpoaa
/- THE CELL 'sum', in the pinned program and in every row, IS THE sha256 OF THE DUMP (.gsa) THAT YtjjnbjkbgjgpoaaProg.lean LOADS. Nothing in Lean hashes anything: it is a label: what it is worth is what the hold of that sum in a sandbox is worth. -/
noncomputable def Try.pinned : Pinned := { name := "ytjjnbjkbgjgpoaa", sum := "d75e61cbe752f12cd7377f68c4d4214a3fe6d2fbce9e496b92e6c0d0311dd924", checked := Try.checked }
namespace Rows
def none {H : Type} : Left H := { results := [], args := [] }

/-- 'ganseylaw37.GaugesCount': WHATEVER THE INPUT: true; the input reads as it did. -/
def gaugesCountSpec : ChangeSpec := { name := "gaugesCount", fn := fun _ => fun
  | [d1, d2] => { results := [.lit (.bool true)], args := [d1, d2] }
  | _ => none }
def gaugesCountRow : OpenClaim := { program := "ytjjnbjkbgjgpoaa", sum := "d75e61cbe752f12cd7377f68c4d4214a3fe6d2fbce9e496b92e6c0d0311dd924", func := "gansey/ganseylaw37.GaugesCount", spec := "gaugesCount", unfollowed := true, recurses := true, apart := false }
def GaugesCountSaid : Prop := gaugesCountRow.holds Try.pinned (OpenSpec.ofChange gaugesCountSpec)

/-- ITS FALSE NEIGHBOUR: 'it returns false'. Refute it at one input. -/
def gaugesCountWrong : ChangeSpec := { name := "gaugesCount", fn := fun _ => fun
  | [d1, d2] => { results := [.lit (.bool false)], args := [d1, d2] }
  | _ => none }
def GaugesCountWrongFalsely : Prop := gaugesCountRow.holds Try.pinned (OpenSpec.ofChange gaugesCountWrong)

/-- 'ganseylaw37.GaugesBack': WHATEVER THE INPUT: true; the input reads as it did. -/
def gaugesBackSpec : ChangeSpec := { name := "gaugesBack", fn := fun _ => fun
  | [d1, d2, d3] => { results := [.lit (.bool true)], args := [d1, d2, d3] }
  | _ => none }
def gaugesBackRow : OpenClaim := { program := "ytjjnbjkbgjgpoaa", sum := "d75e61cbe752f12cd7377f68c4d4214a3fe6d2fbce9e496b92e6c0d0311dd924", func := "gansey/ganseylaw37.GaugesBack", spec := "gaugesBack", unfollowed := true, recurses := true, apart := false }
def GaugesBackSaid : Prop := gaugesBackRow.holds Try.pinned (OpenSpec.ofChange gaugesBackSpec)

/-- ITS FALSE NEIGHBOUR: 'it returns false'. Refute it at one input. -/
def gaugesBackWrong : ChangeSpec := { name := "gaugesBack", fn := fun _ => fun
  | [d1, d2, d3] => { results := [.lit (.bool false)], args := [d1, d2, d3] }
  | _ => none }
def GaugesBackWrongFalsely : Prop := gaugesBackRow.holds Try.pinned (OpenSpec.ofChange gaugesBackWrong)

/-- 'ganseylaw37.GaugesSpread': WHATEVER THE INPUT: true; the input reads as it did. -/
def gaugesSpreadSpec : ChangeSpec := { name := "gaugesSpread", fn := fun _ => fun
  | [d1, d2, d3] => { results := [.lit (.bool true)], args := [d1, d2, d3] }
  | _ => none }
def gaugesSpreadRow : OpenClaim := { program := "ytjjnbjkbgjgpoaa", sum := "d75e61cbe752f12cd7377f68c4d4214a3fe6d2fbce9e496b92e6c0d0311dd924", func := "gansey/ganseylaw37.GaugesSpread", spec := "gaugesSpread", unfollowed := true, recurses := true, apart := false }
def GaugesSpreadSaid : Prop := gaugesSpreadRow.holds Try.pinned (OpenSpec.ofChange gaugesSpreadSpec)

/-- ITS FALSE NEIGHBOUR: 'it returns false'. Refute it at one input. -/
def gaugesSpreadWrong : ChangeSpec := { name := "gaugesSpread", fn := fun _ => fun
  | [d1, d2, d3] => { results := [.lit (.bool false)], args := [d1, d2, d3] }
  | _ => none }
def GaugesSpreadWrongFalsely : Prop := gaugesSpreadRow.holds Try.pinned (OpenSpec.ofChange gaugesSpreadWrong)

/-- 'ganseylaw37.GaugesWidths': WHATEVER THE INPUT: true; the input reads as it did. -/
def gaugesWidthsSpec : ChangeSpec := { name := "gaugesWidths", fn := fun _ => fun
  | [d1, d2, d3] => { results := [.lit (.bool true)], args := [d1, d2, d3] }
  | _ => none }
def gaugesWidthsRow : OpenClaim := { program := "ytjjnbjkbgjgpoaa", sum := "d75e61cbe752f12cd7377f68c4d4214a3fe6d2fbce9e496b92e6c0d0311dd924", func := "gansey/ganseylaw37.GaugesWidths", spec := "gaugesWidths", unfollowed := true, recurses := true, apart := false }
def GaugesWidthsSaid : Prop := gaugesWidthsRow.holds Try.pinned (OpenSpec.ofChange gaugesWidthsSpec)

/-- ITS FALSE NEIGHBOUR: 'it returns false'. Refute it at one input. -/
def gaugesWidthsWrong : ChangeSpec := { name := "gaugesWidths", fn := fun _ => fun
  | [d1, d2, d3] => { results := [.lit (.bool false)], args := [d1, d2, d3] }
  | _ => none }
def GaugesWidthsWrongFalsely : Prop := gaugesWidthsRow.holds Try.pinned (OpenSpec.ofChange gaugesWidthsWrong)

/-- 'ganseylaw37.GaugesErrors': WHATEVER THE INPUT: true; the input reads as it did. -/
def gaugesErrorsSpec : ChangeSpec := { name := "gaugesErrors", fn := fun _ => fun
  | [d1, d2] => { results := [.lit (.bool true)], args := [d1, d2] }
  | _ => none }
def gaugesErrorsRow : OpenClaim := { program := "ytjjnbjkbgjgpoaa", sum := "d75e61cbe752f12cd7377f68c4d4214a3fe6d2fbce9e496b92e6c0d0311dd924", func := "gansey/ganseylaw37.GaugesErrors", spec := "gaugesErrors", unfollowed := true, recurses := true, apart := false }
def GaugesErrorsSaid : Prop := gaugesErrorsRow.holds Try.pinned (OpenSpec.ofChange gaugesErrorsSpec)

/-- ITS FALSE NEIGHBOUR: 'it returns false'. Refute it at one input. -/
def gaugesErrorsWrong : ChangeSpec := { name := "gaugesErrors", fn := fun _ => fun
  | [d1, d2] => { results := [.lit (.bool false)], args := [d1, d2] }
  | _ => none }
def GaugesErrorsWrongFalsely : Prop := gaugesErrorsRow.holds Try.pinned (OpenSpec.ofChange gaugesErrorsWrong)

/-- 'ganseylaw37.GaugesEven': WHATEVER THE INPUT: true; the input reads as it did. -/
def gaugesEvenSpec : ChangeSpec := { name := "gaugesEven", fn := fun _ => fun
  | [d1, d2] => { results := [.lit (.bool true)], args := [d1, d2] }
  | _ => none }
def gaugesEvenRow : OpenClaim := { program := "ytjjnbjkbgjgpoaa", sum := "d75e61cbe752f12cd7377f68c4d4214a3fe6d2fbce9e496b92e6c0d0311dd924", func := "gansey/ganseylaw37.GaugesEven", spec := "gaugesEven", unfollowed := true, recurses := true, apart := false }
def GaugesEvenSaid : Prop := gaugesEvenRow.holds Try.pinned (OpenSpec.ofChange gaugesEvenSpec)

/-- ITS FALSE NEIGHBOUR: 'it returns false'. Refute it at one input. -/
def gaugesEvenWrong : ChangeSpec := { name := "gaugesEven", fn := fun _ => fun
  | [d1, d2] => { results := [.lit (.bool false)], args := [d1, d2] }
  | _ => none }
def GaugesEvenWrongFalsely : Prop := gaugesEvenRow.holds Try.pinned (OpenSpec.ofChange gaugesEvenWrong)

/-- 'ganseylaw37.GaugesKnown': WHATEVER THE INPUT: true; the input reads as it did. -/
def gaugesKnownSpec : ChangeSpec := { name := "gaugesKnown", fn := fun _ => fun
  | [] => { results := [.lit (.bool true)], args := [] }
  | _ => none }
def gaugesKnownRow : OpenClaim := { program := "ytjjnbjkbgjgpoaa", sum := "d75e61cbe752f12cd7377f68c4d4214a3fe6d2fbce9e496b92e6c0d0311dd924", func := "gansey/ganseylaw37.GaugesKnown", spec := "gaugesKnown", unfollowed := true, recurses := true, apart := false }
def GaugesKnownSaid : Prop := gaugesKnownRow.holds Try.pinned (OpenSpec.ofChange gaugesKnownSpec)

/-- ITS FALSE NEIGHBOUR: 'it returns false'. Refute it at one input. -/
def gaugesKnownWrong : ChangeSpec := { name := "gaugesKnown", fn := fun _ => fun
  | [] => { results := [.lit (.bool false)], args := [] }
  | _ => none }
def GaugesKnownWrongFalsely : Prop := gaugesKnownRow.holds Try.pinned (OpenSpec.ofChange gaugesKnownWrong)

/- THE SECOND FORM. 'bulk': how many values and letters a reading holds, each counted each time it is reached (what is shared counts as often as it is met; a slice's spare places count too). A statement '..UptoSaid' is the law's where the arguments, and the package variables that the reading takes, are together of bulk at most 1048576: NARROWER than '..Said'. Prove '..Said' where nothing that the law and all that it calls make is longer than what came in: it says more and counts as full. Else prove '..UptoSaid'. A law counts once. -/
mutual
def uptoBulk {H : Type} : DataW H → Nat
  | .lit (.string bytes) => bytes.length + 1
  | .lit _ => 1
  | .nil => 1
  | .ptr d => uptoBulk d + 1
  | .slice elems spare => uptoBulkAll elems + uptoBulkAll spare + 1
  | .agg parts => uptoBulkAll parts + 1
  | .iface _ d => uptoBulk d + 1
  | .map entries => uptoBulkEntries entries + 1
  | .held _ => 1
def uptoBulkAll {H : Type} : List (DataW H) → Nat
  | [] => 0
  | d :: r => uptoBulk d + uptoBulkAll r
def uptoBulkEntries {H : Type} : List (Lit × DataW H) → Nat
  | [] => 0
  | x :: r => uptoBulkEntry x + uptoBulkEntries r
def uptoBulkEntry {H : Type} : Lit × DataW H → Nat
  | (.string bytes, d) => bytes.length + uptoBulk d + 1
  | (_, d) => uptoBulk d + 1
 end
def uptoSmall : (H : Type) → List (DataW H) → Bool := fun _ ds => decide (uptoBulkAll ds ≤ 1048576)
def OpenSpec.upto (s : _root_.Go.ChangeSpec) : _root_.Go.OpenSpec := { _root_.Go.OpenSpec.ofChange s with cond := some uptoSmall }

/-- 'ganseylaw37.GaugesCount', WHERE WHAT IT READS IS OF BULK AT MOST 1048576: true; the input reads as it did. -/
def gaugesCountUptoRow : OpenClaim := { program := "ytjjnbjkbgjgpoaa", sum := "d75e61cbe752f12cd7377f68c4d4214a3fe6d2fbce9e496b92e6c0d0311dd924", func := "gansey/ganseylaw37.GaugesCount", spec := "gaugesCount", unfollowed := true, recurses := true, apart := false, narrowed := true }
def GaugesCountUptoSaid : Prop := gaugesCountUptoRow.holds Try.pinned (OpenSpec.upto gaugesCountSpec)

/-- 'ganseylaw37.GaugesBack', WHERE WHAT IT READS IS OF BULK AT MOST 1048576: true; the input reads as it did. -/
def gaugesBackUptoRow : OpenClaim := { program := "ytjjnbjkbgjgpoaa", sum := "d75e61cbe752f12cd7377f68c4d4214a3fe6d2fbce9e496b92e6c0d0311dd924", func := "gansey/ganseylaw37.GaugesBack", spec := "gaugesBack", unfollowed := true, recurses := true, apart := false, narrowed := true }
def GaugesBackUptoSaid : Prop := gaugesBackUptoRow.holds Try.pinned (OpenSpec.upto gaugesBackSpec)

/-- 'ganseylaw37.GaugesSpread', WHERE WHAT IT READS IS OF BULK AT MOST 1048576: true; the input reads as it did. -/
def gaugesSpreadUptoRow : OpenClaim := { program := "ytjjnbjkbgjgpoaa", sum := "d75e61cbe752f12cd7377f68c4d4214a3fe6d2fbce9e496b92e6c0d0311dd924", func := "gansey/ganseylaw37.GaugesSpread", spec := "gaugesSpread", unfollowed := true, recurses := true, apart := false, narrowed := true }
def GaugesSpreadUptoSaid : Prop := gaugesSpreadUptoRow.holds Try.pinned (OpenSpec.upto gaugesSpreadSpec)

/-- 'ganseylaw37.GaugesWidths', WHERE WHAT IT READS IS OF BULK AT MOST 1048576: true; the input reads as it did. -/
def gaugesWidthsUptoRow : OpenClaim := { program := "ytjjnbjkbgjgpoaa", sum := "d75e61cbe752f12cd7377f68c4d4214a3fe6d2fbce9e496b92e6c0d0311dd924", func := "gansey/ganseylaw37.GaugesWidths", spec := "gaugesWidths", unfollowed := true, recurses := true, apart := false, narrowed := true }
def GaugesWidthsUptoSaid : Prop := gaugesWidthsUptoRow.holds Try.pinned (OpenSpec.upto gaugesWidthsSpec)

/-- 'ganseylaw37.GaugesErrors', WHERE WHAT IT READS IS OF BULK AT MOST 1048576: true; the input reads as it did. -/
def gaugesErrorsUptoRow : OpenClaim := { program := "ytjjnbjkbgjgpoaa", sum := "d75e61cbe752f12cd7377f68c4d4214a3fe6d2fbce9e496b92e6c0d0311dd924", func := "gansey/ganseylaw37.GaugesErrors", spec := "gaugesErrors", unfollowed := true, recurses := true, apart := false, narrowed := true }
def GaugesErrorsUptoSaid : Prop := gaugesErrorsUptoRow.holds Try.pinned (OpenSpec.upto gaugesErrorsSpec)

/-- 'ganseylaw37.GaugesEven', WHERE WHAT IT READS IS OF BULK AT MOST 1048576: true; the input reads as it did. -/
def gaugesEvenUptoRow : OpenClaim := { program := "ytjjnbjkbgjgpoaa", sum := "d75e61cbe752f12cd7377f68c4d4214a3fe6d2fbce9e496b92e6c0d0311dd924", func := "gansey/ganseylaw37.GaugesEven", spec := "gaugesEven", unfollowed := true, recurses := true, apart := false, narrowed := true }
def GaugesEvenUptoSaid : Prop := gaugesEvenUptoRow.holds Try.pinned (OpenSpec.upto gaugesEvenSpec)

/-- 'ganseylaw37.GaugesKnown', WHERE WHAT IT READS IS OF BULK AT MOST 1048576: true; the input reads as it did. -/
def gaugesKnownUptoRow : OpenClaim := { program := "ytjjnbjkbgjgpoaa", sum := "d75e61cbe752f12cd7377f68c4d4214a3fe6d2fbce9e496b92e6c0d0311dd924", func := "gansey/ganseylaw37.GaugesKnown", spec := "gaugesKnown", unfollowed := true, recurses := true, apart := false, narrowed := true }
def GaugesKnownUptoSaid : Prop := gaugesKnownUptoRow.holds Try.pinned (OpenSpec.upto gaugesKnownSpec)

end Rows
end Go.Proofs.Ytjjnbjkbgjgpoaa
