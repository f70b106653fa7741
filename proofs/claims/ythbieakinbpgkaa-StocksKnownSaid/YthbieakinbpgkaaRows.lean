/-
  No cell of these rows narrows 'for every input' (looked for: loops, veiled, ifaces, maps, wideKeys, modest, calm, conditions, laid).
  DERIVED. THE GIVEN ROWS OF THIS SEAT. 5 by the template 'for every input the law returns true; each argument reads behind the call as it read before'; 0 by the template 'total and deterministic' (their statements: YthbieakinbpgkaaTotals.lean).
  GIVEN WITH THE SEED: the statements are not yours to turn. If you find one false, say at which input.
  Laid BY PROGRAM, IN A SANDBOX (cutbox-rows.mjs): the forced cells as the released guide's own fill.sh prints them over the translation 25d5ffaf40da56d8… (all of the seat's roots in one cut). By AI agents, Wed Nov 11 2026. No macro, syntax, notation, axiom, sorry.
-/
import Derived.Test.YthbieakinbpgkaaChecked
import GoSem.Claim
import GoSem.ClaimJoined
import GoSem.ClaimMapViews
import Derived.JoinedTies
import Derived.KernelRfl
namespace Go.Proofs.Ythbieakinbpgkaa
/- THE CELL 'sum', in the pinned program and in every row, IS THE sha256 OF THE DUMP (.gsa) THAT YthbieakinbpgkaaProg.lean LOADS. Nothing in Lean hashes anything: it is a label: what it is worth is what the hold of that sum in a sandbox is worth. -/
noncomputable def Try.pinned : Pinned := { name := "ythbieakinbpgkaa", sum := "25d5ffaf40da56d8971a8aa545caddf4cf7fbd4318c29ef667d2b0bc925d3a64", checked := Try.checked }
namespace Rows
def none {H : Type} : Left H := { results := [], args := [] }

/-- 'ganseylaw42.StocksLimits': WHATEVER THE INPUT: true; the input reads as it did. -/
def stocksLimitsSpec : ChangeSpec := { name := "stocksLimits", fn := fun _ => fun
  | [d] => { results := [.lit (.bool true)], args := [d] }
  | _ => none }
def stocksLimitsRow : OpenClaim := { program := "ythbieakinbpgkaa", sum := "25d5ffaf40da56d8971a8aa545caddf4cf7fbd4318c29ef667d2b0bc925d3a64", func := "gansey/ganseylaw42.StocksLimits", spec := "stocksLimits", unfollowed := true, recurses := true, apart := false }
def StocksLimitsSaid : Prop := stocksLimitsRow.holds Try.pinned (OpenSpec.ofChange stocksLimitsSpec)

/-- ITS FALSE NEIGHBOUR: 'it returns false'. Refute it at one input. -/
def stocksLimitsWrong : ChangeSpec := { name := "stocksLimits", fn := fun _ => fun
  | [d] => { results := [.lit (.bool false)], args := [d] }
  | _ => none }
def StocksLimitsWrongFalsely : Prop := stocksLimitsRow.holds Try.pinned (OpenSpec.ofChange stocksLimitsWrong)

/-- 'ganseylaw42.StocksKnots': WHATEVER THE INPUT: true; the input reads as it did. -/
def stocksKnotsSpec : ChangeSpec := { name := "stocksKnots", fn := fun _ => fun
  | [d1, d2] => { results := [.lit (.bool true)], args := [d1, d2] }
  | _ => none }
def stocksKnotsRow : OpenClaim := { program := "ythbieakinbpgkaa", sum := "25d5ffaf40da56d8971a8aa545caddf4cf7fbd4318c29ef667d2b0bc925d3a64", func := "gansey/ganseylaw42.StocksKnots", spec := "stocksKnots", unfollowed := true, recurses := true, apart := false }
def StocksKnotsSaid : Prop := stocksKnotsRow.holds Try.pinned (OpenSpec.ofChange stocksKnotsSpec)

/-- ITS FALSE NEIGHBOUR: 'it returns false'. Refute it at one input. -/
def stocksKnotsWrong : ChangeSpec := { name := "stocksKnots", fn := fun _ => fun
  | [d1, d2] => { results := [.lit (.bool false)], args := [d1, d2] }
  | _ => none }
def StocksKnotsWrongFalsely : Prop := stocksKnotsRow.holds Try.pinned (OpenSpec.ofChange stocksKnotsWrong)

/-- 'ganseylaw42.StocksActs': WHATEVER THE INPUT: true; the input reads as it did. -/
def stocksActsSpec : ChangeSpec := { name := "stocksActs", fn := fun _ => fun
  | [d] => { results := [.lit (.bool true)], args := [d] }
  | _ => none }
def stocksActsRow : OpenClaim := { program := "ythbieakinbpgkaa", sum := "25d5ffaf40da56d8971a8aa545caddf4cf7fbd4318c29ef667d2b0bc925d3a64", func := "gansey/ganseylaw42.StocksActs", spec := "stocksActs", unfollowed := true, recurses := true, apart := false }
def StocksActsSaid : Prop := stocksActsRow.holds Try.pinned (OpenSpec.ofChange stocksActsSpec)

/-- ITS FALSE NEIGHBOUR: 'it returns false'. Refute it at one input. -/
def stocksActsWrong : ChangeSpec := { name := "stocksActs", fn := fun _ => fun
  | [d] => { results := [.lit (.bool false)], args := [d] }
  | _ => none }
def StocksActsWrongFalsely : Prop := stocksActsRow.holds Try.pinned (OpenSpec.ofChange stocksActsWrong)

/-- 'ganseylaw42.StocksBack': WHATEVER THE INPUT: true; the input reads as it did. -/
def stocksBackSpec : ChangeSpec := { name := "stocksBack", fn := fun _ => fun
  | [d1, d2] => { results := [.lit (.bool true)], args := [d1, d2] }
  | _ => none }
def stocksBackRow : OpenClaim := { program := "ythbieakinbpgkaa", sum := "25d5ffaf40da56d8971a8aa545caddf4cf7fbd4318c29ef667d2b0bc925d3a64", func := "gansey/ganseylaw42.StocksBack", spec := "stocksBack", unfollowed := true, recurses := true, apart := false }
def StocksBackSaid : Prop := stocksBackRow.holds Try.pinned (OpenSpec.ofChange stocksBackSpec)

/-- ITS FALSE NEIGHBOUR: 'it returns false'. Refute it at one input. -/
def stocksBackWrong : ChangeSpec := { name := "stocksBack", fn := fun _ => fun
  | [d1, d2] => { results := [.lit (.bool false)], args := [d1, d2] }
  | _ => none }
def StocksBackWrongFalsely : Prop := stocksBackRow.holds Try.pinned (OpenSpec.ofChange stocksBackWrong)

/-- 'ganseylaw42.StocksKnown': WHATEVER THE INPUT: true; the input reads as it did. -/
def stocksKnownSpec : ChangeSpec := { name := "stocksKnown", fn := fun _ => fun
  | [] => { results := [.lit (.bool true)], args := [] }
  | _ => none }
def stocksKnownRow : OpenClaim := { program := "ythbieakinbpgkaa", sum := "25d5ffaf40da56d8971a8aa545caddf4cf7fbd4318c29ef667d2b0bc925d3a64", func := "gansey/ganseylaw42.StocksKnown", spec := "stocksKnown", unfollowed := true, recurses := true, apart := false }
def StocksKnownSaid : Prop := stocksKnownRow.holds Try.pinned (OpenSpec.ofChange stocksKnownSpec)

/-- ITS FALSE NEIGHBOUR: 'it returns false'. Refute it at one input. -/
def stocksKnownWrong : ChangeSpec := { name := "stocksKnown", fn := fun _ => fun
  | [] => { results := [.lit (.bool false)], args := [] }
  | _ => none }
def StocksKnownWrongFalsely : Prop := stocksKnownRow.holds Try.pinned (OpenSpec.ofChange stocksKnownWrong)

/- THE SECOND FORM. 'bulk': how many values and letters a reading holds, each counted each time it is reached (what is shared counts as often as it is met; a slice's spare places count too). A statement '..UptoSaid' is the law's where the arguments, and the package variables that the reading takes, are together of bulk at most 1048576: NARROWER than '..Said'. Prove '..Said' where nothing that the law and all that it calls make is longer than what came in: it says more and counts as full. Else prove '..UptoSaid'. A law counts once. -/
mutual
def uptoBulk {H : Type} : DataW H → Nat
  | .lit (.string bytes) => bytes.length + 1
  | .lit _ => 1
  | .nil => 1
  | .ptr d => uptoBulk d + 1
  | .slice elems spare => uptoBulkAll elems + uptoBulkAll spare + 1
  | .agg parts => uptoBulkAll parts + 1
  | .iface _ d => uptoBulk d + 1
  | .map entries => uptoBulkEntries entries + 1
  | .held _ => 1
def uptoBulkAll {H : Type} : List (DataW H) → Nat
  | [] => 0
  | d :: r => uptoBulk d + uptoBulkAll r
def uptoBulkEntries {H : Type} : List (Lit × DataW H) → Nat
  | [] => 0
  | x :: r => uptoBulkEntry x + uptoBulkEntries r
def uptoBulkEntry {H : Type} : Lit × DataW H → Nat
  | (.string bytes, d) => bytes.length + uptoBulk d + 1
  | (_, d) => uptoBulk d + 1
 end
def uptoSmall : (H : Type) → List (DataW H) → Bool := fun _ ds => decide (uptoBulkAll ds ≤ 1048576)
def OpenSpec.upto (s : _root_.Go.ChangeSpec) : _root_.Go.OpenSpec := { _root_.Go.OpenSpec.ofChange s with cond := some uptoSmall }

/-- 'ganseylaw42.StocksLimits', WHERE WHAT IT READS IS OF BULK AT MOST 1048576: true; the input reads as it did. -/
def stocksLimitsUptoRow : OpenClaim := { program := "ythbieakinbpgkaa", sum := "25d5ffaf40da56d8971a8aa545caddf4cf7fbd4318c29ef667d2b0bc925d3a64", func := "gansey/ganseylaw42.StocksLimits", spec := "stocksLimits", unfollowed := true, recurses := true, apart := false, narrowed := true }
def StocksLimitsUptoSaid : Prop := stocksLimitsUptoRow.holds Try.pinned (OpenSpec.upto stocksLimitsSpec)

/-- 'ganseylaw42.StocksKnots', WHERE WHAT IT READS IS OF BULK AT MOST 1048576: true; the input reads as it did. -/
def stocksKnotsUptoRow : OpenClaim := { program := "ythbieakinbpgkaa", sum := "25d5ffaf40da56d8971a8aa545caddf4cf7fbd4318c29ef667d2b0bc925d3a64", func := "gansey/ganseylaw42.StocksKnots", spec := "stocksKnots", unfollowed := true, recurses := true, apart := false, narrowed := true }
def StocksKnotsUptoSaid : Prop := stocksKnotsUptoRow.holds Try.pinned (OpenSpec.upto stocksKnotsSpec)

/-- 'ganseylaw42.StocksActs', WHERE WHAT IT READS IS OF BULK AT MOST 1048576: true; the input reads as it did. -/
def stocksActsUptoRow : OpenClaim := { program := "ythbieakinbpgkaa", sum := "25d5ffaf40da56d8971a8aa545caddf4cf7fbd4318c29ef667d2b0bc925d3a64", func := "gansey/ganseylaw42.StocksActs", spec := "stocksActs", unfollowed := true, recurses := true, apart := false, narrowed := true }
def StocksActsUptoSaid : Prop := stocksActsUptoRow.holds Try.pinned (OpenSpec.upto stocksActsSpec)

/-- 'ganseylaw42.StocksBack', WHERE WHAT IT READS IS OF BULK AT MOST 1048576: true; the input reads as it did. -/
def stocksBackUptoRow : OpenClaim := { program := "ythbieakinbpgkaa", sum := "25d5ffaf40da56d8971a8aa545caddf4cf7fbd4318c29ef667d2b0bc925d3a64", func := "gansey/ganseylaw42.StocksBack", spec := "stocksBack", unfollowed := true, recurses := true, apart := false, narrowed := true }
def StocksBackUptoSaid : Prop := stocksBackUptoRow.holds Try.pinned (OpenSpec.upto stocksBackSpec)

/-- 'ganseylaw42.StocksKnown', WHERE WHAT IT READS IS OF BULK AT MOST 1048576: true; the input reads as it did. -/
def stocksKnownUptoRow : OpenClaim := { program := "ythbieakinbpgkaa", sum := "25d5ffaf40da56d8971a8aa545caddf4cf7fbd4318c29ef667d2b0bc925d3a64", func := "gansey/ganseylaw42.StocksKnown", spec := "stocksKnown", unfollowed := true, recurses := true, apart := false, narrowed := true }
def StocksKnownUptoSaid : Prop := stocksKnownUptoRow.holds Try.pinned (OpenSpec.upto stocksKnownSpec)

end Rows
end Go.Proofs.Ythbieakinbpgkaa
