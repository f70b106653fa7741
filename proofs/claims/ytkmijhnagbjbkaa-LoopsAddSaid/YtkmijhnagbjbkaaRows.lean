/-
  No cell of these rows narrows 'for every input' (looked for: loops, veiled, ifaces, maps, wideKeys, modest, calm, conditions, laid).
  DERIVED. THE GIVEN ROWS OF THIS SEAT. 5 by the template 'for every input the law returns true; each argument reads behind the call as it read before'; 0 by the template 'total and deterministic' (their statements: YtkmijhnagbjbkaaTotals.lean).
  GIVEN WITH THE SEED: the statements are not yours to turn. If you find one false, say at which input.
  Laid BY PROGRAM, IN A SANDBOX (cutbox-rows.mjs): the forced cells as the released guide's own fill.sh prints them over the translation 9cae90d3bbe7d560… (all of the seat's roots in one cut). By AI agents, Wed Nov 11 2026. No macro, syntax, notation, axiom, sorry.
-/
import Derived.Test.YtkmijhnagbjbkaaChecked
import GoSem.Claim
import GoSem.ClaimJoined
import GoSem.ClaimMapViews
import Derived.JoinedTies
import Derived.KernelRfl
namespace Go.Proofs.Ytkmijhnagbjbkaa
/- THE CELL 'sum', in the pinned program and in every row, IS THE sha256 OF THE DUMP (.gsa) THAT YtkmijhnagbjbkaaProg.lean LOADS. Nothing in Lean hashes anything: it is a label: what it is worth is what the hold of that sum in a sandbox is worth. -/
noncomputable def Try.pinned : Pinned := { name := "ytkmijhnagbjbkaa", sum := "9cae90d3bbe7d56066eb2d20187211ef6b7d3247cfd43ea3bf7f25b9bf819aef", checked := Try.checked }
namespace Rows
def none {H : Type} : Left H := { results := [], args := [] }

/-- 'ganseylaw05.LoopsOrder': WHATEVER THE INPUT: true; the input reads as it did. -/
def loopsOrderSpec : ChangeSpec := { name := "loopsOrder", fn := fun _ => fun
  | [d] => { results := [.lit (.bool true)], args := [d] }
  | _ => none }
def loopsOrderRow : OpenClaim := { program := "ytkmijhnagbjbkaa", sum := "9cae90d3bbe7d56066eb2d20187211ef6b7d3247cfd43ea3bf7f25b9bf819aef", func := "gansey/ganseylaw05.LoopsOrder", spec := "loopsOrder", unfollowed := true, recurses := true, plainKeys := false, apart := false }
def LoopsOrderSaid : Prop := loopsOrderRow.holds Try.pinned (OpenSpec.ofChange loopsOrderSpec)

/-- ITS FALSE NEIGHBOUR: 'it returns false'. Refute it at one input. -/
def loopsOrderWrong : ChangeSpec := { name := "loopsOrder", fn := fun _ => fun
  | [d] => { results := [.lit (.bool false)], args := [d] }
  | _ => none }
def LoopsOrderWrongFalsely : Prop := loopsOrderRow.holds Try.pinned (OpenSpec.ofChange loopsOrderWrong)

/-- 'ganseylaw05.LoopsSpoiled': WHATEVER THE INPUT: true; the input reads as it did. -/
def loopsSpoiledSpec : ChangeSpec := { name := "loopsSpoiled", fn := fun _ => fun
  | [d1, d2] => { results := [.lit (.bool true)], args := [d1, d2] }
  | _ => none }
def loopsSpoiledRow : OpenClaim := { program := "ytkmijhnagbjbkaa", sum := "9cae90d3bbe7d56066eb2d20187211ef6b7d3247cfd43ea3bf7f25b9bf819aef", func := "gansey/ganseylaw05.LoopsSpoiled", spec := "loopsSpoiled", unfollowed := true, recurses := true, plainKeys := false, apart := false }
def LoopsSpoiledSaid : Prop := loopsSpoiledRow.holds Try.pinned (OpenSpec.ofChange loopsSpoiledSpec)

/-- ITS FALSE NEIGHBOUR: 'it returns false'. Refute it at one input. -/
def loopsSpoiledWrong : ChangeSpec := { name := "loopsSpoiled", fn := fun _ => fun
  | [d1, d2] => { results := [.lit (.bool false)], args := [d1, d2] }
  | _ => none }
def LoopsSpoiledWrongFalsely : Prop := loopsSpoiledRow.holds Try.pinned (OpenSpec.ofChange loopsSpoiledWrong)

/-- 'ganseylaw05.LoopsNeeds': WHATEVER THE INPUT: true; the input reads as it did. -/
def loopsNeedsSpec : ChangeSpec := { name := "loopsNeeds", fn := fun _ => fun
  | [d1, d2] => { results := [.lit (.bool true)], args := [d1, d2] }
  | _ => none }
def loopsNeedsRow : OpenClaim := { program := "ytkmijhnagbjbkaa", sum := "9cae90d3bbe7d56066eb2d20187211ef6b7d3247cfd43ea3bf7f25b9bf819aef", func := "gansey/ganseylaw05.LoopsNeeds", spec := "loopsNeeds", unfollowed := true, recurses := true, plainKeys := false, apart := false }
def LoopsNeedsSaid : Prop := loopsNeedsRow.holds Try.pinned (OpenSpec.ofChange loopsNeedsSpec)

/-- ITS FALSE NEIGHBOUR: 'it returns false'. Refute it at one input. -/
def loopsNeedsWrong : ChangeSpec := { name := "loopsNeeds", fn := fun _ => fun
  | [d1, d2] => { results := [.lit (.bool false)], args := [d1, d2] }
  | _ => none }
def LoopsNeedsWrongFalsely : Prop := loopsNeedsRow.holds Try.pinned (OpenSpec.ofChange loopsNeedsWrong)

/-- 'ganseylaw05.LoopsFind': WHATEVER THE INPUT: true; the input reads as it did. -/
def loopsFindSpec : ChangeSpec := { name := "loopsFind", fn := fun _ => fun
  | [d1, d2, d3] => { results := [.lit (.bool true)], args := [d1, d2, d3] }
  | _ => none }
def loopsFindRow : OpenClaim := { program := "ytkmijhnagbjbkaa", sum := "9cae90d3bbe7d56066eb2d20187211ef6b7d3247cfd43ea3bf7f25b9bf819aef", func := "gansey/ganseylaw05.LoopsFind", spec := "loopsFind", unfollowed := true, recurses := true, plainKeys := false, apart := false }
def LoopsFindSaid : Prop := loopsFindRow.holds Try.pinned (OpenSpec.ofChange loopsFindSpec)

/-- ITS FALSE NEIGHBOUR: 'it returns false'. Refute it at one input. -/
def loopsFindWrong : ChangeSpec := { name := "loopsFind", fn := fun _ => fun
  | [d1, d2, d3] => { results := [.lit (.bool false)], args := [d1, d2, d3] }
  | _ => none }
def LoopsFindWrongFalsely : Prop := loopsFindRow.holds Try.pinned (OpenSpec.ofChange loopsFindWrong)

/-- 'ganseylaw05.LoopsAdd': WHATEVER THE INPUT: true; the input reads as it did. -/
def loopsAddSpec : ChangeSpec := { name := "loopsAdd", fn := fun _ => fun
  | [d] => { results := [.lit (.bool true)], args := [d] }
  | _ => none }
def loopsAddRow : OpenClaim := { program := "ytkmijhnagbjbkaa", sum := "9cae90d3bbe7d56066eb2d20187211ef6b7d3247cfd43ea3bf7f25b9bf819aef", func := "gansey/ganseylaw05.LoopsAdd", spec := "loopsAdd", unfollowed := true, recurses := true, plainKeys := false, apart := false }
def LoopsAddSaid : Prop := loopsAddRow.holds Try.pinned (OpenSpec.ofChange loopsAddSpec)

/-- ITS FALSE NEIGHBOUR: 'it returns false'. Refute it at one input. -/
def loopsAddWrong : ChangeSpec := { name := "loopsAdd", fn := fun _ => fun
  | [d] => { results := [.lit (.bool false)], args := [d] }
  | _ => none }
def LoopsAddWrongFalsely : Prop := loopsAddRow.holds Try.pinned (OpenSpec.ofChange loopsAddWrong)

/- THE SECOND FORM. 'bulk': how many values and letters a reading holds, each counted each time it is reached (what is shared counts as often as it is met; a slice's spare places count too). A statement '..UptoSaid' is the law's where the arguments, and the package variables that the reading takes, are together of bulk at most 1048576: NARROWER than '..Said'. Prove '..Said' where nothing that the law and all that it calls make is longer than what came in: it says more and counts as full. Else prove '..UptoSaid'. A law counts once. -/
mutual
def uptoBulk {H : Type} : DataW H → Nat
  | .lit (.string bytes) => bytes.length + 1
  | .lit _ => 1
  | .nil => 1
  | .ptr d => uptoBulk d + 1
  | .slice elems spare => uptoBulkAll elems + uptoBulkAll spare + 1
  | .agg parts => uptoBulkAll parts + 1
  | .iface _ d => uptoBulk d + 1
  | .map entries => uptoBulkEntries entries + 1
  | .held _ => 1
def uptoBulkAll {H : Type} : List (DataW H) → Nat
  | [] => 0
  | d :: r => uptoBulk d + uptoBulkAll r
def uptoBulkEntries {H : Type} : List (Lit × DataW H) → Nat
  | [] => 0
  | x :: r => uptoBulkEntry x + uptoBulkEntries r
def uptoBulkEntry {H : Type} : Lit × DataW H → Nat
  | (.string bytes, d) => bytes.length + uptoBulk d + 1
  | (_, d) => uptoBulk d + 1
 end
def uptoSmall : (H : Type) → List (DataW H) → Bool := fun _ ds => decide (uptoBulkAll ds ≤ 1048576)
def OpenSpec.upto (s : _root_.Go.ChangeSpec) : _root_.Go.OpenSpec := { _root_.Go.OpenSpec.ofChange s with cond := some uptoSmall }

/-- 'ganseylaw05.LoopsOrder', WHERE WHAT IT READS IS OF BULK AT MOST 1048576: true; the input reads as it did. -/
def loopsOrderUptoRow : OpenClaim := { program := "ytkmijhnagbjbkaa", sum := "9cae90d3bbe7d56066eb2d20187211ef6b7d3247cfd43ea3bf7f25b9bf819aef", func := "gansey/ganseylaw05.LoopsOrder", spec := "loopsOrder", unfollowed := true, recurses := true, plainKeys := false, apart := false, narrowed := true }
def LoopsOrderUptoSaid : Prop := loopsOrderUptoRow.holds Try.pinned (OpenSpec.upto loopsOrderSpec)

/-- 'ganseylaw05.LoopsSpoiled', WHERE WHAT IT READS IS OF BULK AT MOST 1048576: true; the input reads as it did. -/
def loopsSpoiledUptoRow : OpenClaim := { program := "ytkmijhnagbjbkaa", sum := "9cae90d3bbe7d56066eb2d20187211ef6b7d3247cfd43ea3bf7f25b9bf819aef", func := "gansey/ganseylaw05.LoopsSpoiled", spec := "loopsSpoiled", unfollowed := true, recurses := true, plainKeys := false, apart := false, narrowed := true }
def LoopsSpoiledUptoSaid : Prop := loopsSpoiledUptoRow.holds Try.pinned (OpenSpec.upto loopsSpoiledSpec)

/-- 'ganseylaw05.LoopsNeeds', WHERE WHAT IT READS IS OF BULK AT MOST 1048576: true; the input reads as it did. -/
def loopsNeedsUptoRow : OpenClaim := { program := "ytkmijhnagbjbkaa", sum := "9cae90d3bbe7d56066eb2d20187211ef6b7d3247cfd43ea3bf7f25b9bf819aef", func := "gansey/ganseylaw05.LoopsNeeds", spec := "loopsNeeds", unfollowed := true, recurses := true, plainKeys := false, apart := false, narrowed := true }
def LoopsNeedsUptoSaid : Prop := loopsNeedsUptoRow.holds Try.pinned (OpenSpec.upto loopsNeedsSpec)

/-- 'ganseylaw05.LoopsFind', WHERE WHAT IT READS IS OF BULK AT MOST 1048576: true; the input reads as it did. -/
def loopsFindUptoRow : OpenClaim := { program := "ytkmijhnagbjbkaa", sum := "9cae90d3bbe7d56066eb2d20187211ef6b7d3247cfd43ea3bf7f25b9bf819aef", func := "gansey/ganseylaw05.LoopsFind", spec := "loopsFind", unfollowed := true, recurses := true, plainKeys := false, apart := false, narrowed := true }
def LoopsFindUptoSaid : Prop := loopsFindUptoRow.holds Try.pinned (OpenSpec.upto loopsFindSpec)

/-- 'ganseylaw05.LoopsAdd', WHERE WHAT IT READS IS OF BULK AT MOST 1048576: true; the input reads as it did. -/
def loopsAddUptoRow : OpenClaim := { program := "ytkmijhnagbjbkaa", sum := "9cae90d3bbe7d56066eb2d20187211ef6b7d3247cfd43ea3bf7f25b9bf819aef", func := "gansey/ganseylaw05.LoopsAdd", spec := "loopsAdd", unfollowed := true, recurses := true, plainKeys := false, apart := false, narrowed := true }
def LoopsAddUptoSaid : Prop := loopsAddUptoRow.holds Try.pinned (OpenSpec.upto loopsAddSpec)

end Rows
end Go.Proofs.Ytkmijhnagbjbkaa
