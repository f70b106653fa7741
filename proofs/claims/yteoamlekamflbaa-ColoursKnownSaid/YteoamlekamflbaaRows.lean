/-
  No cell of these rows narrows 'for every input' (looked for: loops, veiled, ifaces, maps, wideKeys, modest, calm, conditions, laid).
  DERIVED. THE GIVEN ROWS OF THIS SEAT. 7 by the template 'for every input the law returns true; each argument reads behind the call as it read before'; 0 by the template 'total and deterministic' (their statements: YteoamlekamflbaaTotals.lean).
  GIVEN WITH THE SEED: the statements are not yours to turn. If you find one false, say at which input.
  Laid BY PROGRAM, IN A SANDBOX (cutbox-rows.mjs): the forced cells as the released guide's own fill.sh prints them over the translation abac8f17407cf4b5… (all of the seat's roots in one cut). By AI agents, Wed Nov 11 2026. No macro, syntax, notation, axiom, sorry.
-/
import Derived.Test.YteoamlekamflbaaChecked
import GoSem.Claim
import GoSem.ClaimJoined
import GoSem.ClaimMapViews
import Derived.JoinedTies
import Derived.KernelRfl
namespace Go.Proofs.Yteoamlekamflbaa
/- THE CELL 'sum', in the pinned program and in every row, IS THE sha256 OF THE DUMP (.gsa) THAT YteoamlekamflbaaProg.lean LOADS. Nothing in Lean hashes anything: it is a label: what it is worth is what the hold of that sum in a sandbox is worth. -/
noncomputable def Try.pinned : Pinned := { name := "yteoamlekamflbaa", sum := "abac8f17407cf4b5a58a5aead9855fae7522b9d9c92c53004b1c4260f287d527", checked := Try.checked }
namespace Rows
def none {H : Type} : Left H := { results := [], args := [] }

/-- 'ganseylaw18.ColoursFloats': WHATEVER THE INPUT: true; the input reads as it did. -/
def coloursFloatsSpec : ChangeSpec := { name := "coloursFloats", fn := fun _ => fun
  | [d] => { results := [.lit (.bool true)], args := [d] }
  | _ => none }
def coloursFloatsRow : OpenClaim := { program := "yteoamlekamflbaa", sum := "abac8f17407cf4b5a58a5aead9855fae7522b9d9c92c53004b1c4260f287d527", func := "gansey/ganseylaw18.ColoursFloats", spec := "coloursFloats", unfollowed := true, recurses := true, plainKeys := false, apart := false }
def ColoursFloatsSaid : Prop := coloursFloatsRow.holds Try.pinned (OpenSpec.ofChange coloursFloatsSpec)

/-- ITS FALSE NEIGHBOUR: 'it returns false'. Refute it at one input. -/
def coloursFloatsWrong : ChangeSpec := { name := "coloursFloats", fn := fun _ => fun
  | [d] => { results := [.lit (.bool false)], args := [d] }
  | _ => none }
def ColoursFloatsWrongFalsely : Prop := coloursFloatsRow.holds Try.pinned (OpenSpec.ofChange coloursFloatsWrong)

/-- 'ganseylaw18.ColoursWeave': WHATEVER THE INPUT: true; the input reads as it did. -/
def coloursWeaveSpec : ChangeSpec := { name := "coloursWeave", fn := fun _ => fun
  | [d1, d2] => { results := [.lit (.bool true)], args := [d1, d2] }
  | _ => none }
def coloursWeaveRow : OpenClaim := { program := "yteoamlekamflbaa", sum := "abac8f17407cf4b5a58a5aead9855fae7522b9d9c92c53004b1c4260f287d527", func := "gansey/ganseylaw18.ColoursWeave", spec := "coloursWeave", unfollowed := true, recurses := true, plainKeys := false, apart := false }
def ColoursWeaveSaid : Prop := coloursWeaveRow.holds Try.pinned (OpenSpec.ofChange coloursWeaveSpec)

/-- ITS FALSE NEIGHBOUR: 'it returns false'. Refute it at one input. -/
def coloursWeaveWrong : ChangeSpec := { name := "coloursWeave", fn := fun _ => fun
  | [d1, d2] => { results := [.lit (.bool false)], args := [d1, d2] }
  | _ => none }
def ColoursWeaveWrongFalsely : Prop := coloursWeaveRow.holds Try.pinned (OpenSpec.ofChange coloursWeaveWrong)

/-- 'ganseylaw18.ColoursOnce': WHATEVER THE INPUT: true; the input reads as it did. -/
def coloursOnceSpec : ChangeSpec := { name := "coloursOnce", fn := fun _ => fun
  | [d1, d2] => { results := [.lit (.bool true)], args := [d1, d2] }
  | _ => none }
def coloursOnceRow : OpenClaim := { program := "yteoamlekamflbaa", sum := "abac8f17407cf4b5a58a5aead9855fae7522b9d9c92c53004b1c4260f287d527", func := "gansey/ganseylaw18.ColoursOnce", spec := "coloursOnce", unfollowed := true, recurses := true, plainKeys := false, apart := false }
def ColoursOnceSaid : Prop := coloursOnceRow.holds Try.pinned (OpenSpec.ofChange coloursOnceSpec)

/-- ITS FALSE NEIGHBOUR: 'it returns false'. Refute it at one input. -/
def coloursOnceWrong : ChangeSpec := { name := "coloursOnce", fn := fun _ => fun
  | [d1, d2] => { results := [.lit (.bool false)], args := [d1, d2] }
  | _ => none }
def ColoursOnceWrongFalsely : Prop := coloursOnceRow.holds Try.pinned (OpenSpec.ofChange coloursOnceWrong)

/-- 'ganseylaw18.ColoursText': WHATEVER THE INPUT: true; the input reads as it did. -/
def coloursTextSpec : ChangeSpec := { name := "coloursText", fn := fun _ => fun
  | [d1, d2] => { results := [.lit (.bool true)], args := [d1, d2] }
  | _ => none }
def coloursTextRow : OpenClaim := { program := "yteoamlekamflbaa", sum := "abac8f17407cf4b5a58a5aead9855fae7522b9d9c92c53004b1c4260f287d527", func := "gansey/ganseylaw18.ColoursText", spec := "coloursText", inPlace := ["internal/bytealg.IndexByteString", "internal/bytealg.IndexString", "internal/abi.NoEscape"], unfollowed := true, recurses := true, named := ["internal/bytealg.MaxLen"], plainKeys := false, apart := false }
def ColoursTextSaid : Prop := coloursTextRow.holds Try.pinned (OpenSpec.ofChange coloursTextSpec)

/-- ITS FALSE NEIGHBOUR: 'it returns false'. Refute it at one input. -/
def coloursTextWrong : ChangeSpec := { name := "coloursText", fn := fun _ => fun
  | [d1, d2] => { results := [.lit (.bool false)], args := [d1, d2] }
  | _ => none }
def ColoursTextWrongFalsely : Prop := coloursTextRow.holds Try.pinned (OpenSpec.ofChange coloursTextWrong)

/-- 'ganseylaw18.ColoursOf': WHATEVER THE INPUT: true; the input reads as it did. -/
def coloursOfSpec : ChangeSpec := { name := "coloursOf", fn := fun _ => fun
  | [d] => { results := [.lit (.bool true)], args := [d] }
  | _ => none }
def coloursOfRow : OpenClaim := { program := "yteoamlekamflbaa", sum := "abac8f17407cf4b5a58a5aead9855fae7522b9d9c92c53004b1c4260f287d527", func := "gansey/ganseylaw18.ColoursOf", spec := "coloursOf", unfollowed := true, recurses := true, plainKeys := false, apart := false }
def ColoursOfSaid : Prop := coloursOfRow.holds Try.pinned (OpenSpec.ofChange coloursOfSpec)

/-- ITS FALSE NEIGHBOUR: 'it returns false'. Refute it at one input. -/
def coloursOfWrong : ChangeSpec := { name := "coloursOf", fn := fun _ => fun
  | [d] => { results := [.lit (.bool false)], args := [d] }
  | _ => none }
def ColoursOfWrongFalsely : Prop := coloursOfRow.holds Try.pinned (OpenSpec.ofChange coloursOfWrong)

/-- 'ganseylaw18.ColoursChart': WHATEVER THE INPUT: true; the input reads as it did. -/
def coloursChartSpec : ChangeSpec := { name := "coloursChart", fn := fun _ => fun
  | [d] => { results := [.lit (.bool true)], args := [d] }
  | _ => none }
def coloursChartRow : OpenClaim := { program := "yteoamlekamflbaa", sum := "abac8f17407cf4b5a58a5aead9855fae7522b9d9c92c53004b1c4260f287d527", func := "gansey/ganseylaw18.ColoursChart", spec := "coloursChart", unfollowed := true, recurses := true, plainKeys := false, apart := false }
def ColoursChartSaid : Prop := coloursChartRow.holds Try.pinned (OpenSpec.ofChange coloursChartSpec)

/-- ITS FALSE NEIGHBOUR: 'it returns false'. Refute it at one input. -/
def coloursChartWrong : ChangeSpec := { name := "coloursChart", fn := fun _ => fun
  | [d] => { results := [.lit (.bool false)], args := [d] }
  | _ => none }
def ColoursChartWrongFalsely : Prop := coloursChartRow.holds Try.pinned (OpenSpec.ofChange coloursChartWrong)

/-- 'ganseylaw18.ColoursKnown': WHATEVER THE INPUT: true; the input reads as it did. -/
def coloursKnownSpec : ChangeSpec := { name := "coloursKnown", fn := fun _ => fun
  | [] => { results := [.lit (.bool true)], args := [] }
  | _ => none }
def coloursKnownRow : OpenClaim := { program := "yteoamlekamflbaa", sum := "abac8f17407cf4b5a58a5aead9855fae7522b9d9c92c53004b1c4260f287d527", func := "gansey/ganseylaw18.ColoursKnown", spec := "coloursKnown", inPlace := ["internal/bytealg.IndexByteString", "internal/bytealg.IndexString", "internal/abi.NoEscape"], unfollowed := true, recurses := true, named := ["internal/bytealg.MaxLen"], plainKeys := false, apart := false }
def ColoursKnownSaid : Prop := coloursKnownRow.holds Try.pinned (OpenSpec.ofChange coloursKnownSpec)

/-- ITS FALSE NEIGHBOUR: 'it returns false'. Refute it at one input. -/
def coloursKnownWrong : ChangeSpec := { name := "coloursKnown", fn := fun _ => fun
  | [] => { results := [.lit (.bool false)], args := [] }
  | _ => none }
def ColoursKnownWrongFalsely : Prop := coloursKnownRow.holds Try.pinned (OpenSpec.ofChange coloursKnownWrong)

/- THE SECOND FORM. 'bulk': how many values and letters a reading holds, each counted each time it is reached (what is shared counts as often as it is met; a slice's spare places count too). A statement '..UptoSaid' is the law's where the arguments, and the package variables that the reading takes, are together of bulk at most 1048576: NARROWER than '..Said'. Prove '..Said' where nothing that the law and all that it calls make is longer than what came in: it says more and counts as full. Else prove '..UptoSaid'. A law counts once. -/
mutual
def uptoBulk {H : Type} : DataW H → Nat
  | .lit (.string bytes) => bytes.length + 1
  | .lit _ => 1
  | .nil => 1
  | .ptr d => uptoBulk d + 1
  | .slice elems spare => uptoBulkAll elems + uptoBulkAll spare + 1
  | .agg parts => uptoBulkAll parts + 1
  | .iface _ d => uptoBulk d + 1
  | .map entries => uptoBulkEntries entries + 1
  | .held _ => 1
def uptoBulkAll {H : Type} : List (DataW H) → Nat
  | [] => 0
  | d :: r => uptoBulk d + uptoBulkAll r
def uptoBulkEntries {H : Type} : List (Lit × DataW H) → Nat
  | [] => 0
  | x :: r => uptoBulkEntry x + uptoBulkEntries r
def uptoBulkEntry {H : Type} : Lit × DataW H → Nat
  | (.string bytes, d) => bytes.length + uptoBulk d + 1
  | (_, d) => uptoBulk d + 1
 end
def uptoSmall : (H : Type) → List (DataW H) → Bool := fun _ ds => decide (uptoBulkAll ds ≤ 1048576)
def OpenSpec.upto (s : _root_.Go.ChangeSpec) : _root_.Go.OpenSpec := { _root_.Go.OpenSpec.ofChange s with cond := some uptoSmall }

/-- 'ganseylaw18.ColoursFloats', WHERE WHAT IT READS IS OF BULK AT MOST 1048576: true; the input reads as it did. -/
def coloursFloatsUptoRow : OpenClaim := { program := "yteoamlekamflbaa", sum := "abac8f17407cf4b5a58a5aead9855fae7522b9d9c92c53004b1c4260f287d527", func := "gansey/ganseylaw18.ColoursFloats", spec := "coloursFloats", unfollowed := true, recurses := true, plainKeys := false, apart := false, narrowed := true }
def ColoursFloatsUptoSaid : Prop := coloursFloatsUptoRow.holds Try.pinned (OpenSpec.upto coloursFloatsSpec)

/-- 'ganseylaw18.ColoursWeave', WHERE WHAT IT READS IS OF BULK AT MOST 1048576: true; the input reads as it did. -/
def coloursWeaveUptoRow : OpenClaim := { program := "yteoamlekamflbaa", sum := "abac8f17407cf4b5a58a5aead9855fae7522b9d9c92c53004b1c4260f287d527", func := "gansey/ganseylaw18.ColoursWeave", spec := "coloursWeave", unfollowed := true, recurses := true, plainKeys := false, apart := false, narrowed := true }
def ColoursWeaveUptoSaid : Prop := coloursWeaveUptoRow.holds Try.pinned (OpenSpec.upto coloursWeaveSpec)

/-- 'ganseylaw18.ColoursOnce', WHERE WHAT IT READS IS OF BULK AT MOST 1048576: true; the input reads as it did. -/
def coloursOnceUptoRow : OpenClaim := { program := "yteoamlekamflbaa", sum := "abac8f17407cf4b5a58a5aead9855fae7522b9d9c92c53004b1c4260f287d527", func := "gansey/ganseylaw18.ColoursOnce", spec := "coloursOnce", unfollowed := true, recurses := true, plainKeys := false, apart := false, narrowed := true }
def ColoursOnceUptoSaid : Prop := coloursOnceUptoRow.holds Try.pinned (OpenSpec.upto coloursOnceSpec)

/-- 'ganseylaw18.ColoursText', WHERE WHAT IT READS IS OF BULK AT MOST 1048576: true; the input reads as it did. -/
def coloursTextUptoRow : OpenClaim := { program := "yteoamlekamflbaa", sum := "abac8f17407cf4b5a58a5aead9855fae7522b9d9c92c53004b1c4260f287d527", func := "gansey/ganseylaw18.ColoursText", spec := "coloursText", inPlace := ["internal/bytealg.IndexByteString", "internal/bytealg.IndexString", "internal/abi.NoEscape"], unfollowed := true, recurses := true, named := ["internal/bytealg.MaxLen"], plainKeys := false, apart := false, narrowed := true }
def ColoursTextUptoSaid : Prop := coloursTextUptoRow.holds Try.pinned (OpenSpec.upto coloursTextSpec)

/-- 'ganseylaw18.ColoursOf', WHERE WHAT IT READS IS OF BULK AT MOST 1048576: true; the input reads as it did. -/
def coloursOfUptoRow : OpenClaim := { program := "yteoamlekamflbaa", sum := "abac8f17407cf4b5a58a5aead9855fae7522b9d9c92c53004b1c4260f287d527", func := "gansey/ganseylaw18.ColoursOf", spec := "coloursOf", unfollowed := true, recurses := true, plainKeys := false, apart := false, narrowed := true }
def ColoursOfUptoSaid : Prop := coloursOfUptoRow.holds Try.pinned (OpenSpec.upto coloursOfSpec)

/-- 'ganseylaw18.ColoursChart', WHERE WHAT IT READS IS OF BULK AT MOST 1048576: true; the input reads as it did. -/
def coloursChartUptoRow : OpenClaim := { program := "yteoamlekamflbaa", sum := "abac8f17407cf4b5a58a5aead9855fae7522b9d9c92c53004b1c4260f287d527", func := "gansey/ganseylaw18.ColoursChart", spec := "coloursChart", unfollowed := true, recurses := true, plainKeys := false, apart := false, narrowed := true }
def ColoursChartUptoSaid : Prop := coloursChartUptoRow.holds Try.pinned (OpenSpec.upto coloursChartSpec)

/-- 'ganseylaw18.ColoursKnown', WHERE WHAT IT READS IS OF BULK AT MOST 1048576: true; the input reads as it did. -/
def coloursKnownUptoRow : OpenClaim := { program := "yteoamlekamflbaa", sum := "abac8f17407cf4b5a58a5aead9855fae7522b9d9c92c53004b1c4260f287d527", func := "gansey/ganseylaw18.ColoursKnown", spec := "coloursKnown", inPlace := ["internal/bytealg.IndexByteString", "internal/bytealg.IndexString", "internal/abi.NoEscape"], unfollowed := true, recurses := true, named := ["internal/bytealg.MaxLen"], plainKeys := false, apart := false, narrowed := true }
def ColoursKnownUptoSaid : Prop := coloursKnownUptoRow.holds Try.pinned (OpenSpec.upto coloursKnownSpec)

end Rows
end Go.Proofs.Yteoamlekamflbaa
