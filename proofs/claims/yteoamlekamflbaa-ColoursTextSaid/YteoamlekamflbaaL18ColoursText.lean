/-
  Text has a digit for each colour, the last row first; Parse inverts it, and accepts nothing else.
-/
import Derived.Test.YteoamlekamflbaaRows
import Derived.Test.YteoamlekamflbaaP19
import Derived.WalkKit
import Derived.ProofKit
import Derived.OpenShut
import Derived.Deep.DeepHandedRow
import Derived.Lib.LaidTab
set_option linter.all false
namespace Go.Proofs.Yteoamlekamflbaa.coloursText
open Go.ChangeShapes Go.WideShapes Go.ChangeAt Go.RowKit Go.Ab

theorem own : ownKnob Try.prog.godebug = none := by kernel_rfl

/-- The package-level variables, as the row lists them. -/
theorem globals {W : World} (h : laidMetH Try.prog Rows.coloursTextRow.laid W) : GlobOk G18 W (fun b => b < W.heap.size) :=
  globOk_of hl18 (laid := Rows.coloursTextRow.laid) h trivial

set_option maxRecDepth 100000 in
theorem contract (H : Type) (enc : TypeId × Value → H) (W : World) (base : Nat) (args : Array Value) (ds gs : List (DataW H)) (before : List MemPlace)
    (hval : ∀ (j : Nat) t v, Try.f6.params[j]? = some t → args[j]? = some v → Value.okWide Try.prog W .any base t v)
    (hW : DataW.Whole enc Try.prog Try.f6.params.toList Rows.coloursTextSpec.vars false W args.toList ds gs before) (hL : laidMetH Try.prog Rows.coloursTextRow.laid W) :
    Calls Try.prog 6 args W fun e W' => ∃ v, e = .returned v ∧ Rows.coloursTextSpec.post enc Try.prog Try.f6 false true false false W args v W' := by
  refine contract_of hm18 hn18 hl18 (tb := 4) rfl (fun ds h => ?_) rfl Try.underlying4 (fun t ht => ?_) hval hW (globals hL) (fun xs hx => ?_)
  · rw [Try.params6] at h
    match ds, h with
    | [a0, a1], _ => rfl
  · rw [Try.params6] at ht
    have ht : t ∈ [31, 9] := ht
    
    simp only [List.mem_cons, List.not_mem_nil, or_false] at ht
    rcases ht with rfl | rfl
    all_goals exact ⟨by kernel_rfl, by kernel_rfl⟩
  · rw [Try.params6] at hx
    have hx : ATs Try.prog [31, 9] xs ds := hx
    obtain ⟨_, _, d0, _, ts0, rfl, rfl, h0, rfl, hx0⟩ := hx.cons
    obtain ⟨_, _, d1, _, ts1, rfl, rfl, h1, rfl, hx1⟩ := hx0.cons
    obtain ⟨rfl, rfl⟩ := hx1.nil
    obtain ⟨D, hD, s0⟩ := inv31_18 h0
    obtain ⟨s, rfl, rfl, _⟩ := h1.str_inv Try.underlying9
    rw [show topT Try.prog 9 [.str s] = .str s by simp [topT, show aggTy Try.prog 9 = false by kernel_rfl]]
    exact ⟨_, .cons s0 (.cons (.refl _) .nil), law6 D hD s⟩

/-- A world for the witness. -/
noncomputable def laidWorld (os : Os) : World :=
  { World.holding Try.prog os ⟨#[], #[], []⟩ with heap := (World.holding Try.prog os ⟨#[], #[], []⟩).heap }
theorem laid_met (os : Os) : laidMet Try.prog Rows.coloursTextRow.laid ((laidWorld os).forCall (fun _ _ => 0) ⟨#[], #[.agg #[.int .u8 0, .slice none 0 0], .string .empty], []⟩).memory :=
  laidMet_of_run' 8 (by kernel_rfl) (by kernel_rfl)
theorem reads (os : Os) {H : Type} (enc : TypeId × Value → H) : ∃ places, DataW.whole enc Try.prog ((laidWorld os).forCall (fun _ _ => 0) ⟨#[], #[.agg #[.int .u8 0, .slice none 0 0], .string .empty], []⟩).memory Try.f6.params.toList Rows.coloursTextSpec.vars false (#[.agg #[.int .u8 0, .slice none 0 0], .string .empty] : Array Value).toList 8 = some ([.agg [.lit (.int .u8 0), .nil], .lit (.string [])], [], places) :=
  ⟨[], by kernel_rfl⟩

set_option maxRecDepth 100000 in
theorem lifted (os : Os) (started : os.Started) (H : Type) (enc : TypeId × Value → H) (F : Stop.Interp) :
    ReturnsInHanded {} Try.checked os 6 .any ((OpenSpec.ofChange Rows.coloursTextSpec).preRow enc Try.prog Try.f6 Rows.coloursTextRow.domain false Rows.coloursTextRow.laid) (((OpenSpec.ofChange Rows.coloursTextSpec).at F).post enc Try.prog Try.f6 false true false false) := by
  obtain ⟨places, hx⟩ := reads os enc
  refine returnsInHanded_of_row (C := Try.checked) (s := (OpenSpec.ofChange Rows.coloursTextSpec)) own started (by kernel_rfl) Try.func6
    (witness_row_at (enc := enc) (C := Try.checked) false (laidWorld os) #[.agg #[.int .u8 0, .slice none 0 0], .string .empty] rfl (by kernel_rfl) (by kernel_rfl) (by kernel_rfl)
      (OpenSpec.preRow_of_cond 8 hx (by kernel_rfl) (fun k hk => by cases hk) (by kernel_rfl) (laid_met os))) ?_
  intro W base args ds gs before hval hW _ _ _ hL _ _
  exact contract H enc W base args ds gs before hval hW hL

theorem said : Rows.ColoursTextSaid :=
  OpenClaim.holds_of_cond 6 Try.f6 rfl rfl rfl rfl rfl rfl rfl ⟨rfl, rfl, rfl, rfl, rfl⟩ rfl rfl rfl rfl rfl (by kernel_rfl) Try.func6 (by kernel_rfl)
    (of_decide_eq_true (by kernel_rfl)) (by unfold Func.isWrapper; first | (rw [if_pos (by decide +kernel)]; kernel_rfl) | (rw [if_neg (by decide +kernel)]; exact ⟨rfl, rfl⟩))
    (fun os started H enc _ F => by rw [OpenClaim.pre_eq_preRow]; exact lifted os started H enc F)
end Go.Proofs.Yteoamlekamflbaa.coloursText

