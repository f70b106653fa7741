/-
  Widths are the counted widths of the outline at the middle of every row, refused where there are none, too many, or one is zero.
-/
import Derived.Test.YtjjnbjkbgjgpoaaRows
import Derived.Test.YtjjnbjkbgjgpoaaP14
import Derived.WalkKit
import Derived.ProofKit
import Derived.OpenShut
import Derived.Deep.DeepHandedRow
import Derived.Lib.LaidTab
set_option linter.all false
namespace Go.Proofs.Ytjjnbjkbgjgpoaa.gaugesWidths
open Go.ChangeShapes Go.WideShapes Go.ChangeAt Go.RowKit Go.Ab

theorem own : ownKnob Try.prog.godebug = none := by kernel_rfl

/-- The package-level variables, as the row lists them. -/
theorem globals {W : World} (h : laidMetH Try.prog Rows.gaugesWidthsRow.laid W) : GlobOk G37 W (fun b => b < W.heap.size) :=
  globOk_of hl37 (laid := Rows.gaugesWidthsRow.laid) h trivial

theorem contract (H : Type) (enc : TypeId × Value → H) (W : World) (base : Nat) (args : Array Value) (ds gs : List (DataW H)) (before : List MemPlace)
    (hval : ∀ (j : Nat) t v, Try.f6.params[j]? = some t → args[j]? = some v → Value.okWide Try.prog W .any base t v)
    (hW : DataW.Whole enc Try.prog Try.f6.params.toList Rows.gaugesWidthsSpec.vars false W args.toList ds gs before) (hL : laidMetH Try.prog Rows.gaugesWidthsRow.laid W) :
    Calls Try.prog 6 args W fun e W' => ∃ v, e = .returned v ∧ Rows.gaugesWidthsSpec.post enc Try.prog Try.f6 false true false false W args v W' := by
  refine contract_of hm37 hn37 hl37 (tb := 4) rfl (fun ds h => ?_) rfl Try.underlying4 (fun t ht => ?_) hval hW (globals hL) (fun xs hx => ?_)
  · rw [Try.params6] at h
    match ds, h with
    | [a0, a1, a2], _ => rfl
  · rw [Try.params6] at ht
    have ht : t ∈ [28, 28, 35] := ht
    
    simp only [List.mem_cons, List.not_mem_nil, or_false] at ht
    rcases ht with rfl | rfl | rfl
    all_goals exact ⟨by kernel_rfl, by kernel_rfl⟩
  · rw [Try.params6] at hx
    have hx : ATs Try.prog [28, 28, 35] xs ds := hx
    obtain ⟨_, _, d0, _, ts0, rfl, rfl, h0, rfl, hx0⟩ := hx.cons
    obtain ⟨_, _, d1, _, ts1, rfl, rfl, h1, rfl, hx1⟩ := hx0.cons
    obtain ⟨_, _, d2, _, ts2, rfl, rfl, h2, rfl, hx2⟩ := hx1.cons
    obtain ⟨rfl, rfl⟩ := hx2.nil
    obtain ⟨a, rfl, rfl, w0⟩ := h0.int_inv Try.underlying28
    obtain ⟨c, rfl, rfl, w1⟩ := h1.int_inv Try.underlying28
    have e0 : ∀ z, topT Try.prog 28 [.int .u16 z] = .int .u16 z := fun z => by simp [topT, show aggTy Try.prog 28 = false by kernel_rfl]
    rw [e0, e0]
    rcases inv35 h2 with e2 | ⟨n, x, y, hs, hp, hq⟩
    · rw [e2]
      exact ⟨_, .refl _, law6nil a c⟩
    · exact ⟨_, .cons (.refl _) (.cons (.refl _) (.cons hs .nil)), law6 a c x y n (wf_u16 w0) (wf_u16 w1) hp hq⟩

/-- A world for the witness. -/
noncomputable def laidWorld (os : Os) : World :=
  { World.holding Try.prog os ⟨#[], #[], []⟩ with heap := (World.holding Try.prog os ⟨#[], #[], []⟩).heap }
theorem laid_met (os : Os) : laidMet Try.prog Rows.gaugesWidthsRow.laid ((laidWorld os).forCall (fun _ _ => 0) ⟨#[], #[.int .u16 0, .int .u16 0, .slice none 0 0], []⟩).memory :=
  laidMet_of_run' 8 (by kernel_rfl) (by kernel_rfl)
theorem reads (os : Os) {H : Type} (enc : TypeId × Value → H) : ∃ places, DataW.whole enc Try.prog ((laidWorld os).forCall (fun _ _ => 0) ⟨#[], #[.int .u16 0, .int .u16 0, .slice none 0 0], []⟩).memory Try.f6.params.toList Rows.gaugesWidthsSpec.vars false (#[.int .u16 0, .int .u16 0, .slice none 0 0] : Array Value).toList 8 = some ([.lit (.int .u16 0), .lit (.int .u16 0), .nil], [], places) :=
  ⟨[], by kernel_rfl⟩

set_option maxRecDepth 100000 in
theorem lifted (os : Os) (started : os.Started) (H : Type) (enc : TypeId × Value → H) (F : Stop.Interp) :
    ReturnsInHanded {} Try.checked os 6 .any ((OpenSpec.ofChange Rows.gaugesWidthsSpec).preRow enc Try.prog Try.f6 Rows.gaugesWidthsRow.domain false Rows.gaugesWidthsRow.laid) (((OpenSpec.ofChange Rows.gaugesWidthsSpec).at F).post enc Try.prog Try.f6 false true false false) := by
  obtain ⟨places, hx⟩ := reads os enc
  refine returnsInHanded_of_row (C := Try.checked) (s := (OpenSpec.ofChange Rows.gaugesWidthsSpec)) own started (by kernel_rfl) Try.func6
    (witness_row_at (enc := enc) (C := Try.checked) false (laidWorld os) #[.int .u16 0, .int .u16 0, .slice none 0 0] rfl (by kernel_rfl) (by kernel_rfl) (by kernel_rfl)
      (OpenSpec.preRow_of_cond 8 hx (by kernel_rfl) (fun k hk => by cases hk) (by kernel_rfl) (laid_met os))) ?_
  intro W base args ds gs before hval hW _ _ _ hL _ _
  exact contract H enc W base args ds gs before hval hW hL

theorem said : Rows.GaugesWidthsSaid :=
  OpenClaim.holds_of_cond 6 Try.f6 rfl rfl rfl rfl rfl rfl rfl ⟨rfl, rfl, rfl, rfl, rfl⟩ rfl rfl rfl rfl rfl (by kernel_rfl) Try.func6 (by kernel_rfl)
    (of_decide_eq_true (by kernel_rfl)) (by unfold Func.isWrapper; first | (rw [if_pos (by decide +kernel)]; kernel_rfl) | (rw [if_neg (by decide +kernel)]; exact ⟨rfl, rfl⟩))
    (fun os started H enc _ F => by rw [OpenClaim.pre_eq_preRow]; exact lifted os started H enc F)
end Go.Proofs.Ytjjnbjkbgjgpoaa.gaugesWidths

