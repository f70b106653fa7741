/-
  Loads returns the numbers of the table, and its errors in their order.
-/
import Derived.Test.YtkiedolofnakoaaDoorCards
import Derived.Test.YtkiedolofnakoaaDoorTie
import Derived.Test.YtkiedolofnakoaaDoorP7
import Derived.Test.YtkiedolofnakoaaDoorP9
import Derived.WalkKit
import Derived.ProofKit
import Derived.OpenShut
import Derived.Deep.DeepHandedRow
import Derived.Lib.LaidTab
set_option linter.all false
namespace Go.Proofs.YtkiedolofnakoaaDoor.stitchesLoads
open Go.ChangeShapes Go.WideShapes Go.ChangeAt Go.RowKit Go.Ab

theorem own : ownKnob Tryd.prog.godebug = none := by kernel_rfl

/-- The package-level variables, as the row lists them. -/
theorem globals {W : World} (h : laidMetH Tryd.prog Rows.stitchesLoadsRow.laid W) : GlobOk G12 W (fun b => b < W.heap.size) :=
  globOk_of hl12 (laid := Rows.stitchesLoadsRow.laid) h ⟨⟨_, _, 53, by kernel_rfl, by kernel_rfl, by kernel_rfl, List.mem_cons_self, by kernel_rfl⟩, trivial⟩

theorem contract (H : Type) (enc : TypeId × Value → H) (W : World) (base : Nat) (args : Array Value) (ds gs : List (DataW H)) (before : List MemPlace)
    (hval : ∀ (j : Nat) t v, Tryd.f3.params[j]? = some t → args[j]? = some v → Value.okWide Tryd.prog W .any base t v)
    (hW : DataW.Whole enc Tryd.prog Tryd.f3.params.toList Rows.stitchesLoadsSpec.vars false W args.toList ds gs before) (hL : laidMetH Tryd.prog Rows.stitchesLoadsRow.laid W) :
    Calls Tryd.prog 3 args W fun e W' => ∃ v, e = .returned v ∧ Rows.stitchesLoadsSpec.post enc Tryd.prog Tryd.f3 false true false false W args v W' := by
  refine contract_of hm12 hn12 hl12 (tb := 4) rfl (fun ds h => ?_) rfl Tryd.underlying4 (fun t ht => ?_) hval hW (globals hL) (fun xs hx => ?_)
  · rw [Tryd.params3] at h
    match ds, h with
    | [a0, a1], _ => rfl
  · rw [Tryd.params3] at ht
    have ht : t ∈ [24, 25] := ht
    
    simp only [List.mem_cons, List.not_mem_nil, or_false] at ht
    rcases ht with rfl | rfl
    all_goals exact ⟨by kernel_rfl, by kernel_rfl⟩
  · rw [Tryd.params3] at hx
    have hx : ATs Tryd.prog [24, 25] xs ds := hx
    obtain ⟨_, _, d, _, ts, rfl, rfl, h1, rfl, hx2⟩ := hx.cons
    obtain ⟨_, _, d2, _, ts2, rfl, rfl, h2, rfl, hx3⟩ := hx2.cons
    obtain ⟨rfl, rfl⟩ := hx3.nil
    obtain ⟨k, y, a, b, f, e, hk, _, hy, _⟩ := inv24 h1
    rw [e]
    rcases inv25 h2 with e2 | ⟨n, x, hs, _, _⟩
    · rw [e2]
      exact ⟨_, .refl _, law3n k y a b f hk hy⟩
    · exact ⟨_, .cons (.refl _) (.cons hs .nil), law3v k y a b f hk hy n x⟩

/-- A world for the witness. -/
noncomputable def laidWorld (os : Os) : World :=
  { World.holding Tryd.prog os ⟨#[], #[], []⟩ with heap := ((World.holding Tryd.prog os ⟨#[], #[], []⟩).heap.modify 0 fun
      | .cells _ t frozen => .cells #[.int .u8 107, .int .u8 112, .int .u8 111, .int .u8 47, .int .u8 118, .int .u8 116, .int .u8 115, .int .u8 99] t frozen
      | o => o) }
theorem laid_met (os : Os) : laidMet Tryd.prog Rows.stitchesLoadsRow.laid ((laidWorld os).forCall (fun _ _ => 0) ⟨#[], #[.agg #[.int .u8 1, .int .u8 1, .int .i64 0, .int .i64 0, .bool false], .slice none 0 0], []⟩).memory :=
  laidMet_of_run' 8 (by kernel_rfl) (by kernel_rfl)
theorem reads (os : Os) {H : Type} (enc : TypeId × Value → H) : ∃ places, DataW.whole enc Tryd.prog ((laidWorld os).forCall (fun _ _ => 0) ⟨#[], #[.agg #[.int .u8 1, .int .u8 1, .int .i64 0, .int .i64 0, .bool false], .slice none 0 0], []⟩).memory Tryd.f3.params.toList Rows.stitchesLoadsSpec.vars false (#[.agg #[.int .u8 1, .int .u8 1, .int .i64 0, .int .i64 0, .bool false], .slice none 0 0] : Array Value).toList 8 = some ([.agg [.lit (.int .u8 1), .lit (.int .u8 1), .lit (.int .i64 0), .lit (.int .i64 0), .lit (.bool false)], .nil], [], places) :=
  ⟨[], by kernel_rfl⟩

set_option maxRecDepth 100000 in
theorem lifted (os : Os) (started : os.Started) (H : Type) (enc : TypeId × Value → H) (F : Stop.Interp) :
    ReturnsInHanded {} Tryd.checked os 3 .any ((OpenSpec.ofChange Rows.stitchesLoadsSpec).preRow enc Tryd.prog Tryd.f3 Rows.stitchesLoadsRow.domain false Rows.stitchesLoadsRow.laid) (((OpenSpec.ofChange Rows.stitchesLoadsSpec).at F).post enc Tryd.prog Tryd.f3 false true false false) := by
  obtain ⟨places, hx⟩ := reads os enc
  refine returnsInHanded_of_row (C := Tryd.checked) (s := (OpenSpec.ofChange Rows.stitchesLoadsSpec)) own started (by kernel_rfl) Tryd.func3
    (witness_row_at (enc := enc) (C := Tryd.checked) false (laidWorld os) #[.agg #[.int .u8 1, .int .u8 1, .int .i64 0, .int .i64 0, .bool false], .slice none 0 0] rfl (by kernel_rfl) (by kernel_rfl) (by kernel_rfl)
      (OpenSpec.preRow_of_cond 8 hx (by kernel_rfl) (fun k hk => by cases hk) (by kernel_rfl) (laid_met os))) ?_
  intro W base args ds gs before hval hW _ _ _ hL _ _
  exact contract H enc W base args ds gs before hval hW hL

theorem said : Rows.StitchesLoadsSaid :=
  OpenClaim.holds_of_cond 3 Tryd.f3 rfl rfl rfl rfl rfl rfl rfl ⟨rfl, rfl, rfl, rfl, rfl⟩ rfl rfl rfl rfl rfl (by kernel_rfl) Tryd.func3 (by kernel_rfl)
    (of_decide_eq_true (by kernel_rfl)) (by unfold Func.isWrapper; first | (rw [if_pos (by decide +kernel)]; kernel_rfl) | (rw [if_neg (by decide +kernel)]; exact ⟨rfl, rfl⟩))
    (fun os started H enc _ F => by rw [OpenClaim.pre_eq_preRow]; exact lifted os started H enc F)

theorem plain (f : FuncId) (fn : Func) (hf : Tryd.pinned.checked.prog.funcNamed Rows.stitchesLoadsRow.func = some f) (hfn : Tryd.pinned.checked.prog.funcs[f]? = some fn) :
    false = Tryd.pinned.checked.prog.looks [] ∧ ∀ (j : Nat) t, fn.params[j]? = some t → Tryd.pinned.checked.prog.wantsStandIn t = false := by
  obtain rfl : f = 3 := Option.some.inj ((show Tryd.prog.funcNamed Rows.stitchesLoadsRow.func = some 3 by kernel_rfl).symm.trans hf) |>.symm
  obtain rfl : fn = Tryd.f3 := (Option.some.inj (Tryd.func3.symm.trans hfn)).symm
  refine ⟨by kernel_rfl, fun j t ht => ?_⟩
  rw [Tryd.params3] at ht
  have hm := Array.mem_of_getElem? ht
  simp only [List.mem_toArray, List.mem_cons, List.not_mem_nil, or_false] at hm
  rcases hm with rfl | rfl
  all_goals first | exact (show Tryd.prog.wantsStandIn _ = false by kernel_rfl)

/-- The card. -/
theorem card : Rows.StitchesLoadsCardSaid :=
  Claim7.holds_tied_plain_at .later [] _ _ _ _ said (fun _ h => by cases h) (by kernel_rfl) (fun _ h => by cases h) stitchesLoads_row_tie rfl ⟨rfl, rfl⟩ (by kernel_rfl) rfl plain (by kernel_rfl)
end Go.Proofs.YtkiedolofnakoaaDoor.stitchesLoads

