/-
  Every valid stitch can be worked on slots with one loop each, and makes slots with at most 3 loops.
-/
import Derived.Test.YtkiedolofnakoaaDoorCards
import Derived.Test.YtkiedolofnakoaaDoorTie
import Derived.Test.YtkiedolofnakoaaDoorP7
import Derived.Test.YtkiedolofnakoaaDoorP9
import Derived.WalkKit
import Derived.ProofKit
import Derived.OpenShut
import Derived.Deep.DeepHandedRow
import Derived.Lib.LaidTab
set_option linter.all false
namespace Go.Proofs.YtkiedolofnakoaaDoor.stitchesFit
open Go.ChangeShapes Go.WideShapes Go.ChangeAt Go.RowKit Go.Ab

theorem own : ownKnob Tryd.prog.godebug = none := by kernel_rfl

/-- The package-level variables, as the row lists them. -/
theorem globals {W : World} (h : laidMetH Tryd.prog Rows.stitchesFitRow.laid W) : GlobOk G12 W (fun b => b < W.heap.size) :=
  globOk_of hl12 (laid := Rows.stitchesFitRow.laid) h ⟨⟨_, _, 53, by kernel_rfl, by kernel_rfl, by kernel_rfl, List.mem_cons_self, by kernel_rfl⟩, trivial⟩

theorem contract (H : Type) (enc : TypeId × Value → H) (W : World) (base : Nat) (args : Array Value) (ds gs : List (DataW H)) (before : List MemPlace)
    (hval : ∀ (j : Nat) t v, Tryd.f4.params[j]? = some t → args[j]? = some v → Value.okWide Tryd.prog W .any base t v)
    (hW : DataW.Whole enc Tryd.prog Tryd.f4.params.toList Rows.stitchesFitSpec.vars false W args.toList ds gs before) (hL : laidMetH Tryd.prog Rows.stitchesFitRow.laid W) :
    Calls Tryd.prog 4 args W fun e W' => ∃ v, e = .returned v ∧ Rows.stitchesFitSpec.post enc Tryd.prog Tryd.f4 false true false false W args v W' := by
  refine contract_of hm12 hn12 hl12 (tb := 4) rfl (fun ds h => ?_) rfl Tryd.underlying4 (fun t ht => ?_) hval hW (globals hL) (fun xs hx => ?_)
  · rw [Tryd.params4] at h
    match ds, h with
    | [a0, a1], _ => rfl
  · rw [Tryd.params4] at ht
    have ht : t ∈ [34, 35] := ht
    
    simp only [List.mem_cons, List.not_mem_nil, or_false] at ht
    rcases ht with rfl | rfl
    all_goals exact ⟨by kernel_rfl, by kernel_rfl⟩
  · rw [Tryd.params4] at hx
    have hx : ATs Tryd.prog [34, 35] xs ds := hx
    obtain ⟨_, _, d, _, ts, rfl, rfl, h1, rfl, hx2⟩ := hx.cons
    obtain ⟨_, _, d2, _, ts2, rfl, rfl, h2, rfl, hx3⟩ := hx2.cons
    obtain ⟨rfl, rfl⟩ := hx3.nil
    obtain ⟨k, y, a, f, e, q1, q2, q3, q4, q5, _⟩ := inv34 h1
    obtain ⟨l0, l1, l2, l3, e', r1, r2, r3, r4⟩ := inv35 h2
    rw [e, e']
    exact ⟨_, .refl _, law4 k y a l0 l1 l2 l3 f (by simp [kposF, q1, q2, q3, q4, q5]) r1 r2 r3 r4⟩

/-- A world for the witness. -/
noncomputable def laidWorld (os : Os) : World :=
  { World.holding Tryd.prog os ⟨#[], #[], []⟩ with heap := ((World.holding Tryd.prog os ⟨#[], #[], []⟩).heap.modify 0 fun
      | .cells _ t frozen => .cells #[.int .u8 107, .int .u8 112, .int .u8 111, .int .u8 47, .int .u8 118, .int .u8 116, .int .u8 115, .int .u8 99] t frozen
      | o => o) }
theorem laid_met (os : Os) : laidMet Tryd.prog Rows.stitchesFitRow.laid ((laidWorld os).forCall (fun _ _ => 0) ⟨#[], #[.agg #[.int .u8 0, .int .u8 0, .int .u8 0, .bool false], .agg #[.int .u8 0, .int .u8 0, .int .u8 0, .int .u8 0]], []⟩).memory :=
  laidMet_of_run' 8 (by kernel_rfl) (by kernel_rfl)
theorem reads (os : Os) {H : Type} (enc : TypeId × Value → H) : ∃ places, DataW.whole enc Tryd.prog ((laidWorld os).forCall (fun _ _ => 0) ⟨#[], #[.agg #[.int .u8 0, .int .u8 0, .int .u8 0, .bool false], .agg #[.int .u8 0, .int .u8 0, .int .u8 0, .int .u8 0]], []⟩).memory Tryd.f4.params.toList Rows.stitchesFitSpec.vars false (#[.agg #[.int .u8 0, .int .u8 0, .int .u8 0, .bool false], .agg #[.int .u8 0, .int .u8 0, .int .u8 0, .int .u8 0]] : Array Value).toList 8 = some ([.agg [.lit (.int .u8 0), .lit (.int .u8 0), .lit (.int .u8 0), .lit (.bool false)], .agg [.lit (.int .u8 0), .lit (.int .u8 0), .lit (.int .u8 0), .lit (.int .u8 0)]], [], places) :=
  ⟨[], by kernel_rfl⟩

set_option maxRecDepth 100000 in
theorem lifted (os : Os) (started : os.Started) (H : Type) (enc : TypeId × Value → H) (F : Stop.Interp) :
    ReturnsInHanded {} Tryd.checked os 4 .any ((OpenSpec.ofChange Rows.stitchesFitSpec).preRow enc Tryd.prog Tryd.f4 Rows.stitchesFitRow.domain false Rows.stitchesFitRow.laid) (((OpenSpec.ofChange Rows.stitchesFitSpec).at F).post enc Tryd.prog Tryd.f4 false true false false) := by
  obtain ⟨places, hx⟩ := reads os enc
  refine returnsInHanded_of_row (C := Tryd.checked) (s := (OpenSpec.ofChange Rows.stitchesFitSpec)) own started (by kernel_rfl) Tryd.func4
    (witness_row_at (enc := enc) (C := Tryd.checked) false (laidWorld os) #[.agg #[.int .u8 0, .int .u8 0, .int .u8 0, .bool false], .agg #[.int .u8 0, .int .u8 0, .int .u8 0, .int .u8 0]] rfl (by kernel_rfl) (by kernel_rfl) (by kernel_rfl)
      (OpenSpec.preRow_of_cond 8 hx (by kernel_rfl) (fun k hk => by cases hk) (by kernel_rfl) (laid_met os))) ?_
  intro W base args ds gs before hval hW _ _ _ hL _ _
  exact contract H enc W base args ds gs before hval hW hL

theorem said : Rows.StitchesFitSaid :=
  OpenClaim.holds_of_cond 4 Tryd.f4 rfl rfl rfl rfl rfl rfl rfl ⟨rfl, rfl, rfl, rfl, rfl⟩ rfl rfl rfl rfl rfl (by kernel_rfl) Tryd.func4 (by kernel_rfl)
    (of_decide_eq_true (by kernel_rfl)) (by unfold Func.isWrapper; first | (rw [if_pos (by decide +kernel)]; kernel_rfl) | (rw [if_neg (by decide +kernel)]; exact ⟨rfl, rfl⟩))
    (fun os started H enc _ F => by rw [OpenClaim.pre_eq_preRow]; exact lifted os started H enc F)

theorem plain (f : FuncId) (fn : Func) (hf : Tryd.pinned.checked.prog.funcNamed Rows.stitchesFitRow.func = some f) (hfn : Tryd.pinned.checked.prog.funcs[f]? = some fn) :
    false = Tryd.pinned.checked.prog.looks [] ∧ ∀ (j : Nat) t, fn.params[j]? = some t → Tryd.pinned.checked.prog.wantsStandIn t = false := by
  obtain rfl : f = 4 := Option.some.inj ((show Tryd.prog.funcNamed Rows.stitchesFitRow.func = some 4 by kernel_rfl).symm.trans hf) |>.symm
  obtain rfl : fn = Tryd.f4 := (Option.some.inj (Tryd.func4.symm.trans hfn)).symm
  refine ⟨by kernel_rfl, fun j t ht => ?_⟩
  rw [Tryd.params4] at ht
  have hm := Array.mem_of_getElem? ht
  simp only [List.mem_toArray, List.mem_cons, List.not_mem_nil, or_false] at hm
  rcases hm with rfl | rfl
  all_goals first | exact (show Tryd.prog.wantsStandIn _ = false by kernel_rfl)

/-- The card. -/
theorem card : Rows.StitchesFitCardSaid :=
  Claim7.holds_tied_plain_at .later [] _ _ _ _ said (fun _ h => by cases h) (by kernel_rfl) (fun _ h => by cases h) stitchesFit_row_tie rfl ⟨rfl, rfl⟩ (by kernel_rfl) rfl plain (by kernel_rfl)
end Go.Proofs.YtkiedolofnakoaaDoor.stitchesFit

