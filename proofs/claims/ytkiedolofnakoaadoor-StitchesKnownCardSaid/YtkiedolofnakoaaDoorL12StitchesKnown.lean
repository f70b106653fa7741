/-
  The examples of the chapter; stitches derived from a counter.
-/
import Derived.Test.YtkiedolofnakoaaDoorCards
import Derived.Test.YtkiedolofnakoaaDoorTie
import Derived.Test.YtkiedolofnakoaaDoorP18
import Derived.Test.YtkiedolofnakoaaDoorP20
import Derived.WalkKit
import Derived.ProofKit
import Derived.OpenShut
import Derived.Deep.DeepHandedRow
import Derived.Lib.LaidTab
set_option linter.all false
namespace Go.Proofs.YtkiedolofnakoaaDoor.stitchesKnown
open Go.ChangeShapes Go.WideShapes Go.ChangeAt Go.RowKit Go.Ab

theorem own : ownKnob Tryd.prog.godebug = none := by kernel_rfl

/-- The package-level variables, as the row lists them. -/
theorem globals {W : World} (h : laidMetH Tryd.prog Rows.stitchesKnownRow.laid W) : GlobOk G12 W (fun b => b < W.heap.size) :=
  globOk_of hl12 (laid := Rows.stitchesKnownRow.laid) h ⟨⟨_, _, 53, by kernel_rfl, by kernel_rfl, by kernel_rfl, List.mem_cons_self, by kernel_rfl⟩, trivial⟩

theorem contract (H : Type) (enc : TypeId × Value → H) (W : World) (base : Nat) (args : Array Value) (ds gs : List (DataW H)) (before : List MemPlace)
    (hval : ∀ (j : Nat) t v, Tryd.f9.params[j]? = some t → args[j]? = some v → Value.okWide Tryd.prog W .any base t v)
    (hW : DataW.Whole enc Tryd.prog Tryd.f9.params.toList Rows.stitchesKnownSpec.vars false W args.toList ds gs before) (hL : laidMetH Tryd.prog Rows.stitchesKnownRow.laid W) :
    Calls Tryd.prog 9 args W fun e W' => ∃ v, e = .returned v ∧ Rows.stitchesKnownSpec.post enc Tryd.prog Tryd.f9 false true false false W args v W' := by
  refine contract_of hm12 hn12 hl12 (tb := 4) rfl (fun ds h => ?_) rfl Tryd.underlying4 (fun t ht => ?_) hval hW (globals hL) (fun xs hx => ?_)
  · rw [Tryd.params9] at h
    match ds, h with
    | [], _ => rfl
  · rw [Tryd.params9] at ht
    cases ht
    
    
    
    
  · rw [Tryd.params9] at hx
    have hx : ATs Tryd.prog [] xs ds := hx
    obtain ⟨rfl, rfl⟩ := hx.nil
    exact ⟨_, .refl _, law9⟩

/-- A world for the witness. -/
noncomputable def laidWorld (os : Os) : World :=
  { World.holding Tryd.prog os ⟨#[], #[], []⟩ with heap := ((World.holding Tryd.prog os ⟨#[], #[], []⟩).heap.modify 0 fun
      | .cells _ t frozen => .cells #[.int .u8 107, .int .u8 112, .int .u8 111, .int .u8 47, .int .u8 118, .int .u8 116, .int .u8 115, .int .u8 99] t frozen
      | o => o) }
theorem laid_met (os : Os) : laidMet Tryd.prog Rows.stitchesKnownRow.laid ((laidWorld os).forCall (fun _ _ => 0) ⟨#[], #[], []⟩).memory :=
  laidMet_of_run' 8 (by kernel_rfl) (by kernel_rfl)
theorem reads (os : Os) {H : Type} (enc : TypeId × Value → H) : ∃ places, DataW.whole enc Tryd.prog ((laidWorld os).forCall (fun _ _ => 0) ⟨#[], #[], []⟩).memory Tryd.f9.params.toList Rows.stitchesKnownSpec.vars false (#[] : Array Value).toList 8 = some ([], [], places) :=
  ⟨[], by kernel_rfl⟩

set_option maxRecDepth 100000 in
theorem lifted (os : Os) (started : os.Started) (H : Type) (enc : TypeId × Value → H) (F : Stop.Interp) :
    ReturnsInHanded {} Tryd.checked os 9 .any ((OpenSpec.ofChange Rows.stitchesKnownSpec).preRow enc Tryd.prog Tryd.f9 Rows.stitchesKnownRow.domain false Rows.stitchesKnownRow.laid) (((OpenSpec.ofChange Rows.stitchesKnownSpec).at F).post enc Tryd.prog Tryd.f9 false true false false) := by
  obtain ⟨places, hx⟩ := reads os enc
  refine returnsInHanded_of_row (C := Tryd.checked) (s := (OpenSpec.ofChange Rows.stitchesKnownSpec)) own started (by kernel_rfl) Tryd.func9
    (witness_row_at (enc := enc) (C := Tryd.checked) false (laidWorld os) #[] rfl (by kernel_rfl) (by kernel_rfl) (by kernel_rfl)
      (OpenSpec.preRow_of_cond 8 hx (by kernel_rfl) (fun k hk => by cases hk) (by kernel_rfl) (laid_met os))) ?_
  intro W base args ds gs before hval hW _ _ _ hL _ _
  exact contract H enc W base args ds gs before hval hW hL

theorem said : Rows.StitchesKnownSaid :=
  OpenClaim.holds_of_cond 9 Tryd.f9 rfl rfl rfl rfl rfl rfl rfl ⟨rfl, rfl, rfl, rfl, rfl⟩ rfl rfl rfl rfl rfl (by kernel_rfl) Tryd.func9 (by kernel_rfl)
    (of_decide_eq_true (by kernel_rfl)) (by unfold Func.isWrapper; first | (rw [if_pos (by decide +kernel)]; kernel_rfl) | (rw [if_neg (by decide +kernel)]; exact ⟨rfl, rfl⟩))
    (fun os started H enc _ F => by rw [OpenClaim.pre_eq_preRow]; exact lifted os started H enc F)

theorem plain (f : FuncId) (fn : Func) (hf : Tryd.pinned.checked.prog.funcNamed Rows.stitchesKnownRow.func = some f) (hfn : Tryd.pinned.checked.prog.funcs[f]? = some fn) :
    false = Tryd.pinned.checked.prog.looks [] ∧ ∀ (j : Nat) t, fn.params[j]? = some t → Tryd.pinned.checked.prog.wantsStandIn t = false := by
  obtain rfl : f = 9 := Option.some.inj ((show Tryd.prog.funcNamed Rows.stitchesKnownRow.func = some 9 by kernel_rfl).symm.trans hf) |>.symm
  obtain rfl : fn = Tryd.f9 := (Option.some.inj (Tryd.func9.symm.trans hfn)).symm
  refine ⟨by kernel_rfl, fun j t ht => ?_⟩
  rw [Tryd.params9] at ht
  have hm := Array.mem_of_getElem? ht
  simp at hm
  
  

/-- The card. -/
theorem card : Rows.StitchesKnownCardSaid :=
  Claim7.holds_tied_plain_at .later [] _ _ _ _ said (fun _ h => by cases h) (by kernel_rfl) (fun _ h => by cases h) stitchesKnown_row_tie rfl ⟨rfl, rfl⟩ (by kernel_rfl) rfl plain (by kernel_rfl)
end Go.Proofs.YtkiedolofnakoaaDoor.stitchesKnown

