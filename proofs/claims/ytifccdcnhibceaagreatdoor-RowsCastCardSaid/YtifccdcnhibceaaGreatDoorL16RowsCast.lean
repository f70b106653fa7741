/-
  The casting on makes as many loops in slots of their own, and the yarn stands at the right; other numbers are errors.
-/
import Derived.Test.YtifccdcnhibceaaGreatDoorCards
import Derived.Test.YtifccdcnhibceaaGreatDoorTie
import Derived.Test.YtifccdcnhibceaaGreatDoorP21
import Derived.WalkKit
import Derived.ProofKit
import Derived.OpenShut
import Derived.Deep.DeepHandedRow
import Derived.Lib.LaidTab
set_option linter.all false
namespace Go.Proofs.YtifccdcnhibceaaGreatDoor.rowsCast
open Go.ChangeShapes Go.WideShapes Go.ChangeAt Go.RowKit Go.Ab

theorem own : ownKnob Tryz.prog.godebug = none := by kernel_rfl

/-- The package-level variables, as the row lists them. -/
theorem globals {W : World} (h : laidMetH Tryz.prog Rows.rowsCastRow.laid W) : Zz G16 W (fun b => b < W.heap.size) :=
  qci qkR (laid := Rows.rowsCastRow.laid) h ⟨⟨_, _, 175, by kernel_rfl, by kernel_rfl, by kernel_rfl, List.mem_cons_self, by kernel_rfl⟩, trivial⟩

set_option maxRecDepth 100000 in
theorem contract (H : Type) (enc : TypeId × Value → H) (W : World) (base : Nat) (args : Array Value) (ds gs : List (DataW H)) (before : List MemPlace)
    (hval : ∀ (j : Nat) t v, Tryz.f3.params[j]? = some t → args[j]? = some v → Value.okWide Tryz.prog W .any base t v)
    (hW : DataW.Whole enc Tryz.prog Tryz.f3.params.toList Rows.rowsCastSpec.vars false W args.toList ds gs before) (hL : laidMetH Tryz.prog Rows.rowsCastRow.laid W) :
    Calls Tryz.prog 3 args W fun e W' => ∃ v, e = .returned v ∧ Rows.rowsCastSpec.post enc Tryz.prog Tryz.f3 false true false false W args v W' := by
  refine qd2 qu qX qkR (tb := 4) rfl (fun ds h => ?_) rfl Tryz.underlying4 (fun t ht => ?_) hval hW (globals hL) (fun xs hx => ?_)
  · rw [Tryz.params3] at h
    match ds, h with
    | [a0, a1], _ => rfl
  · rw [Tryz.params3] at ht
    have ht : t ∈ [5, 3] := ht
    
    simp only [List.mem_cons, List.not_mem_nil, or_false] at ht
    rcases ht with rfl | rfl
    all_goals exact ⟨by kernel_rfl, by kernel_rfl⟩
  · rw [Tryz.params3] at hx
    have hx : ATs Tryz.prog [5, 3] xs ds := hx
    obtain ⟨_, _, d0, _, ts0, rfl, rfl, h0, rfl, hx0⟩ := hx.cons
    obtain ⟨_, _, d1, _, ts1, rfl, rfl, h1, rfl, hx1⟩ := hx0.cons
    obtain ⟨rfl, rfl⟩ := hx1.nil
    obtain ⟨y, rfl, hy1, hy2⟩ := qjk h0
    obtain ⟨n, rfl⟩ := qjl h1
    rw [qji, qjj]
    exact ⟨_, .cons (.refl _) (.cons (.refl _) .nil), qmx y n ⟨hy1, hy2⟩⟩

/-- A world for the witness. -/
noncomputable def laidWorld (os : Os) : World :=
  { World.holding Tryz.prog os ⟨#[], #[], []⟩ with heap := ((World.holding Tryz.prog os ⟨#[], #[], []⟩).heap.modify 0 fun
      | .cells _ t frozen => .cells #[.int .u8 107, .int .u8 112, .int .u8 111, .int .u8 47, .int .u8 118, .int .u8 116, .int .u8 115, .int .u8 99] t frozen
      | o => o) }
theorem laid_met (os : Os) : laidMet Tryz.prog Rows.rowsCastRow.laid ((laidWorld os).forCall (fun _ _ => 0) ⟨#[], #[.int .u8 1, .int .i64 1], []⟩).memory :=
  laidMet_of_run' 8 (by kernel_rfl) (by kernel_rfl)
theorem reads (os : Os) {H : Type} (enc : TypeId × Value → H) : ∃ places, DataW.whole enc Tryz.prog ((laidWorld os).forCall (fun _ _ => 0) ⟨#[], #[.int .u8 1, .int .i64 1], []⟩).memory Tryz.f3.params.toList Rows.rowsCastSpec.vars false (#[.int .u8 1, .int .i64 1] : Array Value).toList 8 = some ([.lit (.int .u8 1), .lit (.int .i64 1)], [], places) :=
  ⟨[], by kernel_rfl⟩

set_option maxRecDepth 100000 in
theorem lifted (os : Os) (started : os.Started) (H : Type) (enc : TypeId × Value → H) (F : Stop.Interp) :
    ReturnsInHanded {} Tryz.checked os 3 .any ((OpenSpec.ofChange Rows.rowsCastSpec).preRow enc Tryz.prog Tryz.f3 Rows.rowsCastRow.domain false Rows.rowsCastRow.laid) (((OpenSpec.ofChange Rows.rowsCastSpec).at F).post enc Tryz.prog Tryz.f3 false true false false) := by
  obtain ⟨places, hx⟩ := reads os enc
  refine returnsInHanded_of_row (C := Tryz.checked) (s := (OpenSpec.ofChange Rows.rowsCastSpec)) own started (by kernel_rfl) Tryz.func3
    (witness_row_at (enc := enc) (C := Tryz.checked) false (laidWorld os) #[.int .u8 1, .int .i64 1] rfl (by kernel_rfl) (by kernel_rfl) (by kernel_rfl)
      (OpenSpec.preRow_of_cond 8 hx (by kernel_rfl) (fun k hk => by cases hk) (by kernel_rfl) (laid_met os))) ?_
  intro W base args ds gs before hval hW _ _ _ hL _ _
  exact contract H enc W base args ds gs before hval hW hL

theorem said : Rows.RowsCastSaid :=
  OpenClaim.holds_of_cond 3 Tryz.f3 rfl rfl rfl rfl rfl rfl rfl ⟨rfl, rfl, rfl, rfl, rfl⟩ rfl rfl rfl rfl rfl (by kernel_rfl) Tryz.func3 (by kernel_rfl)
    (of_decide_eq_true (by kernel_rfl)) (by unfold Func.isWrapper; first | (rw [if_pos (by decide +kernel)]; kernel_rfl) | (rw [if_neg (by decide +kernel)]; exact ⟨rfl, rfl⟩))
    (fun os started H enc _ F => by rw [OpenClaim.pre_eq_preRow]; exact lifted os started H enc F)

theorem plain (f : FuncId) (fn : Func) (hf : Tryz.pinned.checked.prog.funcNamed Rows.rowsCastRow.func = some f) (hfn : Tryz.pinned.checked.prog.funcs[f]? = some fn) :
    false = Tryz.pinned.checked.prog.looks [] ∧ ∀ (j : Nat) t, fn.params[j]? = some t → Tryz.pinned.checked.prog.wantsStandIn t = false := by
  obtain rfl : f = 3 := Option.some.inj ((show Tryz.prog.funcNamed Rows.rowsCastRow.func = some 3 by kernel_rfl).symm.trans hf) |>.symm
  obtain rfl : fn = Tryz.f3 := (Option.some.inj (Tryz.func3.symm.trans hfn)).symm
  refine ⟨by kernel_rfl, fun j t ht => ?_⟩
  rw [Tryz.params3] at ht
  have hm := Array.mem_of_getElem? ht
  simp only [List.mem_toArray, List.mem_cons, List.not_mem_nil, or_false] at hm
  rcases hm with rfl | rfl
  all_goals first | exact (show Tryz.prog.wantsStandIn _ = false by kernel_rfl)

/-- The card. -/
theorem card : Rows.RowsCastCardSaid :=
  Claim7.holds_tied_plain_at .later [] _ _ _ _ said (fun _ h => by cases h) (by kernel_rfl) (fun _ h => by cases h) rowsCast_row_tie rfl ⟨rfl, rfl⟩ (by kernel_rfl) rfl plain (by kernel_rfl)
end Go.Proofs.YtifccdcnhibceaaGreatDoor.rowsCast

