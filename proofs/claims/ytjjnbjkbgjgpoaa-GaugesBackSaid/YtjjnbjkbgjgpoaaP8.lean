/- Small words for what is told of loops. -/
import Derived.Test.YtjjnbjkbgjgpoaaP6
set_option linter.all false
namespace Go.Ab
/-- The same blocks, asked. -/
noncomputable def sameF (h h2 : Heap) : Bool := @decide (SameBlks h h2) (Classical.propDecidable _)
theorem sameF_iff {h h2 : Heap} : sameF h h2 = true ↔ SameBlks h h2 := by simp [sameF]
theorem SameBlks.refl (h : Heap) : SameBlks h h := ⟨rfl, fun i b b2 h1 h2 => by rw [h1] at h2; obtain rfl := Option.some.inj h2; exact ⟨rfl, rfl, rfl, fun h => h, fun _ _ => rfl⟩⟩
theorem SameBlks.nil : SameBlks [] [] := .refl []
theorem SameBlks.cons {b b2 : Blk} {h h2 : Heap} (hb : b2.ver = b.ver ∧ b2.sz = b.sz ∧ b2.n = b.n ∧ (b2.flat = true → b.flat = true) ∧ ∀ j, j < b.n → b2.get j = b.get j) (hs : SameBlks h h2) : SameBlks (b :: h) (b2 :: h2) := by
  refine ⟨by simp [hs.1], fun i x y h1 h3 => ?_⟩
  cases i with
  | zero => simp at h1 h3; subst h1; subst h3; exact hb
  | succ i => exact hs.2 i x y (by simpa using h1) (by simpa using h3)
theorem LT.ite_some {c : Bool} {e e' : Ex} {vs vs' : List T} {h h' : Heap} (hk : (LT.ite c (.ret e vs h) .none).run (fun e vs h => some (e, vs, h)) = some (e', vs', h')) : c = true ∧ e = e' ∧ vs = vs' ∧ h = h' := by
  simp only [LT.run] at hk
  obtain ⟨hc, hk⟩ := bif_none hk
  simp only [Option.some.injEq, Prod.mk.injEq] at hk
  exact ⟨hc, hk.1, hk.2.1, hk.2.2⟩
end Go.Ab

