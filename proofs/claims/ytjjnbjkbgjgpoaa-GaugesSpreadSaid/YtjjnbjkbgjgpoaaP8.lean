/- Small words for what is told of loops. -/
import Derived.Test.YtjjnbjkbgjgpoaaP6
set_option linter.all false
namespace Go.Ab
/-- The same blocks, asked. -/
noncomputable def sameF (h h2 : Heap) : Bool := @decide (SameBlks h h2) (Classical.propDecidable _)
theorem sameF_iff {h h2 : Heap} : sameF h h2 = true ↔ SameBlks h h2 := by simp [sameF]
theorem SameBlks.refl (h : Heap) : SameBlks h h := ⟨rfl, fun i b b2 h1 h2 => by rw [h1] at h2; obtain rfl := Option.some.inj h2; exact ⟨rfl, rfl, rfl, fun h => h, fun _ _ => rfl⟩⟩
theorem SameBlks.nil : SameBlks [] [] := .refl []
theorem SameBlks.cons {b b2 : Blk} {h h2 : Heap} (hb : b2.ver = b.ver ∧ b2.sz = b.sz ∧ b2.n = b.n ∧ (b2.flat = true → b.flat = true) ∧ ∀ j, j < b.n → b2.get j = b.get j) (hs : SameBlks h h2) : SameBlks (b :: h) (b2 :: h2) := by
  refine ⟨by simp [hs.1], fun i x y h1 h3 => ?_⟩
  cases i with
  | zero => simp at h1 h3; subst h1; subst h3; exact hb
  | succ i => exact hs.2 i x y (by simpa using h1) (by simpa using h3)
theorem LT.ite_some {c : Bool} {e e' : Ex} {vs vs' : List T} {h h' : Heap} (hk : (LT.ite c (.ret e vs h) .none).run (fun e vs h => some (e, vs, h)) = some (e', vs', h')) : c = true ∧ e = e' ∧ vs = vs' ∧ h = h' := by
  simp only [LT.run] at hk
  obtain ⟨hc, hk⟩ := bif_none hk
  simp only [Option.some.injEq, Prod.mk.injEq] at hk
  exact ⟨hc, hk.1, hk.2.1, hk.2.2⟩

section
variable {P : Program} {Gl : Nat → Option (List T)}
/-- One round of a loop, over some table of what is known. -/
def Rnd (P : Program) (Gl : Nat → Option (List T)) (an : Ann) (f r : Nat) (vs : List T) (h : Heap) (e : Ex) (vs' : List T) (h' : Heap) : Prop :=
  ∃ (A : FuncId → Ann) (K : Orc) (m : Nat) (l : List (Nat × (List T → Heap → LT))), OrcOk P Gl K ∧ (A f).prom = an.prom ∧ (A f).live r = an.live r ∧ (∀ p ∈ l, LoopOk P Gl (A f) f p.1 p.2) ∧ iterR P Gl A K m f l r vs h = some (e, vs', h')
theorem Rnd.of {an : Ann} {f r m : Nat} {vs vs' : List T} {h h' : Heap} {e : Ex} (A : FuncId → Ann) {K : Orc} (hK : OrcOk P Gl K) (hp : (A f).prom = an.prom) (hl : (A f).live r = an.live r) (hr : iterR P Gl A K m f [] r vs h = some (e, vs', h')) : Rnd P Gl an f r vs h e vs' h' :=
  ⟨A, K, m, [], hK, hp, hl, fun p hp => (by cases hp), hr⟩
theorem loop_seq (hm : P.follows .mixedOrders = true) {f r : Nat} (ha : loopAt P f r = true) {an : Ann} {fn : Func} (hf : P.funcs[f]? = some fn) (hnt : fn.ntmps ≤ 1024) (vs : Nat → List T) (hh : Nat → Heap) {n : Nat} {e1 : Ex} {vs1 : List T} {h1 : Heap}
    (round : ∀ i, i < n → ∃ vs' h', Rnd P Gl an f r (vs i) (hh i) .normal vs' h' ∧ WeakTo Gl an.prom fn.ntmps (an.live r false) (hh 0).length vs' h' (vs (i + 1)) (hh (i + 1)))
    (last : e1 ≠ .normal ∧ ∃ vs' h', Rnd P Gl an f r (vs n) (hh n) e1 vs' h' ∧ WeakTo Gl an.prom fn.ntmps (an.live r true) (hh 0).length vs' h' vs1 h1) :
    CodeGoes P Gl an.prom fn.ntmps (asLoop (bodyAt P f r)) (mkSt (an.live r false) (vs 0) (hh 0)) e1 (mkSt (an.live r true) vs1 h1) := by
  refine loop_told2 hm ha (fun m v h => ∃ i, i ≤ n ∧ m = n - i ∧ v = vs i ∧ h = hh i) hf hnt (fun m v h hI => ?_) (n := n) ⟨0, by omega, by omega, rfl, rfl⟩
  obtain ⟨i, hi, rfl, rfl, rfl⟩ := hI
  rcases Nat.lt_or_ge i n with hlt | hge
  · obtain ⟨vs', h', ⟨A, K, m, l, q1, q2, q3, q4, q5⟩, hw⟩ := round i hlt
    exact ⟨A, K, m, l, q1, q2, q3, q4, .normal, vs', h', q5, .inl ⟨rfl, n - (i + 1), _, _, by omega, hw, i + 1, by omega, rfl, rfl, rfl⟩⟩
  · obtain rfl : i = n := by omega
    obtain ⟨hne, vs', h', ⟨A, K, m, l, q1, q2, q3, q4, q5⟩, hw⟩ := last
    exact ⟨A, K, m, l, q1, q2, q3, q4, e1, vs', h', q5, .inr ⟨hne, rfl, hw⟩⟩
end
end Go.Ab

