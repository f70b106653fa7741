/- A part of the proof: nothing is assumed. -/
import Derived.Test.YteoamlekamflbaaP8
import Derived.Test.YteoamlekamflbaaP4
set_option linter.all false
namespace Go.Ab
section
variable {P : Program} {Gl : Nat -> Option (List T)}
noncomputable def loopF (q : List T -> Heap -> Ex -> List T -> Heap -> Prop) : LT -> List T -> Heap -> LT
 | .none, _, _ => .none
 | .ret e vs' h', vs, h => .ite (decF (q vs h e vs' h')) (.ret e vs' h') .none
 | .ite c x y, vs, h => .ite c (loopF q x vs h) (loopF q y vs h)
theorem is_loop (P : Program) (Gl : Nat -> Option (List T)) (an : Ann) (f r : Nat) : ∃ q : List T -> Heap -> Ex -> List T -> Heap -> Prop, q = fun vs h e vs' h' => LoopOk P Gl an f r (litS vs h e vs' h') := ⟨_, rfl⟩
theorem loopF_ok {an : Ann} {f r : Nat} {q : List T -> Heap -> Ex -> List T -> Heap -> Prop} (hq : q = fun vs h e vs' h' => LoopOk P Gl an f r (litS vs h e vs' h')) : ∀ t : LT, LoopOk P Gl an f r (loopF q t)
 | .none, fn, hf, hnt, vs, h, e, vs', h', hk => by cases hk
 | .ret e1 v1 h1, fn, hf, hnt, vs, h, e, vs', h', hk => by
  simp only [loopF, LT.run] at hk
  obtain ⟨hc, hk⟩ := bif_none hk
  simp only [Option.some.injEq, Prod.mk.injEq] at hk
  obtain ⟨rfl, rfl, rfl⟩ := hk
  have := decF_iff.1 hc
  rw [hq] at this
  refine this fn hf hnt vs h e1 v1 h1 ?_
  unfold litS
  simp only [LT.run]
  rw [weakF_of ⟨rfl, .refl _⟩]
  rfl
 | .ite c x y, fn, hf, hnt, vs, h, e, vs', h', hk => by
  simp only [loopF, LT.run] at hk
  cases c
  ·exact loopF_ok hq y fn hf hnt vs h e vs' h' hk
  ·exact loopF_ok hq x fn hf hnt vs h e vs' h' hk
theorem loopF_yes {an : Ann} {f r : Nat} {q : List T -> Heap -> Ex -> List T -> Heap -> Prop} (hq : q = fun vs h e vs' h' => LoopOk P Gl an f r (litS vs h e vs' h')) {vs vs1 : List T} {h h1 : Heap} {e : Ex} (l : LoopOk P Gl an f r (litS vs h e vs1 h1)) : decF (q vs h e vs1 h1) = true := decF_iff.2 (by rw [hq]; exact l)
def allB (g : Nat -> Bool) : Nat -> Bool
 | 0 => true
 | n + 1 => allB g n && g n
theorem allB_iff (g : Nat -> Bool) : ∀ n, allB g n = true ↔ ∀ i, i < n -> g i = true
 | 0 => ⟨fun _ i h => by omega, fun _ => rfl⟩
 | n + 1 => by
  have ih := allB_iff g n
  unfold allB
  rw [Bool.and_eq_true, ih]
  constructor
  ·intro ⟨h1, h2⟩ i hi
   by_cases e : i = n
   ·rw [e]; exact h2
   ·exact h1 i (by omega)
  ·exact fun h => ⟨fun i hi => h i (by omega), h n (by omega)⟩
theorem first_badB (p : Nat -> Bool) (n : Nat) : allB p n = true ∨ ∃ I, I < n /\ p I = false /\ ∀ i, i < I -> p i = true := by
 induction n with
 | zero => exact .inl rfl
 | succ n ih =>
  rcases ih with h | ⟨I, h1, h2, h3⟩
  ·cases q : p n
   ·exact .inr ⟨n, by omega, q, (allB_iff p n).1 h⟩
   ·exact .inl (by unfold allB; rw [h, q]; rfl)
  ·exact .inr ⟨I, by omega, h2, h3⟩
theorem loop_scan (hm : P.follows .mixedOrders = true) {f r : Nat} (ha : loopAt P f r = true) {an : Ann} (vs : Nat -> List T) (hh : Nat -> Heap) (good : Nat -> Bool) {n : Nat} {e1 e2 : Ex} {v1 v2 : List T} {h1 h2 : Heap}
 (step : ∀ i, i < n -> (∀ j, j < i -> good j = true) -> good i = true -> Step P Gl an f r (hh 0).length (vs i) (hh i) (vs (i + 1)) (hh (i + 1)))
 (bad : ∀ i, i < n -> (∀ j, j < i -> good j = true) -> good i = false -> Last P Gl an f r (hh 0).length (vs i) (hh i) e2 v2 h2)
 (last : (∀ i, i < n -> good i = true) -> Last P Gl an f r (hh 0).length (vs n) (hh n) e1 v1 h1) :
 (allB good n = true -> LoopOk P Gl an f r (litS (vs 0) (hh 0) e1 v1 h1)) /\ (allB good n = false -> LoopOk P Gl an f r (litS (vs 0) (hh 0) e2 v2 h2)) := by
 constructor
 ·intro h
  have h := (allB_iff good n).1 h
  exact loop_steps hm ha vs hh (n := n) (fun i hi => step i hi (fun j hj => h j (by omega)) (h i hi)) (last h)
 ·intro h
  rcases first_badB good n with q | ⟨I, hI, hb, hlt⟩
  ·rw [q] at h; cases h
  ·exact loop_steps hm ha vs hh (n := I) (fun i hi => step i (by omega) (fun j hj => hlt j (by omega)) (hlt i hi)) (bad I hI hlt hb)
theorem loop_scanE (hm : P.follows .mixedOrders = true) {f r : Nat} (ha : loopAt P f r = true) {an : Ann} (vs : Nat -> List T) (hh : Nat -> Heap) (good : Nat -> Bool) {n : Nat} {e1 : Ex} {v1 : List T} {h1 : Heap} (Post : Ex -> List T -> Heap -> Prop)
 (step : ∀ i, i < n -> (∀ j, j < i -> good j = true) -> good i = true -> Step P Gl an f r (hh 0).length (vs i) (hh i) (vs (i + 1)) (hh (i + 1)))
 (bad : ∀ i, i < n -> (∀ j, j < i -> good j = true) -> good i = false -> ∃ e2 v2 h2, Post e2 v2 h2 /\ Last P Gl an f r (hh 0).length (vs i) (hh i) e2 v2 h2)
 (last : (∀ i, i < n -> good i = true) -> Last P Gl an f r (hh 0).length (vs n) (hh n) e1 v1 h1) :
 (allB good n = true -> LoopOk P Gl an f r (litS (vs 0) (hh 0) e1 v1 h1)) /\ (allB good n = false -> ∃ e2 v2 h2, Post e2 v2 h2 /\ LoopOk P Gl an f r (litS (vs 0) (hh 0) e2 v2 h2)) := by
 constructor
 ·intro h
  have h := (allB_iff good n).1 h
  exact loop_steps hm ha vs hh (n := n) (fun i hi => step i hi (fun j hj => h j (by omega)) (h i hi)) (last h)
 ·intro h
  rcases first_badB good n with q | ⟨I, hI, hb, hlt⟩
  ·rw [q] at h; cases h
  ·obtain ⟨e2, v2, h2, q1, q2⟩ := bad I hI hlt hb
   exact ⟨e2, v2, h2, q1, loop_steps hm ha vs hh (n := I) (fun i hi => step i (by omega) (fun j hj => hlt j (by omega)) (hlt i hi)) q2⟩
end
end Go.Ab

