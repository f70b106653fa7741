/- Small words for what is told of loops. -/
import Derived.Test.YtjjnbjkbgjgpoaaP6
set_option linter.all false
namespace Go.Ab
/-- The same blocks, asked. -/
noncomputable def sameF (h h2 : Heap) : Bool := @decide (SameBlks h h2) (Classical.propDecidable _)
theorem sameF_iff {h h2 : Heap} : sameF h h2 = true ↔ SameBlks h h2 := by simp [sameF]
theorem SameBlks.refl (h : Heap) : SameBlks h h := ⟨rfl, fun i b b2 h1 h2 => by rw [h1] at h2; obtain rfl := Option.some.inj h2; exact ⟨rfl, rfl, rfl, .inl, fun _ _ => rfl⟩⟩
theorem SameBlks.nil : SameBlks [] [] := .refl []
theorem SameBlks.cons {b b2 : Blk} {h h2 : Heap} (hb : b2.ver = b.ver ∧ b2.sz = b.sz ∧ b2.n = b.n ∧ (b2.flat = true → b.flat = true) ∧ ∀ j, j < b.n → b2.get j = b.get j) (hs : SameBlks h h2) : SameBlks (b :: h) (b2 :: h2) := by
  refine ⟨by simp [hs.1], fun i x y h1 h3 => ?_⟩
  cases i with
  | zero => simp at h1 h3; subst h1; subst h3; exact ⟨hb.1, hb.2.1, hb.2.2.1, fun q => .inl (hb.2.2.2.1 q), hb.2.2.2.2⟩
  | succ i => exact hs.2 i x y (by simpa using h1) (by simpa using h3)
theorem SameBlks.cons' {b b2 : Blk} {h h2 : Heap} (hb : b2.ver = b.ver ∧ b2.sz = b.sz ∧ b2.n = b.n ∧ (∀ j, j < b.n → b2.get j = b.get j)) (hp : ∀ j, j < b.n → (b2.get j).all plain0 = true) (hs : SameBlks h h2) : SameBlks (b :: h) (b2 :: h2) := by
  refine ⟨by simp [hs.1], fun i x y h1 h3 => ?_⟩
  cases i with
  | zero => simp at h1 h3; subst h1; subst h3; exact ⟨hb.1, hb.2.1, hb.2.2.1, fun _ => .inr fun j hj => by rw [← hb.2.2.2 j hj]; exact hp j hj, hb.2.2.2⟩
  | succ i => exact hs.2 i x y (by simpa using h1) (by simpa using h3)
theorem LT.ite_some {c : Bool} {e e' : Ex} {vs vs' : List T} {h h' : Heap} (hk : (LT.ite c (.ret e vs h) .none).run (fun e vs h => some (e, vs, h)) = some (e', vs', h')) : c = true ∧ e = e' ∧ vs = vs' ∧ h = h' := by
  simp only [LT.run] at hk
  obtain ⟨hc, hk⟩ := bif_none hk
  simp only [Option.some.injEq, Prod.mk.injEq] at hk
  exact ⟨hc, hk.1, hk.2.1, hk.2.2⟩

section
variable {P : Program} {Gl : Nat → Option (List T)}
theorem WeakTo.takeM {prom : List Nat} {nt : Nat} {l : List Nat} {k m : Nat} {vs : List T} {h : Heap} (hkm : k ≤ m) (ht : trimOk m vs h = true) : WeakTo Gl prom nt l k vs h vs (h.take m) :=
  fun g _ _ _ _ _ hk _ hf hs => ⟨g, hs.take ht, hf.take (Nat.le_trans hk hkm), .refl g⟩
/-- One round of a loop, over some table of what is known. -/
def Rnd (P : Program) (Gl : Nat → Option (List T)) (an : Ann) (f r : Nat) (vs : List T) (h : Heap) (e : Ex) (vs' : List T) (h' : Heap) : Prop :=
  ∃ (A : FuncId → Ann) (K : Orc) (m : Nat) (l : List (Nat × (List T → Heap → LT))), OrcOk P Gl K ∧ (A f).prom = an.prom ∧ (A f).live r = an.live r ∧ (∀ p ∈ l, LoopOk P Gl (A f) f p.1 p.2) ∧ iterR P Gl A K m f l r vs h = some (e, vs', h')
theorem Rnd.of {an : Ann} {f r m : Nat} {vs vs' : List T} {h h' : Heap} {e : Ex} (A : FuncId → Ann) {K : Orc} (hK : OrcOk P Gl K) (hp : (A f).prom = an.prom) (hl : (A f).live r = an.live r) (hr : iterR P Gl A K m f [] r vs h = some (e, vs', h')) : Rnd P Gl an f r vs h e vs' h' :=
  ⟨A, K, m, [], hK, hp, hl, fun p hp => (by cases hp), hr⟩
theorem loop_seq (hm : P.follows .mixedOrders = true) {f r : Nat} (ha : loopAt P f r = true) {an : Ann} {fn : Func} (hf : P.funcs[f]? = some fn) (hnt : fn.ntmps ≤ 1024) (vs : Nat → List T) (hh : Nat → Heap) {n : Nat} {e1 : Ex} {vs1 : List T} {h1 : Heap}
    (round : ∀ i, i < n → ∃ vs' h', Rnd P Gl an f r (vs i) (hh i) .normal vs' h' ∧ WeakTo Gl an.prom fn.ntmps (an.live r false) (hh 0).length vs' h' (vs (i + 1)) (hh (i + 1)))
    (last : e1 ≠ .normal ∧ ∃ vs' h', Rnd P Gl an f r (vs n) (hh n) e1 vs' h' ∧ WeakTo Gl an.prom fn.ntmps (an.live r true) (hh 0).length vs' h' vs1 h1) :
    CodeGoes P Gl an.prom fn.ntmps (asLoop (bodyAt P f r)) (mkSt (an.live r false) (vs 0) (hh 0)) e1 (mkSt (an.live r true) vs1 h1) := by
  refine loop_told2 hm ha (fun m v h => ∃ i, i ≤ n ∧ m = n - i ∧ v = vs i ∧ h = hh i) hf hnt (fun m v h hI => ?_) (n := n) ⟨0, by omega, by omega, rfl, rfl⟩
  obtain ⟨i, hi, rfl, rfl, rfl⟩ := hI
  rcases Nat.lt_or_ge i n with hlt | hge
  · obtain ⟨vs', h', ⟨A, K, m, l, q1, q2, q3, q4, q5⟩, hw⟩ := round i hlt
    exact ⟨A, K, m, l, q1, q2, q3, q4, .normal, vs', h', q5, .inl ⟨rfl, n - (i + 1), _, _, by omega, hw, i + 1, by omega, rfl, rfl, rfl⟩⟩
  · obtain rfl : i = n := by omega
    obtain ⟨hne, vs', h', ⟨A, K, m, l, q1, q2, q3, q4, q5⟩, hw⟩ := last
    exact ⟨A, K, m, l, q1, q2, q3, q4, e1, vs', h', q5, .inr ⟨hne, rfl, hw⟩⟩
/-- Exactly this state. -/
noncomputable def sameStF (vs : List T) (h : Heap) (vs0 : List T) (h0 : Heap) : Bool := @decide (vs = vs0) (Classical.propDecidable _) && sameF h h0
theorem sameStF_iff {vs vs0 : List T} {h h0 : Heap} : sameStF vs h vs0 h0 = true ↔ vs = vs0 ∧ SameBlks h h0 := by simp [sameStF, sameF_iff]
/-- A loop told at one state. -/
noncomputable def litS (vs0 : List T) (h0 : Heap) (e : Ex) (vs1 : List T) (h1 : Heap) : List T → Heap → LT := fun vs h => .ite (sameStF vs h vs0 h0) (.ret e vs1 h1) .none
theorem LoopOk.lit {an : Ann} {f r : Nat} {vs0 vs1 : List T} {h0 h1 : Heap} {e : Ex}
    (hg : ∀ fn, P.funcs[f]? = some fn → fn.ntmps ≤ 1024 → CodeGoes P Gl an.prom fn.ntmps (asLoop (bodyAt P f r)) (mkSt (an.live r false) vs0 h0) e (mkSt (an.live r true) vs1 h1)) : LoopOk P Gl an f r (litS vs0 h0 e vs1 h1) := by
  intro fn hf hnt vs h e' vs' h' hk
  unfold litS at hk
  obtain ⟨hc, rfl, rfl, rfl⟩ := LT.ite_some hk
  obtain ⟨rfl, hs⟩ := sameStF_iff.1 hc
  exact CodeGoes.weak (hg fn hf hnt) (WeakTo.same hs)
theorem first_bad {p : Nat → Prop} {n : Nat} (h : ∃ j, j < n ∧ ¬ p j) : ∃ j, j < n ∧ ¬ p j ∧ ∀ k, k < j → p k := by
  induction n with
  | zero => obtain ⟨j, h1, _⟩ := h; omega
  | succ n ih =>
    by_cases q : ∃ j, j < n ∧ ¬ p j
    · obtain ⟨j, h1, h2, h3⟩ := ih q
      exact ⟨j, by omega, h2, h3⟩
    · obtain ⟨j, h1, h2⟩ := h
      have hj : j = n := Classical.byContradiction fun hne => q ⟨j, by omega, h2⟩
      subst hj
      exact ⟨j, by omega, h2, fun k hk => Classical.byContradiction fun hb => q ⟨k, hk, hb⟩⟩
/-- Told loops of one function. -/
theorem loops1 {an : Ann} {f r : Nat} {s : List T → Heap → LT} (h : LoopOk P Gl an f r s) : ∀ p ∈ [(r, s)], LoopOk P Gl an f p.1 p.2 := fun p hp => by
  simp only [List.mem_singleton] at hp; subst hp; exact h
theorem loopsC {an : Ann} {f r : Nat} {s : List T → Heap → LT} {l : List (Nat × (List T → Heap → LT))} (h : LoopOk P Gl an f r s) (hl : ∀ p ∈ l, LoopOk P Gl an f p.1 p.2) : ∀ p ∈ (r, s) :: l, LoopOk P Gl an f p.1 p.2 := fun p hp => by
  rcases List.mem_cons.1 hp with rfl | hp
  · exact h
  · exact hl p hp
theorem Rnd.ofL {an : Ann} {f r m : Nat} {vs vs' : List T} {h h' : Heap} {e : Ex} (A : FuncId → Ann) {K : Orc} (hK : OrcOk P Gl K) (hp : (A f).prom = an.prom) (hl : (A f).live r = an.live r) {l : List (Nat × (List T → Heap → LT))} (hL : ∀ p ∈ l, LoopOk P Gl (A f) f p.1 p.2)
    (hr : iterR P Gl A K m f l r vs h = some (e, vs', h')) : Rnd P Gl an f r vs h e vs' h' := ⟨A, K, m, l, hK, hp, hl, hL, hr⟩
/-- A call told at these arguments. -/
noncomputable def sameArgsF (a : List T) (l : List (List T)) : Bool := @decide (a ∈ l) (Classical.propDecidable _)
theorem sameArgsF_iff {a : List T} {l : List (List T)} : sameArgsF a l = true ↔ a ∈ l := by simp [sameArgsF]
noncomputable def callS (l : List (List T)) (r : T) (args : List T) : Tree := .ite (sameArgsF args l) (.ret r) .none
theorem callS_told {f : FuncId} {l : List (List T)} {r0 : T} (h : ∀ a ∈ l, ToldOk P Gl f a r0) : ∀ args r, (callS l r0 args).run some = some r → ToldOk P Gl f args r := by
  intro args r hr
  unfold callS at hr
  simp only [Tree.run] at hr
  obtain ⟨hc, hr⟩ := bif_none hr
  obtain rfl := Option.some.inj hr
  exact h _ (sameArgsF_iff.1 hc)
end
end Go.Ab

