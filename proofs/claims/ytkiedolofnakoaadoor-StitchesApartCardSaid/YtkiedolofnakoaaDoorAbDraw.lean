/- A region whose order is drawn, walked. -/
import Derived.Test.YtkiedolofnakoaaDoorAbOrder
namespace Go.Ab

/-- One operation waits for another, at whatever distance. -/
inductive Behind (ops : Array Oper) : Nat → Nat → Prop where
  | one {j k : Nat} {o : Oper} {e : Edge} (ho : ops[j]? = some o) (he : e ∈ o.after) (hb : Region.binds .any e = true) (hk : e.on = k) : Behind ops j k
  | more {j m k : Nat} {o : Oper} {e : Edge} (ho : ops[j]? = some o) (he : e ∈ o.after) (hb : Region.binds .any e = true) (hm : e.on = m) (h : Behind ops m k) : Behind ops j k

theorem fold_bits {ops : Array Oper} {j : Nat} {o : Oper} {acc : Array Nat} (ho : ops[j]? = some o) (hacc : ∀ m k, (acc.getD m 0).testBit k = true → Behind ops m k) :
    ∀ (l : List Edge) (s0 : Nat), (∀ e ∈ l, e ∈ o.after) → (∀ k, s0.testBit k = true → Behind ops j k) → ∀ k, (l.foldl (fun s e => if Region.binds .any e then s ||| 2 ^ e.on ||| acc.getD e.on 0 else s) s0).testBit k = true → Behind ops j k
  | [], s0, _, h0, k, hk => h0 k hk
  | e :: l, s0, hl, h0, k, hk => by
    refine fold_bits ho hacc l _ (fun e he => hl e (List.mem_cons_of_mem _ he)) (fun k hk => ?_) k hk
    dsimp only at hk
    split at hk
    · rename_i hb
      simp only [Nat.testBit_or, Bool.or_eq_true] at hk
      rcases hk with (hk | hk) | hk
      · exact h0 k hk
      · rw [Nat.testBit_two_pow] at hk
        exact .one ho (hl e (by simp)) hb (by simpa using hk)
      · exact .more ho (hl e (by simp)) hb rfl (hacc _ k hk)
    · exact h0 k hk

theorem before_list {ops : Array Oper} : ∀ (l : List Oper) (acc : Array Nat), (∀ i, l[i]? = ops[acc.size + i]?) → (∀ m k, (acc.getD m 0).testBit k = true → Behind ops m k) →
    ∀ m k, ((l.foldl (fun (acc : Array Nat) o => acc.push (o.after.foldl (fun s e => if Region.binds .any e then s ||| 2 ^ e.on ||| acc.getD e.on 0 else s) 0)) acc).getD m 0).testBit k = true → Behind ops m k
  | [], acc, _, h, m, k, hk => h m k hk
  | o :: l, acc, hl, h, m, k, hk => by
    have ho : ops[acc.size]? = some o := by have := hl 0; simpa using this.symm
    refine before_list l _ (fun i => ?_) (fun m k hk => ?_) m k hk
    · have := hl (i + 1)
      simp only [List.getElem?_cons_succ] at this
      rw [this, Array.size_push]
      congr 1
      omega
    · rw [Array.getD_eq_getD_getElem?, Array.getElem?_push] at hk
      split at hk
      · rename_i hm
        subst hm
        rw [← Array.foldl_toList] at hk
        exact fold_bits ho h o.after.toList 0 (fun e he => by simpa using he) (fun k hk => by simp at hk) k hk
      · rw [← Array.getD_eq_getD_getElem?] at hk
        exact h m k hk

theorem before_behind {ops : Array Oper} {j k : Nat} (h : ((Region.before ops).getD j 0).testBit k = true) : Behind ops j k := by
  unfold Region.before at h
  rw [← Array.foldl_toList] at h
  exact before_list ops.toList #[] (fun i => by simp) (fun m k hk => by simp at hk) j k h

theorem edgesOk_spec : ∀ (l : List Oper) (j : Nat), edgesOk j l = true → ∀ (i : Nat) (o : Oper), l[i]? = some o → ∀ e ∈ o.after, Region.binds .any e = true → e.on < j + i
  | [], _, _, i, o, ho => by simp at ho
  | o :: l, j, h, i, o', ho => by
    simp only [edgesOk, Bool.and_eq_true] at h
    intro e he hb
    cases i with
    | zero =>
      simp only [List.getElem?_cons_zero, Option.some.injEq] at ho
      subst ho
      have := List.all_eq_true.1 h.1 e (by simpa using he)
      rw [hb] at this
      simp only [Bool.not_true, Bool.false_or] at this
      exact blt_lt this
    | succ i =>
      have := edgesOk_spec l (j + 1) h.2 i o' (by simpa using ho) e he hb
      omega

theorem pairsOk_spec {before : List Nat} : ∀ (l : List (Nat × FP)), pairsOk before l = true → List.Pairwise (fun a b => (before.getD b.1 0).testBit a.1 = true ∨ clash a.2 b.2 = false) l
  | [], _ => .nil
  | (i, a) :: l, h => by
    simp only [pairsOk, Bool.and_eq_true] at h
    refine List.pairwise_cons.2 ⟨fun b hb => ?_, pairsOk_spec l h.2⟩
    have := List.all_eq_true.1 h.1 b hb
    simpa using this

section
variable {P : Program} {K : Orc} {Gl : Nat → Option (List T)} {prom : List Nat} {nt : Nat} {s s1 s' : St}

theorem Same.sr (x : Same s s1) {g : Gh} {a : Act} {w : World} (h : SR Gl prom nt g s a w) : SR Gl prom nt g s1 a w :=
  ⟨by rw [x.h]; exact h.hr, h.defers, h.size, h.nt, fun t ht => by rw [x.h, x.at']; exact h.tmps t ht, fun t ht cells hc => by rw [x.h]; exact h.regs t ht cells (by rw [← x.at']; exact hc),
    fun d t o hl => h.loc d t o (by rw [← x.loc]; exact hl), h.glob, fun d t o hl => by rw [x.used]; exact h.used d t o (by rw [← x.loc]; exact hl)⟩

structure Rest (ops : Array Oper) (listed : Array Bool) (rem : List Nat) : Prop where
  size : listed.size = ops.size
  mem : ∀ i, i ∈ rem ↔ listed.getD i true = false
  sorted : List.Pairwise (· < ·) rem
  closed : ∀ j o, ops[j]? = some o → listed.getD j false = true → ∀ e ∈ o.after, Region.binds .any e = true → listed.getD e.on false = true

theorem Rest.behind {ops : Array Oper} {listed : Array Bool} {rem : List Nat} (r : Rest ops listed rem) {j k : Nat} (h : Behind ops j k) : listed.getD j false = true → listed.getD k false = true := by
  induction h with
  | one ho he hb hk => exact fun hl => hk ▸ r.closed _ _ ho hl _ he hb
  | more ho he hb hm h ih => exact fun hl => ih (hm ▸ r.closed _ _ ho hl _ he hb)

theorem Rest.ready {ops : Array Oper} {listed : Array Bool} {rem : List Nat} (r : Rest ops listed rem) {i k : Nat} (hi : i ∈ Region.ready .any ops listed) (h : Behind ops i k) : listed.getD k false = true := by
  obtain ⟨_, o, ho, hall⟩ := mem_ready.1 hi
  cases h with
  | one ho' he hb hk =>
    obtain rfl := Option.some.inj (ho'.symm.trans ho)
    exact hk ▸ hall _ he hb
  | more ho' he hb hm h =>
    obtain rfl := Option.some.inj (ho'.symm.trans ho)
    exact r.behind h (hm ▸ hall _ he hb)

theorem getD_false_of {listed : Array Bool} {i : Nat} (h : listed.getD i true = false) : i < listed.size ∧ listed.getD i false = false := by
  rw [Array.getD_eq_getD_getElem?] at h ⊢
  rcases Nat.lt_or_ge i listed.size with h' | h'
  · rw [Array.getElem?_eq_getElem h'] at h ⊢
    exact ⟨h', h⟩
  · rw [Array.getElem?_eq_none h'] at h
    cases h

theorem drawn_goes (hK : OrcOk P Gl K) (hnt : nt ≤ 1024) {ops : Array Oper} (hedge : edgesOk 0 ops.toList = true) {O : Nat → Oper} (hO : ∀ i, i < ops.size → ops[i]? = some (O i)) {F : Nat → FP}
    (hF : ∀ i j, i < j → j < ops.size → ((Region.before ops).getD j 0).testBit i = true ∨ clash (F i) (F j) = false) :
    ∀ (fuel : Nat) {rem : List Nat} {listed : Array Bool} {s s1 : St} {g : Gh} {a : Act} {w : World}, rem.length = fuel → Rest ops listed rem → RunIs P K Gl prom nt ops.toList (rem.map O) s s1 (rem.map F) → Same s1 s' → SR Gl prom nt g s a w →
      ∀ Q : Exit → Act → World → Prop, (∀ a' w' g', SR Gl prom nt g' s' a' w' → FrC g s.h w g' s'.h w' → Q .normal a' w') → wpAny P .any ops Q fuel listed a w
  | 0, rem, listed, s, s1, g, a, w, hl, hr, hrun, hsame, hs, Q, hn => by
    obtain rfl := List.length_eq_zero_iff.1 hl
    cases hrun with
    | nil =>
      refine ⟨?_, hn _ _ _ (hsame.sr hs) (by rw [hsame.h]; exact FrC.refl _ _ _)⟩
      apply List.eq_nil_iff_forall_not_mem.2
      intro i hi
      have := (hr.mem i).2 (mem_ready.1 hi).1
      simp at this
  | fuel + 1, rem, listed, s, s1, g, a, w, hl, hr, hrun, hsame, hs, Q, hn => by
    refine ⟨fun h0 => ?_, fun i hi => ?_⟩
    · -- the least one is ready
      exfalso
      cases rem with
      | nil => cases hl
      | cons i0 rem =>
        have hun := (hr.mem i0).1 (by simp)
        have hlt := (getD_false_of hun).1
        rw [hr.size] at hlt
        have ho := hO i0 hlt
        have : i0 ∈ Region.ready .any ops listed := by
          refine mem_ready.2 ⟨hun, O i0, ho, fun e he hb => ?_⟩
          have h1 := edgesOk_spec ops.toList 0 hedge i0 (O i0) (by rw [Array.getElem?_toList]; exact ho) e he hb
          rw [Nat.zero_add] at h1
          cases hb2 : listed.getD e.on false with
          | true => rfl
          | false =>
            have hes : e.on < listed.size := by rw [hr.size]; omega
            have : e.on ∈ i0 :: rem := (hr.mem e.on).2 (by rw [Array.getD_eq_getD_getElem?] at hb2 ⊢; rw [Array.getElem?_eq_getElem hes] at hb2 ⊢; exact hb2)
            rcases List.mem_cons.1 this with h2 | h2
            · omega
            · have := (List.pairwise_cons.1 hr.sorted).1 _ h2
              omega
        rw [h0] at this
        cases this
    · have hun := (mem_ready.1 hi).1
      have hlt := (getD_false_of hun).1
      rw [hr.size] at hlt
      have ho := hO i hlt
      obtain ⟨pre, post, rfl⟩ := List.append_of_mem ((hr.mem i).2 hun)
      have hsort := List.pairwise_append.1 hr.sorted
      have hpre : ∀ j ∈ pre, j < i := fun j hj => hsort.2.2 j hj i (by simp)
      have hcl : ∀ q ∈ pre.map F, clash q (F i) = false := by
        intro q hq
        obtain ⟨j, hj, rfl⟩ := List.mem_map.1 hq
        rcases hF j i (hpre j hj) hlt with h1 | h1
        · have h2 := hr.ready hi (before_behind h1)
          have h3 := (hr.mem j).1 (List.mem_append_left _ hj)
          rw [(getD_false_of h3).2] at h2
          cases h2
        · exact h1
      rw [List.map_append, List.map_cons, List.map_append, List.map_cons] at hrun
      obtain ⟨f, s2, g1, g2, g3⟩ := RunIs.pull hnt (by simp) hcl hrun
      have hgo := g1.goes hK hs
      have hrest : Rest ops (listed.setIfInBounds i true) (pre ++ post) := by
        refine ⟨by simp [hr.size], fun j => ?_, ?_, fun j o hj hl' e he hb => ?_⟩
        · by_cases hji : j = i
          · subst hji
            have hx : j < listed.size := by rw [hr.size]; exact hlt
            have h4 : (listed.setIfInBounds j true).getD j true = true := by
              rw [Array.getD_eq_getD_getElem?, Array.getElem?_setIfInBounds_self_of_lt hx]; rfl
            rw [h4]
            have h6 := (List.pairwise_cons.1 hsort.2.1).1
            constructor
            · intro hm
              rcases List.mem_append.1 hm with h5 | h5
              · have := hpre j h5; omega
              · have := h6 j h5; omega
            · intro h5; cases h5
          · rw [getD_set_ne true (Ne.symm hji), ← hr.mem j]
            simp [hji]
        · refine List.pairwise_append.2 ⟨hsort.1, (List.pairwise_cons.1 hsort.2.1).2, fun x hx y hy => hsort.2.2 x hx y (by simp [hy])⟩
        · by_cases hji : i = j
          · subst hji
            obtain ⟨_, o2, ho2, hall⟩ := mem_ready.1 hi
            obtain rfl := Option.some.inj (hj.symm.trans ho2)
            exact getD_set_true (hall e he hb)
          · rw [getD_set_ne false hji] at hl'
            exact getD_set_true (hr.closed j o hj hl' e he hb)
      have hih := fun a' w' g' (hs' : SR Gl prom nt g' (f.app s) a' w') (hf' : FrC g s.h w g' (f.app s).h w') =>
        drawn_goes hK hnt hedge hO hF fuel (rem := pre ++ post) (listed := listed.setIfInBounds i true) (s1 := s2) (by simp at hl ⊢; omega) hrest (by rw [List.map_append, List.map_append]; exact g2) (g3.symm.trans hsame) hs' Q
          fun a2 w2 g2' hs2 hf2 => hn a2 w2 g2' hs2 (hf'.trans hf2)
      have := hgo (wpAny P .any ops Q fuel (listed.setIfInBounds i true)) Q hih
      unfold wpOp
      rw [ho]
      dsimp only
      split at this
      · rename_i hw; rw [if_pos hw]; exact .inl this
      · rename_i hw; rw [if_neg hw]; exact this
end
end Go.Ab
