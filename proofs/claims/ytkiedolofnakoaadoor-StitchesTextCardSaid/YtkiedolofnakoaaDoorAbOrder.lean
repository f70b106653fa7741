/- A region whose order is drawn: whatever order, the same comes out. -/
import Derived.Test.YtkiedolofnakoaaDoorAbSwap
import Derived.Test.YtkiedolofnakoaaDoorAbRegion
import Derived.Orders
namespace Go.Ab
section
variable {P : Program} {K : Orc} {Gl : Nat → Option (List T)} {prom : List Nat} {nt : Nat} {s s1 s' : St} {f : Eff} {fp : FP}

theorem guarded_congr {ops : List Oper} {o : Oper} (hk : guarded P K Gl prom nt ops o s two = some (f, fp)) (ha : Agree s s1 fp) : guarded P K Gl prom nt ops o s1 two = some (f, fp) := by
  unfold guarded at hk ⊢
  cases hg : o.guard with
  | none => rw [hg] at hk; exact opStep_congr hk ha
  | some p =>
    obtain ⟨j, want⟩ := p
    rw [hg] at hk
    dsimp only at hk ⊢
    cases hgs : guardSlot ops j with
    | none => rw [hgs] at hk; cases hk
    | some gd =>
      rw [hgs] at hk
      dsimp only at hk ⊢
      cases hat : s.at gd with
      | bool b =>
        rw [hat] at hk
        dsimp only at hk
        cases hp : prom.contains gd with
        | true => rw [hp] at hk; cases hk
        | false =>
          rw [hp] at hk
          simp only [cond_false] at hk
          cases hw : (bif b then want else !want) with
          | true =>
            rw [hw] at hk
            simp only [cond_true] at hk
            obtain ⟨⟨f1, fp1⟩, h1, h2⟩ := det_some (opStep_det P K Gl prom nt o s) (k := fun p => two p.1 { p.2 with rs := gd :: p.2.rs }) hk
            simp only [Option.some.injEq, Prod.mk.injEq] at h1
            obtain ⟨rfl, rfl⟩ := h1
            have ha1 : Agree s s1 fp1 := ⟨fun e he => ha.at' e (List.mem_cons_of_mem _ he), fun e he => ha.loc e (List.mem_cons_of_mem _ he), ha.used, ha.heap⟩
            have h3 := opStep_congr (h2 _ fun p => two p.1 p.2) ha1
            rw [ha.at' gd List.mem_cons_self, hat]
            simp only [cond_false, cond_true, hw]
            obtain ⟨q, q1, q2⟩ := det_some (opStep_det P K Gl prom nt o s1) (k := fun p => two p.1 p.2) h3
            obtain ⟨f2, fp2⟩ := q
            simp only [Option.some.injEq, Prod.mk.injEq] at q1
            obtain ⟨rfl, rfl⟩ := q1
            exact q2 _ fun p => two p.1 { p.2 with rs := gd :: p.2.rs }
          | false =>
            rw [hw] at hk
            simp only [cond_false] at hk
            obtain ⟨h1, _, _, h4⟩ := done_congr (s1 := s1) hk
            rw [ha.at' gd (h1 ▸ List.mem_cons_self), hat]
            simp only [cond_false, hw]
            exact h4 ha.used
      | gone =>
        rw [hat] at hk
        dsimp only at hk
        cases hp : prom.contains gd with
        | true => rw [hp] at hk; cases hk
        | false =>
          rw [hp] at hk
          simp only [cond_false] at hk
          obtain ⟨h1, _, _, h4⟩ := done_congr (s1 := s1) hk
          rw [ha.at' gd (h1 ▸ List.mem_cons_self), hat]
          simp only [cond_false]
          exact h4 ha.used
      | _ => rw [hat] at hk; cases hk

theorem StepIs.congr {ops : List Oper} {o : Oper} (h : StepIs P K Gl prom nt ops o s f fp) (ha : Agree s s1 fp) : StepIs P K Gl prom nt ops o s1 f fp := by
  obtain ⟨f', fp', h1, h2⟩ := guarded_is (guarded_congr (h _ two) ha)
  simp only [Option.some.injEq, Prod.mk.injEq] at h1
  obtain ⟨rfl, rfl⟩ := h1
  exact h2

/-- An effect lies within its footprint. -/
structure Fits (f : Eff) (fp : FP) : Prop where
  slot : ∀ d v, f.slot = some (d, v) → d ∈ fp.ws ∧ d < 1024
  place : ∀ d p, f.place = some (d, p) → d ∈ fp.ws ∧ ∀ t o, p = some (t, o) → t ∈ fp.rs
  heap : ∀ h, f.heap = some h → fp.wr = true

theorem done_fits (hnt : nt ≤ 1024) {o : Oper} {v : T} {hp : Option Heap} {rs : List Nat} {rd wr : Bool} (hw : ∀ h, hp = some h → wr = true) (hk : done nt o s v hp rs rd wr two = some (f, fp)) : Fits f fp := by
  unfold done at hk
  cases hd : o.dst with
  | none =>
    rw [hd] at hk
    simp only [Option.some.injEq, Prod.mk.injEq] at hk
    obtain ⟨rfl, rfl⟩ := hk
    exact ⟨fun d v h => (by cases h), fun d v h => (by cases h), hw⟩
  | some d =>
    rw [hd] at hk
    dsimp only at hk
    cases hb : (Nat.blt d nt && !s.used d) with
    | false => rw [hb] at hk; cases hk
    | true =>
      rw [hb] at hk
      simp only [cond_true, parted_some, Option.some.injEq, Prod.mk.injEq] at hk
      obtain ⟨rfl, rfl⟩ := hk
      simp only [Bool.and_eq_true] at hb
      have := blt_lt hb.1
      refine ⟨fun d' v' h => ?_, fun d' p h => ?_, hw⟩
      · simp only [Option.some.injEq, Prod.mk.injEq] at h
        obtain ⟨rfl, _⟩ := h
        exact ⟨by simp, by omega⟩
      · simp only [Option.some.injEq, Prod.mk.injEq] at h
        obtain ⟨rfl, rfl⟩ := h
        exact ⟨by simp, fun t o h => by cases h⟩

theorem doneLoc_fits (hnt : nt ≤ 1024) {o : Oper} {t off : Nat} {rs : List Nat} (hk : doneLoc prom nt o t off rs two = some (f, fp)) : Fits f fp := by
  unfold doneLoc at hk
  cases hd : o.dst with
  | none => rw [hd] at hk; cases hk
  | some d =>
    rw [hd] at hk
    dsimp only at hk
    cases hb : (Nat.blt d nt && !prom.contains d) with
    | false => rw [hb] at hk; cases hk
    | true =>
      rw [hb] at hk
      simp only [cond_true, Option.some.injEq, Prod.mk.injEq] at hk
      obtain ⟨rfl, rfl⟩ := hk
      simp only [Bool.and_eq_true] at hb
      have := blt_lt hb.1
      refine ⟨fun d' v' h => ?_, fun d' p h => ?_, fun h e => by cases e⟩
      · simp only [Option.some.injEq, Prod.mk.injEq] at h
        obtain ⟨rfl, _⟩ := h
        exact ⟨by simp, by omega⟩
      · simp only [Option.some.injEq, Prod.mk.injEq] at h
        obtain ⟨rfl, rfl⟩ := h
        refine ⟨by simp, fun t' o' h => ?_⟩
        simp only [Option.some.injEq, Prod.mk.injEq] at h
        obtain ⟨rfl, _⟩ := h
        exact List.mem_cons_self

theorem plainStep_fits (hnt : nt ≤ 1024) {o : Oper} (hk : plainStep P K Gl prom nt o s two = some (f, fp)) : Fits f fp := by
  unfold plainStep at hk
  cases hn : noHeap o.op (ev Gl prom s) with
  | true =>
    rw [hn] at hk
    simp only [cond_true] at hk
    obtain ⟨⟨y, h', wr⟩, hk1, _⟩ := det_some (semOp_det P K o.op (ev Gl prom s) []) (k := fun p => bif p.2.2 then none else done nt o s p.1 none (opSlots o.op) false false two) hk
    cases wr with
    | true => cases hk1
    | false => exact done_fits hnt (fun h e => by cases e) hk1
  | false =>
    rw [hn] at hk
    simp only [cond_false] at hk
    obtain ⟨⟨y, h', wr⟩, hk1, _⟩ := det_some (semOp_det P K o.op (ev Gl prom s) s.h) (k := fun p => done nt o s p.1 (bif p.2.2 then some p.2.1 else none) (opSlots o.op) (callReads K o.op (ev Gl prom s)) p.2.2 two) hk
    refine done_fits hnt (fun h e => ?_) hk1
    cases wr with
    | true => rfl
    | false => cases e

theorem opStep_fits (hnt : nt ≤ 1024) {o : Oper} (hk : opStep P K Gl prom nt o s two = some (f, fp)) : Fits f fp := by
  have noH : ∀ h, (none : Option Heap) = some h → false = true := fun h e => by cases e
  unfold opStep at hk
  split at hk
  · cases hd : o.dst with
    | none => rw [hd] at hk; cases hk
    | some d =>
      rw [hd] at hk
      rcases bif_some hk with ⟨_, hk⟩ | ⟨_, hk⟩
      · exact done_fits hnt noH (bif_none hk).2
      · exact plainStep_fits hnt hk
  · cases hd : o.dst with
    | none => rw [hd] at hk; cases hk
    | some d =>
      rw [hd] at hk
      rcases bif_some hk with ⟨_, hk⟩ | ⟨_, hk⟩
      · exact done_fits hnt noH (bif_none hk).2
      · exact plainStep_fits hnt hk
  · split at hk
    · split at hk
      · obtain ⟨v, hk1, _⟩ := det_some (ld_det P _ _) hk
        exact done_fits hnt noH hk1
      · cases hk
    · exact plainStep_fits hnt hk
  · split at hk
    · rename_i t off _
      split at hk
      · rename_i cells hc hd
        have hk := (bif_none hk).2
        simp only [Option.some.injEq, Prod.mk.injEq] at hk
        obtain ⟨rfl, rfl⟩ := hk
        refine ⟨fun d' v' h => ?_, fun d' p h => (by cases h), fun h e => by cases e⟩
        simp only [Option.some.injEq, Prod.mk.injEq] at h
        obtain ⟨rfl, _⟩ := h
        refine ⟨by simp, ?_⟩
        rcases Nat.lt_or_ge t 1024 with hq | hq
        · exact hq
        · rw [at_ge (by omega)] at hc; cases hc
      · cases hk
    · exact plainStep_fits hnt hk
  · split at hk
    · split at hk
      · split at hk
        · exact doneLoc_fits hnt hk
        · cases hk
      · cases hk
    · exact plainStep_fits hnt hk
  · split at hk
    · split at hk
      · split at hk
        · split at hk
          · obtain ⟨hc, hk⟩ := bif_none hk
            simp only [Bool.and_eq_true, decide_eq_true_eq] at hc
            exact doneLoc_fits hnt (pickAt_some (by omega) hk)
          · cases hk
        · cases hk
      · cases hk
    · exact plainStep_fits hnt hk
  · split at hk
    · split at hk
      · exact doneLoc_fits hnt hk
      · cases hk
    · exact plainStep_fits hnt hk
  · exact plainStep_fits hnt hk

theorem StepIs.fits (hnt : nt ≤ 1024) {ops : List Oper} {o : Oper} (h : StepIs P K Gl prom nt ops o s f fp) : Fits f fp := by
  have hk := h _ two
  unfold guarded at hk
  split at hk
  · exact opStep_fits hnt hk
  · split at hk
    · cases hk
    · split at hk
      · rcases bif_some hk with ⟨_, hk⟩ | ⟨_, hk⟩
        · cases hk
        · rcases bif_some hk with ⟨_, hk⟩ | ⟨_, hk⟩
          · obtain ⟨⟨f1, fp1⟩, h1, h2⟩ := det_some (opStep_det P K Gl prom nt o s) (k := fun p => two p.1 { p.2 with rs := _ :: p.2.rs }) hk
            simp only [Option.some.injEq, Prod.mk.injEq] at h1
            obtain ⟨rfl, rfl⟩ := h1
            have hf := opStep_fits hnt (h2 _ fun p => two p.1 p.2)
            exact ⟨hf.slot, fun d p e => ⟨(hf.place d p e).1, fun t o ho => List.mem_cons_of_mem _ ((hf.place d p e).2 t o ho)⟩, hf.heap⟩
          · exact done_fits hnt (fun h e => by cases e) hk
      · rcases bif_some hk with ⟨_, hk⟩ | ⟨_, hk⟩
        · cases hk
        · exact done_fits hnt (fun h e => by cases e) hk
      · cases hk

/-! ### States that are alike -/
structure Same (s s1 : St) : Prop where
  at' : ∀ e, s1.at e = s.at e
  loc : ∀ e, s1.loc e = s.loc e
  used : ∀ e, s1.used e = s.used e
  h : s1.h = s.h

theorem Same.refl (s : St) : Same s s := ⟨fun _ => rfl, fun _ => rfl, fun _ => rfl, rfl⟩
theorem Same.trans {a b c : St} (x : Same a b) (y : Same b c) : Same a c := ⟨fun e => (y.at' e).trans (x.at' e), fun e => (y.loc e).trans (x.loc e), fun e => (y.used e).trans (x.used e), y.h.trans x.h⟩
theorem Same.symm {a b : St} (x : Same a b) : Same b a := ⟨fun e => (x.at' e).symm, fun e => (x.loc e).symm, fun e => (x.used e).symm, x.h.symm⟩
theorem Same.agree {s s1 : St} (x : Same s s1) (fp : FP) : Agree s s1 fp := ⟨fun e _ => x.at' e, fun e _ => x.loc e, fun e _ => x.used e, fun _ => x.h⟩

theorem app_at (f : Eff) (s : St) (hf : ∀ d v, f.slot = some (d, v) → d < 1024) (t : Nat) : (f.app s).at t = match f.slot with | some (d, v) => if t = d then v else s.at t | none => s.at t := by
  cases hs : f.slot with
  | none => simp [St.at, Eff.app, putEnv, hs]
  | some p =>
    obtain ⟨d, v⟩ := p
    exact at_set (s := s) (s' := f.app s) (by simp [Eff.app, putEnv, hs]) (hf d v hs) t

theorem Same.app {s s1 : St} (x : Same s s1) {f : Eff} (hf : ∀ d v, f.slot = some (d, v) → d < 1024) : Same (f.app s) (f.app s1) := by
  refine ⟨fun e => ?_, fun e => ?_, fun e => ?_, ?_⟩
  · rw [app_at f s hf, app_at f s1 hf]
    cases f.slot with
    | none => exact x.at' e
    | some p => simp only [x.at' e]
  · simp only [Eff.app]
    cases f.place with
    | none => exact x.loc e
    | some p => simp only [putPlace, x.loc e]
  · simp only [Eff.app]
    cases f.place with
    | none => exact x.used e
    | some p =>
      obtain ⟨d, q⟩ := p
      cases q with
      | none => exact x.used e
      | some q => simp only [putUsed, x.used e]
  · simp only [Eff.app, x.h]

theorem meets_false {a b : List Nat} (h : meets a b = false) : ∀ x ∈ a, x ∉ b := by
  intro x hx hb
  unfold meets at h
  rw [List.any_eq_false] at h
  exact h x hx (by simpa using hb)

/-- What an operation changes, another does not look at. -/
theorem Fits.agree {f : Eff} {fp q : FP} (hf : Fits f fp) (h1 : meets fp.ws q.rs = false) (h2 : meets q.ws fp.rs = false) (h3 : fp.wr = true → q.rd = false ∧ q.wr = false) (s : St) : Agree s (f.app s) q := by
  have w := meets_false h1
  have u := meets_false h2
  refine ⟨fun e he => ?_, fun e he => ?_, fun d hd => ?_, fun hh => ?_⟩
  · rw [app_at f s fun d v h => (hf.slot d v h).2]
    cases hs : f.slot with
    | none => rfl
    | some p =>
      obtain ⟨d, v⟩ := p
      have := (hf.slot d v hs).1
      have hne : e ≠ d := by rintro rfl; exact w e this he
      simp only [if_neg hne]
  · simp only [Eff.app]
    cases hp : f.place with
    | none => rfl
    | some p =>
      obtain ⟨d, v⟩ := p
      have := (hf.place d v hp).1
      have hne : e ≠ d := by rintro rfl; exact w e this he
      simp only [putPlace, Bool.cond_eq_ite, beq_iff_eq, if_neg hne]
  · simp only [Eff.app]
    cases hp : f.place with
    | none => rfl
    | some p =>
      obtain ⟨d', v⟩ := p
      cases v with
      | none => rfl
      | some v =>
        obtain ⟨t, o⟩ := v
        have := (hf.place d' _ hp).2 t o rfl
        have hne : d ≠ t := by rintro rfl; exact u d hd this
        simp only [putUsed, Bool.cond_eq_ite, beq_iff_eq, if_neg hne]
  · simp only [Eff.app]
    cases hx : f.heap with
    | none => rfl
    | some x =>
      obtain ⟨q1, q2⟩ := h3 (hf.heap x hx)
      rcases hh with hh | hh
      · rw [q1] at hh; cases hh
      · rw [q2] at hh; cases hh

theorem clash_false {a b : FP} (h : clash a b = false) : meets a.ws b.rs = false ∧ meets a.ws b.ws = false ∧ meets b.ws a.rs = false ∧ (a.wr = true → b.rd = false ∧ b.wr = false) ∧ (b.wr = true → a.rd = false ∧ a.wr = false) := by
  simp only [clash, Bool.or_eq_false_iff] at h
  obtain ⟨⟨⟨⟨h1, h2⟩, h3⟩, h4⟩, h5⟩ := h
  refine ⟨h1, h2, h3, fun ha => ?_, fun hb => ?_⟩
  · rw [ha] at h4
    simp only [Bool.true_and, Bool.or_eq_false_iff] at h4
    exact h4
  · rw [hb] at h5 h4
    simp only [Bool.true_and] at h5
    simp only [Bool.or_true, Bool.and_true] at h4
    exact ⟨h5, h4⟩

theorem app_comm {f1 f2 : Eff} {p1 p2 : FP} (h1 : Fits f1 p1) (h2 : Fits f2 p2) (hc : clash p1 p2 = false) (s : St) : Same (f2.app (f1.app s)) (f1.app (f2.app s)) := by
  obtain ⟨c1, c2, c3, c4, c5⟩ := clash_false hc
  have w := meets_false c2
  refine ⟨fun e => ?_, fun e => ?_, fun e => ?_, ?_⟩
  · rw [app_at f1 _ fun d v h => (h1.slot d v h).2, app_at f2 _ fun d v h => (h2.slot d v h).2, app_at f2 _ fun d v h => (h2.slot d v h).2, app_at f1 _ fun d v h => (h1.slot d v h).2]
    cases e1 : f1.slot with
    | none => rfl
    | some q1 =>
      cases e2 : f2.slot with
      | none => rfl
      | some q2 =>
        obtain ⟨d1, v1⟩ := q1
        obtain ⟨d2, v2⟩ := q2
        have a1 := (h1.slot d1 v1 e1).1
        have a2 := (h2.slot d2 v2 e2).1
        have hne : d1 ≠ d2 := by rintro rfl; exact w d1 a1 a2
        dsimp only
        by_cases x1 : e = d1
        · rw [if_pos x1, if_neg (by omega), if_pos x1]
        · rw [if_neg x1]
          by_cases x2 : e = d2
          · rw [if_pos x2, if_pos x2]
          · rw [if_neg x2, if_neg x2, if_neg x1]
  · simp only [Eff.app]
    cases e1 : f1.place with
    | none => rfl
    | some q1 =>
      cases e2 : f2.place with
      | none => rfl
      | some q2 =>
        obtain ⟨d1, v1⟩ := q1
        obtain ⟨d2, v2⟩ := q2
        have a1 := (h1.place d1 v1 e1).1
        have a2 := (h2.place d2 v2 e2).1
        have hne : d1 ≠ d2 := by rintro rfl; exact w d1 a1 a2
        simp only [putPlace, Bool.cond_eq_ite, beq_iff_eq]
        by_cases x1 : e = d1
        · rw [if_pos x1, if_neg (by omega), if_pos x1]
        · rw [if_neg x1]
          by_cases x2 : e = d2
          · rw [if_pos x2, if_pos x2]
          · rw [if_neg x2, if_neg x2, if_neg x1]
  · simp only [Eff.app]
    have key : ∀ (u : Nat → Bool) (p q : Option (Nat × Option (Nat × Nat))), putUsed (putUsed u p) q e = putUsed (putUsed u q) p e := by
      intro u p q
      rcases p with _ | ⟨d1, _ | ⟨t1, o1⟩⟩ <;> rcases q with _ | ⟨d2, _ | ⟨t2, o2⟩⟩ <;> simp only [putUsed]
      cases (e == t1) <;> cases (e == t2) <;> rfl
    exact (key _ _ _).symm
  · simp only [Eff.app]
    cases e1 : f1.heap with
    | none => rfl
    | some x1 =>
      cases e2 : f2.heap with
      | none => rfl
      | some x2 =>
        have := (c4 (h1.heap x1 e1)).2
        rw [h2.heap x2 e2] at this
        cases this

theorem RunIs.same (hnt : nt ≤ 1024) {ops l : List Oper} {s s' : St} {fps : List FP} (h : RunIs P K Gl prom nt ops l s s' fps) : ∀ {s1 : St}, Same s s1 → ∃ s1', RunIs P K Gl prom nt ops l s1 s1' fps ∧ Same s' s1' := by
  induction h with
  | nil s => exact fun x => ⟨_, .nil _, x⟩
  | cons h1 h2 ih =>
    intro s1 x
    obtain ⟨s1', q1, q2⟩ := ih (x.app fun d v e => ((h1.fits hnt).slot d v e).2)
    exact ⟨s1', .cons (h1.congr (x.agree _)) q1, q2⟩

/-- An operation that clashes with none of those before it, is done first. -/
theorem RunIs.pull (hnt : nt ≤ 1024) {ops : List Oper} {o : Oper} {post : List Oper} {fp : FP} {fpost : List FP} : ∀ {pre : List Oper} {fpre : List FP} {s s' : St}, pre.length = fpre.length → (∀ q ∈ fpre, clash q fp = false) →
    RunIs P K Gl prom nt ops (pre ++ o :: post) s s' (fpre ++ fp :: fpost) → ∃ f s1, StepIs P K Gl prom nt ops o s f fp ∧ RunIs P K Gl prom nt ops (pre ++ post) (f.app s) s1 (fpre ++ fpost) ∧ Same s' s1
  | [], [], s, s', _, _, h => by
    cases h with
    | cons h1 h2 => exact ⟨_, _, h1, h2, .refl _⟩
  | p :: pre, q :: fpre, s, s', hl, hc, h => by
    cases h with
    | @cons _ _ _ _ fq _ _ h1 h2 =>
      have hcq := hc q (by simp)
      obtain ⟨c1, c2, c3, c4, c5⟩ := clash_false hcq
      obtain ⟨f, s1, g1, g2, g3⟩ := RunIs.pull hnt (by simpa using hl) (fun q hq => hc q (by simp [hq])) h2
      have fitq := h1.fits hnt
      have fitf := g1.fits hnt
      have a1 := fitq.agree c1 c3 c4 s
      have a1' : Agree (fq.app s) s fp := ⟨fun e he => (a1.at' e he).symm, fun e he => (a1.loc e he).symm, fun e he => (a1.used e he).symm, fun hh => (a1.heap hh).symm⟩
      have a2 := fitf.agree c3 c1 c5 s
      obtain ⟨s2, q1, q2⟩ := g2.same hnt (app_comm fitq fitf hcq s)
      exact ⟨f, s2, g1.congr a1', .cons (h1.congr a2) q1, g3.trans q2⟩
  | [], _ :: _, _, _, hl, _, _ => by cases hl
  | _ :: _, [], _, _, hl, _, _ => by cases hl
end
end Go.Ab
