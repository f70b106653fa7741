/- Results are taken over, and given. -/
import Derived.Test.YtkiedolofnakoaaDoorAbCall
namespace Go.Ab
section
variable {P : Program} {R : Type} {g : Gh} {h : Heap} {w : World}

/-- Between the call's world and where we stand: own blocks have come, nothing else. -/
structure Took (g0 : Gh) (w0 : World) (g : Gh) (h : Heap) (w : World) (g' : Gh) (h' : Heap) (X : List Nat) : Prop where
  hr : HR g' h' w
  keep : Keep g h w g' h' w
  fr : FrO g0 w0 g' w
  u : g'.U = g.U
  own : ∀ b, b ∉ X → g'.own b = g.own b

theorem Took.refl {g0 : Gh} {w0 : World} (hr : HR g h w) (hf : FrO g0 w0 g w) : Took g0 w0 g h w g h [] := ⟨hr, .refl _ _ _ _, hf, rfl, fun _ _ => rfl⟩

/-- May this block be adopted? -/
def Free (g0 : Gh) (w0 : World) (g : Gh) (b : Nat) : Prop := g.own b = none ∧ ¬ g.U b ∧ w0.heap.size ≤ b ∧ g0.base ≤ w0.heap.size

theorem scal_vi {x : T} {v : Value} {U U' : Nat → Prop} (hv : VI w U x v) :
    VI w U' (scal x) v := by
  cases hv <;> first | exact .bool _ | exact .int _ _ | exact .str _ _ ‹_› | exact .nilp | exact .nils | exact .nilf | exact .nili | exact .nilm | exact .undef _

theorem take0_sound {g0 : Gh} {w0 : World} {safe : Bool} {U' : Nat → Prop} {x : T} {v : Value} {X : List Nat} (hx : RT0 w U' x v X) (hr : HR g h w) (hfr : FrO g0 w0 g w) (hfree : ∀ b, b ∈ X → Free g0 w0 g b)
    (hsafe : safe = true → ∀ b, U' b → g.U b) : ∃ g', Took g0 w0 g h w g' (take0 safe h x).2 X ∧ g'.VR (take0 safe h x).2 w (take0 safe h x).1 v := by
  cases hx with
  | vi x v hv =>
    have e : (take0 safe h x).2 = h := by cases hv <;> rfl
    rw [e]
    refine ⟨g, .refl hr hfr, .imm _ _ ?_⟩
    cases safe with
    | true =>
      have e1 : (take0 true h x).1 = x := by cases hv <;> rfl
      rw [e1]
      exact hv.keep (fun b hb => ⟨hsafe rfl b hb, rfl⟩)
    | false =>
      have e1 : (take0 false h x).1 = scal x := by cases hv <;> rfl
      rw [e1]
      exact scal_vi hv
  | fresh flat sz n gg len cap cb sh cc ad arr e es e2 e3 e4 e5 hh r1 r2 hl hc hf =>
    simp only [take0]
    cases hsf : (safe || flat) with
    | false =>
      simp only [cond_false]
      exact ⟨g, ⟨hr, .refl _ _ _ _, hfr, rfl, fun _ _ => rfl⟩, .imm _ _ (.undef _)⟩
    | true =>
      simp only [cond_true]
      obtain ⟨f1, f2, f3, f4⟩ := hfree cb (by simp)
      have hbase : g.base ≤ cb := by rw [hfr.base]; omega
      obtain ⟨g', q1, q2, q3, q4, q5, q6⟩ := hr.adopt (b' := ⟨0, sz, n, gg, flat, false⟩) hh f1 f2 hbase r1 hl (fun j o c hj ho => by
          obtain ⟨u, u1, u2, u3⟩ := hc j o c hj ho
          refine ⟨u, u1, u2, .imm _ _ ?_⟩
          cases hfl : flat with
          | true => exact plain0_vi (hf hfl j hj c (List.mem_of_getElem? ho)) u3
          | false =>
            rw [hfl] at hsf
            exact u3.keep (fun b hb => ⟨hsafe (by simpa using hsf) b hb, rfl⟩)) hf
      refine ⟨g', ⟨q5, q6, ?_, q2, fun b hb => by rw [q4, if_neg (by simpa using hb)]⟩, ?_⟩
      · refine ⟨hfr.size, fun b hb => ?_, hfr.os, hfr.tape, hfr.output, hfr.same, q3.trans hfr.base, fun b hb => hfr.u b (q2 ▸ hb), fun b hb t => ?_⟩
        · rw [q4, if_neg (by omega)]; exact hfr.own b hb
        · rw [q4]
          split
          · simp
          · exact hfr.new b hb t
      · exact .own _ _ _ _ _ _ _ (at_end h _) (Nat.le_refl _) rfl fun _ => ⟨cb, sh, cc, ad, q1, rfl, es, fun hp => by simpa using e2 hp, e3, fun m hm => ⟨(e4 m hm).1, by simpa using (e4 m hm).2⟩, by simpa using e5, ⟨arr, e, hh, by simpa using r2⟩⟩

theorem Took.trans {g0 : Gh} {w0 : World} {g1 g2 : Gh} {h1 h2 : Heap} {X Y : List Nat} (a : Took g0 w0 g h w g1 h1 X) (b : Took g0 w0 g1 h1 w g2 h2 Y) : Took g0 w0 g h w g2 h2 (X ++ Y) :=
  ⟨b.hr, a.keep.trans b.keep, b.fr, b.u.trans a.u, fun k hk => by
    simp only [List.mem_append, not_or] at hk
    rw [b.own k hk.2, a.own k hk.1]⟩

theorem Free.after {g0 : Gh} {w0 : World} {g' : Gh} {h' : Heap} {X : List Nat} {b : Nat} (hf : Free g0 w0 g b) (t : Took g0 w0 g h w g' h' X) (hb : b ∉ X) : Free g0 w0 g' b :=
  ⟨by rw [t.own b hb]; exact hf.1, by rw [t.u]; exact hf.2.1, hf.2.2⟩

theorem takeL_sound {g0 : Gh} {w0 : World} {safe : Bool} {U' : Nat → Prop} : ∀ {l : List T} {vs : List Value} {X : List Nat}, RTL (RT0 w U') l vs X → ∀ {g : Gh} {h : Heap}, HR g h w → FrO g0 w0 g w → (∀ b, b ∈ X → Free g0 w0 g b) → X.Nodup →
    (safe = true → ∀ b, U' b → g.U b) → ∃ g', Took g0 w0 g h w g' (takeL safe h l).2 X ∧ (takeL safe h l).1.length = vs.length ∧ ∀ (i : Nat) (c : T), (takeL safe h l).1[i]? = some c → ∃ u, vs[i]? = some u ∧ g'.VR (takeL safe h l).2 w c u := by
  intro l vs X hl
  induction hl with
  | nil =>
    intro g h hr hfr _ _ _
    exact ⟨g, .refl hr hfr, rfl, fun i c hi => by simp [takeL] at hi⟩
  | cons x v X l vs Y hx hl ih =>
    intro g h hr hfr hfree hnd hsafe
    obtain ⟨g1, t1, r1⟩ := take0_sound hx hr hfr (fun b hb => hfree b (by simp [hb])) hsafe
    have hnd' := List.nodup_append.1 hnd
    obtain ⟨g2, t2, l2, r2⟩ := ih (g := g1) (h := (take0 safe h x).2) t1.hr t1.fr (fun b hb => (hfree b (by simp [hb])).after t1 (fun hbx => hnd'.2.2 b hbx b hb rfl)) hnd'.2.1 (fun hs b hb => by rw [t1.u]; exact hsafe hs b hb)
    refine ⟨g2, t1.trans t2, by simp [takeL, l2], fun i c hi => ?_⟩
    cases i with
    | zero =>
      simp only [takeL, List.getElem?_cons_zero, Option.some.injEq] at hi
      subst hi
      exact ⟨v, rfl, r1.keep t2.keep⟩
    | succ i => exact r2 i c (by simpa [takeL] using hi)

theorem take1_sound {g0 : Gh} {w0 : World} {safe : Bool} {U' : Nat → Prop} {x : T} {v : Value} {X : List Nat} (hx : RT1 w U' x v X) (hr : HR g h w) (hfr : FrO g0 w0 g w) (hfree : ∀ b, b ∈ X → Free g0 w0 g b) (hnd : X.Nodup)
    (hsafe : safe = true → ∀ b, U' b → g.U b) : ∃ g', Took g0 w0 g h w g' (take1 safe h x).2 X ∧ g'.VR (take1 safe h x).2 w (take1 safe h x).1 v := by
  cases x with
  | agg l =>
    obtain ⟨cs, rfl, h1, hl⟩ := hx
    obtain ⟨g', t, hlen, hc⟩ := takeL_sound hl hr hfr hfree hnd hsafe
    refine ⟨g', t, VR.mk_agg (by simpa [take1] using hlen) h1 (fun i c hi => ?_)⟩
    obtain ⟨u, hu, hur⟩ := hc i c hi
    exact ⟨u, by simpa using hu, hur⟩
  | _ => exact take0_sound hx hr hfr hfree hsafe

theorem takeLL_sound {g0 : Gh} {w0 : World} {safe : Bool} {U' : Nat → Prop} : ∀ {l : List T} {vs : List Value} {X : List Nat}, RTL (RT1 w U') l vs X → ∀ {g : Gh} {h : Heap}, HR g h w → FrO g0 w0 g w → (∀ b, b ∈ X → Free g0 w0 g b) → X.Nodup →
    (safe = true → ∀ b, U' b → g.U b) → ∃ g', Took g0 w0 g h w g' (takeLL safe h l).2 X ∧ (takeLL safe h l).1.length = vs.length ∧ ∀ (i : Nat) (c : T), (takeLL safe h l).1[i]? = some c → ∃ u, vs[i]? = some u ∧ g'.VR (takeLL safe h l).2 w c u := by
  intro l vs X hl
  induction hl with
  | nil =>
    intro g h hr hfr _ _ _
    exact ⟨g, .refl hr hfr, rfl, fun i c hi => by simp [takeLL] at hi⟩
  | cons x v X l vs Y hx hl ih =>
    intro g h hr hfr hfree hnd hsafe
    have hnd' := List.nodup_append.1 hnd
    obtain ⟨g1, t1, r1⟩ := take1_sound hx hr hfr (fun b hb => hfree b (by simp [hb])) hnd'.1 hsafe
    obtain ⟨g2, t2, l2, r2⟩ := ih (g := g1) (h := (take1 safe h x).2) t1.hr t1.fr (fun b hb => (hfree b (by simp [hb])).after t1 (fun hbx => hnd'.2.2 b hbx b hb rfl)) hnd'.2.1 (fun hs b hb => by rw [t1.u]; exact hsafe hs b hb)
    refine ⟨g2, t1.trans t2, by simp [takeLL, l2], fun i c hi => ?_⟩
    cases i with
    | zero =>
      simp only [takeLL, List.getElem?_cons_zero, Option.some.injEq] at hi
      subst hi
      exact ⟨v, rfl, r1.keep t2.keep⟩
    | succ i => exact r2 i c (by simpa [takeLL] using hi)

theorem taken_sound {g0 : Gh} {w0 : World} {safe : Bool} {U' : Nat → Prop} {x : T} {v : Value} {X : List Nat} (hx : RT2 w U' x v X) (hr : HR g h w) (hfr : FrO g0 w0 g w) (hfree : ∀ b, b ∈ X → Free g0 w0 g b) (hnd : X.Nodup)
    (hsafe : safe = true → ∀ b, U' b → g.U b) : ∃ g', Took g0 w0 g h w g' (taken safe h x).2 X ∧ g'.VR (taken safe h x).2 w (taken safe h x).1 v := by
  cases x with
  | tup l =>
    obtain ⟨cs, rfl, hl⟩ := hx
    obtain ⟨g', t, hlen, hc⟩ := takeLL_sound hl hr hfr hfree hnd hsafe
    refine ⟨g', t, VR.mk_tup (by simpa [taken] using hlen) (fun i c hi => ?_)⟩
    obtain ⟨u, hu, hur⟩ := hc i c hi
    exact ⟨u, by simpa using hu, hur⟩
  | _ => exact take1_sound hx hr hfr hfree hnd hsafe

/-- Behind a by-value call: the caller goes on. -/
theorem taken_res {safe : Bool} {U : Nat → Prop} {r : T} {v : Value} {w' : World} (hr : HR g h w) (hrv : RV w U r v w') (hsafe : safe = true → U = g.U) : Res g h w (taken safe h r).1 (taken safe h r).2 v w' := by
  obtain ⟨hb, U', X, h1, h2, h3, h4, h5⟩ := hrv
  -- the caller's ground behind the call
  let g1 : Gh := if safe = true then { g with U := U' } else g
  have hU1 : ∀ b, g.U b → g1.U b := by
    intro b hbU
    by_cases hs : safe = true
    · simp only [g1, hs, if_true]; exact h1 b (by rw [hsafe hs]; exact hbU)
    · simp only [g1, hs]; exact hbU
  have hU2 : ∀ b, g1.U b → (g.U b ∨ w.heap.size ≤ b) ∧ b < w'.heap.size := by
    intro b hbU
    by_cases hs : safe = true
    · simp only [g1, hs, if_true] at hbU
      have := h2 b hbU
      rw [hsafe hs] at this
      exact this
    · simp only [g1, hs] at hbU
      exact ⟨.inl hbU, by have := (hr.u b hbU).1; have := hb.size; omega⟩
  have hown1 : g1.own = g.own := by by_cases hs : safe = true <;> simp [g1, hs]
  have hφ1 : g1.φ = g.φ := by by_cases hs : safe = true <;> simp [g1, hs]
  have hbase1 : g1.base = g.base := by by_cases hs : safe = true <;> simp [g1, hs]
  have hkeep : Keep g h w g1 h w' := by
    refine ⟨fun b hbU => ⟨hU1 b hbU, hb.block b (hr.u b hbU).1⟩, fun i b hib => ⟨b, hib, Nat.le_refl _, fun _ => ⟨rfl, Nat.le_refl _, by rw [hφ1]⟩⟩, fun k n hkn => ?_⟩
    obtain ⟨arr, e, q1, q2⟩ := hkn
    exact ⟨arr, e, by rw [hb.block k (lt_of_heap q1)]; exact q1, q2⟩
  have hr1 : HR g1 h w' := by
    refine ⟨fun i b hib => ?_, fun b hbU => ⟨(hU2 b hbU).2, ?_⟩, fun b o ho => ?_, by rw [hbase1]; exact Nat.le_trans hr.base hb.size⟩
    · obtain ⟨cb, sh, arr, e, hok⟩ := hr.blk i b hib
      exact ⟨cb, sh, arr, e, by rw [hφ1]; exact hok.φ, by rw [hown1]; exact hok.own, by rw [hb.block cb (lt_of_heap hok.heap)]; exact hok.heap, hok.room, hok.len, fun j o c hj hc => by
        obtain ⟨u, u1, u2, u3⟩ := hok.cell j o c hj hc
        exact ⟨u, u1, u2, u3.keep hkeep⟩, hok.flat⟩
    · rw [hown1]
      rcases (hU2 b hbU).1 with q | q
      · exact (hr.u b q).2
      · cases ho : g.own b with
        | none => rfl
        | some o => have := (hr.own b o ho).2; omega
    · rw [hown1] at ho
      have := hr.own b o ho
      rw [hbase1]
      exact ⟨this.1, by have := hb.size; omega⟩
  have hfr1 : FrO g w g1 w' := by
    refine ⟨hb.size, fun b _ => by rw [hown1], hb.os, hb.tape, hb.output, fun b hbs _ => hb.block b hbs, hbase1, fun b hbU => (hU2 b hbU).1, fun b hbs t ho => ?_⟩
    rw [hown1] at ho
    have := (hr.own b _ ho).2
    omega
  obtain ⟨g', t, hvr⟩ := taken_sound (g0 := g) (w0 := w) (safe := safe) h5 hr1 hfr1 (fun b hbX => by
      obtain ⟨q1, q2, q3⟩ := h4 b hbX
      refine ⟨?_, fun hU => ?_, q1, hr.base⟩
      · rw [hown1]
        cases ho : g.own b with
        | none => rfl
        | some o => have := (hr.own b o ho).2; omega
      · by_cases hs : safe = true
        · simp only [g1, hs, if_true] at hU; exact q3 hU
        · simp only [g1, hs] at hU
          have := (hr.u b hU).1
          omega) h3 (fun hs b hbU => by simp only [g1, hs, if_true]; exact hbU)
  exact ⟨g', t.hr, hvr, hkeep.trans t.keep, t.fr⟩
end
end Go.Ab
