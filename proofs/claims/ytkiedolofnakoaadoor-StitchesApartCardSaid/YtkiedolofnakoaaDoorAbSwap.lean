/- What an operation looks at, and what it changes. -/
import Derived.Test.YtkiedolofnakoaaDoorAbDet2
namespace Go.Ab
section
variable (P : Program) (K : Orc) (Gl : Nat → Option (List T)) (prom : List Nat) (nt : Nat)

theorem map_parts {e e' : Operand → T} (ps : Array (Nat × Operand)) (h : ∀ x ∈ (ps.toList.map (·.2)), e' x = e x) : (ps.toList.map fun p => (p.1, e' p.2)) = (ps.toList.map fun p => (p.1, e p.2)) := by
  apply List.map_congr_left
  intro p hp
  rw [h p.2 (List.mem_map.2 ⟨p, hp, rfl⟩)]
theorem map_args {e e' : Operand → T} (xs : Array Operand) (h : ∀ x ∈ xs.toList, e' x = e x) : xs.toList.map e' = xs.toList.map e := List.map_congr_left fun x hx => h x hx

theorem semOp_congr {R : Type} (op : Op) {e e' : Operand → T} (hd : Heap) (k : Kont R) (h : ∀ x ∈ op.operands.toList, e' x = e x) : semOp P K op e' hd k = semOp P K op e hd k := by
  cases op with
  | call c =>
    obtain ⟨callee, args, argTypes⟩ := c
    cases callee with
    | value f =>
      have h1 := h f (by simp [Op.operands, Call.operands])
      have h2 := map_args (e := e) (e' := e') args fun x hx => h x (by simp [Op.operands, Call.operands]; right; simpa using hx)
      simp only [semOp, h1, h2]
    | builtin b =>
      have h2 := map_args (e := e) (e' := e') args fun x hx => h x (by simpa [Op.operands, Call.operands] using hx)
      simp only [semOp, h2]
    | invoke r m => rfl
  | build t ps =>
    simp only [semOp]
    rw [map_parts (e := e) (e' := e') ps fun x hx => h x (by simpa [Op.operands] using hx)]
  | buildSlice t n ps =>
    simp only [semOp]
    rw [map_parts (e := e) (e' := e') ps fun x hx => h x (by simpa [Op.operands] using hx)]
  | makeFunc fn first captured =>
    have h2 := map_args (e := e) (e' := e') captured fun x hx => h x (by simp only [Op.operands, Array.toList_append, List.mem_append]; exact .inr hx)
    cases fn <;> simp only [semOp, h2]
  | slice t x lo hi mx => cases lo <;> cases hi <;> cases mx <;> simp_all [Op.operands, semOp]
  | _ => first | rfl | (simp [Op.operands] at h; simp [semOp, h]; done)

theorem noHeap_congr (op : Op) {e e' : Operand → T} (h : ∀ x ∈ op.operands.toList, e' x = e x) : noHeap op e' = noHeap op e := by
  unfold noHeap
  congr 1
  congr 1
  have : ∀ l : List Operand, (∀ x ∈ l, e' x = e x) → (l.all fun x => imm (e' x)) = (l.all fun x => imm (e x)) := by
    intro l
    induction l with
    | nil => exact fun _ => rfl
    | cons x l ih => intro hl; simp only [List.all_cons, hl x (by simp), ih fun y hy => hl y (by simp [hy])]
  exact this _ h

theorem callReads_congr (op : Op) {e e' : Operand → T} (h : ∀ x ∈ op.operands.toList, e' x = e x) : callReads K op e' = callReads K op e := by
  cases op with
  | call c =>
    obtain ⟨callee, args, argTypes⟩ := c
    cases callee with
    | value f =>
      have h1 := h f (by simp [Op.operands, Call.operands])
      have h2 := map_args (e := e) (e' := e') args fun x hx => h x (by simp [Op.operands, Call.operands]; right; simpa using hx)
      simp only [callReads, h1, h2]
    | _ => rfl
  | _ => rfl

theorem take0_nf (h : Heap) {x : T} (hx : noFresh0 x = true) : take0 true h x = (x, h) := by
  cases x with
  | fresh => cases hx
  | _ => rfl
theorem takeL_nf (h : Heap) : ∀ {l : List T}, l.all noFresh0 = true → takeL true h l = (l, h)
  | [], _ => rfl
  | x :: l, hl => by
    simp only [List.all_cons, Bool.and_eq_true] at hl
    simp only [takeL, take0_nf h hl.1, takeL_nf h hl.2]
theorem take1_nf (h : Heap) {x : T} (hx : noFresh1 x = true) : take1 true h x = (x, h) := by
  cases x with
  | agg l => simp only [take1, takeL_nf h (show l.all noFresh0 = true from hx)]
  | _ => (simp only [noFresh1] at hx; simp only [take1]; exact take0_nf h hx)
theorem takeLL_nf (h : Heap) : ∀ {l : List T}, l.all noFresh1 = true → takeLL true h l = (l, h)
  | [], _ => rfl
  | x :: l, hl => by
    simp only [List.all_cons, Bool.and_eq_true] at hl
    simp only [takeLL, take1_nf h hl.1, takeLL_nf h hl.2]
theorem taken_nf (h : Heap) {x : T} (hx : noFresh x = true) : taken true h x = (x, h) := by
  cases x with
  | tup l => simp only [taken, takeLL_nf h (show l.all noFresh1 = true from hx)]
  | _ => (simp only [noFresh] at hx; simp only [taken]; exact take1_nf h hx)

theorem map_resolveArg_nf (h : Heap) : ∀ {l : List T}, l.all imm = true → l.map (resolveArg h) = l
  | [], _ => rfl
  | x :: l, hl => by
    simp only [List.all_cons, Bool.and_eq_true] at hl
    simp only [List.map_cons, map_resolveArg_nf h hl.2, resolveArg, hl.1, cond_true]

/-- A call that neither looks into own blocks nor lays any. -/
theorem semOp_far {R : Type} {op : Op} {e : Operand → T} {h h1 : Heap} {k : Kont R} {r : R} (hc : callReads K op e = false) (hk : semOp P K op e h k = some r) :
    ∃ y h' w, k y h' w = some r ∧ (w = false → semOp P K op e h1 k = k y h1 false) := by
  cases op with
  | call c =>
    obtain ⟨callee, args, argTypes⟩ := c
    cases callee with
    | value f =>
      simp only [callReads] at hc
      simp only [semOp] at hk ⊢
      cases hf : e f with
      | fn f caps =>
        rw [hf] at hc hk
        dsimp only at hc
        simp only [Bool.or_eq_false_iff, Bool.not_eq_false'] at hc
        obtain ⟨hb, hi⟩ := hc
        simp only [semCall, hb, cond_false, map_resolveArg_nf _ hi, hi] at hk ⊢
        obtain ⟨r', hk, hall⟩ := det_some (K.valDet f (args.toList.map e ++ caps)) hk
        refine ⟨_, _, _, hk, fun hw => ?_⟩
        have hn : noFresh r' = true := by simpa using hw
        rw [hall]
        simp only [taken_nf _ hn, hw]
      | _ => rw [hf] at hk; cases hk
    | _ => cases hc
  | _ => cases hc

/-! ### The same where it looks -/
structure Agree (s s1 : St) (fp : FP) : Prop where
  at' : ∀ e ∈ fp.rs, s1.at e = s.at e
  loc : ∀ e ∈ fp.rs, s1.loc e = s.loc e
  used : ∀ d ∈ fp.ws, s1.used d = s.used d
  heap : fp.rd = true ∨ fp.wr = true → s1.h = s.h

variable {P K Gl prom nt}
variable {s s1 : St} {f : Eff} {fp : FP}

abbrev two (f : Eff) (fp : FP) : Option (Eff × FP) := some (f, fp)

theorem ev_congr {x : Operand} (h : ∀ t ∈ slotOf x, s1.at t = s.at t) : ev Gl prom s1 x = ev Gl prom s x := by
  cases x with
  | tmp t => simp only [ev, h t (by simp [slotOf])]
  | _ => rfl
theorem base_congr {x : Operand} (h : ∀ t ∈ slotOf x, s1.loc t = s.loc t) : base prom s1 x = base prom s x := by
  cases x with
  | tmp t => simp only [base, h t (by simp [slotOf])]
  | _ => rfl

theorem parted_some {A : Type} {v : T} {k : T → Option A} : parted v k = k v := by
  cases v with
  | bool b => cases b <;> rfl
  | _ => rfl

theorem done_congr {o : Oper} {v : T} {hp : Option Heap} {rs : List Nat} {rd wr : Bool} (hk : done nt o s v hp rs rd wr two = some (f, fp)) :
    fp.rs = rs ∧ fp.rd = rd ∧ fp.wr = wr ∧ ((∀ d ∈ fp.ws, s1.used d = s.used d) → done nt o s1 v hp rs rd wr two = some (f, fp)) := by
  unfold done at hk ⊢
  cases hd : o.dst with
  | none =>
    rw [hd] at hk
    simp only [Option.some.injEq, Prod.mk.injEq] at hk
    obtain ⟨rfl, rfl⟩ := hk
    exact ⟨rfl, rfl, rfl, fun _ => rfl⟩
  | some d =>
    rw [hd] at hk
    dsimp only at hk
    cases hb : (Nat.blt d nt && !s.used d) with
    | false => rw [hb] at hk; cases hk
    | true =>
      rw [hb] at hk
      simp only [cond_true, parted_some, Option.some.injEq, Prod.mk.injEq] at hk
      obtain ⟨rfl, rfl⟩ := hk
      refine ⟨rfl, rfl, rfl, fun h => ?_⟩
      have := h d (by simp)
      rw [← this] at hb
      simp only [hb, cond_true, parted_some]

theorem plainStep_congr {o : Oper} (hk : plainStep P K Gl prom nt o s two = some (f, fp)) :
    (∀ t ∈ opSlots o.op, t ∈ fp.rs) ∧ (Agree s s1 fp → plainStep P K Gl prom nt o s1 two = some (f, fp)) := by
  have evs : Agree s s1 fp → (∀ t ∈ opSlots o.op, t ∈ fp.rs) → ∀ x ∈ o.op.operands.toList, ev Gl prom s1 x = ev Gl prom s x := by
    intro ha hsub x hx
    exact ev_congr fun t ht => ha.at' t (hsub t (List.mem_flatMap.2 ⟨x, hx, ht⟩))
  unfold plainStep at hk ⊢
  cases hn : noHeap o.op (ev Gl prom s) with
  | true =>
    rw [hn] at hk
    simp only [cond_true] at hk
    obtain ⟨⟨y, h', wr⟩, hk1, hall⟩ := det_some (semOp_det P K o.op (ev Gl prom s) []) (k := fun p => bif p.2.2 then none else done nt o s p.1 none (opSlots o.op) false false two) hk
    dsimp only at hk1
    cases wr with
    | true => cases hk1
    | false =>
      simp only [cond_false] at hk1
      obtain ⟨h1, h2, h3, h4⟩ := done_congr (s1 := s1) hk1
      have hsub : ∀ t ∈ opSlots o.op, t ∈ fp.rs := fun t ht => h1 ▸ ht
      refine ⟨hsub, fun ha => ?_⟩
      have he := evs ha hsub
      rw [noHeap_congr o.op he, hn]
      simp only [cond_true]
      rw [semOp_congr P K o.op [] _ he]
      have := hall _ fun p => bif p.2.2 then none else done nt o s1 p.1 none (opSlots o.op) false false two
      simp only [cond_false] at this
      rw [this]
      exact h4 ha.used
  | false =>
    rw [hn] at hk
    simp only [cond_false] at hk
    obtain ⟨⟨y, h', wr⟩, hk1, hall⟩ := det_some (semOp_det P K o.op (ev Gl prom s) s.h) (k := fun p => done nt o s p.1 (bif p.2.2 then some p.2.1 else none) (opSlots o.op) (callReads K o.op (ev Gl prom s)) p.2.2 two) hk
    dsimp only at hk1
    obtain ⟨h1, h2, h3, h4⟩ := done_congr (s1 := s1) hk1
    have hsub : ∀ t ∈ opSlots o.op, t ∈ fp.rs := fun t ht => h1 ▸ ht
    refine ⟨hsub, fun ha => ?_⟩
    have he := evs ha hsub
    rw [noHeap_congr o.op he, hn]
    simp only [cond_false]
    rw [semOp_congr P K o.op s1.h _ he, callReads_congr K o.op he]
    by_cases hh : fp.rd = true ∨ fp.wr = true
    · rw [ha.heap hh]
      have := hall _ fun p => done nt o s1 p.1 (bif p.2.2 then some p.2.1 else none) (opSlots o.op) (callReads K o.op (ev Gl prom s)) p.2.2 two
      dsimp only at this
      rw [this]
      exact h4 ha.used
    · simp only [not_or, Bool.not_eq_true] at hh
      obtain ⟨hr, hw⟩ := hh
      rw [h2] at hr
      rw [h3] at hw
      subst hw
      obtain ⟨y2, h2', w2, hk2, hfar⟩ := semOp_far P K (h1 := s1.h) (k := fun y h w => done nt o s1 y (bif w then some h else none) (opSlots o.op) (callReads K o.op (ev Gl prom s)) w two) (r := (f, fp)) hr (by
        have := hall _ fun p => done nt o s1 p.1 (bif p.2.2 then some p.2.1 else none) (opSlots o.op) (callReads K o.op (ev Gl prom s)) p.2.2 two
        dsimp only at this
        rw [this]
        exact h4 ha.used)
      -- the same value came
      obtain ⟨y3, h3', w3, hk3, hfar3⟩ := semOp_far P K (h1 := s1.h) (k := fun y h w => some (y, h, w)) (r := (y, h', false)) hr (hall _ some)
      simp only [Option.some.injEq, Prod.mk.injEq] at hk3
      obtain ⟨rfl, rfl, rfl⟩ := hk3
      have h5 := hfar3 rfl
      obtain ⟨q, hq1, hq2⟩ := det_some (semOp_det P K o.op (ev Gl prom s) s1.h) (k := some) h5
      simp only [Option.some.injEq] at hq1
      subst hq1
      have := hq2 _ fun p => done nt o s1 p.1 (bif p.2.2 then some p.2.1 else none) (opSlots o.op) (callReads K o.op (ev Gl prom s)) p.2.2 two
      dsimp only at this
      rw [this]
      exact h4 ha.used
theorem doneLoc_rs {o : Oper} {t off : Nat} {rs : List Nat} (hk : doneLoc prom nt o t off rs two = some (f, fp)) : fp.rs = t :: rs := by
  unfold doneLoc at hk
  cases hd : o.dst with
  | none => rw [hd] at hk; cases hk
  | some d =>
    rw [hd] at hk
    dsimp only at hk
    cases hb : (Nat.blt d nt && !prom.contains d) with
    | false => rw [hb] at hk; cases hk
    | true =>
      rw [hb] at hk
      simp only [cond_true, Option.some.injEq, Prod.mk.injEq] at hk
      obtain ⟨rfl, rfl⟩ := hk
      rfl

theorem opStep_congr {o : Oper} (hk : opStep P K Gl prom nt o s two = some (f, fp)) (ha : Agree s s1 fp) : opStep P K Gl prom nt o s1 two = some (f, fp) := by
  have sub1 : ∀ {x : Operand} {rs : List Nat}, (∀ t ∈ slotOf x, t ∈ rs) → fp.rs = rs → (∀ t ∈ slotOf x, s1.at t = s.at t) ∧ (∀ t ∈ slotOf x, s1.loc t = s.loc t) := by
    intro x rs h1 h2
    exact ⟨fun t ht => ha.at' t (h2 ▸ h1 t ht), fun t ht => ha.loc t (h2 ▸ h1 t ht)⟩
  have subp : ∀ {x : Operand}, x ∈ o.op.operands.toList → plainStep P K Gl prom nt o s two = some (f, fp) → (∀ t ∈ slotOf x, s1.at t = s.at t) ∧ (∀ t ∈ slotOf x, s1.loc t = s.loc t) := by
    intro x hx hp
    have := (plainStep_congr (s1 := s1) hp).1
    exact ⟨fun t ht => ha.at' t (this t (List.mem_flatMap.2 ⟨x, hx, ht⟩)), fun t ht => ha.loc t (this t (List.mem_flatMap.2 ⟨x, hx, ht⟩))⟩
  unfold opStep at hk ⊢
  split at hk
  · rename_i ty x ho
    cases hd : o.dst with
    | none => rw [hd] at hk; cases hk
    | some d =>
      rw [hd] at hk
      dsimp only at hk ⊢
      cases hp : prom.contains d with
      | false => rw [hp] at hk; simp only [cond_false] at hk ⊢; exact (plainStep_congr hk).2 ha
      | true =>
        rw [hp] at hk
        simp only [cond_true] at hk ⊢
        cases hc : cellsOk (ev Gl prom s x) with
        | false => rw [hc] at hk; cases hk
        | true =>
          rw [hc] at hk
          simp only [cond_true] at hk
          obtain ⟨h1, _, _, h4⟩ := done_congr (s1 := s1) hk
          have he := ev_congr (Gl := Gl) (prom := prom) (sub1 (x := x) (fun t ht => ht) h1).1
          rw [he, hc]
          exact h4 ha.used
  · rename_i ty ho
    cases hd : o.dst with
    | none => rw [hd] at hk; cases hk
    | some d =>
      rw [hd] at hk
      dsimp only at hk ⊢
      cases hp : prom.contains d with
      | false => rw [hp] at hk; simp only [cond_false] at hk ⊢; exact (plainStep_congr hk).2 ha
      | true =>
        rw [hp] at hk
        simp only [cond_true] at hk ⊢
        cases hz : zeroOk P ty with
        | false => rw [hz] at hk; cases hk
        | true =>
          rw [hz] at hk
          simp only [cond_true] at hk ⊢
          obtain ⟨h1, _, _, h4⟩ := done_congr (s1 := s1) hk
          exact h4 ha.used
  · rename_i ty x ho
    cases hb : base prom s x with
    | none =>
      rw [hb] at hk
      dsimp only at hk
      rw [base_congr (subp (x := x) (by rw [ho]; simp [Op.operands]) hk).2, hb]
      exact (plainStep_congr hk).2 ha
    | some p =>
      obtain ⟨t, off⟩ := p
      rw [hb] at hk
      dsimp only at hk
      cases hc : s.at t with
      | reg cells =>
        rw [hc] at hk
        dsimp only at hk
        obtain ⟨v, hk1, hall⟩ := det_some (ld_det P ty (cells.drop off)) hk
        obtain ⟨h1, _, _, h4⟩ := done_congr (s1 := s1) hk1
        have h5 := sub1 (x := x) (rs := t :: slotOf x) (fun t ht => List.mem_cons_of_mem _ ht) h1
        rw [base_congr h5.2, hb]
        dsimp only
        rw [ha.at' t (h1 ▸ List.mem_cons_self), hc]
        dsimp only
        rw [hall]
        exact h4 ha.used
      | _ => rw [hc] at hk; cases hk
  · rename_i ty x v ho
    cases hb : base prom s x with
    | none =>
      rw [hb] at hk
      dsimp only at hk
      rw [base_congr (subp (x := x) (by rw [ho]; simp [Op.operands]) hk).2, hb]
      exact (plainStep_congr hk).2 ha
    | some p =>
      obtain ⟨t, off⟩ := p
      rw [hb] at hk
      dsimp only at hk
      cases hc : s.at t with
      | reg cells =>
        rw [hc] at hk
        cases hd : o.dst with
        | some d => rw [hd] at hk; cases hk
        | none =>
          rw [hd] at hk
          dsimp only at hk
          generalize hg : (known P ty && ((ev Gl prom s v).cells.length == szTy P ty) && cellsOk (ev Gl prom s v) && Nat.ble (off + szTy P ty) cells.length) = c at hk
          cases c with
          | false => cases hk
          | true =>
            simp only [cond_true, Option.some.injEq, Prod.mk.injEq] at hk
            obtain ⟨hf, hfp⟩ := hk
            have h1 : fp.rs = t :: (slotOf x ++ slotOf v) := by rw [← hfp]
            have h5 := sub1 (x := x) (fun t' ht => List.mem_cons_of_mem _ (List.mem_append_left _ ht)) h1
            have h6 := sub1 (x := v) (fun t' ht => List.mem_cons_of_mem _ (List.mem_append_right _ ht)) h1
            rw [base_congr h5.2, hb]
            dsimp only
            rw [ha.at' t (h1 ▸ List.mem_cons_self), hc]
            dsimp only
            rw [ev_congr h6.1, hg]
            simp only [cond_true, hf, hfp]
      | _ => rw [hc] at hk; cases hk
  · rename_i ty x fl ho
    cases hb : base prom s x with
    | none =>
      rw [hb] at hk
      dsimp only at hk
      rw [base_congr (subp (x := x) (by rw [ho]; simp [Op.operands]) hk).2, hb]
      exact (plainStep_congr hk).2 ha
    | some p =>
      obtain ⟨t, off⟩ := p
      rw [hb] at hk
      dsimp only at hk
      cases hc : s.at t with
      | reg cells =>
        rw [hc] at hk
        dsimp only at hk
        cases hf : fieldOf P ty fl with
        | none => rw [hf] at hk; cases hk
        | some q =>
          rw [hf] at hk
          dsimp only at hk
          have h1 := doneLoc_rs hk
          have h5 := sub1 (x := x) (rs := t :: slotOf x) (fun t ht => List.mem_cons_of_mem _ ht) h1
          rw [base_congr h5.2, hb]
          dsimp only
          rw [ha.at' t (h1 ▸ List.mem_cons_self), hc]
          exact hk
      | _ => rw [hc] at hk; cases hk
  · rename_i ty x i ho
    cases hb : base prom s x with
    | none =>
      rw [hb] at hk
      dsimp only at hk
      rw [base_congr (subp (x := x) (by rw [ho]; simp [Op.operands]) hk).2, hb]
      exact (plainStep_congr hk).2 ha
    | some p =>
      obtain ⟨t, off⟩ := p
      rw [hb] at hk
      dsimp only at hk
      cases hc : s.at t with
      | reg cells =>
        rw [hc] at hk
        dsimp only at hk
        cases hi : ev Gl prom s i with
        | int ki i' =>
          rw [hi] at hk
          dsimp only at hk
          cases hf : arrayOf P ty with
          | none => rw [hf] at hk; cases hk
          | some q =>
            obtain ⟨n, e⟩ := q
            rw [hf] at hk
            dsimp only at hk
            generalize hg : (known P e && decide (0 ≤ i') && decide (i' < (n : Int))) = c at hk
            cases c with
            | false => cases hk
            | true =>
              simp only [cond_true] at hk
              have hlt := hg
              simp only [Bool.and_eq_true, decide_eq_true_eq] at hlt
              have h1 := doneLoc_rs (pickAt_some (by omega) hk)
              have h5 := sub1 (x := x) (fun t' ht => List.mem_cons_of_mem _ (List.mem_append_left _ ht)) h1
              have h6 := sub1 (x := i) (fun t' ht => List.mem_cons_of_mem _ (List.mem_append_right _ ht)) h1
              rw [base_congr h5.2, hb]
              dsimp only
              rw [ha.at' t (h1 ▸ List.mem_cons_self), hc]
              dsimp only
              rw [ev_congr h6.1, hi]
              dsimp only
              rw [hg]
              simpa only [cond_true] using hk
        | _ => rw [hi] at hk; cases hk
      | _ => rw [hc] at hk; cases hk
  · rename_i x ho
    cases hb : base prom s x with
    | none =>
      rw [hb] at hk
      dsimp only at hk
      rw [base_congr (subp (x := x) (by rw [ho]; simp [Op.operands]) hk).2, hb]
      exact (plainStep_congr hk).2 ha
    | some p =>
      obtain ⟨t, off⟩ := p
      rw [hb] at hk
      dsimp only at hk
      cases hc : s.at t with
      | reg cells =>
        rw [hc] at hk
        dsimp only at hk
        have h1 := doneLoc_rs hk
        have h5 := sub1 (x := x) (rs := t :: slotOf x) (fun t ht => List.mem_cons_of_mem _ ht) h1
        rw [base_congr h5.2, hb]
        dsimp only
        rw [ha.at' t (h1 ▸ List.mem_cons_self), hc]
        exact hk
      | _ => rw [hc] at hk; cases hk
  · exact (plainStep_congr hk).2 ha
end
end Go.Ab
