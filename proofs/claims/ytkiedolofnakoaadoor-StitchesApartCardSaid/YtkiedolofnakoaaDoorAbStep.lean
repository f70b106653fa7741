/- One operation of an activation: slots, promoted boxes, own blocks. -/
import Derived.Test.YtkiedolofnakoaaDoorAbCall3
namespace Go.Ab

theorem Tr.get_set : ∀ (d : Nat) (t : Tr) (i j : Nat) (v : T), i < 2 ^ d → j < 2 ^ d → Tr.get d (Tr.set d t i v) j = if j = i then v else Tr.get d t j
  | 0, t, i, j, v, hi, hj => by
    have h1 : i = 0 := by simpa using hi
    have h2 : j = 0 := by simpa using hj
    subst h1; subst h2
    cases t <;> rfl
  | d + 1, t, i, j, v, hi, hj => by
    have hp : 2 ^ (d + 1) = 2 * 2 ^ d := by rw [Nat.pow_succ]; omega
    have ih := fun t => Tr.get_set d t (i / 2) (j / 2) v (by omega) (by omega)
    have nilget : ∀ (d k : Nat), Tr.get d .nil k = .undef := by intro d k; cases d <;> rfl
    have leafget : ∀ (x : T) (k : Nat), Tr.get (d + 1) (.leaf x) k = .undef := fun _ _ => rfl
    cases hi2 : (i % 2 == 0) <;> cases hj2 : (j % 2 == 0)
    all_goals
      have e1 : i % 2 = 0 ∨ i % 2 = 1 := by omega
      have e2 : j % 2 = 0 ∨ j % 2 = 1 := by omega
      simp only [beq_iff_eq, beq_eq_false_iff_ne, ne_eq] at hi2 hj2
      cases t with
      | node l r =>
        simp only [Tr.set, Tr.get, beq_iff_eq, Bool.cond_eq_ite, hi2, hj2, if_true, if_false, ih]
        try (by_cases hij : j / 2 = i / 2
             · rw [if_pos hij, if_pos (by omega)]
             · rw [if_neg hij, if_neg (by omega)])
        try rw [if_neg (by omega)]
      | nil =>
        simp only [Tr.set, Tr.get, beq_iff_eq, Bool.cond_eq_ite, hi2, hj2, if_true, if_false, ih, nilget]
        try (by_cases hij : j / 2 = i / 2
             · rw [if_pos hij, if_pos (by omega)]
             · rw [if_neg hij, if_neg (by omega)])
        try rw [if_neg (by omega)]
      | leaf x =>
        simp only [Tr.set, Tr.get, beq_iff_eq, Bool.cond_eq_ite, hi2, hj2, if_true, if_false, ih, nilget]
        try (by_cases hij : j / 2 = i / 2
             · rw [if_pos hij, if_pos (by omega)]
             · rw [if_neg hij, if_neg (by omega)])
        try rw [if_neg (by omega)]

theorem at_lt {s : St} {t : Nat} (h : t < 1024) : s.at t = s.env.get deep t := by
  unfold St.at
  rw [show Nat.blt t 1024 = true from Nat.ble_eq_true_of_le h]
  rfl
theorem at_ge {s : St} {t : Nat} (h : ¬ t < 1024) : s.at t = .undef := by
  unfold St.at
  cases hb : Nat.blt t 1024 with
  | true => exact absurd (blt_lt hb) h
  | false => rfl

theorem at_set {s s' : St} {d : Nat} {v : T} (he : s'.env = s.env.set deep d v) (hd : d < 1024) (t : Nat) : s'.at t = if t = d then v else s.at t := by
  by_cases ht : t < 1024
  · rw [at_lt ht, at_lt ht, he]
    exact Tr.get_set 10 s.env d t v hd ht
  · rw [at_ge ht, at_ge ht, if_neg (by omega)]

/-- A promoted box. -/
structure RegOk (g : Gh) (h : Heap) (w : World) (t : Nat) (v : Value) (cells : List T) (cb : Nat) (arr : Array Value) (e : TypeId) : Prop where
  ptr : v = .pointer (some ⟨cb, 0, none⟩)
  own : g.own cb = some (.inr t)
  heap : w.heap[cb]? = some (.cells arr e (0, 0))
  len : cells.length ≤ arr.size
  cell : ∀ (o : Nat) (c : T), cells[o]? = some c → ∃ u : Value, arr[o]? = some u ∧ u.oneCell' = true ∧ g.VR h w c u

structure SR (Gl : Nat → Option (List T)) (prom : List Nat) (nt : Nat) (g : Gh) (s : St) (a : Act) (w : World) : Prop where
  hr : HR g s.h w
  defers : a.defers = []
  size : a.tmps.size = nt
  nt : nt ≤ 1024
  tmps : ∀ t, t ∉ prom → g.VR s.h w (s.at t) (a.tmps.getD t undef)
  regs : ∀ t, t ∈ prom → ∀ cells, s.at t = .reg cells → ∃ cb arr e, RegOk g s.h w t (a.tmps.getD t undef) cells cb arr e
  loc : ∀ d t o, s.loc d = some (t, o) → t ∈ prom ∧ d ∉ prom ∧ ∃ cb, a.tmps.getD t undef = .pointer (some ⟨cb, 0, none⟩) ∧ a.tmps.getD d undef = .pointer (some ⟨cb, o, none⟩)
  glob : ∀ gl cells, Gl gl = some cells → VI w g.U (.vp cells) (.pointer (some ⟨gl, 0, none⟩))
  used : ∀ d t o, s.loc d = some (t, o) → s.used t = true

/-- What code of an activation may touch. -/
structure FrC (g : Gh) (h : Heap) (w : World) (g' : Gh) (h' : Heap) (w' : World) : Prop where
  keep : Keep g h w g' h' w'
  size : w.heap.size ≤ w'.heap.size
  own : ∀ b, b < w.heap.size → g'.own b = g.own b
  os : w'.os = w.os
  tape : w'.tape = w.tape
  output : w'.output = w.output
  same : ∀ b, b < w.heap.size → g.own b = none → w'.heap[b]? = w.heap[b]?
  base : g'.base = g.base
  u : ∀ b, g'.U b → g.U b ∨ w.heap.size ≤ b
  u' : ∀ b, g.U b → g'.U b

theorem FrC.refl (g : Gh) (h : Heap) (w : World) : FrC g h w g h w := ⟨.refl _ _ _ _, Nat.le_refl _, fun _ _ => rfl, rfl, rfl, rfl, fun _ _ _ => rfl, rfl, fun _ h => .inl h, fun _ h => h⟩
theorem FrC.trans {g g1 g2 : Gh} {h h1 h2 : Heap} {w w1 w2 : World} (a : FrC g h w g1 h1 w1) (b : FrC g1 h1 w1 g2 h2 w2) : FrC g h w g2 h2 w2 := by
  refine ⟨a.keep.trans b.keep, Nat.le_trans a.size b.size, fun k hk => (b.own k (by have := a.size; omega)).trans (a.own k hk), b.os.trans a.os, b.tape.trans a.tape, b.output.trans a.output, fun k hk hn => ?_, b.base.trans a.base, fun k hk => ?_, fun k hk => b.u' k (a.u' k hk)⟩
  · rw [b.same k (by have := a.size; omega) (by rw [a.own k hk]; exact hn), a.same k hk hn]
  · rcases b.u k hk with h1 | h1
    · exact a.u k h1
    · exact .inr (Nat.le_trans a.size h1)
theorem FrO.toC {g g' : Gh} {h h' : Heap} {w w' : World} (f : FrO g w g' w') (k : Keep g h w g' h' w') : FrC g h w g' h' w' :=
  ⟨k, f.size, f.own, f.os, f.tape, f.output, fun b hb hn => f.same b hb (fun i hi => by rw [hn] at hi; cases hi), f.base, f.u, fun b hb => (k.u b hb).1⟩

section
variable {P : Program} {Gl : Nat → Option (List T)} {prom : List Nat} {nt : Nat} {g : Gh} {s : St} {a : Act} {w : World}

theorem SR.ev (hs : SR Gl prom nt g s a w) (x : Operand) : g.VR s.h w (ev Gl prom s x) (a.eval x) := by
  cases x with
  | tmp t =>
    simp only [Ab.ev, Act.eval]
    cases hp : prom.contains t with
    | true => exact .imm _ _ (.undef _)
    | false => exact hs.tmps t (by simpa using hp)
  | const v =>
    simp only [Ab.ev, Act.eval]
    cases hf : flatVal v with
    | true => exact .imm _ _ (ofVal_rel v hf)
    | false => exact .imm _ _ (.undef _)
  | func f => exact .imm _ _ (.fn f [] #[] (fun _ => undef) rfl (fun i c hi => by simp at hi) (fun i c hi => by simp at hi))
  | global gl =>
    simp only [Ab.ev, Act.eval]
    cases hg : Gl gl with
    | none => exact .imm _ _ (.undef _)
    | some cells => exact .imm _ _ (hs.glob gl cells hg)

theorem put_tmps (a : Act) (d : Nat) (v : Value) (hd : d < a.tmps.size) (t : Nat) : (a.put (some d) v).tmps.getD t undef = if t = d then v else a.tmps.getD t undef := by
  simp only [Act.put, Array.getD_eq_getD_getElem?]
  by_cases ht : t = d
  · subst ht; simp [hd]
  · rw [Array.getElem?_setIfInBounds_ne (fun e => ht e.symm), if_neg ht]
theorem put_size (a : Act) (d : Option Nat) (v : Value) : (a.put d v).tmps.size = a.tmps.size := by cases d <;> simp [Act.put]
theorem put_defers (a : Act) (d : Option Nat) (v : Value) : (a.put d v).defers = a.defers := by cases d <;> rfl

theorem RegOk.keep {h h' : Heap} {g' : Gh} {w' : World} {t : Nat} {v : Value} {cells : List T} {cb : Nat} {arr : Array Value} {e : TypeId} (hreg : RegOk g h w t v cells cb arr e) (hk : Keep g h w g' h' w')
    (ho : g'.own cb = g.own cb) (hh : w'.heap[cb]? = w.heap[cb]?) : RegOk g' h' w' t v cells cb arr e :=
  ⟨hreg.ptr, ho.trans hreg.own, hh.trans hreg.heap, hreg.len, fun o c hoc => by
    obtain ⟨u, h1, h2, h3⟩ := hreg.cell o c hoc
    exact ⟨u, h1, h2, h3.keep hk⟩⟩

/-- A value for a slot, and a heap. -/
abbrev St.lay (s : St) (d : Nat) (v : T) (h : Option Heap) : St := (⟨some (d, v), some (d, none), h⟩ : Eff).app s

theorem put_loc {s : St} {d : Nat} {v : T} {h : Option Heap} {e t o : Nat} (hl : (s.lay d v h).loc e = some (t, o)) : s.loc e = some (t, o) ∧ e ≠ d := by
  simp only [Eff.app, putPlace, Bool.cond_eq_ite] at hl
  split at hl
  · cases hl
  · rename_i he
    exact ⟨hl, by simpa using he⟩

/-- A value comes into a slot. -/
theorem SR.done (hs : SR Gl prom nt g s a w) {d : Nat} (hd : d < nt) {x : T} {h' : Heap} {v : Value} {w' : World} {g' : Gh} (hr : HR g' h' w') (hx : g'.VR h' w' x v) (hk : Keep g s.h w g' h' w') (hf : FrO g w g' w') {hp : Option Heap} (he : hp.getD s.h = h') (hu : s.used d = false) :
    SR Gl prom nt g' (s.lay d x hp) (a.put (some d) v) w' := by
  subst he
  have hdl : d < 1024 := by have := hs.nt; omega
  have hds : d < a.tmps.size := by rw [hs.size]; exact hd
  have hat := at_set (s := s) (s' := s.lay d x hp) (d := d) (v := x) rfl hdl
  refine ⟨hr, by rw [put_defers]; exact hs.defers, by rw [put_size]; exact hs.size, hs.nt, fun t ht => ?_, fun t ht cells hc => ?_, fun e t o hl => ?_, fun gl cells hg => (hs.glob gl cells hg).keep hk.u, fun e t o hl => hs.used e t o (put_loc hl).1⟩
  · rw [hat, put_tmps a d v hds]
    split
    · exact hx
    · exact (hs.tmps t ht).keep hk
  · rw [hat] at hc
    rw [put_tmps a d v hds]
    split at hc
    · subst hc; exact absurd hx VR.not_reg
    · rename_i htd
      rw [if_neg htd]
      obtain ⟨cb, arr, e, hreg⟩ := hs.regs t ht cells hc
      have hlt := lt_of_heap hreg.heap
      exact ⟨cb, arr, e, hreg.keep hk (hf.own cb hlt) (hf.same cb hlt (fun i hi => by rw [hreg.own] at hi; cases hi))⟩
  · obtain ⟨h1, h2⟩ := put_loc hl
    have h3 : t ≠ d := by rintro rfl; rw [hs.used e t o h1] at hu; cases hu
    obtain ⟨q1, q2, cb, q3, q4⟩ := hs.loc e t o h1
    refine ⟨q1, q2, cb, ?_, ?_⟩
    · rw [put_tmps a d v hds, if_neg h3]; exact q3
    · rw [put_tmps a d v hds, if_neg h2]; exact q4

/-- No slot is written. -/
theorem SR.done0 (hs : SR Gl prom nt g s a w) {h' : Heap} {v : Value} {w' : World} {g' : Gh} (hr : HR g' h' w') (hk : Keep g s.h w g' h' w') (hf : FrO g w g' w') {hp : Option Heap} (he : hp.getD s.h = h') :
    SR Gl prom nt g' ((⟨none, none, hp⟩ : Eff).app s) (a.put none v) w' := by
  subst he
  refine ⟨hr, hs.defers, hs.size, hs.nt, fun t ht => (hs.tmps t ht).keep hk, fun t ht cells hc => ?_, hs.loc, fun gl cells hg => (hs.glob gl cells hg).keep hk.u, hs.used⟩
  obtain ⟨cb, arr, e, hreg⟩ := hs.regs t ht cells hc
  have hlt := lt_of_heap hreg.heap
  exact ⟨cb, arr, e, hreg.keep hk (hf.own cb hlt) (hf.same cb hlt (fun i hi => by rw [hreg.own] at hi; cases hi))⟩

/-- A block that is no own block is written, or laid. -/
theorem HR.other {h : Heap} (hr : HR g h w) {w' : World} {cb t : Nat} {arr : Array Value} {e : TypeId} (hsize : w.heap.size ≤ w'.heap.size) (hheap : ∀ k, k < w.heap.size → k ≠ cb → w'.heap[k]? = w.heap[k]?)
    (hcb : w'.heap[cb]? = some (.cells arr e (0, 0))) (hplace : g.own cb = some (.inr t) ∨ w.heap.size ≤ cb) (hrm : ∀ n, room w cb n → n ≤ arr.size) (hos : w'.os = w.os) (htape : w'.tape = w.tape) (hout : w'.output = w.output) :
    ∃ g' : Gh, g'.own cb = some (.inr t) ∧ (∀ k, k ≠ cb → g'.own k = g.own k) ∧ HR g' h w' ∧ Keep g h w g' h w' ∧ FrC g h w g' h w' := by
  let g' : Gh := { g with own := fun k => if k = cb then some (.inr t) else g.own k }
  have hU : KeepU w g.U w' g.U := by
    intro k hk
    obtain ⟨h1, h2⟩ := hr.u k hk
    refine ⟨hk, hheap k h1 ?_⟩
    rintro rfl
    rcases hplace with hp | hp
    · rw [h2] at hp; cases hp
    · omega
  have hkeep : Keep g h w g' h w' := by
    refine ⟨hU, fun k x hx => ⟨x, hx, Nat.le_refl _, fun _ => ⟨rfl, Nat.le_refl _, rfl⟩⟩, fun k n hkn => ?_⟩
    by_cases hk : k = cb
    · subst hk; exact ⟨arr, e, hcb, hrm n hkn⟩
    · obtain ⟨a', e', h1, h2⟩ := hkn
      exact ⟨a', e', by rw [hheap k (lt_of_heap h1) hk]; exact h1, h2⟩
  refine ⟨g', by simp [g'], fun k hk => by simp [g', hk], ?_, hkeep, ?_⟩
  · refine ⟨fun k x hx => ?_, fun k hk => ?_, fun k o ho => ?_, Nat.le_trans hr.base hsize⟩
    · obtain ⟨cb2, sh2, arr2, e2, hok⟩ := hr.blk k x hx
      have hne : cb2 ≠ cb := by
        rintro rfl
        rcases hplace with hp | hp
        · rw [hok.own] at hp; cases hp
        · have := lt_of_heap hok.heap; omega
      refine ⟨cb2, sh2, arr2, e2, hok.φ, by simp [g', hne, hok.own], by rw [hheap cb2 (lt_of_heap hok.heap) hne]; exact hok.heap, hok.room, hok.len, fun j o c hj hc => ?_, hok.flat⟩
      obtain ⟨v, h1, h2, h3⟩ := hok.cell j o c hj hc
      exact ⟨v, h1, h2, h3.keep hkeep⟩
    · obtain ⟨h1, h2⟩ := hr.u k hk
      refine ⟨by omega, ?_⟩
      have hne : k ≠ cb := by
        rintro rfl
        rcases hplace with hp | hp
        · rw [h2] at hp; cases hp
        · omega
      simp [g', hne, h2]
    · by_cases hk : k = cb
      · subst hk
        refine ⟨?_, lt_of_heap hcb⟩
        rcases hplace with hp | hp
        · exact (hr.own k _ hp).1
        · exact Nat.le_trans hr.base hp
      · simp only [g', hk, if_false] at ho
        exact ⟨(hr.own k o ho).1, by have := (hr.own k o ho).2; omega⟩
  · refine ⟨hkeep, hsize, fun k hk => ?_, hos, htape, hout, fun k hk hn => ?_, rfl, fun _ hk => .inl hk, fun _ hk => hk⟩
    · by_cases hkc : k = cb
      · subst hkc
        rcases hplace with hp | hp
        · simp [g', hp]
        · omega
      · simp [g', hkc]
    · refine hheap k hk ?_
      rintro rfl
      rcases hplace with hp | hp
      · rw [hn] at hp; cases hp
      · omega

/-- A promoted box is laid. -/
theorem SR.box (hs : SR Gl prom nt g s a w) {d : Nat} (hd : d < nt) (hp : d ∈ prom) (hu : s.used d = false) {cells : List T} {vs : Array Value} {e : TypeId} (hl : cells.length = vs.size)
    (h1 : ∀ (i : Nat) (u : Value), vs[i]? = some u → u.oneCell' = true) (hc : ∀ (i : Nat) (c : T), cells[i]? = some c → ∃ u, vs[i]? = some u ∧ g.VR s.h w c u) :
    ∃ g', SR Gl prom nt g' (s.lay d (.reg cells) none) (a.put (some d) (.pointer (some ⟨w.heap.size, 0, none⟩))) (w.alloc (.cells vs e)) ∧ FrC g s.h w g' s.h (w.alloc (.cells vs e)) := by
  obtain ⟨g', o1, o2, hr', hk, hf⟩ := hs.hr.other (w' := w.alloc (.cells vs e)) (cb := w.heap.size) (t := d) (by simp) (fun k hk _ => RowKit.Below.heap_alloc _ _ _ hk) (heap_new w _) (.inr (Nat.le_refl _))
    (fun n hn => by obtain ⟨a', e', q1, _⟩ := hn; have := lt_of_heap q1; omega) rfl rfl rfl
  refine ⟨g', ?_, hf⟩
  have hdl : d < 1024 := by have := hs.nt; omega
  have hds : d < a.tmps.size := by rw [hs.size]; exact hd
  have hat := at_set (s := s) (s' := s.lay d (.reg cells) none) (d := d) (v := .reg cells) rfl hdl
  refine ⟨hr', by rw [put_defers]; exact hs.defers, by rw [put_size]; exact hs.size, hs.nt, fun t ht => ?_, fun t ht cells' hc' => ?_, fun e t o hl => ?_, fun gl cells hg => (hs.glob gl cells hg).keep hk.u, fun e t o hl => hs.used e t o (put_loc hl).1⟩
  · have hne : t ≠ d := by rintro rfl; exact ht hp
    rw [hat, put_tmps a d _ hds, if_neg hne, if_neg hne]
    exact (hs.tmps t ht).keep hk
  · rw [hat] at hc'
    rw [put_tmps a d _ hds]
    split at hc'
    · rename_i htd
      subst htd
      obtain rfl := T.reg.inj hc'
      rw [if_pos rfl]
      exact ⟨w.heap.size, vs, e, rfl, o1, heap_new w _, by omega, fun o c ho => by
        obtain ⟨u, hu, hur⟩ := hc o c ho
        exact ⟨u, hu, h1 o u hu, hur.keep hk⟩⟩
    · rename_i htd
      rw [if_neg htd]
      obtain ⟨cb, arr, e', hreg⟩ := hs.regs t ht cells' hc'
      have hlt := lt_of_heap hreg.heap
      exact ⟨cb, arr, e', hreg.keep hk (o2 cb (by omega)) (RowKit.Below.heap_alloc _ _ _ hlt)⟩
  · obtain ⟨q1, q2⟩ := put_loc hl
    have q3 : t ≠ d := by rintro rfl; rw [hs.used e t o q1] at hu; cases hu
    obtain ⟨q4, q5, cb, q6, q7⟩ := hs.loc e t o q1
    refine ⟨q4, q5, cb, ?_, ?_⟩
    · rw [put_tmps a d _ hds, if_neg q3]; exact q6
    · rw [put_tmps a d _ hds, if_neg q2]; exact q7

/-- A promoted box is written. -/
theorem SR.setReg (hs : SR Gl prom nt g s a w) {t : Nat} (hp : t ∈ prom) {cells cells' : List T} (hc : s.at t = .reg cells) {cb : Nat} {arr arr' : Array Value} {e : TypeId} (hreg : RegOk g s.h w t (a.tmps.getD t undef) cells cb arr e)
    (hsz : arr'.size = arr.size) (hlen : cells'.length ≤ arr.size) (hcell : ∀ (o : Nat) (c : T), cells'[o]? = some c → ∃ u : Value, arr'[o]? = some u ∧ u.oneCell' = true ∧ g.VR s.h w c u) :
    ∃ g', SR Gl prom nt g' ((⟨some (t, .reg cells'), none, none⟩ : Eff).app s) (a.put none undef) (w.setRow cb arr') ∧ FrC g s.h w g' s.h (w.setRow cb arr') := by
  have hh := setRow_at w cb arr arr' e hreg.heap
  obtain ⟨g', o1, o2, hr', hk, hf⟩ := hs.hr.other (w' := w.setRow cb arr') (cb := cb) (t := t) (by simp [World.setRow]) (fun k _ hne => setRow_other w cb k _ hne) hh (.inl hreg.own)
    (fun n hn => by rw [hsz]; exact room_is hreg.heap hn) rfl rfl rfl
  refine ⟨g', ?_, hf⟩
  have htl : t < 1024 := by
    rcases Nat.lt_or_ge t 1024 with hq | hq
    · exact hq
    · rw [at_ge (by omega)] at hc; cases hc
  have hat := at_set (s := s) (s' := (⟨some (t, .reg cells'), none, none⟩ : Eff).app s) (d := t) (v := .reg cells') rfl htl
  refine ⟨hr', hs.defers, hs.size, hs.nt, fun t' ht => ?_, fun t' ht cells2 hc' => ?_, hs.loc, fun gl cells hg => (hs.glob gl cells hg).keep hk.u, hs.used⟩
  · have hne : t' ≠ t := by rintro rfl; exact ht hp
    rw [hat, if_neg hne]
    exact (hs.tmps t' ht).keep hk
  · rw [hat] at hc'
    split at hc'
    · rename_i htd
      subst htd
      obtain rfl := T.reg.inj hc'
      exact ⟨cb, arr', e, hreg.ptr, o1, hh, by omega, fun o c ho => by
        obtain ⟨u, u1, u2, u3⟩ := hcell o c ho
        exact ⟨u, u1, u2, u3.keep hk⟩⟩
    · rename_i htd
      obtain ⟨cb2, arr2, e2, hreg2⟩ := hs.regs t' ht cells2 hc'
      have hne : cb2 ≠ cb := by
        rintro rfl
        have := hreg.own
        rw [hreg2.own] at this
        exact htd (by simpa using this)
      exact ⟨cb2, arr2, e2, hreg2.keep hk (o2 cb2 hne) (setRow_other w cb cb2 _ hne)⟩

/-- A place in a promoted box is named. -/
theorem SR.putLoc (hs : SR Gl prom nt g s a w) {d t o cb : Nat} (hd : d < nt) (hp : t ∈ prom) (hdp : d ∉ prom) (ht : a.tmps.getD t undef = .pointer (some ⟨cb, 0, none⟩)) :
    SR Gl prom nt g ((⟨some (d, .undef), some (d, some (t, o)), none⟩ : Eff).app s) (a.put (some d) (.pointer (some ⟨cb, o, none⟩))) w := by
  have hdl : d < 1024 := by have := hs.nt; omega
  have hds : d < a.tmps.size := by rw [hs.size]; exact hd
  have hne : t ≠ d := by rintro rfl; exact hdp hp
  have hat := at_set (s := s) (s' := (⟨some (d, .undef), some (d, some (t, o)), none⟩ : Eff).app s) (d := d) (v := .undef) rfl hdl
  have hloc : ∀ e t' o', ((⟨some (d, .undef), some (d, some (t, o)), none⟩ : Eff).app s).loc e = some (t', o') → (e = d ∧ t' = t ∧ o' = o) ∨ (e ≠ d ∧ s.loc e = some (t', o')) := by
    intro e t' o' hl
    simp only [Eff.app, putPlace, Bool.cond_eq_ite] at hl
    split at hl
    · rename_i he
      have he : e = d := by simpa using he
      simp only [Option.some.injEq, Prod.mk.injEq] at hl
      exact .inl ⟨he, hl.1.symm, hl.2.symm⟩
    · rename_i he
      exact .inr ⟨by simpa using he, hl⟩
  refine ⟨hs.hr, by rw [put_defers]; exact hs.defers, by rw [put_size]; exact hs.size, hs.nt, fun t' ht' => ?_, fun t' ht' cells hc => ?_, fun e t' o' hl => ?_, hs.glob, fun e t' o' hl => ?_⟩
  · rw [hat, put_tmps a d _ hds]
    split
    · exact .imm _ _ (.undef _)
    · exact hs.tmps t' ht'
  · have hnd : t' ≠ d := by rintro rfl; exact hdp ht'
    rw [hat, if_neg hnd] at hc
    rw [put_tmps a d _ hds, if_neg hnd]
    exact hs.regs t' ht' cells hc
  · rcases hloc e t' o' hl with ⟨rfl, rfl, rfl⟩ | ⟨he, hl⟩
    · refine ⟨hp, hdp, cb, ?_, ?_⟩
      · rw [put_tmps a e _ hds, if_neg hne]; exact ht
      · rw [put_tmps a e _ hds, if_pos rfl]
    · obtain ⟨q1, q2, cb', q3, q4⟩ := hs.loc e t' o' hl
      refine ⟨q1, q2, cb', ?_, ?_⟩
      · rw [put_tmps a d _ hds, if_neg (by rintro rfl; exact hdp q1)]; exact q3
      · rw [put_tmps a d _ hds, if_neg he]; exact q4
  · simp only [Eff.app, putUsed, Bool.cond_eq_ite]
    split
    · rfl
    · rename_i hx
      rcases hloc e t' o' hl with ⟨rfl, rfl, rfl⟩ | ⟨he, hl⟩
      · exact absurd (beq_self_eq_true _) hx
      · exact hs.used e t' o' hl
end
end Go.Ab
