/- Each operation of the abstract interpreter is met by the model's. -/
import Derived.Test.YtkiedolofnakoaaDoorAbVal
namespace Go.Ab

structure Gh where
  U : Nat → Prop
  φ : Nat → Option (Nat × Nat)
  own : Nat → Option (Nat ⊕ Nat)
  base : Nat

/-- What is known of an own block's memory. -/
structure BlkOk (w : World) (g : Gh) (h : Heap) (i : Nat) (b : Blk) (cb sh : Nat) (arr : Array Value) (e : TypeId) : Prop where
  φ : g.φ i = some (cb, sh)
  own : g.own cb = some (.inl i)
  heap : w.heap[cb]? = some (.cells arr e (0, 0))
  room : sh + b.n * b.sz ≤ arr.size
  len : ∀ j, j < b.n → (b.get j).length = b.sz
  cell : ∀ j o c, j < b.n → (b.get j)[o]? = some c → ∃ v, arr[sh + j * b.sz + o]? = some v ∧ v.oneCell' = true ∧ VR w g.U g.φ h c v
  flat : b.flat = true → ∀ j, j < b.n → ∀ c, c ∈ b.get j → plain0 c = true

structure HR (g : Gh) (h : Heap) (w : World) : Prop where
  blk : ∀ i b, h[i]? = some b → ∃ cb sh arr e, BlkOk w g h i b cb sh arr e
  u : ∀ b, g.U b → b < w.heap.size ∧ g.own b = none
  own : ∀ b o, g.own b = some o → g.base ≤ b ∧ b < w.heap.size
  base : g.base ≤ w.heap.size

/-- What an operation on values may touch: own blocks, and new memory. -/
structure FrO (g : Gh) (w : World) (g' : Gh) (w' : World) : Prop where
  size : w.heap.size ≤ w'.heap.size
  own : ∀ b, b < w.heap.size → g'.own b = g.own b
  os : w'.os = w.os
  tape : w'.tape = w.tape
  output : w'.output = w.output
  same : ∀ b, b < w.heap.size → (∀ i, g.own b ≠ some (.inl i)) → w'.heap[b]? = w.heap[b]?
  base : g'.base = g.base
  u : ∀ b, g'.U b → g.U b ∨ w.heap.size ≤ b
  new : ∀ b, w.heap.size ≤ b → ∀ t, g'.own b ≠ some (.inr t)

theorem FrO.refl (g : Gh) (w : World) (hn : ∀ b o, g.own b = some o → b < w.heap.size) : FrO g w g w :=
  ⟨Nat.le_refl _, fun _ _ => rfl, rfl, rfl, rfl, fun _ _ _ => rfl, rfl, fun _ h => .inl h, fun b hb t e => by have := hn b _ e; omega⟩

abbrev Gh.VR (g : Gh) (h : Heap) (w : World) (x : T) (v : Value) : Prop := Ab.VR w g.U g.φ h x v
abbrev Keep (g : Gh) (h : Heap) (w : World) (g' : Gh) (h' : Heap) (w' : World) : Prop := KeepR w g.U g.φ h w' g'.U g'.φ h'

/-- What comes of an operation. -/
def Res (g : Gh) (h : Heap) (w : World) (x : T) (h' : Heap) (v : Value) (w' : World) : Prop :=
  ∃ g', HR g' h' w' ∧ g'.VR h' w' x v ∧ Keep g h w g' h' w' ∧ FrO g w g' w'

theorem Res.pure {g : Gh} {h : Heap} {w : World} {x : T} {v : Value} (hr : HR g h w) (hx : g.VR h w x v) : Res g h w x h v w :=
  ⟨g, hr, hx, .refl _ _ _ _, .refl _ _ fun b o e => (hr.own b o e).2⟩

/-- An operation ends in one of the values and worlds that are told. -/
def Yields (P : Program) (o : Oper) (a : Act) (w : World) (Φ : Value → World → Prop) : Prop :=
  ∀ (next : Act → World → Prop) (Q : Exit → Act → World → Prop), (∀ v w', Φ v w' → next (a.put o.dst v) w') → o.wp P a w next Q

theorem yields_value {P : Program} {o : Oper} {a : Act} {w w' : World} {v : Value} {Φ : Value → World → Prop} (h : (execOp a.eval o).run P w = .ok (.value v) w') (hΦ : Φ v w') : Yields P o a w Φ := by
  intro next Q hn
  unfold Oper.wp
  rw [h]
  exact hn v w' hΦ
theorem yields_skip {P : Program} {o : Oper} {a : Act} {w w' : World} {Φ : Value → World → Prop} (h : (execOp a.eval o).run P w = .ok .skip w') (hΦ : Φ undef w') : Yields P o a w Φ := by
  intro next Q hn
  unfold Oper.wp
  rw [h]
  exact hn undef w' hΦ
theorem Yields.mono {P : Program} {o : Oper} {a : Act} {w : World} {Φ Ψ : Value → World → Prop} (h : Yields P o a w Φ) (hm : ∀ v w', Φ v w' → Ψ v w') : Yields P o a w Ψ :=
  fun next Q hn => h next Q fun v w' hv => hn v w' (hm v w' hv)

section
variable {P : Program} {R : Type} {g : Gh} {h : Heap} {w : World}

theorem add_none (b o n : Nat) : (⟨b, o, none⟩ : Addr).add n = ⟨b, o + n, none⟩ := by
  unfold Addr.add
  split
  · rename_i hn; subst hn; rfl
  · rfl

theorem addr_eta {a : Addr} (hs : a.spot = none) : a = ⟨a.block, a.off, none⟩ := by cases a; simp_all

theorem bif_some {c : Bool} {x y : Option R} {r : R} (h : (bif c then x else y) = some r) : (c = true ∧ x = some r) ∨ (c = false ∧ y = some r) := by
  cases c
  · exact .inr ⟨rfl, h⟩
  · exact .inl ⟨rfl, h⟩
theorem bif_none {c : Bool} {x : Option R} {r : R} (h : (bif c then x else none) = some r) : c = true ∧ x = some r := by
  cases c
  · simp at h
  · exact ⟨rfl, h⟩

theorem ble_le {a b : Nat} (h : Nat.ble a b = true) : a ≤ b := Nat.le_of_ble_eq_true h
theorem blt_lt {a b : Nat} (h : Nat.blt a b = true) : a < b := Nat.le_of_ble_eq_true h

theorem run_underlying' {t : TypeId} {d : TypeDesc} (h : P.underlying t = some d) : (underlying t).run P w = .ok d w := run_underlying h w

theorem info_of_underlying {t : TypeId} {d : TypeDesc} (h : P.underlying t = some d) : ∃ i, P.info? t = some i := by
  unfold Program.underlying at h
  cases hi : P.info? t with
  | none => simp [hi] at h
  | some i => exact ⟨i, rfl⟩

theorem run_sizeOf' {t : TypeId} {i : TypeInfo} (h : P.info? t = some i) : (sizeOf t).run P w = .ok (szTy P t) w := by
  simp [sizeOf, typeInfo, h, szTy]

theorem run_isAgg {t : TypeId} {d : TypeDesc} (h : P.underlying t = some d) : (isAgg t).run P w = .ok (aggTy P t) w := by
  unfold isAgg aggTy
  simp only [Sem.run_bind, run_underlying' h, Result.andThen_ok, h]
  cases d <;> rfl

/-- Cells in memory. -/
def CellsAt (g : Gh) (h : Heap) (w : World) (b off : Nat) (cells : List T) : Prop := ∀ o c, cells[o]? = some c → ∃ v, cellAt w b (off + o) v ∧ g.VR h w c v

theorem CellsAt.drop {b off : Nat} {cells : List T} (hc : CellsAt g h w b off cells) (n : Nat) : CellsAt g h w b (off + n) (cells.drop n) := by
  intro o c ho
  rw [List.getElem?_drop] at ho
  obtain ⟨v, hv, hr⟩ := hc _ _ ho
  exact ⟨v, by rw [Nat.add_assoc]; exact hv, hr⟩

theorem cells_list {b off : Nat} {cells : List T} (hc : CellsAt g h w b off cells) : ∀ n, n ≤ cells.length →
    ∃ vs : List Value, vs.length = n ∧ (∀ (j : Nat) (v : Value), vs[j]? = some v → cellAt w b (off + j) v) ∧ ∀ (j : Nat) (c : T), j < n → cells[j]? = some c → ∃ v, vs[j]? = some v ∧ g.VR h w c v
  | 0, _ => ⟨[], rfl, fun j v hj => by simp at hj, fun j c hj => by omega⟩
  | n + 1, hn => by
    obtain ⟨vs, hl, h1, h2⟩ := cells_list hc n (by omega)
    obtain ⟨v, hv, hr⟩ := hc n cells[n] (List.getElem?_eq_getElem (by omega))
    refine ⟨vs ++ [v], by simp [hl], fun j u hj => ?_, fun j c hj hcj => ?_⟩
    · rw [List.getElem?_append] at hj
      split at hj
      · exact h1 j u hj
      · rename_i hge
        have : j - vs.length = 0 := by
          rcases Nat.eq_zero_or_pos (j - vs.length) with h0 | h0
          · exact h0
          · rw [List.getElem?_eq_none (by simp; omega)] at hj; simp at hj
        have e : j = n := by omega
        subst e
        rw [this] at hj
        simp only [List.getElem?_cons_zero, Option.some.injEq] at hj
        subst hj; exact hv
    · rcases Nat.lt_or_ge j n with hlt | hge
      · obtain ⟨u, hu, hr'⟩ := h2 j c hlt hcj
        exact ⟨u, by rw [List.getElem?_append_left (by omega)]; exact hu, hr'⟩
      · have e : j = n := by omega
        subst e
        rw [List.getElem?_eq_getElem (by omega)] at hcj
        simp only [Option.some.injEq] at hcj
        exact ⟨v, by rw [List.getElem?_append_right (by omega)]; simp [hl], by rw [← hcj]; exact hr⟩

theorem ld_sound {t : TypeId} {cells : List T} {k : T → Option R} {r : R} {b off : Nat} (hk : ld P t cells k = some r) (hc : CellsAt g h w b off cells) :
    ∃ x, k x = some r ∧ ∃ v, (loadVar t ⟨b, off, none⟩).run P w = .ok v w ∧ g.VR h w x v := by
  unfold ld at hk
  cases hu : P.underlying t with
  | none => simp [hu] at hk
  | some d =>
    rw [hu] at hk
    dsimp only at hk
    obtain ⟨i, hi⟩ := info_of_underlying hu
    cases ha : aggTy P t with
    | true =>
      simp only [ha, cond_true] at hk
      obtain ⟨hle, hk⟩ := bif_none hk
      have hle := ble_le hle
      refine ⟨_, hk, ?_⟩
      obtain ⟨vs, hl, h1, h2⟩ := cells_list hc _ hle
      refine ⟨.agg vs.toArray, ?_, ?_⟩
      · unfold loadVar
        simp only [Sem.run_bind, run_isAgg hu, Result.andThen_ok, ha, if_true, run_sizeOf' hi]
        rw [← hl, run_loadCells_list w ⟨b, off, none⟩ vs (fun j v hj => by rw [add_none]; exact (h1 j v hj).1)]
        rfl
      · refine VR.mk_agg (by simp; omega) (fun j u hu' => (h1 j u (by simpa using hu')).2) (fun j c hj => ?_)
        rw [List.getElem?_take] at hj
        split at hj
        · rename_i hlt
          obtain ⟨v, hv, hr⟩ := h2 j c hlt hj
          exact ⟨v, by simpa using hv, hr⟩
        · simp at hj
    | false =>
      simp only [ha, cond_false] at hk
      cases cells with
      | nil => simp at hk
      | cons c l =>
        refine ⟨c, hk, ?_⟩
        obtain ⟨v, hv, hr⟩ := hc 0 c rfl
        refine ⟨v, ?_, hr⟩
        unfold loadVar
        simp only [Sem.run_bind, run_isAgg hu, Result.andThen_ok, ha, Bool.false_eq_true, if_false]
        have := hv.1
        simp only [Nat.add_zero] at this
        simp [this]

/-- An own block that is known by its name. -/
theorem blk_of {i ver : Nat} {k : Blk → Option R} {r : R} (hk : withBlk h i ver k = some r) : ∃ b, h[i]? = some b ∧ b.ver = ver ∧ k b = some r := by
  unfold withBlk at hk
  cases hb : h[i]? with
  | none => simp [hb] at hk
  | some b =>
    rw [hb] at hk
    obtain ⟨hv, hk⟩ := bif_none hk
    exact ⟨b, rfl, by simpa using hv, hk⟩

theorem BlkOk.cellsAt {i : Nat} {b : Blk} {cb sh : Nat} {arr : Array Value} {e : TypeId} (hb : BlkOk w g h i b cb sh arr e) {j : Nat} (hj : j < b.n) :
    CellsAt g h w cb (sh + j * b.sz) (b.get j) := by
  intro o c ho
  obtain ⟨v, hv, h1, hr⟩ := hb.cell j o c hj ho
  exact ⟨v, ⟨by simp [World.cell?, hb.heap, hv], h1⟩, hr⟩

theorem vp_cellsAt {cells : List T} {v : Value} (hv : g.VR h w (.vp cells) v) : ∃ b o, v = .pointer (some ⟨b, o, none⟩) ∧ CellsAt g h w b o cells := by
  cases hv.vp with
  | vp _ a vs hs hU hc hv' =>
    exact ⟨a.block, a.off, by rw [← addr_eta hs], fun o c ho => ⟨vs o, hc o c ho, .imm _ _ (hv' o c ho)⟩⟩

theorem semLoad_sound {t : TypeId} {x : T} {k : Kont R} {r : R} {v : Value} (hk : semLoad P t x h k = some r) (hr : HR g h w) (hx : g.VR h w x v) :
    ∃ y, k y h false = some r ∧ ∃ u, (Instr.loadAt t v).run P w = .ok u w ∧ g.VR h w y u := by
  cases x with
  | vp cells =>
    obtain ⟨b, o, rfl, hc⟩ := vp_cellsAt hx
    obtain ⟨y, hy, u, hu, hyu⟩ := ld_sound (show ld P t cells (fun x => k x h false) = some r from hk) hc
    exact ⟨y, hy, u, by simp [Instr.loadAt, Instr.sureAddr, hu], hyu⟩
  | ptr i ver j o =>
    obtain ⟨b, hb, hver, hk⟩ := blk_of hk
    obtain ⟨hj, hk⟩ := bif_none hk
    have hj := blt_lt hj
    obtain ⟨cb, sh, arr, e, hok⟩ := hr.blk i b hb
    obtain ⟨b', hb', _, _, hp⟩ := hx.ptr_inv
    rw [hb] at hb'
    obtain rfl := Option.some.inj hb'
    obtain ⟨cb', sh', e1, rfl⟩ := hp hver
    rw [hok.φ] at e1
    obtain ⟨rfl, rfl⟩ := Prod.mk.inj (Option.some.inj e1)
    obtain ⟨y, hy, u, hu, hyu⟩ := ld_sound hk ((hok.cellsAt hj).drop o)
    exact ⟨y, hy, u, by simp [Instr.loadAt, Instr.sureAddr, hu], hyu⟩
  | _ => simp [semLoad] at hk

theorem lt_of_heap {w : World} {b : Nat} {o : Obj} (hb : w.heap[b]? = some o) : b < w.heap.size := by
  rcases Nat.lt_or_ge b w.heap.size with h | h
  · exact h
  · simp [Array.getElem?_eq_none h] at hb

/-- An own block is changed, or moved to new memory. -/
theorem HR.change (hr : HR g h w) {i : Nat} {b : Blk} (hb : h[i]? = some b) {w' : World} {cb sh : Nat} {arr : Array Value} {e : TypeId} {b' : Blk}
    (hsize : w.heap.size ≤ w'.heap.size) (hheap : ∀ k, k < w.heap.size → k ≠ cb → w'.heap[k]? = w.heap[k]?) (hcb : w'.heap[cb]? = some (.cells arr e (0, 0)))
    (hplace : g.own cb = some (.inl i) ∨ w.heap.size ≤ cb) (hrm : ∀ n, room w cb n → n ≤ arr.size) (hver : b.ver ≤ b'.ver)
    (hsame : b'.ver = b.ver → b'.sz = b.sz ∧ b.n ≤ b'.n ∧ g.φ i = some (cb, sh)) (hroom : sh + b'.n * b'.sz ≤ arr.size) (hlen : ∀ j, j < b'.n → (b'.get j).length = b'.sz)
    (hcell : ∀ j o c, j < b'.n → (b'.get j)[o]? = some c → ∃ v, arr[sh + j * b'.sz + o]? = some v ∧ v.oneCell' = true ∧ g.VR h w c v)
    (hflat : b'.flat = true → ∀ j, j < b'.n → ∀ c, c ∈ b'.get j → plain0 c = true)
    (hos : w'.os = w.os) (htape : w'.tape = w.tape) (hout : w'.output = w.output) :
    ∃ g', g'.φ i = some (cb, sh) ∧ (∀ k, k ≠ i → g'.φ k = g.φ k) ∧ g'.U = g.U ∧ HR g' (h.set i b') w' ∧ Keep g h w g' (h.set i b') w' ∧ FrO g w g' w' := by
  have hil : i < h.length := by
    rcases Nat.lt_or_ge i h.length with hh | hh
    · exact hh
    · simp [List.getElem?_eq_none hh] at hb
  have hcbl : cb < w'.heap.size := lt_of_heap hcb
  let g' : Gh := { g with φ := fun k => if k = i then some (cb, sh) else g.φ k, own := fun k => if k = cb then some (.inl i) else g.own k }
  have hU : KeepU w g.U w' g.U := by
    intro k hk
    obtain ⟨h1, h2⟩ := hr.u k hk
    refine ⟨hk, hheap k h1 ?_⟩
    rintro rfl
    rcases hplace with hp | hp
    · rw [h2] at hp; cases hp
    · omega
  have hroom' : ∀ k n, room w k n → room w' k n := by
    intro k n hkn
    by_cases hk : k = cb
    · subst hk; exact ⟨arr, e, hcb, hrm n hkn⟩
    · obtain ⟨a', e', h1, h2⟩ := hkn
      exact ⟨a', e', by rw [hheap k (lt_of_heap h1) hk]; exact h1, h2⟩
  have hkeep : Keep g h w g' (h.set i b') w' := by
    refine ⟨hU, fun k x hx => ?_, hroom'⟩
    by_cases hk : k = i
    · subst hk
      rw [hb] at hx
      obtain rfl := Option.some.inj hx
      refine ⟨b', by simp [hil], hver, fun ev => ?_⟩
      obtain ⟨a1, a2, a3⟩ := hsame ev
      exact ⟨a1, a2, by simp [g', a3]⟩
    · exact ⟨x, by rw [List.getElem?_set_ne (fun e => hk e.symm)]; exact hx, Nat.le_refl _, fun _ => ⟨rfl, Nat.le_refl _, by simp [g', hk]⟩⟩
  refine ⟨g', by simp [g'], fun k hk => by simp [g', hk], rfl, ?_, hkeep, ?_⟩
  · refine ⟨fun k x hx => ?_, fun k hk => ?_, fun k o ho => ?_, Nat.le_trans hr.base hsize⟩
    · by_cases hk : k = i
      · subst hk
        simp only [List.getElem?_set_self hil, Option.some.injEq] at hx
        subst hx
        refine ⟨cb, sh, arr, e, by simp [g'], by simp [g'], hcb, hroom, hlen, fun j o c hj hc => ?_, hflat⟩
        obtain ⟨v, h1, h2, h3⟩ := hcell j o c hj hc
        exact ⟨v, h1, h2, h3.keep hkeep⟩
      · rw [List.getElem?_set_ne (fun e => hk e.symm)] at hx
        obtain ⟨cb2, sh2, arr2, e2, hok⟩ := hr.blk k x hx
        have hne : cb2 ≠ cb := by
          rintro rfl
          rcases hplace with hp | hp
          · rw [hok.own] at hp; exact hk (by simpa using hp)
          · have := lt_of_heap hok.heap; omega
        refine ⟨cb2, sh2, arr2, e2, by simp [g', hk, hok.φ], by simp [g', hne, hok.own], by rw [hheap cb2 (lt_of_heap hok.heap) hne]; exact hok.heap, hok.room, hok.len, fun j o c hj hc => ?_, hok.flat⟩
        obtain ⟨v, h1, h2, h3⟩ := hok.cell j o c hj hc
        exact ⟨v, h1, h2, h3.keep hkeep⟩
    · obtain ⟨h1, h2⟩ := hr.u k hk
      refine ⟨by omega, ?_⟩
      have hne : k ≠ cb := by
        rintro rfl
        rcases hplace with hp | hp
        · rw [h2] at hp; cases hp
        · omega
      simp [g', hne, h2]
    · by_cases hk : k = cb
      · subst hk
        refine ⟨?_, hcbl⟩
        rcases hplace with hp | hp
        · exact (hr.own k _ hp).1
        · exact Nat.le_trans hr.base hp
      · simp only [g', hk, if_false] at ho
        exact ⟨(hr.own k o ho).1, by have := (hr.own k o ho).2; omega⟩
  · refine ⟨hsize, fun k hk => ?_, hos, htape, hout, fun k hk hni => ?_, rfl, fun _ hk => .inl hk, fun k hk t => ?_⟩
    · by_cases hkc : k = cb
      · subst hkc
        rcases hplace with hp | hp
        · simp [g', hp]
        · omega
      · simp [g', hkc]
    · refine hheap k hk ?_
      rintro rfl
      rcases hplace with hp | hp
      · exact hni i hp
      · omega
    · by_cases hkc : k = cb
      · simp [g', hkc]
      · simp only [g', hkc, if_false]
        intro ho
        have := (hr.own k _ ho).2
        omega

/-- A new own block. -/
theorem HR.alloc (hr : HR g h w) {w' : World} {cb sh : Nat} {arr : Array Value} {e : TypeId} {b' : Blk}
    (hsize : w.heap.size ≤ w'.heap.size) (hheap : ∀ k, k < w.heap.size → w'.heap[k]? = w.heap[k]?) (hcb : w'.heap[cb]? = some (.cells arr e (0, 0)))
    (hplace : w.heap.size ≤ cb) (hroom : sh + b'.n * b'.sz ≤ arr.size) (hlen : ∀ j, j < b'.n → (b'.get j).length = b'.sz)
    (hcell : ∀ j o c, j < b'.n → (b'.get j)[o]? = some c → ∃ v, arr[sh + j * b'.sz + o]? = some v ∧ v.oneCell' = true ∧ g.VR h w c v)
    (hflat : b'.flat = true → ∀ j, j < b'.n → ∀ c, c ∈ b'.get j → plain0 c = true)
    (hos : w'.os = w.os) (htape : w'.tape = w.tape) (hout : w'.output = w.output) :
    ∃ g', g'.φ h.length = some (cb, sh) ∧ g'.U = g.U ∧ HR g' (h ++ [b']) w' ∧ Keep g h w g' (h ++ [b']) w' ∧ FrO g w g' w' := by
  have hcbl : cb < w'.heap.size := lt_of_heap hcb
  let g' : Gh := { g with φ := fun k => if k = h.length then some (cb, sh) else g.φ k, own := fun k => if k = cb then some (.inl h.length) else g.own k }
  have hU : KeepU w g.U w' g.U := fun k hk => ⟨hk, hheap k (hr.u k hk).1⟩
  have hkeep : Keep g h w g' (h ++ [b']) w' := by
    refine ⟨hU, fun k x hx => ?_, fun k n hkn => ?_⟩
    · have hk : k < h.length := by
        rcases Nat.lt_or_ge k h.length with hh | hh
        · exact hh
        · simp [List.getElem?_eq_none hh] at hx
      exact ⟨x, by rw [List.getElem?_append_left hk]; exact hx, Nat.le_refl _, fun _ => ⟨rfl, Nat.le_refl _, by simp [g', Nat.ne_of_lt hk]⟩⟩
    · obtain ⟨a', e', h1, h2⟩ := hkn
      exact ⟨a', e', by rw [hheap k (lt_of_heap h1)]; exact h1, h2⟩
  refine ⟨g', by simp [g'], rfl, ?_, hkeep, ?_⟩
  · refine ⟨fun k x hx => ?_, fun k hk => ?_, fun k o ho => ?_, Nat.le_trans hr.base hsize⟩
    · rcases Nat.lt_or_ge k h.length with hk | hk
      · rw [List.getElem?_append_left hk] at hx
        obtain ⟨cb2, sh2, arr2, e2, hok⟩ := hr.blk k x hx
        have hne : cb2 ≠ cb := by have := lt_of_heap hok.heap; omega
        refine ⟨cb2, sh2, arr2, e2, by simp [g', Nat.ne_of_lt hk, hok.φ], by simp [g', hne, hok.own], by rw [hheap cb2 (lt_of_heap hok.heap)]; exact hok.heap, hok.room, hok.len, fun j o c hj hc => ?_, hok.flat⟩
        obtain ⟨v, h1, h2, h3⟩ := hok.cell j o c hj hc
        exact ⟨v, h1, h2, h3.keep hkeep⟩
      · have hk' : k = h.length := by
          rcases Nat.lt_or_ge h.length k with h' | h'
          · rw [List.getElem?_eq_none (by simp; omega)] at hx; simp at hx
          · omega
        subst hk'
        simp only [List.getElem?_append_right (Nat.le_refl _), Nat.sub_self, List.getElem?_cons_zero, Option.some.injEq] at hx
        subst hx
        refine ⟨cb, sh, arr, e, by simp [g'], by simp [g'], hcb, hroom, hlen, fun j o c hj hc => ?_, hflat⟩
        obtain ⟨v, h1, h2, h3⟩ := hcell j o c hj hc
        exact ⟨v, h1, h2, h3.keep hkeep⟩
    · obtain ⟨h1, h2⟩ := hr.u k hk
      have hne : k ≠ cb := by omega
      exact ⟨by omega, by simp [g', hne, h2]⟩
    · by_cases hk : k = cb
      · subst hk
        exact ⟨Nat.le_trans hr.base hplace, hcbl⟩
      · simp only [g', hk, if_false] at ho
        exact ⟨(hr.own k o ho).1, by have := (hr.own k o ho).2; omega⟩
  · refine ⟨hsize, fun k hk => ?_, hos, htape, hout, fun k hk _ => hheap k hk, rfl, fun _ hk => .inl hk, fun k hk t => ?_⟩
    · have hne : k ≠ cb := by omega
      simp [g', hne]
    · by_cases hkc : k = cb
      · simp [g', hkc]
      · simp only [g', hkc, if_false]
        intro ho
        have := (hr.own k _ ho).2
        omega
end
end Go.Ab
