/- Each operation of the abstract interpreter is met by the model's: allocation, store, build. -/
import Derived.Test.YtkiedolofnakoaaDoorAbOps
namespace Go.Ab
section
variable {P : Program} {R : Type} {g : Gh} {h : Heap} {w : World}

theorem known_info {t : TypeId} (hk : known P t = true) : ∃ i, P.info? t = some i := by
  unfold known at hk
  cases hi : P.info? t with
  | none => simp [hi] at hk
  | some i => exact ⟨i, rfl⟩

theorem run_size {t : TypeId} (hk : known P t = true) : (sizeOf t).run P w = .ok (szTy P t) w := by
  obtain ⟨i, hi⟩ := known_info hk
  exact run_sizeOf' hi

theorem ofVal0_cells (v : Value) : (ofVal0 v).cells = [ofVal0 v] := by unfold ofVal0; split <;> rfl

theorem zero_run {t : TypeId} (hz : zeroOk P t = true) : ∃ z : Value, (zeroValue t).run P w = .ok z w ∧ known P t = true ∧ (zeroTy P t).length = z.cells.size ∧ z.cells.size = szTy P t ∧
    (∀ (i : Nat) (u : Value), z.cells[i]? = some u → u.oneCell' = true) ∧ ∀ (i : Nat) (c : T), (zeroTy P t)[i]? = some c → ∃ u, z.cells[i]? = some u ∧ g.VR h w c u := by
  unfold zeroOk at hz
  cases hi : P.info? t with
  | none => simp [hi] at hz
  | some i =>
    rw [hi] at hz
    dsimp only at hz
    cases hzv : i.zero with
    | none => simp [hzv] at hz
    | some z =>
      rw [hzv] at hz
      simp only [Bool.and_eq_true, beq_iff_eq] at hz
      obtain ⟨⟨h1, h2⟩, h3⟩ := hz
      have e : zeroTy P t = (ofVal z).cells := by simp [zeroTy, hi, hzv]
      have hs : szTy P t = i.size := by simp [szTy, hi]
      refine ⟨z, by simp [zeroValue, typeInfo, hi, hzv], by simp [known, hi], ?_⟩
      rw [e, hs]
      have hrel : g.VR h w (ofVal z) z := .imm _ _ (ofVal_rel z h2)
      have scal : ∀ v : Value, ofVal v = ofVal0 v → v.cells = #[v] → v.oneCell' = true → (ofVal v).cells.length = v.cells.size ∧ v.cells.size = v.cells.size ∧ (∀ (i : Nat) (u : Value), v.cells[i]? = some u → u.oneCell' = true) ∧
          ∀ (i : Nat) (c : T), (ofVal v).cells[i]? = some c → ∃ u, v.cells[i]? = some u ∧ g.VR h w c u := by
        intro v e1 e2 h1
        rw [e1, ofVal0_cells, e2]
        refine ⟨rfl, rfl, fun j u hu => ?_, fun j c hc => ?_⟩
        · cases j with
          | zero => simp at hu; subst hu; exact h1
          | succ j => simp at hu
        · cases j with
          | zero => simp at hc; subst hc; exact ⟨v, rfl, .imm _ _ (ofVal0_rel v)⟩
          | succ j => simp at hc
      rw [← h1]
      cases z with
      | agg cs =>
        obtain ⟨a1, a2, a3⟩ := hrel.cells_rel rfl
        exact ⟨a1, rfl, a2, a3⟩
      | tuple cs => simp at h3
      | _ => exact scal _ rfl rfl rfl

theorem heap_new (w : World) (o : Obj) : (w.alloc o).heap[w.heap.size]? = some o := by
  show (w.heap.push o)[w.heap.size]? = some o
  simp
theorem at_end (h : Heap) (b : Blk) : (h ++ [b])[h.length]? = some b := by simp

theorem semAlloc_sound {cells : List T} {k : Kont R} {r : R} {vs : Array Value} {e : TypeId} (hk : semAlloc cells h k = some r) (hr : HR g h w) (hl : cells.length = vs.size)
    (h1 : ∀ (i : Nat) (u : Value), vs[i]? = some u → u.oneCell' = true) (hc : ∀ (i : Nat) (c : T), cells[i]? = some c → ∃ u, vs[i]? = some u ∧ g.VR h w c u) :
    ∃ y h', k y h' true = some r ∧ Res g h w y h' (.pointer (some ⟨w.heap.size, 0, none⟩)) (w.alloc (.cells vs e)) := by
  refine ⟨_, _, hk, ?_⟩
  obtain ⟨g', e1, _, hr', hkeep, hfr⟩ := hr.alloc (w' := w.alloc (.cells vs e)) (cb := w.heap.size) (sh := 0) (arr := vs) (e := e) (b' := ⟨0, cells.length, 1, fun _ => cells, cells.all plain0, false⟩)
    (by simp) (fun k hk => RowKit.Below.heap_alloc _ _ _ hk) (heap_new w _) (Nat.le_refl _) (by simp [hl]) (fun _ _ => rfl)
    (fun j o c hj ho => by
      obtain ⟨u, hu, hur⟩ := hc o c ho
      have : j = 0 := by simpa using hj
      subst this
      exact ⟨u, by simpa using hu, h1 o u hu, hur⟩)
    (fun hf j _ c hcm => by simpa using (List.all_eq_true.1 hf) c hcm) rfl rfl rfl
  refine ⟨g', hr', .ptr _ _ _ _ _ _ (at_end h _) (Nat.le_refl _) rfl fun _ => ⟨_, _, e1, ?_⟩, hkeep, hfr⟩
  simp

/-- Cells behind a write. -/
theorem splice_get (cells new : List T) (o i : Nat) (ho : o + new.length ≤ cells.length) :
    (splice cells o new)[i]? = if o ≤ i ∧ i < o + new.length then new[i - o]? else cells[i]? := by
  unfold splice
  have hl : (cells.take o).length = o := by simp; omega
  by_cases h1 : i < o
  · rw [List.append_assoc, List.getElem?_append_left (by omega), List.getElem?_take, if_pos h1, if_neg (by omega)]
  · by_cases h2 : i < o + new.length
    · rw [List.append_assoc, List.getElem?_append_right (by omega), hl, List.getElem?_append_left (by omega), if_pos ⟨by omega, h2⟩]
    · rw [List.getElem?_append_right (by simp; omega), if_neg (by omega), List.getElem?_drop]
      congr 1
      simp only [List.length_append, hl]
      omega
theorem splice_length (cells new : List T) (o : Nat) (ho : o + new.length ≤ cells.length) : (splice cells o new).length = cells.length := by
  unfold splice
  simp
  omega

theorem setRow_at (w : World) (b : Nat) (cur arr : Array Value) (e : TypeId) (hb : w.heap[b]? = some (.cells cur e (0, 0))) : (w.setRow b arr).heap[b]? = some (.cells arr e (0, 0)) := setRow_heap w b cur arr e _ hb

/-- What a write of cells leaves. -/
theorem written (cur : Array Value) (vs : List Value) (p i : Nat) (hp : p + vs.length ≤ cur.size) :
    (cur.toList.take p ++ vs ++ cur.toList.drop (p + vs.length)).toArray[i]? = if p ≤ i ∧ i < p + vs.length then vs[i - p]? else cur[i]? := by
  have hl : (cur.toList.take p).length = p := by simp; omega
  simp only [List.getElem?_toArray]
  by_cases h1 : i < p
  · rw [List.append_assoc, List.getElem?_append_left (by omega), List.getElem?_take, if_pos h1, if_neg (by omega)]; simp
  · by_cases h2 : i < p + vs.length
    · rw [List.append_assoc, List.getElem?_append_right (by omega), hl, List.getElem?_append_left (by omega), if_pos ⟨by omega, h2⟩]
    · rw [List.getElem?_append_right (by simp; omega), if_neg (by omega), List.getElem?_drop]
      simp only [List.length_append, hl, Array.getElem?_toList]
      congr 1
      omega
theorem written_size (cur : Array Value) (vs : List Value) (p : Nat) (hp : p + vs.length ≤ cur.size) : (cur.toList.take p ++ vs ++ cur.toList.drop (p + vs.length)).toArray.size = cur.size := by
  simp
  omega

theorem run_storeVar {t : TypeId} {v : Value} {b off : Nat} {cur : Array Value} {e : TypeId} (hk : known P t = true) (hs : v.cells.size = szTy P t) (hb : w.heap[b]? = some (.cells cur e (0, 0)))
    (hl : off + v.cells.size ≤ cur.size) (h1 : ∀ (i : Nat) (u : Value), v.cells[i]? = some u → u.oneCell' = true) :
    (storeVar t ⟨b, off, none⟩ v).run P w = .ok () (w.setRow b (cur.toList.take off ++ v.cells.toList ++ cur.toList.drop (off + v.cells.toList.length)).toArray) := by
  unfold storeVar
  have := run_storeCells_at P b off e v.cells.toList 0 cur w hb (by simpa using hl) (fun u hu => by
    obtain ⟨i, hi⟩ := List.mem_iff_getElem?.1 hu
    exact h1 i u (by simpa using hi))
  simp only [Nat.add_zero] at this
  simp [run_size hk, hs, this]

theorem semStore_sound {t : TypeId} {a v : T} {k : Kont R} {r : R} {ca cv : Value} (hk : semStore P t a v h k = some r) (hr : HR g h w) (ha : g.VR h w a ca) (hv : g.VR h w v cv) :
    ∃ h', k .undef h' true = some r ∧ ∃ w', (Instr.storeAt t ca cv).run P w = .ok () w' ∧ Res g h w .undef h' undef w' := by
  cases a with
  | ptr i ver j o =>
    obtain ⟨b, hb, hver, hk⟩ := blk_of hk
    obtain ⟨hc, hk⟩ := bif_none hk
    simp only [Bool.and_eq_true, beq_iff_eq] at hc
    obtain ⟨⟨⟨⟨hkn, hj⟩, hsz⟩, hok⟩, hle⟩ := hc
    have hj := blt_lt hj
    have hle := ble_le hle
    refine ⟨_, hk, ?_⟩
    obtain ⟨cb, sh, arr, e, hbk⟩ := hr.blk i b hb
    obtain ⟨b', hb', _, _, hp⟩ := ha.ptr_inv
    rw [hb] at hb'
    obtain rfl := Option.some.inj hb'
    obtain ⟨cb', sh', e1, rfl⟩ := hp hver
    rw [hbk.φ] at e1
    obtain ⟨rfl, rfl⟩ := Prod.mk.inj (Option.some.inj e1)
    obtain ⟨c1, c2, c3⟩ := hv.cells_rel hok
    have hlen := hbk.len j hj
    have hbound : (j + 1) * b.sz ≤ b.n * b.sz := Nat.mul_le_mul_right _ hj
    rw [Nat.add_mul, Nat.one_mul] at hbound
    have hroom := hbk.room
    have hfit : sh + j * b.sz + o + cv.cells.size ≤ arr.size := by rw [← c1, hsz]; omega
    have hrun := run_storeVar (P := P) (w := w) (v := cv) hkn (by rw [← c1, hsz]) hbk.heap hfit c2
    refine ⟨_, by simp [Instr.storeAt, Instr.sureAddr]; exact hrun, ?_⟩
    have hfit' : sh + j * b.sz + o + cv.cells.toList.length ≤ arr.size := by simpa using hfit
    have hws := written_size arr cv.cells.toList (sh + j * b.sz + o) hfit'
    obtain ⟨g', e1, e2, _, hr', hkeep, hfr⟩ := hr.change hb (w' := w.setRow cb _) (cb := cb) (sh := sh) (e := e) (b' := b.upd j (splice (b.get j) o v.cells)) (by simp [World.setRow]) (fun k _ hne => setRow_other w cb k _ hne)
      (setRow_at w cb arr _ e hbk.heap) (.inl hbk.own) (fun n hn => by
        obtain ⟨a', e', q1, q2⟩ := hn
        rw [hbk.heap] at q1
        simp only [Option.some.injEq, Obj.cells.injEq] at q1
        rw [hws, q1.1]; exact q2) (Nat.le_refl _) (fun _ => ⟨rfl, Nat.le_refl _, hbk.φ⟩) (by rw [hws]; exact hroom)
      (fun j' hj' => by
        simp only [Blk.upd]
        by_cases hjj : j' = j
        · subst hjj; simp only [beq_self_eq_true, cond_true]; rw [splice_length _ _ _ (by rw [hsz]; omega)]; exact hlen
        · simp only [hjj, beq_iff_eq, Bool.cond_eq_ite, if_false]; exact hbk.len j' hj')
      (fun j' o' c hj' hc => by
        simp only [Blk.upd] at hc ⊢
        rw [written arr _ _ _ hfit']
        by_cases hjj : j' = j
        · subst hjj
          simp only [beq_self_eq_true, cond_true] at hc
          rw [splice_get _ _ _ _ (by rw [hsz]; omega)] at hc
          by_cases hin : o ≤ o' ∧ o' < o + v.cells.length
          · rw [if_pos hin] at hc
            obtain ⟨u, hu, hur⟩ := c3 _ c hc
            refine ⟨u, ?_, c2 _ _ hu, hur⟩
            rw [if_pos ⟨by omega, by simp only [Array.length_toList, ← c1]; omega⟩]
            rw [show sh + j' * b.sz + o' - (sh + j' * b.sz + o) = o' - o by omega]
            simpa using hu
          · rw [if_neg hin] at hc
            rw [if_neg (by simp only [Array.length_toList, ← c1]; omega)]
            exact hbk.cell j' o' c hj' hc
        · simp only [hjj, beq_iff_eq, Bool.cond_eq_ite, if_false] at hc
          have ho' : o' < b.sz := by
            have := hbk.len j' hj'
            rcases Nat.lt_or_ge o' (b.get j').length with hq | hq
            · omega
            · simp [List.getElem?_eq_none hq] at hc
          rw [if_neg ?_]
          · exact hbk.cell j' o' c hj' hc
          · simp only [Array.length_toList, ← c1, hsz]
            rintro ⟨q1, q2⟩
            rcases Nat.lt_or_gt_of_ne hjj with hlt | hgt
            · have : (j' + 1) * b.sz ≤ j * b.sz := Nat.mul_le_mul_right _ hlt
              rw [Nat.add_mul, Nat.one_mul] at this
              omega
            · have : (j + 1) * b.sz ≤ j' * b.sz := Nat.mul_le_mul_right _ hgt
              rw [Nat.add_mul, Nat.one_mul] at this
              omega)
      (fun hf j' hj' c hc => by
        simp only [Blk.upd, Bool.and_eq_true] at hf hc
        by_cases hjj : j' = j
        · subst hjj
          simp only [beq_self_eq_true, cond_true] at hc
          exact (List.all_eq_true.1 hf.2) c hc
        · simp only [hjj, beq_iff_eq, Bool.cond_eq_ite, if_false] at hc
          exact hbk.flat hf.1 j' hj' c hc) rfl rfl rfl
    exact ⟨g', hr', .imm _ _ (.undef _), hkeep, hfr⟩
  | _ => simp [semStore] at hk

/-- Cells of a value that is made, place by place. -/
theorem fill_cells (cs : Array Value) (off : Nat) (vs : Array Value) (hfit : off + vs.size ≤ cs.size) :
    (vs.zipIdx.foldl (fun cs (p : Value × Nat) => cs.setIfInBounds (off + p.2) p.1) cs).size = cs.size ∧
    ∀ i, (vs.zipIdx.foldl (fun cs (p : Value × Nat) => cs.setIfInBounds (off + p.2) p.1) cs)[i]? = if off ≤ i ∧ i < off + vs.size then vs[i - off]? else cs[i]? := by
  rw [← Array.foldl_toList, Array.toList_zipIdx]
  have key : ∀ (l : List Value) (s : Nat) (cs : Array Value), off + s + l.length ≤ cs.size →
      ((l.zipIdx s).foldl (fun cs (p : Value × Nat) => cs.setIfInBounds (off + p.2) p.1) cs).size = cs.size ∧
      ∀ i, ((l.zipIdx s).foldl (fun cs (p : Value × Nat) => cs.setIfInBounds (off + p.2) p.1) cs)[i]? = if off + s ≤ i ∧ i < off + s + l.length then l[i - (off + s)]? else cs[i]? := by
    intro l
    induction l with
    | nil => intro s cs _; exact ⟨rfl, fun i => by simp; intro h1 h2; omega⟩
    | cons v l ih =>
      intro s cs hl
      simp only [List.length_cons] at hl
      simp only [List.zipIdx_cons, List.foldl_cons]
      obtain ⟨e1, e2⟩ := ih (s + 1) (cs.setIfInBounds (off + s) v) (by simp; omega)
      refine ⟨by rw [e1]; simp, fun i => ?_⟩
      rw [e2]
      simp only [List.length_cons]
      by_cases h1 : i = off + s
      · subst h1
        rw [if_neg (by omega), if_pos (by omega), Array.getElem?_setIfInBounds, if_pos rfl, if_pos (by omega)]
        simp
      · by_cases h2 : off + (s + 1) ≤ i ∧ i < off + (s + 1) + l.length
        · rw [if_pos h2, if_pos (by omega)]
          rw [show i - (off + s) = (i - (off + (s + 1))) + 1 by omega]
          simp
        · rw [if_neg h2, if_neg (by omega)]
          simp [Ne.symm h1]
  have := key vs.toList 0 cs (by simpa using hfit)
  simpa using this

theorem fillAll_sound {pl : Nat → Option (Nat × Nat)} : ∀ (parts : List (Nat × T)) (cparts : List (Nat × Value)) (cells : List T) (cs : Array Value) (k : List T → Option R) (r : R),
    fillAll pl cells parts k = some r → parts.length = cparts.length → (∀ (n : Nat) (p : Nat × T), parts[n]? = some p → ∃ q : Nat × Value, cparts[n]? = some q ∧ q.1 = p.1 ∧ g.VR h w p.2 q.2) →
    cells.length = cs.size → (∀ (i : Nat) (u : Value), cs[i]? = some u → u.oneCell' = true) → (∀ (i : Nat) (c : T), cells[i]? = some c → ∃ u, cs[i]? = some u ∧ g.VR h w c u) →
    ∃ l cs', k l = some r ∧ Instr.fill pl cs cparts = some cs' ∧ l.length = cs'.size ∧ (∀ (i : Nat) (u : Value), cs'[i]? = some u → u.oneCell' = true) ∧ ∀ (i : Nat) (c : T), l[i]? = some c → ∃ u, cs'[i]? = some u ∧ g.VR h w c u
  | [], cparts, cells, cs, k, r, hk, hl, _, h1, h2, h3 => by
    cases cparts with
    | nil => exact ⟨cells, cs, hk, rfl, h1, h2, h3⟩
    | cons q l => simp at hl
  | (i, v) :: parts, cparts, cells, cs, k, r, hk, hl, hp, h1, h2, h3 => by
    cases cparts with
    | nil => simp at hl
    | cons q cparts =>
      obtain ⟨q', hq', hqi, hqr⟩ := hp 0 (i, v) rfl
      simp only [List.getElem?_cons_zero, Option.some.injEq] at hq'
      subst hq'
      obtain ⟨qi, cv⟩ := q
      dsimp only at hqi hqr
      subst hqi
      simp only [fillAll] at hk
      cases hpl : pl qi with
      | none => simp [hpl] at hk
      | some os =>
        obtain ⟨off, size⟩ := os
        rw [hpl] at hk
        obtain ⟨hc, hk⟩ := bif_none hk
        simp only [Bool.and_eq_true, beq_iff_eq] at hc
        obtain ⟨⟨hsz, hok⟩, hle⟩ := hc
        have hle := ble_le hle
        obtain ⟨c1, c2, c3⟩ := hqr.cells_rel hok
        obtain ⟨f1, f2⟩ := fill_cells cs off cv.cells (by rw [← c1, hsz, ← h1]; exact hle)
        obtain ⟨l, cs', a1, a2, a3⟩ := fillAll_sound parts cparts (splice cells off v.cells) _ k r hk (by simpa using hl) (fun n p hn => hp (n + 1) p hn)
          (by rw [splice_length _ _ _ (by rw [hsz]; exact hle), f1, h1])
          (fun n u hn => by
            rw [f2] at hn
            split at hn
            · exact c2 _ u hn
            · exact h2 _ u hn)
          (fun n c hn => by
            rw [splice_get _ _ _ _ (by rw [hsz]; exact hle)] at hn
            rw [f2]
            by_cases hin : off ≤ n ∧ n < off + v.cells.length
            · rw [if_pos hin] at hn
              rw [if_pos (by rw [← c1]; exact hin)]
              exact c3 _ c hn
            · rw [if_neg hin] at hn
              rw [if_neg (by rw [← c1]; exact hin)]
              exact h3 _ c hn)
        refine ⟨l, cs', a1, ?_, a3⟩
        simp only [Instr.fill, hpl]
        rw [if_neg (by simp only [Bool.or_eq_true, decide_eq_true_eq, not_or]; rw [← c1, hsz, ← h1]; exact ⟨by simp, by omega⟩)]
        exact a2
end
end Go.Ab
