/- Each operation of the abstract interpreter is met by the model's: build, slices, fields, indexes. -/
import Derived.Test.YtkiedolofnakoaaDoorAbOps2
namespace Go.Ab
section
variable {P : Program} {R : Type} {g : Gh} {h : Heap} {w : World}

theorem run_mapM_list {α β : Type} (f : α → Sem β) (f' : α → β) : ∀ (l : List α), (∀ x ∈ l, (f x).run P w = .ok (f' x) w) → (l.mapM f).run P w = .ok (l.map f') w
  | [], _ => by simp
  | x :: l, hx => by
    have ih := run_mapM_list f f' l (fun y hy => hx y (by simp [hy]))
    simp [List.mapM_cons, hx x (by simp), ih]
theorem run_mapM_array {α β : Type} (f : α → Sem β) (f' : α → β) (l : Array α) (hx : ∀ x ∈ l.toList, (f x).run P w = .ok (f' x) w) : (l.mapM f).run P w = .ok (l.map f') w := by
  rw [Array.mapM_eq_mapM_toList]
  simp only [Sem.run_map, run_mapM_list f f' l.toList hx, Result.andThen_ok]
  congr 1
  apply Array.ext'
  simp

theorem semBuild_sound {t : TypeId} {parts : List (Nat × T)} {cparts : Array (Nat × Value)} {k : Kont R} {r : R} (hk : semBuild P t parts h k = some r)
    (hl : parts.length = cparts.size) (hp : ∀ (n : Nat) (p : Nat × T), parts[n]? = some p → ∃ q : Nat × Value, cparts.toList[n]? = some q ∧ q.1 = p.1 ∧ g.VR h w p.2 q.2) :
    ∃ y, k y h false = some r ∧ ∃ v, (Instr.build t cparts).run P w = .ok v w ∧ g.VR h w y v := by
  unfold semBuild at hk
  cases hu : P.underlying t with
  | none => simp [hu] at hk
  | some d =>
    rw [hu] at hk
    cases d with
    | struct fs =>
      dsimp only at hk
      obtain ⟨hc, hk⟩ := bif_none hk
      simp only [Bool.and_eq_true] at hc
      obtain ⟨z, hz, hkn, hz1, hz2, hz3, hz4⟩ := zero_run (P := P) (g := g) (h := h) (w := w) hc.1
      obtain ⟨l, cs', a1, a2, a3, a4, a5⟩ := fillAll_sound parts cparts.toList _ z.cells _ r hk (by simpa using hl) hp hz1 hz3 hz4
      refine ⟨_, a1, .agg cs', ?_, VR.mk_agg a3 a4 a5⟩
      unfold Instr.build
      have hm := run_mapM_array (P := P) (w := w) (fun f : Field => do pure (f.offset, ← sizeOf f.type)) (fun f : Field => (f.offset, szTy P f.type)) fs (fun f hf => by
        have := (List.all_eq_true.1 hc.2) f hf
        simp [run_size this])
      have he : (fun i => (fs.map (fun f : Field => (f.offset, szTy P f.type)))[i]?) = placeOf P fs := by
        funext i
        rw [Array.getElem?_map]
        unfold placeOf
        cases fs[i]? <;> rfl
      simp only [Sem.run_bind, hz, Result.andThen_ok, run_underlying' hu]
      simp only [hm, Result.andThen_ok]
      rw [he, a2]
      rfl
    | array n e =>
      dsimp only at hk
      obtain ⟨hc, hk⟩ := bif_none hk
      simp only [Bool.and_eq_true] at hc
      obtain ⟨z, hz, hkn, hz1, hz2, hz3, hz4⟩ := zero_run (P := P) (g := g) (h := h) (w := w) hc.1
      obtain ⟨l, cs', a1, a2, a3, a4, a5⟩ := fillAll_sound parts cparts.toList _ z.cells _ r hk (by simpa using hl) hp hz1 hz3 hz4
      refine ⟨_, a1, .agg cs', ?_, VR.mk_agg a3 a4 a5⟩
      unfold Instr.build
      simp only [Sem.run_bind, hz, Result.andThen_ok, run_underlying' hu]
      simp only [run_size hc.2, Result.andThen_ok]
      rw [show (fun i => some (i * szTy P e, szTy P e)) = rowPlace (szTy P e) from rfl, a2]
      rfl
    | _ => simp at hk

theorem map_range0 {α : Type} (f : Nat → α) : (Array.range 0).map f = #[] := by apply Array.ext'; simp

/-- A row of n elements of sz cells out of a zero. -/
theorem replicate_cells {zt : List T} {z : Array Value} {sz : Nat} (hz1 : zt.length = z.size) (hz2 : z.size = sz) (len : Nat) (j o : Nat) (c : T) (hj : j < len) (ho : zt[o]? = some c) :
    ((Array.range (len * sz)).map (z[· % z.size]!))[j * sz + o]? = z[o]? := by
  have hoz : o < sz := by
    rcases Nat.lt_or_ge o zt.length with h | h
    · omega
    · simp [List.getElem?_eq_none h] at ho
  have hlt : j * sz + o < len * sz := by
    have : (j + 1) * sz ≤ len * sz := Nat.mul_le_mul_right _ hj
    rw [Nat.add_mul, Nat.one_mul] at this
    omega
  have hmod : (j * sz + o) % sz = o := by rw [Nat.add_comm, Nat.add_mul_mod_self_right]; exact Nat.mod_eq_of_lt hoz
  rw [Array.getElem?_map]
  simp only [Array.getElem?_range, hlt, if_true, Option.map_some, hz2, hmod]
  rw [Array.getElem!_eq_getD, Array.getD_eq_getD_getElem?, Array.getElem?_eq_getElem (by omega)]
  rfl

theorem setElems_sound {sz : Nat} : ∀ (parts : List (Nat × T)) (cparts : List (Nat × Value)) (elems : List (List T)) (cs : Array Value) (k : List (List T) → Option R) (r : R),
    setElems sz elems parts k = some r → parts.length = cparts.length → (∀ (n : Nat) (p : Nat × T), parts[n]? = some p → ∃ q : Nat × Value, cparts[n]? = some q ∧ q.1 = p.1 ∧ g.VR h w p.2 q.2) →
    elems.length * sz ≤ cs.size → (∀ l ∈ elems, l.length = sz) → (∀ (i : Nat) (u : Value), cs[i]? = some u → u.oneCell' = true) →
    (∀ (j o : Nat) (l : List T) (c : T), elems[j]? = some l → l[o]? = some c → ∃ u, cs[j * sz + o]? = some u ∧ g.VR h w c u) →
    ∃ es cs', k es = some r ∧ Instr.fill (fun i => some (i * sz, sz)) cs cparts = some cs' ∧ es.length = elems.length ∧ cs'.size = cs.size ∧ (∀ l ∈ es, l.length = sz) ∧ (∀ (i : Nat) (u : Value), cs'[i]? = some u → u.oneCell' = true) ∧
      ∀ (j o : Nat) (l : List T) (c : T), es[j]? = some l → l[o]? = some c → ∃ u, cs'[j * sz + o]? = some u ∧ g.VR h w c u
  | [], cparts, elems, cs, k, r, hk, hl, _, h0, h1, h2, h3 => by
    cases cparts with
    | nil => exact ⟨elems, cs, hk, rfl, rfl, rfl, h1, h2, h3⟩
    | cons q l => simp at hl
  | (i, v) :: parts, cparts, elems, cs, k, r, hk, hl, hp, h0, h1, h2, h3 => by
    cases cparts with
    | nil => simp at hl
    | cons q cparts =>
      obtain ⟨q', hq', hqi, hqr⟩ := hp 0 (i, v) rfl
      simp only [List.getElem?_cons_zero, Option.some.injEq] at hq'
      subst hq'
      obtain ⟨qi, cv⟩ := q
      dsimp only at hqi hqr
      subst hqi
      simp only [setElems] at hk
      obtain ⟨hc, hk⟩ := bif_none hk
      simp only [Bool.and_eq_true, beq_iff_eq] at hc
      obtain ⟨⟨hsz, hok⟩, hlt⟩ := hc
      have hlt := blt_lt hlt
      obtain ⟨c1, c2, c3⟩ := hqr.cells_rel hok
      have hfit : (qi + 1) * sz ≤ elems.length * sz := Nat.mul_le_mul_right _ hlt
      rw [Nat.add_mul, Nat.one_mul] at hfit
      obtain ⟨f1, f2⟩ := fill_cells cs (qi * sz) cv.cells (by rw [← c1, hsz]; omega)
      obtain ⟨es, cs', a1, a2, a3, a4, a5, a6, a7⟩ := setElems_sound parts cparts (elems.set qi v.cells) _ k r hk (by simpa using hl) (fun n p hn => hp (n + 1) p hn)
        (by rw [f1]; simpa using h0)
        (fun l hl' => by
          rcases List.mem_or_eq_of_mem_set hl' with hq | hq
          · exact h1 l hq
          · rw [hq]; exact hsz)
        (fun n u hn => by
          rw [f2] at hn
          split at hn
          · exact c2 _ u hn
          · exact h2 _ u hn)
        (fun j o l c hj ho => by
          rw [f2]
          by_cases hjq : j = qi
          · subst hjq
            simp only [List.getElem?_set_self hlt, Option.some.injEq] at hj
            subst hj
            have holt : o < v.cells.length := by
              rcases Nat.lt_or_ge o v.cells.length with hq | hq
              · exact hq
              · simp [List.getElem?_eq_none hq] at ho
            rw [if_pos ⟨by omega, by rw [← c1]; omega⟩, show j * sz + o - j * sz = o by omega]
            exact c3 o c ho
          · rw [List.getElem?_set_ne (fun e => hjq e.symm)] at hj
            have holt : o < sz := by
              have := h1 l (List.mem_of_getElem? hj)
              rcases Nat.lt_or_ge o l.length with hq | hq
              · omega
              · simp [List.getElem?_eq_none hq] at ho
            rw [if_neg ?_]
            · exact h3 j o l c hj ho
            · rw [← c1, hsz]
              rintro ⟨q1, q2⟩
              rcases Nat.lt_or_gt_of_ne hjq with hlt' | hgt
              · have : (j + 1) * sz ≤ qi * sz := Nat.mul_le_mul_right _ hlt'
                rw [Nat.add_mul, Nat.one_mul] at this
                omega
              · have : (qi + 1) * sz ≤ j * sz := Nat.mul_le_mul_right _ hgt
                rw [Nat.add_mul, Nat.one_mul] at this
                omega)
      refine ⟨es, cs', a1, ?_, by simpa using a3, by rw [a4, f1], a5, a6, a7⟩
      simp only [Instr.fill]
      rw [if_neg (by simp only [Bool.or_eq_true, decide_eq_true_eq, not_or]; rw [← c1, hsz]; exact ⟨by simp, by omega⟩)]
      exact a2

theorem plain_all {es : List (List T)} (hf : (es.all (·.all plain0)) = true) {l : List T} (hl : l ∈ es) {c : T} (hc : c ∈ l) : plain0 c = true :=
  (List.all_eq_true.1 ((List.all_eq_true.1 hf) l hl)) c hc

theorem semBuildSlice_sound {t : TypeId} {len : Nat} {parts : List (Nat × T)} {cparts : Array (Nat × Value)} {k : Kont R} {r : R} (hk : semBuildSlice P t len parts h k = some r) (hr : HR g h w)
    (hl : parts.length = cparts.size) (hp : ∀ (n : Nat) (p : Nat × T), parts[n]? = some p → ∃ q : Nat × Value, cparts.toList[n]? = some q ∧ q.1 = p.1 ∧ g.VR h w p.2 q.2) :
    ∃ y h', k y h' true = some r ∧ ∃ v w', (Instr.buildSlice t len cparts).run P w = .ok v w' ∧ Res g h w y h' v w' := by
  unfold semBuildSlice elemTy at hk
  cases hu : P.underlying t with
  | none => simp [hu] at hk
  | some d =>
    rw [hu] at hk
    cases d with
    | slice e =>
      dsimp only at hk
      obtain ⟨hc, hk⟩ := bif_none hk
      simp only [Bool.and_eq_true] at hc
      obtain ⟨hz, hle⟩ := hc
      have hle := ble_le hle
      obtain ⟨z, hz, hkn, hz1, hz2, hz3, hz4⟩ := zero_run (P := P) (g := g) (h := h) (w := w) hz
      let cs : Array Value := (Array.range (len * szTy P e)).map (z.cells[· % z.cells.size]!)
      obtain ⟨es, cs', a1, a2, a3, a4, a5, a6, a7⟩ := setElems_sound (sz := szTy P e) parts cparts.toList (List.replicate len (zeroTy P e)) cs _ r hk (by simpa using hl) hp
        (by simp [cs]) (fun l hl' => by rw [(List.mem_replicate.1 hl').2, hz1, hz2])
        (fun i u hu' => by
          simp only [cs, Array.getElem?_map, Option.map_eq_some_iff] at hu'
          obtain ⟨n, hn, rfl⟩ := hu'
          have hn' : n = i ∧ i < len * szTy P e := by
            rcases Nat.lt_or_ge i (len * szTy P e) with hq | hq
            · simp [hq] at hn; exact ⟨hn.symm, hq⟩
            · simp [Nat.not_lt.2 hq] at hn
          have hpos : 0 < szTy P e := by
            rcases Nat.eq_zero_or_pos (szTy P e) with h0 | h0
            · rw [h0] at hn'; omega
            · exact h0
          rw [Array.getElem!_eq_getD, Array.getD_eq_getD_getElem?]
          have hm : n % z.cells.size < z.cells.size := Nat.mod_lt _ (by omega)
          rw [Array.getElem?_eq_getElem hm]
          exact hz3 _ _ (Array.getElem?_eq_getElem hm))
        (fun j o l c hj ho => by
          have hjl : j < len := by
            rcases Nat.lt_or_ge j len with hq | hq
            · exact hq
            · rw [List.getElem?_eq_none (by simpa using hq)] at hj; simp at hj
          have : l = zeroTy P e := (List.mem_replicate.1 (List.mem_of_getElem? hj)).2
          subst this
          rw [replicate_cells hz1 hz2 len j o c hjl ho]
          exact hz4 o c ho)
      refine ⟨_, _, a1, .slice (some ⟨w.heap.size, 0, none⟩) len len, w.alloc (.cells cs' e), ?_, ?_⟩
      · unfold Instr.buildSlice
        have hq : ¬ (len * szTy P e > 2 ^ 24) := by simpa using hle
        by_cases h0 : len * szTy P e = 0
        · have e1 : cs = #[] := by simp only [cs, h0]; exact map_range0 _
          rw [e1] at a2
          have e2 : (Array.range (len * szTy P e)).map ((#[] : Array Value)[· % (#[] : Array Value).size]!) = #[] := by rw [h0]; exact map_range0 _
          simp only [Sem.run_bind, run_underlying' hu, Result.andThen_ok, run_size hkn, h0, if_true]
          rw [if_neg (by decide)]
          rw [h0] at e2
          simp only [Sem.run_bind, Sem.run_pure, Result.andThen_ok, e2, a2]
          rfl
        · simp only [Sem.run_bind, run_underlying' hu, Result.andThen_ok, run_size hkn, hq, if_false, Sem.run_pure, h0, hz]
          rw [show (Array.range (len * szTy P e)).map (z.cells[· % z.cells.size]!) = cs from rfl, a2]
          rfl
      · have hcsz : cs'.size = len * szTy P e := by rw [a4]; simp [cs]
        obtain ⟨g', e1, _, hr', hkeep, hfr⟩ := hr.alloc (w' := w.alloc (.cells cs' e)) (cb := w.heap.size) (sh := 0) (arr := cs') (e := e) (b' := ⟨0, szTy P e, len, fun j => es.getD j [], es.all (·.all plain0), Nat.ble len 8⟩)
          (by simp) (fun k hk => RowKit.Below.heap_alloc _ _ _ hk) (heap_new w _) (Nat.le_refl _) (by simp [hcsz])
          (fun j hj => by
            have hjl : j < es.length := by simp at a3; simp at hj; omega
            have : es[j]? = some es[j] := List.getElem?_eq_getElem hjl
            simp only [List.getD, this, Option.getD_some]
            exact a5 _ (List.mem_of_getElem? this))
          (fun j o c hj ho => by
            have hjl : j < es.length := by simp at a3; simp at hj; omega
            have hj' : es[j]? = some es[j] := List.getElem?_eq_getElem hjl
            simp only [List.getD, hj', Option.getD_some] at ho
            obtain ⟨u, hu', hur⟩ := a7 j o _ c hj' ho
            exact ⟨u, by simpa using hu', a6 _ _ hu', hur⟩)
          (fun hf j hj c hcm => by
            have hjl : j < es.length := by simp at a3; simp at hj; omega
            have hj' : es[j]? = some es[j] := List.getElem?_eq_getElem hjl
            simp only [List.getD, hj', Option.getD_some] at hcm
            exact plain_all hf (List.mem_of_getElem? hj') hcm) rfl rfl rfl
        refine ⟨g', hr', .own _ _ _ _ _ _ _ (at_end h _) (Nat.le_refl _) rfl fun _ => ⟨_, _, len, _, e1, rfl, rfl, by simp, Nat.le_refl _, fun m hm => ?_, by simp, ?_⟩, hkeep, hfr⟩
        · simp only [Option.some.injEq] at hm; subst hm; exact ⟨rfl, by simp⟩
        · exact ⟨cs', e, heap_new w _, by simp [hcsz]⟩
    | _ => simp at hk
end
end Go.Ab
