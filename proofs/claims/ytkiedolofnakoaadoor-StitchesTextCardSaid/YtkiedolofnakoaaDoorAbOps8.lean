/- Each operation of the abstract interpreter is met by the model's: append, copy. -/
import Derived.Test.YtkiedolofnakoaaDoorAbOps7
namespace Go.Ab
section
variable {P : Program} {R : Type} {g : Gh} {h : Heap} {w : World}

/-- The cells of some elements, one behind the other. -/
def flatE (gg : Nat → List T) (n : Nat) : List T := (List.range n).flatMap gg
theorem flatE_succ (gg : Nat → List T) (n : Nat) : flatE gg (n + 1) = flatE gg n ++ gg n := by simp [flatE, List.range_succ]
theorem flatE_length {gg : Nat → List T} {sz : Nat} : ∀ {n : Nat}, (∀ j, j < n → (gg j).length = sz) → (flatE gg n).length = n * sz
  | 0, _ => by simp [flatE]
  | n + 1, hl => by rw [flatE_succ, List.length_append, flatE_length (fun j hj => hl j (by omega)), hl n (by omega), Nat.add_mul, Nat.one_mul]
theorem flatE_get {gg : Nat → List T} {sz : Nat} : ∀ {n : Nat}, (∀ j, j < n → (gg j).length = sz) → ∀ j o, j < n → o < sz → (flatE gg n)[j * sz + o]? = (gg j)[o]?
  | 0, _, j, o, hj, _ => by omega
  | n + 1, hl, j, o, hj, ho => by
    have hlen := flatE_length (fun j hj => hl j (by omega)) (n := n) (gg := gg) (sz := sz)
    rw [flatE_succ]
    rcases Nat.lt_or_ge j n with hlt | hge
    · have : (j + 1) * sz ≤ n * sz := Nat.mul_le_mul_right _ hlt
      rw [Nat.add_mul, Nat.one_mul] at this
      rw [List.getElem?_append_left (by omega)]
      exact flatE_get (fun j hj => hl j (by omega)) j o hlt ho
    · obtain rfl : j = n := by omega
      rw [List.getElem?_append_right (by omega), hlen]
      congr 1
      omega
theorem flatE_inv {gg : Nat → List T} {sz : Nat} : ∀ {n : Nat}, (∀ j, j < n → (gg j).length = sz) → ∀ p c, (flatE gg n)[p]? = some c → ∃ j o, j < n ∧ o < sz ∧ p = j * sz + o ∧ (gg j)[o]? = some c
  | 0, _, p, c, hp => by simp [flatE] at hp
  | n + 1, hl, p, c, hp => by
    have hlen := flatE_length (fun j hj => hl j (by omega)) (n := n) (gg := gg) (sz := sz)
    rw [flatE_succ] at hp
    rcases Nat.lt_or_ge p (flatE gg n).length with hlt | hge
    · rw [List.getElem?_append_left hlt] at hp
      obtain ⟨j, o, h1, h2⟩ := flatE_inv (fun j hj => hl j (by omega)) p c hp
      exact ⟨j, o, by omega, h2⟩
    · rw [List.getElem?_append_right hge] at hp
      refine ⟨n, p - n * sz, by omega, ?_, by omega, by rw [← hlen]; exact hp⟩
      rcases Nat.lt_or_ge (p - (flatE gg n).length) (gg n).length with hq | hq
      · rw [hl n (by omega), hlen] at hq; exact hq
      · rw [List.getElem?_eq_none hq] at hp; cases hp

/-- The cells of a source, as they are read. -/
structure Src (P : Program) (g : Gh) (h : Heap) (w : World) (sz : Nat) (v : Value) (m : Nat) (gx : Nat → List T) (fl : Bool) (news : List Value) : Prop where
  len : (Builtin.lenOf v).run P w = .ok m w
  run : ∀ m', m' ≤ m → (Builtin.firstCells sz m' v).run P w = .ok (news.take (m' * sz)).toArray w
  runD : (Builtin.firstCells sz m v).run P w.drew = .ok news.toArray w.drew
  size : news.length = m * sz
  one : ∀ u ∈ news, u.oneCell' = true
  lens : ∀ j, j < m → (gx j).length = sz
  cell : ∀ j o c, j < m → (gx j)[o]? = some c → ∃ u, news[j * sz + o]? = some u ∧ g.VR h w c u
  flat : fl = true → ∀ j, j < m → ∀ c, c ∈ gx j → plain0 c = true

theorem src_of_cells {sz m cc b off : Nat} {gx : Nat → List T} {fl : Bool} {ad : Addr} (had : 0 < cc → ad = ⟨b, off, none⟩) (hmc : m ≤ cc) (hl : ∀ j, j < m → (gx j).length = sz)
    (hc : ∀ j, j < m → CellsAt g h w b (off + j * sz) (gx j)) (hf : fl = true → ∀ j, j < m → ∀ c, c ∈ gx j → plain0 c = true) : ∃ news, Src P g h w sz (.slice (some ad) m cc) m gx fl news := by
  have hlen := flatE_length hl
  have hat : CellsAt g h w b off (flatE gx m) := by
    intro p c hp
    obtain ⟨j, o, h1, h2, rfl, h4⟩ := flatE_inv hl p c hp
    obtain ⟨v, hv, hr⟩ := hc j h1 o c h4
    exact ⟨v, by rw [← Nat.add_assoc]; exact hv, hr⟩
  obtain ⟨vs, h1, h2, h3⟩ := cells_list hat _ (Nat.le_refl _)
  refine ⟨vs, by simp [Builtin.lenOf], fun m' hm' => ?_, ?_, by rw [h1, hlen], fun u hu => ?_, hl, fun j o c hj ho => ?_, hf⟩
  · simp only [Builtin.firstCells]
    by_cases h0 : 0 < cc
    · rw [had h0]
      have hle : m' * sz ≤ m * sz := Nat.mul_le_mul_right _ hm'
      have e : (vs.take (m' * sz)).length = m' * sz := by rw [List.length_take, h1, hlen]; omega
      have := run_loadCells_list (P := P) w ⟨b, off, none⟩ (vs.take (m' * sz)) (fun j v hj => by
        rw [add_none]
        rw [List.getElem?_take] at hj
        split at hj
        · exact (h2 j v hj).1
        · cases hj)
      rw [e] at this
      exact this
    · have e : m' = 0 := by omega
      subst e
      simp [loadCells, loadCellsFrom]
  · simp only [Builtin.firstCells]
    by_cases h0 : 0 < cc
    · rw [had h0]
      have := run_loadCells_list (P := P) w.drew ⟨b, off, none⟩ vs (fun j v hj => by rw [add_none]; exact (h2 j v hj).1)
      rw [h1, hlen] at this
      exact this
    · have e : m = 0 := by omega
      subst e
      have e2 : vs = [] := by simpa [flatE] using h1
      simp [loadCells, loadCellsFrom, e2]
  · obtain ⟨p, hp⟩ := List.mem_iff_getElem?.1 hu
    exact (h2 p u hp).2
  · have hos : o < sz := by
      rcases Nat.lt_or_ge o (gx j).length with hq | hq
      · rw [hl j hj] at hq; exact hq
      · rw [List.getElem?_eq_none hq] at ho; cases ho
    have hlt : j * sz + o < m * sz := by
      have : (j + 1) * sz ≤ m * sz := Nat.mul_le_mul_right _ hj
      rw [Nat.add_mul, Nat.one_mul] at this
      omega
    exact h3 _ c (by rw [hlen]; exact hlt) (by rw [flatE_get hl j o hj hos]; exact ho)

theorem source_sound {sz : Nat} {x : T} {v : Value} {k : Nat → (Nat → List T) → Bool → Option R} {r : R} (hk : source sz x h k = some r) (hr : HR g h w) (hx : g.VR h w x v) :
    ∃ m gx fl news, k m gx fl = some r ∧ Src P g h w sz v m gx fl news := by
  unfold source at hk
  cases x with
  | nils =>
    obtain rfl := hx.nils
    refine ⟨0, _, true, [], hk, ⟨by simp [Builtin.lenOf], fun m' _ => by simp [Builtin.firstCells], by simp [Builtin.firstCells], by simp, by simp, fun j hj => by omega, fun j o c hj => by omega, fun _ j hj => by omega⟩⟩
  | view sz' n gg cap =>
    obtain ⟨hs, hk'⟩ := bif_none hk
    clear hk
    have hs : sz' = sz := by simpa using hs
    subst hs
    cases hx.view with
    | view _ _ _ _ a cc vs hsp hcap hn hU hl hcl hv =>
      obtain ⟨news, hsrc⟩ := src_of_cells (P := P) (g := g) (h := h) (w := w) (sz := sz') (m := n) (cc := cc) (b := a.block) (off := a.off) (gx := gg) (fl := false) (ad := a) (fun h0 => addr_eta (hsp h0)) hn hl
        (fun j hj o c ho => ⟨vs j o, hcl j o c hj ho, .imm _ _ (hv j o c hj ho)⟩) (fun hf => by cases hf)
      exact ⟨n, gg, false, news, hk', hsrc⟩
  | own i ver off len cap =>
    obtain ⟨b, hb, hver, hk⟩ := blk_of hk
    obtain ⟨hc, hk'⟩ := bif_none hk
    clear hk
    simp only [Bool.and_eq_true, beq_iff_eq] at hc
    obtain ⟨hs, hle⟩ := hc
    have hle := ble_le hle
    subst hs
    obtain ⟨cb, sh, cc, ad, e1, rfl, es, e2, e3, e4, e5, e6⟩ := own_slice hb hver hx
    obtain ⟨cb', sh', arr, e', hok⟩ := hr.blk i b hb
    rw [hok.φ] at e1
    obtain ⟨rfl, rfl⟩ := Prod.mk.inj (Option.some.inj e1)
    obtain ⟨news, hsrc⟩ := src_of_cells (P := P) (g := g) (h := h) (w := w) (sz := b.sz) (m := len) (cc := cc) (b := cb') (off := sh' + off * b.sz) (gx := fun j => b.get (off + j)) (fl := b.flat) (ad := ad) e2 e3
      (fun j hj => hok.len _ (by omega)) (fun j hj => by
        have := hok.cellsAt (j := off + j) (by omega)
        rw [Nat.add_mul, ← Nat.add_assoc] at this
        exact this) (fun hf j hj => hok.flat hf _ (by omega))
    exact ⟨len, _, b.flat, news, hk', hsrc⟩
  | str s =>
    obtain ⟨hs, hk⟩ := bif_none hk
    have hs : sz = 1 := by simpa using hs
    subst hs
    obtain ⟨b, rfl, hb⟩ := hx.str
    have hsz := str_bytes hb
    refine ⟨s.length, _, true, s.map fun c => .int .u8 c.toNat, hk, ⟨by simp [Builtin.lenOf, hsz], fun m' hm' => ?_, ?_, by simp, fun u hu => ?_, fun j hj => rfl, fun j o c hj ho => ?_, fun _ j hj c hc => ?_⟩⟩
    · simp only [Builtin.firstCells, Sem.run_pure]
      congr 1
      apply Array.ext'
      rw [Array.toList_map, extract_list, hb]
      simp
    · simp only [Builtin.firstCells, Sem.run_pure]
      congr 1
      apply Array.ext'
      rw [Array.toList_map, extract_list, hb]
      simp
    · obtain ⟨c, _, rfl⟩ := List.mem_map.1 hu; rfl
    · cases o with
      | zero =>
        simp only [List.getElem?_cons_zero, Option.some.injEq] at ho
        subst ho
        refine ⟨.int .u8 ((s.getD j 0).toNat : Int), ?_, .imm _ _ (.int _ _)⟩
        have : s[j]? = some s[j] := List.getElem?_eq_getElem hj
        simp [List.getD, this]
      | succ o => simp at ho
    · simp at hc; subst hc; rfl
  | _ => simp at hk

theorem growBy_le (need : Nat) (hn : 256 ≤ need) : ∀ r c, c ≤ 2 * need → Builtin.growBy need r c ≤ 2 * need
  | 0, c, hc => hc
  | r + 1, c, hc => by
    unfold Builtin.growBy
    split
    · exact hc
    · exact growBy_le need hn r _ (by omega)

theorem nextcap_le {need old : Nat} (ho : old < need) : Builtin.nextslicecap need old ≤ 2 * need := by
  unfold Builtin.nextslicecap
  split
  · omega
  · split
    · omega
    · exact growBy_le need (by omega) 4 old (by omega)

theorem Src.all {sz m : Nat} {v : Value} {gx : Nat → List T} {fl : Bool} {news : List Value} (hs : Src P g h w sz v m gx fl news) : (Builtin.firstCells sz m v).run P w = .ok news.toArray w := by
  have := hs.run m (Nat.le_refl _)
  rwa [← hs.size, List.take_length] at this

/-- What append does where there is room. -/
theorem run_append_in {t tx ty e : TypeId} {base : Option Addr} {len cc m : Nat} {v : Value} {gx : Nat → List T} {fl : Bool} {news : List Value} {w' : World} (ht : P.underlying t = some (.slice e)) (hk : known P e = true)
    (hx : ∃ d, P.underlying tx = some d ∧ ∀ k, d ≠ .int k) (hs : Src P g h w (szTy P e) v m gx fl news) (hle : len + m ≤ cc)
    (hst : match base with | some a => (storeCells (a.add (len * szTy P e)) news).run P w = .ok () w' | none => w' = w) :
    (Builtin.append_ #[t, tx] ty #[.slice base len cc, v]).run P w = .ok (.slice base (len + m) cc) w' := by
  obtain ⟨d, hd, hni⟩ := hx
  have hz : (match d with | .int _ => true | _ => false) = false := by
    cases d <;> first | rfl | exact absurd rfl (hni _)
  unfold Builtin.append_
  simp only [List.getElem?_toArray, List.getElem?_cons_zero, List.getElem?_cons_succ, Sem.run_bind, run_underlying' ht, Result.andThen_ok, run_size hk, run_underlying' hd, Sem.run_pure, hs.len, Bool.false_eq_true, if_false, Bool.not_false, if_true, hle, hs.all]
  cases base with
  | none => subst hst; rfl
  | some a => simp only [Sem.run_bind, hst, Result.andThen_ok]; rfl

/-- What append does where there is none. -/
theorem run_append_out {t tx ty e : TypeId} {base : Option Addr} {len cc m : Nat} {v : Value} {gx : Nat → List T} {fl : Bool} {news olds : List Value} {z : Value} (ht : P.underlying t = some (.slice e)) (hk : known P e = true)
    (hz : (zeroValue e).run P w.drew = .ok z w.drew) (hx : ∃ d, P.underlying tx = some d ∧ ∀ k, d ≠ .int k) (hs : Src P g h w (szTy P e) v m gx fl news)
    (ho' : (Builtin.firstCells (szTy P e) len (.slice base len cc)).run P w.drew = .ok olds.toArray w.drew)
    (hgt : cc < len + m) (hle : (len + m) * (bytesTy P e + 1) ≤ 70368744177664) :
    ∃ nc, len + m ≤ nc ∧ (Builtin.append_ #[t, tx] ty #[.slice base len cc, v]).run P w =
      .ok (.slice (some ⟨w.heap.size, 0, none⟩) (len + m) nc) (w.drew.alloc (.cells (olds.toArray ++ news.toArray ++ Builtin.zeroCells z.cells (nc - (len + m))) e)) := by
  obtain ⟨d, hd, hni⟩ := hx
  obtain ⟨i, hi⟩ := known_info hk
  have hb : bytesTy P e = i.bytes := by simp [bytesTy, hi]
  rw [hb, Nat.mul_add, Nat.mul_one] at hle
  have hti : ∀ w : World, (typeInfo e).run P w = .ok i w := fun w => by simp [typeInfo, hi]
  have hnc := nextcap_le hgt
  have hcap : ¬ (Builtin.nextslicecap (len + m) cc * i.bytes > 2 ^ 48) := by
    have h1 : Builtin.nextslicecap (len + m) cc * i.bytes ≤ 2 * (len + m) * i.bytes := Nat.mul_le_mul_right _ hnc
    have h2 : 2 * (len + m) * i.bytes = 2 * ((len + m) * i.bytes) := Nat.mul_assoc _ _ _
    omega
  have hmax : ¬ ((((len + m : Nat) : Int) > IntKind.i64.max) ∧ (False ∨ i.bytes = 0)) := by
    have : IntKind.i64.max = 9223372036854775807 := by decide
    rw [this]
    omega
  have hf : (Question.appendCap (len + m) cc e).forced = false := rfl
  refine ⟨(Question.appendCap (len + m) cc e).cut (w.tape w.drawn (.appendCap (len + m) cc e)), by simp only [Question.cut]; omega, ?_⟩
  unfold Builtin.append_
  simp only [List.getElem?_toArray, List.getElem?_cons_zero, List.getElem?_cons_succ, Sem.run_bind, run_underlying' ht, Result.andThen_ok, run_size hk, run_underlying' hd, Sem.run_pure, hs.len, Bool.false_eq_true, if_false, Bool.not_false, if_true]
  rw [if_neg (by omega)]
  simp only [Sem.run_bind, hti, Result.andThen_ok]
  rw [if_neg hmax]
  simp only [Sem.run_bind, hti, Result.andThen_ok]
  rw [if_neg hcap]
  simp only [Sem.run_bind, run_choose, hf, Bool.false_eq_true, if_false, Result.andThen_ok, run_askRoom, hti]
  change ((Builtin.firstCells (szTy P e) len (.slice base len cc)).run P w.drew).andThen _ = _
  simp only [ho', hs.runD, Result.andThen_ok, hz]
  rfl
end
end Go.Ab
