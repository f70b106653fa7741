/- From the interpreter's answer to a law's statement: arguments. No program is named here. -/
import Derived.OpenShut
import Derived.Deep.DeepHandedRow
import Derived.Lib.LaidTab
import Derived.Test.YtkiedolofnakoaaDoorAbLoop
namespace Go.Ab
open Go.ChangeShapes Go.WideShapes Go.ChangeAt Go.RowKit

/-- A kind of which nothing is told. -/
def othDesc : Option TypeDesc → Bool
  | some .bool | some (.int _) | some .string | some (.struct _) | some (.array _ _) | some (.slice _) | none => false
  | _ => true

/-- The cells of a value of a type that reads as 'd'. -/
inductive CT (P : Program) {H : Type} : TypeId → List T → DataW H → Prop
  | bool (t : TypeId) (b : Bool) (ht : P.underlying t = some .bool) : CT P t [.bool b] (.lit (.bool b))
  | int (t : TypeId) (k : IntKind) (n : Int) (ht : P.underlying t = some (.int k)) (hn : (Lit.int k n).wf = true) : CT P t [.int k n] (.lit (.int k n))
  | str (t : TypeId) (s : List UInt8) (ht : P.underlying t = some .string) (hs : s.length ≤ maxLen) : CT P t [.str s] (.lit (.string s))
  | nils (t e : TypeId) (ht : P.underlying t = some (.slice e)) : CT P t [.nils] .nil
  | view (t e : TypeId) (n c : Nat) (g : Nat → List T) (elems spare : List (DataW H)) (ht : P.underlying t = some (.slice e)) (he : elems.length = n) (hs : spare.length = c - n) (hn : n ≤ c) (hc : c ≤ maxLen)
      (hg : ∀ j d, elems[j]? = some d → CT P e (g j) d) : CT P t [.view (P.cellsOf e) n g (some c)] (.slice elems spare)
  | thin (t e : TypeId) (d : DataW H) (ht : P.underlying t = some (.slice e)) (h0 : P.cellsOf e = 0) : CT P t [.undef] d
  | struct (t : TypeId) (fs : Array Field) (parts : List (List T)) (ds : List (DataW H)) (ht : P.underlying t = some (.struct fs)) (h1 : parts.length = fs.size) (h2 : ds.length = fs.size)
      (hp : ∀ (i : Nat) f p d, fs[i]? = some f → parts[i]? = some p → ds[i]? = some d → CT P f.type p d) : CT P t parts.flatten (.agg ds)
  | array (t e : TypeId) (n : Nat) (parts : List (List T)) (ds : List (DataW H)) (ht : P.underlying t = some (.array n e)) (h1 : parts.length = n) (h2 : ds.length = n)
      (hp : ∀ (i : Nat) p d, parts[i]? = some p → ds[i]? = some d → CT P e p d) : CT P t parts.flatten (.agg ds)
  | oth (t : TypeId) (d : DataW H) (ht : othDesc (P.underlying t) = true) : CT P t [.undef] d

/-- Cell by cell. -/
def CellsVI (w : World) (U : Nat → Prop) (ts : List T) (cs : List Value) : Prop :=
  ts.length = cs.length ∧ ∀ (i : Nat) (c : T), ts[i]? = some c → ∃ v, cs[i]? = some v ∧ VI w U c v ∧ v.oneCell' = true

theorem CellsVI.nil {w : World} {U : Nat → Prop} : CellsVI w U [] [] := ⟨rfl, fun i c h => by simp at h⟩
theorem CellsVI.one {w : World} {U : Nat → Prop} {c : T} {v : Value} (h : VI w U c v) (h1 : v.oneCell' = true) : CellsVI w U [c] [v] :=
  ⟨rfl, fun i x hx => by
    cases i with
    | zero => simp at hx; subst hx; exact ⟨v, rfl, h, h1⟩
    | succ i => simp at hx⟩
theorem CellsVI.append {w : World} {U : Nat → Prop} {a b : List T} {c d : List Value} (h : CellsVI w U a c) (h' : CellsVI w U b d) : CellsVI w U (a ++ b) (c ++ d) := by
  refine ⟨by simp [h.1, h'.1], fun i x hx => ?_⟩
  rcases Nat.lt_or_ge i a.length with hi | hi
  · rw [List.getElem?_append_left hi] at hx
    rw [List.getElem?_append_left (by rw [← h.1]; exact hi)]
    exact h.2 i x hx
  · rw [List.getElem?_append_right hi] at hx
    rw [List.getElem?_append_right (by rw [← h.1]; exact hi), ← h.1]
    exact h'.2 _ x hx

theorem CellsVI.flatten {w : World} {U : Nat → Prop} : ∀ {ps : List (List T)} {qs : List (List Value)}, ps.length = qs.length → (∀ (i : Nat) p q, ps[i]? = some p → qs[i]? = some q → CellsVI w U p q) → CellsVI w U ps.flatten qs.flatten
  | [], [], _, _ => .nil
  | p :: ps, q :: qs, hl, h => by
    simp only [List.flatten_cons]
    exact (h 0 p q rfl rfl).append (CellsVI.flatten (by simpa using hl) fun i p q hp hq => h (i + 1) p q (by simpa using hp) (by simpa using hq))
  | [], _ :: _, hl, _ => by simp at hl
  | _ :: _, [], hl, _ => by simp at hl

/-- A list cut by running sums of sizes. -/
theorem cut_flatten {α : Type} : ∀ (sz : List Nat) (cs : List α), cs.length = sz.sum → ((List.range sz.length).map fun i => (cs.drop (sz.take i).sum).take (sz.getD i 0)).flatten = cs
  | [], cs, h => by simp at h; subst h; rfl
  | s :: sz, cs, h => by
    have ih := cut_flatten sz (cs.drop s) (by simp at h ⊢; omega)
    rw [List.length_cons, List.range_succ_eq_map, List.map_cons, List.flatten_cons, List.map_map]
    have e : (List.map ((fun i => (cs.drop (List.take i (s :: sz)).sum).take ((s :: sz).getD i 0)) ∘ Nat.succ) (List.range sz.length)) = (List.range sz.length).map fun i => ((cs.drop s).drop (sz.take i).sum).take (sz.getD i 0) := by
      apply List.map_congr_left
      intro i _
      simp [List.drop_drop]
    rw [e, ih]
    simp

section
variable {H : Type} {enc : TypeId × Value → H} {P : Program} {w : World} {base : Nat} {spare : Nat → Bool} {held : Bool}

theorem fine_of (hl : laidOutB P = true) {t : TypeId} (hv : isVar P t = true) : rowFine P t = true := by
  simp only [laidOutB, Bool.and_eq_true] at hl
  have h1 := hl.1.1
  simp only [isVar, Bool.and_eq_true, decide_eq_true_eq] at hv
  exact List.all_eq_true.1 h1 t (by simpa using hv.1)

theorem fine_struct (hl : laidOutB P = true) {t : TypeId} (hv : isVar P t = true) {fs : Array Field} (ht : P.underlying t = some (.struct fs)) :
    (∀ (i : Nat) f, fs[i]? = some f → isVar P f.type = true) ∧ P.cellsOf t = (fs.toList.map fun f => P.cellsOf f.type).sum ∧ ∀ (i : Nat) f, fs[i]? = some f → f.offset = ((fs.toList.take i).map fun f => P.cellsOf f.type).sum := by
  have h := fine_of hl hv
  unfold rowFine at h
  rw [hv, ht] at h
  simp only [Bool.not_true, Bool.false_or, Bool.and_eq_true, beq_iff_eq] at h
  obtain ⟨⟨h1, h2⟩, h3⟩ := h
  refine ⟨fun i f hf => List.all_eq_true.1 h1 f (by rw [Array.mem_toList_iff]; exact Array.mem_of_getElem? hf), h2, fun i f hf => ?_⟩
  have hi : i < fs.toList.length := by
    rcases Nat.lt_or_ge i fs.size with q | q
    · simpa using q
    · simp [q] at hf
  have := List.all_eq_true.1 h3 i (by simpa using hi)
  have hf' : fs.toList[i]? = some f := by simpa using hf
  rw [hf'] at this
  simpa using this

theorem fine_array (hl : laidOutB P = true) {t e : TypeId} {n : Nat} (hv : isVar P t = true) (ht : P.underlying t = some (.array n e)) : isVar P e = true ∧ P.cellsOf t = n * P.cellsOf e := by
  have h := fine_of hl hv
  unfold rowFine at h
  rw [hv, ht] at h
  simpa using h
theorem fine_slice (hl : laidOutB P = true) {t e : TypeId} (hv : isVar P t = true) (ht : P.underlying t = some (.slice e)) : isVar P e = true := by
  have h := fine_of hl hv
  unfold rowFine at h
  rw [hv, ht] at h
  simp at h
  exact h.1

theorem cells?_some {a : Addr} {n : Nat} {l : List Value} (h : w.cells? base a n = some l) : l.length = n ∧ ∀ i, i < n → w.cell? (a.add i) = l[i]? := by
  unfold World.cells? at h
  split at h
  · exact ⟨by simpa using mapM_some_length h, fun i hi => mapM_some_get h i i (by simp [hi])⟩
  · cases h

theorem choose_list {α β : Type} {R : Nat → α → β → Prop} : ∀ (l : List α), (∀ (i : Nat) a, l[i]? = some a → ∃ b, R i a b) → ∃ m : List β, m.length = l.length ∧ ∀ (i : Nat) a b, l[i]? = some a → m[i]? = some b → R i a b
  | [], _ => ⟨[], rfl, fun i a b h => by simp at h⟩
  | x :: l, h => by
    obtain ⟨b, hb⟩ := h 0 x rfl
    obtain ⟨m, hm, hr⟩ := choose_list (R := fun i => R (i + 1)) l fun i a ha => h (i + 1) a (by simpa using ha)
    refine ⟨b :: m, by simp [hm], fun i a c ha hc => ?_⟩
    cases i with
    | zero => simp at ha hc; subst ha; subst hc; exact hb
    | succ i => exact hr i a c (by simpa using ha) (by simpa using hc)

theorem trod_oth {fuel : Nat} {t : TypeId} {cs : List Value} {x : DataW H × List MemPlace} (ho : othDesc (P.underlying t) = true) (h : DataW.trod enc P w base spare held fuel t cs = some x) : ∃ v, cs = [v] ∧ v.oneCell' = true := by
  cases fuel with
  | zero => simp [DataW.trod] at h
  | succ n =>
    unfold DataW.trod at h
    split at h <;> rename_i e <;> first
      | exact ⟨_, rfl, rfl⟩
      | (rw [e] at ho; simp [othDesc] at ho)
      | cases h

theorem trod_undef {fuel : Nat} {t : TypeId} {cs : List Value} {x : DataW H × List MemPlace} (h : DataW.trod enc P w base spare held fuel t cs = some x) : P.underlying t ≠ none := by
  intro e
  cases fuel with
  | zero => simp [DataW.trod] at h
  | succ n =>
    unfold DataW.trod at h
    rw [e] at h
    simp at h

theorem trod_CT (hl : laidOutB P = true) (hsp : ∀ b, spare b = true) : ∀ (fuel : Nat) (t : TypeId) (cs : List Value) (x : DataW H × List MemPlace), isVar P t = true → DataW.trod enc P w base spare held fuel t cs = some x →
    ∃ ts, CT P t ts x.1 ∧ CellsVI w (fun b => b < w.heap.size) ts cs := by
  intro fuel
  induction fuel with
  | zero => intro t cs x _ h; simp [DataW.trod] at h
  | succ n ih =>
    intro t cs x hv h
    cases hu : P.underlying t with
    | none => exact absurd hu (trod_undef h)
    | some de =>
      have hoth : othDesc (P.underlying t) = true → ∃ ts, CT P t ts x.1 ∧ CellsVI w (fun b => b < w.heap.size) ts cs := fun ho => by
        obtain ⟨v, rfl, h1⟩ := trod_oth ho h
        exact ⟨[.undef], .oth t _ ho, .one (.undef _) h1⟩
      cases de with
      | bool =>
        unfold DataW.trod at h
        rw [hu] at h
        split at h <;> rename_i e <;> simp at e
        · obtain rfl := Option.some.inj h
          exact ⟨_, .bool t _ hu, .one (.bool _) rfl⟩
        · cases h
      | int k =>
        unfold DataW.trod at h
        rw [hu] at h
        split at h <;> rename_i e <;> simp at e
        · subst e
          split at h
          · rename_i hc
            obtain ⟨rfl, hwf⟩ := hc
            obtain rfl := Option.some.inj h
            exact ⟨_, .int t _ _ hu hwf, .one (.int _ _) rfl⟩
          · cases h
        · cases h
      | string =>
        unfold DataW.trod at h
        rw [hu] at h
        split at h <;> rename_i e <;> simp at e
        · split at h
          · rename_i s hc
            obtain rfl := Option.some.inj h
            exact ⟨_, .str t _ hu (by simpa using hc), .one (.str _ s rfl) rfl⟩
          · cases h
        · cases h
      | struct fs =>
        obtain ⟨xs, m, hm, rfl, hlen, hxl, hget⟩ := DataW.trod_struct hu h
        obtain rfl : n = m := by omega
        obtain ⟨q1, q2, q3⟩ := fine_struct hl hv hu
        obtain ⟨parts, hpl, hpr⟩ := choose_list (α := Field) (β := List T) (R := fun i f p => ∃ y, xs[i]? = some y ∧ CT P f.type p y.1 ∧ CellsVI w (fun b => b < w.heap.size) p ((cs.drop f.offset).take (P.cellsOf f.type))) fs.toList (fun i f hf => by
          have hf : fs[i]? = some f := by simpa using hf
          have hi : i < fs.size := by
            rcases Nat.lt_or_ge i fs.size with q | q
            · exact q
            · simp [q] at hf
          have hx : xs[i]? = some xs[i] := List.getElem?_eq_getElem (by omega)
          obtain ⟨ts, r1, r2⟩ := ih f.type _ xs[i] (q1 i f hf) ((hget i f hf).trans hx)
          exact ⟨ts, xs[i], hx, r1, r2⟩)
        refine ⟨parts.flatten, .struct t fs parts _ hu (by simpa using hpl) (by simpa using hxl) (fun i f p d hf hp hd => ?_), ?_⟩
        · obtain ⟨y, r1, r2, _⟩ := hpr i f p (by simpa using hf) hp
          rw [List.getElem?_map, r1] at hd
          obtain rfl := Option.some.inj hd
          exact r2
        · have hcut := cut_flatten (fs.toList.map fun f => P.cellsOf f.type) cs (by rw [hlen, q2])
          rw [← hcut]
          refine CellsVI.flatten (by simp [hpl]) fun i p q hp hq => ?_
          have hi : i < fs.size := by
            rcases Nat.lt_or_ge i parts.length with r | r
            · simpa [hpl] using r
            · simp [r] at hp
          obtain ⟨y, r1, _, r3⟩ := hpr i fs[i] p (by simp [hi]) hp
          simp only [List.length_map, List.getElem?_map, Array.length_toList] at hq
          rw [List.getElem?_range hi] at hq
          simp only [Option.map_some, Option.some.injEq] at hq
          rw [← hq]
          have hoff := q3 i fs[i] (by simp [hi])
          have hgd : (fs.toList.map fun f => P.cellsOf f.type).getD i 0 = P.cellsOf fs[i].type := by simp [hi]
          rw [hgd, ← List.map_take, ← hoff]
          exact r3
      | array k e =>
        obtain ⟨xs, m, hm, rfl, hlen, hxl, hget⟩ := DataW.trod_array hu h
        obtain rfl : n = m := by omega
        obtain ⟨q1, q2⟩ := fine_array hl hv hu
        obtain ⟨parts, hpl, hpr⟩ := choose_list (α := DataW H × List MemPlace) (β := List T) (R := fun i y p => CT P e p y.1 ∧ CellsVI w (fun b => b < w.heap.size) p ((cs.drop (i * P.cellsOf e)).take (P.cellsOf e))) xs (fun i y hy => by
          have hi : i < k := by
            rcases Nat.lt_or_ge i xs.length with q | q
            · omega
            · simp [q] at hy
          exact ih e _ y q1 ((hget i hi).trans hy))
        refine ⟨parts.flatten, .array t e k parts _ hu (by omega) (by simpa using hxl) (fun i p d hp hd => ?_), ?_⟩
        · rw [List.getElem?_map, Option.map_eq_some_iff] at hd
          obtain ⟨y, hy, rfl⟩ := hd
          exact (hpr i y p hy hp).1
        · have hcut := cut_flatten (List.replicate k (P.cellsOf e)) cs (by rw [hlen, q2]; simp)
          rw [← hcut]
          refine CellsVI.flatten (by simp [hpl, hxl]) fun i p q hp hq => ?_
          have hi : i < k := by
            rcases Nat.lt_or_ge i parts.length with r | r
            · omega
            · simp [r] at hp
          have hy : xs[i]? = some xs[i] := List.getElem?_eq_getElem (by omega)
          have r3 := (hpr i _ p hy hp).2
          simp only [List.length_replicate, List.getElem?_map] at hq
          rw [List.getElem?_range hi] at hq
          simp only [Option.map_some, Option.some.injEq] at hq
          rw [← hq]
          have hgd : (List.replicate k (P.cellsOf e)).getD i 0 = P.cellsOf e := by simp [hi]
          have hsum : (List.take i (List.replicate k (P.cellsOf e))).sum = i * P.cellsOf e := by
            rw [List.take_replicate]
            simp [Nat.min_eq_left (Nat.le_of_lt hi)]
          rw [hgd, hsum]
          exact r3
      | slice e =>
        rcases Nat.eq_zero_or_pos (P.cellsOf e) with hz | hz
        · have hone : ∃ v, cs = [v] ∧ v.oneCell' = true := by
            rcases DataW.trod_slice hu h with ⟨rfl, _⟩ | ⟨a, len, cap, elems, rest, m, hm, rfl, _⟩
            · exact ⟨_, rfl, rfl⟩
            · exact ⟨_, rfl, rfl⟩
          obtain ⟨v, rfl, h1⟩ := hone
          exact ⟨[.undef], .thin t e _ hu hz, .one (.undef _) h1⟩
        rcases DataW.trod_slice hu h with ⟨rfl, rfl⟩ | ⟨a, len, cap, elems, rest, m, hm, rfl, rfl, hb, hle, hcap, hel, hget, hrest, _⟩
        · exact ⟨[.nils], .nils t e hu, .one .nils rfl⟩
        · obtain rfl : n = m := by omega
          have hve := fine_slice hl hv hu
          have hcell : ∀ (j : Nat) y, elems[j]? = some y → ∃ l, w.cells? base (a.add (j * P.cellsOf e)) (P.cellsOf e) = some l ∧ DataW.trod enc P w base spare held n e l = some y := by
            intro j y hy
            have hj : j < len := by
              rcases Nat.lt_or_ge j elems.length with q | q
              · omega
              · simp [q] at hy
            have := hget j hj
            rw [hy] at this
            exact Option.bind_eq_some_iff.1 this
          obtain ⟨parts, hpl, hpr⟩ := choose_list (α := DataW H × List MemPlace) (β := List T) (R := fun j y p => CT P e p y.1 ∧ ∃ l, w.cells? base (a.add (j * P.cellsOf e)) (P.cellsOf e) = some l ∧ CellsVI w (fun b => b < w.heap.size) p l) elems (fun j y hy => by
            obtain ⟨l, h1, h2⟩ := hcell j y hy
            obtain ⟨ts, r1, r2⟩ := ih e l y hve h2
            exact ⟨ts, r1, l, h1, r2⟩)
          have hpart : ∀ j, j < len → ∃ y l, parts[j]? = some (parts.getD j []) ∧ elems[j]? = some y ∧ CT P e (parts.getD j []) y.1 ∧ w.cells? base (a.add (j * P.cellsOf e)) (P.cellsOf e) = some l ∧ CellsVI w (fun b => b < w.heap.size) (parts.getD j []) l := by
            intro j hj
            have hy : elems[j]? = some elems[j] := List.getElem?_eq_getElem (by omega)
            have hp : parts[j]? = some (parts.getD j []) := by simp [show j < parts.length by omega]
            obtain ⟨r1, l, r2, r3⟩ := hpr j _ _ hy hp
            exact ⟨_, l, hp, hy, r1, r2, r3⟩
          have hspot : 0 < len → a.spot = none ∧ a.block < w.heap.size := fun h0 => by
            obtain ⟨y, l, _, _, _, r2, _⟩ := hpart 0 h0
            obtain ⟨_, q2⟩ := cells?_some r2
            have := q2 0 hz
            have hl0 : ∃ v, w.cell? ((a.add (0 * P.cellsOf e)).add 0) = some v := by
              rw [this]
              exact ⟨_, List.getElem?_eq_getElem (by rw [(cells?_some r2).1]; exact hz)⟩
            obtain ⟨v, hv0⟩ := hl0
            unfold World.cell? at hv0
            have hblk : ((a.add (0 * P.cellsOf e)).add 0).block = a.block := by simp [Addr.add]
            rw [hblk] at hv0
            have hs0 : ((a.add (0 * P.cellsOf e)).add 0).spot = a.spot := by
              simp [Addr.add]
            split at hv0
            · rename_i hh
              refine ⟨?_, ?_⟩
              · cases hsp : a.spot with
                | none => rfl
                | some q => rw [hs0, hsp] at hv0; simp at hv0
              · rcases Nat.lt_or_ge a.block w.heap.size with r | r
                · exact r
                · simp [r] at hh
            · cases hv0
          have hspot' : 0 < cap → a.spot = none := fun h0 => by
            rcases Nat.eq_zero_or_pos len with h1 | h1
            · obtain ⟨hr1, hr2⟩ := hrest (hsp _)
              have hr := hr2 0 (by omega)
              have hr0 : rest[0]? = some rest[0] := List.getElem?_eq_getElem (by omega)
              rw [hr0] at hr
              obtain ⟨l, r2, _⟩ := Option.bind_eq_some_iff.1 hr
              obtain ⟨_, q2⟩ := cells?_some r2
              have := q2 0 hz
              obtain ⟨v, hv0⟩ : ∃ v, w.cell? ((a.add ((len + 0) * P.cellsOf e)).add 0) = some v := by
                rw [this]
                exact ⟨_, List.getElem?_eq_getElem (by rw [(cells?_some r2).1]; exact hz)⟩
              unfold World.cell? at hv0
              have hs0 : ((a.add ((len + 0) * P.cellsOf e)).add 0).spot = none → a.spot = none := fun h => by simpa [Addr.add, h1] using h
              split at hv0
              · apply hs0
                split at hv0
                · cases hv0
                · rename_i q
                  simpa using q
              · cases hv0
            · exact (hspot h1).1
          refine ⟨[.view (P.cellsOf e) len (fun j => parts.getD j []) (some cap)], .view t e len cap _ _ _ hu (by simpa using hel) (by simpa using (hrest (hsp _)).1) hle hcap (fun j d hd => ?_), .one ?_ rfl⟩
          · rw [List.getElem?_map, Option.map_eq_some_iff] at hd
            obtain ⟨y, hy, rfl⟩ := hd
            have hj : j < len := by
              rcases Nat.lt_or_ge j elems.length with q | q
              · omega
              · simp [q] at hy
            obtain ⟨y', l, _, r2, r3, _⟩ := hpart j hj
            rw [hy] at r2
            obtain rfl := Option.some.inj r2
            exact r3
          · refine .view (P.cellsOf e) len _ (some cap) a cap (fun j o => (w.cell? ⟨a.block, a.off + j * P.cellsOf e + o, none⟩).getD Go.undef) hspot' (fun m hm => Option.some.inj hm) hle (fun h0 => (hspot h0).2) (fun j hj => ?_) (fun j o c hj ho => ?_) (fun j o c hj ho => ?_)
            all_goals obtain ⟨y, l, r1, r2, r3, r4, r5⟩ := hpart j hj
            all_goals obtain ⟨q1, q2⟩ := cells?_some r4
            · rw [r5.1, q1]
            all_goals
              have ho' : o < P.cellsOf e := by
                rcases Nat.lt_or_ge o (parts.getD j []).length with q | q
                · have := r5.1; omega
                · rw [List.getElem?_eq_none q] at ho; cases ho
              obtain ⟨v, s1, s2, s3⟩ := r5.2 o c ho
              have hadd : (a.add (j * P.cellsOf e)).add o = ⟨a.block, a.off + j * P.cellsOf e + o, none⟩ := by
                have := (hspot (by omega)).1
                cases a with | mk b o s => dsimp only at this; subst this; rw [add_none, add_none]
              have hcv : w.cell? ⟨a.block, a.off + j * P.cellsOf e + o, none⟩ = some v := by rw [← hadd, q2 o ho', s1]
            · rw [hcv]; exact ⟨hcv, s3⟩
            · rw [hcv]; exact s2
      | _ => exact hoth (by rw [hu]; rfl)

/-! ### Arguments -/
/-- A value out of its cells. -/
def topT (P : Program) (t : TypeId) (ts : List T) : T := if aggTy P t then .agg ts else ts.headD .undef

/-- The arguments, as they read. -/
def ATs (P : Program) : List TypeId → List T → List (DataW H) → Prop
  | [], [], [] => True
  | t :: l, x :: xs, d :: ds => (∃ ts, CT P t ts d ∧ x = topT P t ts) ∧ ATs P l xs ds
  | _, _, _ => False

theorem CT.single {t : TypeId} {ts : List T} {d : DataW H} (h : CT P t ts d) (ha : aggTy P t = false) : ∃ x, ts = [x] := by
  cases h with
  | bool => exact ⟨_, rfl⟩
  | int => exact ⟨_, rfl⟩
  | str => exact ⟨_, rfl⟩
  | nils => exact ⟨_, rfl⟩
  | view => exact ⟨_, rfl⟩
  | thin => exact ⟨_, rfl⟩
  | struct _ fs _ _ ht => simp [aggTy, ht] at ha
  | array _ e n _ _ ht => simp [aggTy, ht] at ha
  | oth => exact ⟨_, rfl⟩

theorem okWide_cells {t : TypeId} {v : Value} {r : Reach} {b0 : Nat} (h : Value.okWide P w r b0 t v) (ha : aggTy P t = false) : v.cells = #[v] := by
  have hnot : ∀ u : Value, (∀ cs, u ≠ .agg cs) → (∀ cs, u ≠ .tuple cs) → u.cells = #[u] := fun u h1 h2 => by
    cases u <;> first | rfl | exact absurd rfl (h1 _) | exact absurd rfl (h2 _)
  unfold aggTy at ha
  unfold Value.okWide at h
  refine hnot v (fun cs e => ?_) (fun cs e => ?_)
  all_goals
    subst e
    split at h
    · rename_i hx; rw [hx] at ha; simp at ha
    · rename_i hx; rw [hx] at ha; simp at ha
    · unfold Cell.okWide at h
      split at h
      all_goals first
        | contradiction
        | (rename_i e1; cases e1)
        | (unfold Cell.ok at h; split at h <;> first | contradiction | (rename_i e1; cases e1))

theorem okWide_agg {t : TypeId} {v : Value} {r : Reach} {b0 : Nat} (h : Value.okWide P w r b0 t v) (ha : aggTy P t = true) : ∃ cs, v = .agg cs := by
  unfold aggTy at ha
  unfold Value.okWide at h
  cases hu : P.underlying t with
  | none => rw [hu] at ha; simp at ha
  | some de =>
    rw [hu] at ha h
    cases de <;> simp at ha
    all_goals
      obtain ⟨cs, e, _⟩ := h
      exact ⟨cs, e⟩

theorem top_VI {U : Nat → Prop} {t : TypeId} {v : Value} {ts : List T} {d : DataW H} {r : Reach} {b0 : Nat} (hct : CT P t ts d) (hc : CellsVI w U ts v.cells.toList) (hok : Value.okWide P w r b0 t v) : VI w U (topT P t ts) v := by
  unfold topT
  cases ha : aggTy P t with
  | true =>
    obtain ⟨cs, rfl⟩ := okWide_agg hok ha
    have hcs : (Value.agg cs).cells.toList = cs.toList := rfl
    rw [hcs] at hc
    have hlen : ts.length = cs.size := by simpa using hc.1
    simp only [if_true]
    refine VI.mk_agg hlen (fun i u hu => ?_) (fun i c hi => ?_)
    · have hi : i < ts.length := by
        rcases Nat.lt_or_ge i cs.size with q | q
        · omega
        · simp [q] at hu
      obtain ⟨v, h1, _, h3⟩ := hc.2 i ts[i] (by simp [hi])
      have h1 : cs[i]? = some v := by simpa using h1
      rw [hu] at h1
      obtain rfl := Option.some.inj h1
      exact h3
    · obtain ⟨v, h1, h2, _⟩ := hc.2 i c hi
      exact ⟨v, by simpa using h1, h2⟩
  | false =>
    obtain ⟨x, rfl⟩ := hct.single ha
    have e := okWide_cells hok ha
    rw [e] at hc
    obtain ⟨v', h1, h2, _⟩ := hc.2 0 x rfl
    simp at h1
    subst h1
    simpa using h2

theorem args_CT (hl : laidOutB P = true) (hsp : ∀ b, spare b = true) : ∀ (params : List TypeId) (args : List Value) (ds : List (DataW H)) (ps : List MemPlace), (∀ t ∈ params, isVar P t = true) →
    (∀ (j : Nat) t v, params[j]? = some t → args[j]? = some v → Value.okWide P w .any base t v) → DataW.TrodAll enc P w 0 spare held params args ds ps →
    ∃ xs, ATs P params xs ds ∧ xs.length = args.length ∧ ∀ (i : Nat) x, xs[i]? = some x → ∃ v, args[i]? = some v ∧ VI w (fun b => b < w.heap.size) x v
  | [], args, ds, ps, _, _, h => by
    obtain ⟨rfl, rfl, rfl⟩ := trodAll_nil h
    exact ⟨[], trivial, rfl, fun i x hx => by simp at hx⟩
  | t :: params, args, ds, ps, hv, hok, h => by
    obtain ⟨v, vs, d, ds', a, b, rfl, rfl, rfl, h1, h2⟩ := trodAll_cons h
    obtain ⟨fuel, h1⟩ := h1
    obtain ⟨ts, q1, q2⟩ := trod_CT hl hsp fuel t _ _ (hv t (by simp)) h1
    obtain ⟨xs, r1, r2, r3⟩ := args_CT hl hsp params vs ds' b (fun t ht => hv t (by simp [ht])) (fun j t v ht hv => hok (j + 1) t v (by simpa using ht) (by simpa using hv)) h2
    refine ⟨topT P t ts :: xs, ⟨⟨ts, q1, rfl⟩, r1⟩, by simp [r2], fun i x hx => ?_⟩
    cases i with
    | zero =>
      simp only [List.getElem?_cons_zero, Option.some.injEq] at hx
      subst hx
      exact ⟨v, rfl, top_VI q1 q2 (hok 0 t v rfl rfl)⟩
    | succ i => exact r3 i x (by simpa using hx)

/-! ### Package-level variables -/
/-- The cells of a datum of a flat type. -/
def toT (P : Program) : Nat → TypeId → DataW H → Option (List T)
  | 0, _, _ => none
  | n + 1, t, d => match P.underlying t, d with
    | some .bool, .lit (.bool b) => some [.bool b]
    | some (.int _), .lit (.int k m) => some [.int k m]
    | some .string, .lit (.string s) => some [.str s]
    | some (.array _ e), .agg ds => (ds.mapM (toT P n e)).map List.flatten
    | _, _ => none

theorem CT_toT : ∀ (n : Nat) {t : TypeId} {ts ts' : List T} {d : DataW H}, toT P n t d = some ts' → CT P t ts d → ts = ts'
  | 0, t, ts, ts', d, h, _ => by cases h
  | n + 1, t, ts, ts', d, h, hc => by
    unfold toT at h
    cases hc with
    | bool _ b ht => simp [ht] at h; exact h
    | int _ k m ht => simp [ht] at h; exact h
    | str _ s ht => simp [ht] at h; exact h
    | nils _ e ht => simp [ht] at h
    | view _ e m c g l sp ht => simp [ht] at h
    | thin _ e _ ht => simp [ht] at h
    | struct _ fs parts ds ht => simp [ht] at h
    | array _ e m parts ds ht h1 h2 hp =>
      simp only [ht, Option.map_eq_some_iff] at h
      obtain ⟨l, hm, rfl⟩ := h
      have hll := mapM_some_length hm
      congr 1
      apply List.ext_getElem?
      intro i
      rcases Nat.lt_or_ge i m with hi | hi
      · have e1 : parts[i]? = some parts[i] := List.getElem?_eq_getElem (by omega)
        have e2 : ds[i]? = some ds[i] := List.getElem?_eq_getElem (by omega)
        have e3 := mapM_some_get hm i _ e2
        have e4 : l[i]? = some l[i] := List.getElem?_eq_getElem (by omega)
        rw [e4] at e3
        rw [e1, e4, CT_toT n e3 (hp i _ _ e1 e2)]
      · rw [List.getElem?_eq_none (by omega), List.getElem?_eq_none (by omega)]
    | oth _ _ ht =>
      exfalso
      cases hu : P.underlying t with
      | none => rw [hu] at h; cases h
      | some de =>
        rw [hu] at h ht
        cases de <;> simp [othDesc] at ht h

theorem laidVars_mem {laid : List (String × DataW Unit)} {ps : List MemPlace} (h : DataW.LaidVars P w laid ps) {name : String} {d : DataW Unit} (hm : (name, d) ∈ laid) :
    ∃ g t cs fuel p, P.globalNamed name = some g ∧ (P.globals[g]?).map (·.type) = some t ∧ w.var? P name = some cs ∧ DataW.trod (fun _ => ()) P w 0 (fun _ => true) false fuel t cs.toList = some (d, p) := by
  induction laid generalizing ps with
  | nil => cases hm
  | cons x l ih =>
    obtain ⟨n, d'⟩ := x
    obtain ⟨g, t, cs, fuel, p, q, h1, h2, h3, h4, h5, _⟩ := h
    rcases List.mem_cons.1 hm with e | e
    · obtain ⟨rfl, rfl⟩ := Prod.mk.inj e
      exact ⟨g, t, cs, fuel, p, h1, h2, h3, h4⟩
    · exact ih h5 e

/-- The table of the package-level variables that are told. -/
def gOf : List (Nat × List T) → Nat → Option (List T)
  | [], _ => none
  | (g, c) :: l, x => bif x == g then some c else gOf l x

/-- It is what the row lists. -/
def GL (P : Program) (laid : List (String × DataW Unit)) : List (Nat × List T) → Prop
  | [] => True
  | (g, c) :: l => (∃ name d t, P.globalNamed name = some g ∧ (P.globals[g]?).map (·.type) = some t ∧ isVar P t = true ∧ (name, d) ∈ laid ∧ toT P 8 t d = some c) ∧ GL P laid l

theorem globOk_of (hl : laidOutB P = true) {laid : List (String × DataW Unit)} (hm : laidMet P laid w) : ∀ {l : List (Nat × List T)}, GL P laid l → GlobOk (gOf l) w (fun b => b < w.heap.size)
  | [], _ => fun g c h => by cases h
  | (g, c) :: l, ⟨⟨name, d, t, h1, h2, h3, h4, h5⟩, hr⟩ => fun gl cells h => by
    simp only [gOf] at h
    rcases bif_some h with ⟨he, hcc⟩ | ⟨_, hcc⟩
    · clear hr h
      have he : gl = g := by simpa using he
      subst he
      obtain rfl := Option.some.inj hcc
      obtain ⟨ps, hlv, _, _⟩ := hm
      obtain ⟨g', t', cs, fuel, p, q1, q2, q3, q4⟩ := laidVars_mem hlv h4
      obtain rfl := Option.some.inj (q1.symm.trans h1)
      obtain rfl := Option.some.inj (h2.symm.trans q2)
      obtain ⟨ts, r1, r2⟩ := trod_CT hl (fun _ => rfl) fuel t cs.toList _ h3 q4
      obtain rfl := CT_toT 8 h5 r1
      have hcell : ∀ (i : Nat) v, cs[i]? = some v → w.cell? ⟨g', i, none⟩ = some v := fun i v hi => World.var?_cell q1 q3 i |>.trans hi
      refine .vp _ ⟨g', 0, none⟩ (fun o => cs.getD o Go.undef) rfl (fun h0 => ?_) (fun o c ho => ?_) (fun o c ho => ?_)
      · obtain ⟨v, s1, _, _⟩ := r2.2 0 ts[0] (by simp [h0])
        have := hcell 0 v (by simpa using s1)
        unfold World.cell? at this
        split at this
        · rename_i hh
          rcases Nat.lt_or_ge g' w.heap.size with r | r
          · exact r
          · simp [r] at hh
        · cases this
      all_goals
        obtain ⟨v, s1, s2, s3⟩ := r2.2 o c ho
        have s1 : cs[o]? = some v := by simpa using s1
        have hg : cs.getD o Go.undef = v := by simp [Array.getD_eq_getD_getElem?, s1]
        rw [hg]
      · exact ⟨by simpa using hcell o v s1, s3⟩
      · exact s2
    · exact globOk_of hl hm hr gl cells hcc

/-! ### Saying less of a value -/
/-- What 'x' tells, 'y' tells too. -/
def Sim (x y : T) : Prop := ∀ w U v, VI w U x v → VI w U y v
theorem Sim.refl (x : T) : Sim x x := fun _ _ _ h => h
theorem Sim.undef (x : T) : Sim x .undef := fun _ _ v _ => .undef v
def Sims (l m : List T) : Prop := l.length = m.length ∧ ∀ (i : Nat) a b, l[i]? = some a → m[i]? = some b → Sim a b
theorem Sims.refl (l : List T) : Sims l l := ⟨rfl, fun i a b h1 h2 => by rw [h1] at h2; obtain rfl := Option.some.inj h2; exact .refl _⟩
theorem Sims.nil : Sims [] [] := .refl _
theorem Sims.cons {x y : T} {l m : List T} (h : Sim x y) (hl : Sims l m) : Sims (x :: l) (y :: m) := by
  refine ⟨by simp [hl.1], fun i a b h1 h2 => ?_⟩
  cases i with
  | zero => simp at h1 h2; subst h1; subst h2; exact h
  | succ i => exact hl.2 i a b (by simpa using h1) (by simpa using h2)
theorem Sims.get {l m : List T} (h : Sims l m) {i : Nat} {b : T} (hb : m[i]? = some b) : ∃ a, l[i]? = some a ∧ Sim a b := by
  have hi : i < m.length := by
    rcases Nat.lt_or_ge i m.length with q | q
    · exact q
    · simp [q] at hb
  have ha : l[i]? = some (l[i]'(by rw [h.1]; exact hi)) := List.getElem?_eq_getElem _
  exact ⟨_, ha, h.2 i _ _ ha hb⟩

theorem Sim.view {sz n : Nat} {g g' : Nat → List T} {c c' : Option Nat} (hc : c' = c ∨ c' = none) (hg : ∀ j, j < n → Sims (g j) (g' j)) : Sim (.view sz n g c) (.view sz n g' c') := by
  intro w U v h
  cases h with
  | view _ _ _ _ a cc vs hs hcap hn hU hl hcl hv =>
    refine .view sz n g' c' a cc vs hs (fun m hm => ?_) hn hU (fun j hj => by rw [← (hg j hj).1]; exact hl j hj) (fun j o x hj ho => ?_) (fun j o x hj ho => ?_)
    · rcases hc with rfl | rfl
      · exact hcap m hm
      · cases hm
    · obtain ⟨y, hy, _⟩ := (hg j hj).get ho
      exact hcl j o y hj hy
    · obtain ⟨y, hy, hs⟩ := (hg j hj).get ho
      exact hs _ _ _ (hv j o y hj hy)

theorem Sim.agg {l m : List T} (h : Sims l m) : Sim (.agg l) (.agg m) := by
  intro w U v hv
  cases hv with
  | agg _ cs vs hl h1 hc hv =>
    refine .agg m cs vs (by rw [← h.1]; exact hl) h1 (fun i c hi => ?_) (fun i c hi => ?_)
    · obtain ⟨y, hy, _⟩ := h.get hi
      exact hc i y hy
    · obtain ⟨y, hy, hs⟩ := h.get hi
      exact hs _ _ _ (hv i y hy)

/-! ### A law's contract -/
theorem trodAll_below (hl : laidOutB P = true) {W W' : World} (hb : RowKit.Below W.heap.size W W') :
    ∀ {params : List TypeId} {args : List Value} {ds : List (DataW H)} {ps : List MemPlace}, (∀ t ∈ params, P.readableRec t = true ∧ t < P.types.size) → (∀ x ∈ ps, x.block < W.heap.size) →
      DataW.TrodAll enc P W 0 (fun _ => true) true params args ds ps → DataW.TrodAll enc P W' 0 (fun b => decide (b < W.heap.size)) true params args ds ps
  | [], _, _, _, _, _, h => by
    obtain ⟨rfl, rfl, rfl⟩ := trodAll_nil h
    exact trodAll_mk0
  | t :: params, _, _, _, hp, hlt, h => by
    obtain ⟨v, vs, d, ds', a, b, rfl, rfl, rfl, h1, h2⟩ := trodAll_cons h
    refine trodAll_cons_mk (Below.trod hl (hp t (by simp)).1 (hp t (by simp)).2 h1 hb fun x hx => hlt x (by simp [hx])) (trodAll_below hl hb (fun t ht => hp t (by simp [ht])) (fun x hx => hlt x (by simp [hx])) h2)

/-- What a law's function answers, as its row says it. -/
theorem contract_of {G : Nat → Option (List T)} (_hm : P.follows .mixedOrders = true) (_hn : namesOk P = true) (hl : laidOutB P = true) {f : FuncId} {fn : Func} {spec : ChangeSpec} (hvars : spec.vars = [])
    (hfn : ∀ ds : List (DataW H), ds.length = fn.params.size → spec.fn H ds = { results := [.lit (.bool true)], args := ds }) {tb : TypeId} (hres : fn.resultTypes = #[tb]) (htb : P.underlying tb = some .bool)
    (hps : ∀ t ∈ fn.params.toList, isVar P t = true ∧ P.readableRec t = true) {W : World} {args : Array Value} {ds gs : List (DataW H)} {before : List MemPlace}
    (hval : ∀ (j : Nat) t v, fn.params[j]? = some t → args[j]? = some v → Value.okWide P W .any base t v)
    (hW : DataW.Whole enc P fn.params.toList spec.vars false W args.toList ds gs before) (hG : GlobOk G W (fun b => b < W.heap.size))
    (hlaw : ∀ xs, ATs P fn.params.toList xs ds → ∃ ys, Sims xs ys ∧ ToldOk P G f ys (.bool true)) :
    Calls P f args W fun e W' => ∃ v, e = .returned v ∧ spec.post enc P fn false true false false W args v W' := by
  have hW' := hW
  obtain ⟨p, q, hA, hV, rfl, hfz, hnd⟩ := hW
  have hV0 : gs = [] ∧ q = [] := by
    rw [hvars] at hV
    exact trodVars_none hV
  obtain ⟨rfl, rfl⟩ := hV0
  obtain ⟨xs, h1, h2, h3⟩ := args_CT hl (fun _ => rfl) fn.params.toList args.toList ds p (fun t ht => (hps t ht).1) (fun j t v ht hv => hval j t v (by simpa using ht) (by simpa using hv)) hA
  obtain ⟨ys, hsim, hval2⟩ := hlaw xs h1
  refine (hval2.calls W _ args (fun b hb => hb) hG ⟨by rw [← hsim.1]; simpa using h2, fun i x hx => ?_⟩).mono fun e W' ⟨v, he, hrv⟩ => ⟨v, he, ?_⟩
  · obtain ⟨y, hy, hs⟩ := hsim.get hx
    obtain ⟨v, q1, q2⟩ := h3 i y hy
    exact ⟨v, by simpa using q1, hs _ _ _ q2⟩
  · obtain ⟨hbelow, U', X, _, _, _, _, hrt⟩ := hrv
    obtain rfl : v = .bool true := by
      simp only [RT2, RT1] at hrt
      cases hrt with
      | vi _ _ hv => cases hv; rfl
    have hlen : ds.length = fn.params.size := by
      have : ∀ (params : List TypeId) (xs : List T) (ds : List (DataW H)), ATs P params xs ds → ds.length = params.length := by
        intro params
        induction params with
        | nil => intro xs ds h; cases xs <;> cases ds <;> simp_all [ATs]
        | cons t l ih =>
          intro xs ds h
          cases xs with
          | nil => cases ds <;> simp [ATs] at h
          | cons x xs =>
            cases ds with
            | nil => simp [ATs] at h
            | cons d ds => simp only [List.length_cons]; rw [ih xs ds h.2]
      simpa using this _ _ _ h1
    have hspec := hfn (ds ++ []) (by simpa using hlen)
    have hlt := hW'.lt
    refine ⟨ds, [], p ++ [], [], p, [], hW', ?_, ?_, ?_, hbelow.frame _, fun h => by cases h⟩
    · rw [hspec, hres]
      exact trodAll_cons_mk (shut_bool htb true) trodAll_mk0
    · rw [hspec]
      simp only [List.append_nil]
      exact trodAll_below hl hbelow (fun t ht => ⟨(hps t ht).2, by have := (hps t ht).1; simp only [isVar, Bool.and_eq_true, decide_eq_true_eq] at this; exact this.1⟩) (fun x hx => hlt x (by simpa using hx)) hA
    · rw [hvars, hspec]
      rfl
end
end Go.Ab
