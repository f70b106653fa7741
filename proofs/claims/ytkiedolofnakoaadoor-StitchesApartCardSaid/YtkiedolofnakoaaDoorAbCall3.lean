/- Results are given. -/
import Derived.Test.YtkiedolofnakoaaDoorAbCall2
namespace Go.Ab
section
variable {P : Program} {R : Type} {g : Gh} {h : Heap} {w : World}

theorem nodupB_nodup : ∀ {l : List Nat}, nodupB l = true → l.Nodup
  | [], _ => List.nodup_nil
  | a :: l, hn => by
    simp only [nodupB, Bool.and_eq_true, Bool.not_eq_true'] at hn
    exact List.nodup_cons.2 ⟨by simpa using hn.1, nodupB_nodup hn.2⟩

/-- The memory behind an own block's number. -/
def placeOf' (g : Gh) (i : Nat) : Option Nat := (g.φ i).map (·.1)

/-- What a reader of the result may read. -/
def Given (g : Gh) (w : World) (B : Nat) (all : List Nat) (b : Nat) : Prop := g.U b ∨ (B ≤ b ∧ b < w.heap.size ∧ b ∉ all.filterMap (placeOf' g))

theorem given_reads (hr : HR g h w) (B : Nat) (hB : B ≤ g.base) (all : List Nat) (hall : ∀ j, j ∈ all → ∃ b, h[j]? = some b) : Reads g h w all (Given g w B all) := by
  refine ⟨fun b hb => .inl hb, fun i b cb sh hb hni hφ => .inr ?_⟩
  obtain ⟨cb', sh', arr, e, hok⟩ := hr.blk i b hb
  rw [hok.φ] at hφ
  obtain ⟨rfl, rfl⟩ := Prod.mk.inj (Option.some.inj hφ)
  have := hr.own _ _ hok.own
  refine ⟨by omega, this.2, fun hm => ?_⟩
  obtain ⟨j, hj, hjp⟩ := List.mem_filterMap.1 hm
  obtain ⟨bj, hbj⟩ := hall j hj
  obtain ⟨cbj, shj, arrj, ej, hokj⟩ := hr.blk j bj hbj
  simp only [placeOf', hokj.φ, Option.map_some, Option.some.injEq] at hjp
  subst hjp
  have := hokj.own
  rw [hok.own] at this
  have : i = j := by simpa using this
  subst this
  exact hni hj

theorem give0_sound (hr : HR g h w) {B : Nat} (hB : B ≤ g.base) {all : List Nat} (hall : ∀ j, j ∈ all → ∃ b, h[j]? = some b) {ok : Bool} {x : T} {v : Value} (hx : g.VR h w x v) :
    ∃ X, RT0 w (Given g w B all) (give0 ok all h x) v X ∧ X.Sublist ((tops0 x).filterMap (placeOf' g)) ∧ (ok = false → X = []) := by
  have hreads := given_reads hr B hB all hall
  have other : (∀ i ver off len cap, x ≠ .own i ver off len cap) → ∃ X, RT0 w (Given g w B all) (give0 ok all h x) v X ∧ X.Sublist ((tops0 x).filterMap (placeOf' g)) ∧ (ok = false → X = []) := by
    intro hno
    have e : give0 ok all h x = bif imm x then x else resolve 4 all h x := by
      cases x <;> first | rfl | exact absurd rfl (hno _ _ _ _ _)
    rw [e]
    refine ⟨[], .vi _ _ ?_, List.nil_sublist _, fun _ => rfl⟩
    cases hi : imm x with
    | true => exact (imm_vi hi hx).keep (keepU_of hreads.u)
    | false => exact resolve_vi hr hreads 4 x v hx
  cases x with
  | own i ver off len cap =>
    simp only [give0]
    cases ok with
    | false => exact ⟨[], .vi _ _ (.undef _), List.nil_sublist _, fun _ => rfl⟩
    | true =>
      simp only [cond_true]
      cases hb : h[i]? with
      | none => exact ⟨[], .vi _ _ (.undef _), List.nil_sublist _, fun _ => rfl⟩
      | some b =>
        dsimp only
        cases hc : (b.ver == ver && Nat.ble (off + len) b.n) with
        | false => exact ⟨[], .vi _ _ (.undef _), List.nil_sublist _, fun _ => rfl⟩
        | true =>
          simp only [Bool.and_eq_true, beq_iff_eq] at hc
          have hle := ble_le hc.2
          obtain ⟨cb, sh, cc, ad, e1, rfl, es, e2, e3, e4, e5, e6⟩ := own_slice hb hc.1 hx
          obtain ⟨cb', sh', arr, e', hok⟩ := hr.blk i b hb
          rw [hok.φ] at e1
          obtain ⟨rfl, rfl⟩ := Prod.mk.inj (Option.some.inj e1)
          have hroom := room_is hok.heap e6
          simp only [cond_true]
          refine ⟨[cb'], .fresh _ _ _ _ _ _ cb' (sh' + off * b.sz) cc ad arr e' es e2 e3 (fun m hm => ⟨(e4 m hm).1, by have := (e4 m hm).2; omega⟩) (by omega) hok.heap ?_ ?_ ?_ ?_ ?_, ?_, fun hh => by cases hh⟩
          · have h1 := hok.room
            have h2 : (b.n - off) * b.sz = b.n * b.sz - off * b.sz := Nat.sub_mul _ _ _
            have h3 : off * b.sz ≤ b.n * b.sz := Nat.mul_le_mul_right _ (by omega)
            omega
          · rw [Nat.add_mul] at hroom; omega
          · intro j hj
            cases b.flat with
            | true => exact hok.len _ (by omega)
            | false => simp only [cond_false, List.length_map]; exact hok.len _ (by omega)
          · intro j o c hj ho
            cases hfl : b.flat with
            | true =>
              rw [hfl] at ho
              simp only [cond_true] at ho
              obtain ⟨u, u1, u2, u3⟩ := hok.cell (off + j) o c (by omega) ho
              rw [Nat.add_mul, ← Nat.add_assoc] at u1
              exact ⟨u, u1, u2, plain0_vr (hok.flat hfl _ (by omega) _ (List.mem_of_getElem? ho)) u3⟩
            | false =>
              rw [hfl] at ho
              simp only [cond_false] at ho
              obtain ⟨c0, h0, rfl⟩ := map_get ho
              obtain ⟨u, u1, u2, u3⟩ := hok.cell (off + j) o c0 (by omega) h0
              rw [Nat.add_mul, ← Nat.add_assoc] at u1
              exact ⟨u, u1, u2, resolve_vi hr hreads 3 _ _ u3⟩
          · intro hf j hj c hcm
            rw [hf] at hcm
            simp only [cond_true] at hcm
            exact hok.flat hf _ (by omega) c hcm
          · simp [tops0, placeOf', hok.φ]
  | _ => exact other (fun _ _ _ _ _ hh => by cases hh)

theorem RTL.map {Q : T → Value → List Nat → Prop} {ok : Bool} {f : T → T} {pl : T → List Nat} : ∀ {l : List T} {vs : List Value}, l.length = vs.length →
    (∀ (i : Nat) (x : T), l[i]? = some x → ∃ v, vs[i]? = some v ∧ ∃ X, (Q (f x) v X ∧ (ok = false → X = [])) ∧ X.Sublist (pl x)) → ∃ X, RTL Q (l.map f) vs X ∧ X.Sublist (l.flatMap pl) ∧ (ok = false → X = [])
  | [], [], _, _ => ⟨[], .nil, by simp, fun _ => rfl⟩
  | x :: l, v :: vs, hl, hx => by
    obtain ⟨v', hv', X, ⟨hX, h0⟩, hs⟩ := hx 0 x rfl
    obtain rfl : v = v' := by simpa using hv'
    obtain ⟨Y, hY, hs2, h1⟩ := RTL.map (Q := Q) (ok := ok) (f := f) (pl := pl) (l := l) (vs := vs) (by simpa using hl) (fun i x hi => hx (i + 1) x hi)
    exact ⟨X ++ Y, .cons _ _ _ _ _ _ hX hY, by simpa using List.Sublist.append hs hs2, fun hh => by rw [h0 hh, h1 hh]; rfl⟩
  | [], _ :: _, hl, _ => by simp at hl
  | _ :: _, [], hl, _ => by simp at hl

theorem flatMap_filterMap {α β γ : Type} (l : List α) (f : α → List β) (p : β → Option γ) : (l.flatMap fun x => (f x).filterMap p) = (l.flatMap f).filterMap p := by
  induction l with
  | nil => rfl
  | cons x l ih => simp [List.filterMap_append, ih]

theorem rtl_vi {U : Nat → Prop} {Q : T → Value → List Nat → Prop} (hQ : ∀ c u, VI w U c u → Q c u []) : ∀ (l : List T) (us : List Value), l.length = us.length → (∀ (i : Nat) (c : T), l[i]? = some c → ∃ u, us[i]? = some u ∧ VI w U c u) → RTL Q l us []
  | [], [], _, _ => .nil
  | c :: l, u :: us, hus, hc => by
    obtain ⟨u', hu', hur⟩ := hc 0 c rfl
    obtain rfl : u = u' := by simpa using hu'
    exact .cons _ _ [] _ _ [] (hQ _ _ hur) (rtl_vi hQ l us (by simpa using hus) (fun i c hi => hc (i + 1) c hi))
  | [], _ :: _, hl, _ => by simp at hl
  | _ :: _, [], hl, _ => by simp at hl

theorem RT0.to1 {U : Nat → Prop} {y : T} {v : Value} {X : List Nat} (hy : RT0 w U y v X) : RT1 w U y v X := by
  cases y with
  | agg l =>
    cases hy with | vi _ _ hv =>
    cases hv with | agg _ cs vs hl h1 hc hv =>
    exact ⟨cs, rfl, h1, rtl_vi (fun c u hu => .vi c u hu) l cs.toList (by simpa using hl) (fun i c hi => ⟨vs i, by simpa using hc i c hi, hv i c hi⟩)⟩
  | _ => exact hy

theorem RT1.to2 {U : Nat → Prop} {y : T} {v : Value} {X : List Nat} (hy : RT1 w U y v X) : RT2 w U y v X := by
  cases y with
  | tup l =>
    cases (show RT0 w U (.tup l) v X from hy) with | vi _ _ hv =>
    cases hv with | tup _ cs vs hl hc hv =>
    exact ⟨cs, rfl, rtl_vi (fun c u hu => (RT0.vi c u hu).to1) l cs.toList (by simpa using hl) (fun i c hi => ⟨vs i, by simpa using hc i c hi, hv i c hi⟩)⟩
  | _ => exact hy

theorem give1_sound (hr : HR g h w) {B : Nat} (hB : B ≤ g.base) {all : List Nat} (hall : ∀ j, j ∈ all → ∃ b, h[j]? = some b) {ok : Bool} {x : T} {v : Value} (hx : g.VR h w x v) :
    ∃ X, RT1 w (Given g w B all) (give1 ok all h x) v X ∧ X.Sublist ((tops1 x).filterMap (placeOf' g)) ∧ (ok = false → X = []) := by
  cases x with
  | agg l =>
    obtain ⟨cs, rfl, hl, h1, hc⟩ := hx.agg_inv
    have each : ∀ (i : Nat) (x : T), l[i]? = some x → ∃ v, cs.toList[i]? = some v ∧ ∃ X, (RT0 w (Given g w B all) (give0 ok all h x) v X ∧ (ok = false → X = [])) ∧ X.Sublist ((tops0 x).filterMap (placeOf' g)) := by
      intro i x hi
      obtain ⟨u, hu, hur⟩ := hc i x hi
      obtain ⟨X, q1, q2, q3⟩ := give0_sound hr hB hall (ok := ok) hur
      exact ⟨u, by simpa using hu, X, ⟨q1, q3⟩, q2⟩
    obtain ⟨X, hX, hs, h0⟩ := RTL.map (Q := RT0 w (Given g w B all)) (ok := ok) (f := give0 ok all h) (pl := fun x => (tops0 x).filterMap (placeOf' g)) (l := l) (vs := cs.toList) (by simpa using hl) each
    exact ⟨X, ⟨cs, rfl, h1, hX⟩, by rw [flatMap_filterMap] at hs; exact hs, h0⟩
  | _ =>
    obtain ⟨X, q1, q2, q3⟩ := give0_sound hr hB hall (ok := ok) hx
    exact ⟨X, q1.to1, q2, q3⟩

theorem tops0_blk {x : T} {v : Value} (hx : g.VR h w x v) : ∀ j, j ∈ tops0 x → ∃ b, h[j]? = some b := by
  intro j hj
  cases x with
  | own i ver off len cap =>
    obtain rfl : j = i := by simpa [tops0] using hj
    obtain ⟨b, hb, _⟩ := hx.own_inv
    exact ⟨b, hb⟩
  | _ => simp [tops0] at hj
theorem tops1_blk {x : T} {v : Value} (hx : g.VR h w x v) : ∀ j, j ∈ tops1 x → ∃ b, h[j]? = some b := by
  intro j hj
  cases x with
  | agg l =>
    obtain ⟨x, hxm, hxj⟩ := List.mem_flatMap.1 (show j ∈ l.flatMap tops0 from hj)
    obtain ⟨i, hi⟩ := List.mem_iff_getElem?.1 hxm
    obtain ⟨cs, rfl, hl, h1, hc⟩ := hx.agg_inv
    obtain ⟨u, hu, hur⟩ := hc i x hi
    exact tops0_blk hur j hxj
  | _ => exact tops0_blk hx j hj
theorem tops_blk {x : T} {v : Value} (hx : g.VR h w x v) : ∀ j, j ∈ tops x → ∃ b, h[j]? = some b := by
  intro j hj
  cases x with
  | tup l =>
    obtain ⟨x, hxm, hxj⟩ := List.mem_flatMap.1 (show j ∈ l.flatMap tops1 from hj)
    obtain ⟨i, hi⟩ := List.mem_iff_getElem?.1 hxm
    obtain ⟨cs, rfl, hl, hc⟩ := hx.tup_inv
    obtain ⟨u, hu, hur⟩ := hc i x hi
    exact tops1_blk hur j hxj
  | _ => exact tops1_blk hx j hj

theorem nodup_filterMap (p : Nat → Option Nat) : ∀ {l : List Nat}, l.Nodup → (∀ i, i ∈ l → ∀ j, j ∈ l → ∀ b, p i = some b → p j = some b → i = j) → (l.filterMap p).Nodup
  | [], _, _ => List.nodup_nil
  | a :: l, hn, hinj => by
    have hn := List.nodup_cons.1 hn
    have ih := nodup_filterMap p hn.2 (fun i hi j hj => hinj i (by simp [hi]) j (by simp [hj]))
    rw [List.filterMap_cons]
    cases ha : p a with
    | none => exact ih
    | some b =>
      refine List.nodup_cons.2 ⟨fun hm => ?_, ih⟩
      obtain ⟨j, hj, hjb⟩ := List.mem_filterMap.1 hm
      have := hinj a (by simp) j (by simp [hj]) b ha hjb
      subst this
      exact hn.1 hj

theorem give_sound (hr : HR g h w) {B : Nat} (hB : B ≤ g.base) {x : T} {v : Value} (hx : g.VR h w x v) :
    ∃ X, RT2 w (Given g w B (tops x)) (give h x) v X ∧ X.Nodup ∧ ∀ b, b ∈ X → B ≤ b ∧ b < w.heap.size ∧ ¬ Given g w B (tops x) b := by
  have hall := tops_blk hx
  have gen : (∀ l, x ≠ .tup l) → ∃ X, RT2 w (Given g w B (tops x)) (give h x) v X ∧ X.Sublist ((tops x).filterMap (placeOf' g)) ∧ (nodupB (tops x) = false → X = []) := by
    intro hno
    have e1 : give h x = give1 (nodupB (tops x)) (tops x) h x := by cases x <;> first | rfl | exact absurd rfl (hno _)
    have e2 : tops1 x = tops x := by cases x <;> first | rfl | exact absurd rfl (hno _)
    obtain ⟨X, q1, q2, q3⟩ := give1_sound hr hB hall (ok := nodupB (tops x)) hx
    rw [e1]
    exact ⟨X, q1.to2, by rw [← e2]; exact q2, q3⟩
  have main : ∃ X, RT2 w (Given g w B (tops x)) (give h x) v X ∧ X.Sublist ((tops x).filterMap (placeOf' g)) ∧ (nodupB (tops x) = false → X = []) := by
    cases x with
    | tup l =>
      obtain ⟨cs, rfl, hl, hc⟩ := hx.tup_inv
      have each : ∀ (i : Nat) (y : T), l[i]? = some y → ∃ v, cs.toList[i]? = some v ∧ ∃ X, (RT1 w (Given g w B (tops (.tup l))) (give1 (nodupB (tops (.tup l))) (tops (.tup l)) h y) v X ∧ (nodupB (tops (.tup l)) = false → X = [])) ∧ X.Sublist ((tops1 y).filterMap (placeOf' g)) := by
        intro i y hi
        obtain ⟨u, hu, hur⟩ := hc i y hi
        obtain ⟨X, q1, q2, q3⟩ := give1_sound hr hB hall (ok := nodupB (tops (.tup l))) hur
        exact ⟨u, by simpa using hu, X, ⟨q1, q3⟩, q2⟩
      obtain ⟨X, hX, hs, h0⟩ := RTL.map (Q := RT1 w (Given g w B (tops (.tup l)))) (ok := nodupB (tops (.tup l))) (f := give1 (nodupB (tops (.tup l))) (tops (.tup l)) h) (pl := fun x => (tops1 x).filterMap (placeOf' g)) (l := l) (vs := cs.toList) (by simpa using hl) each
      exact ⟨X, ⟨cs, rfl, hX⟩, by rw [flatMap_filterMap] at hs; exact hs, h0⟩
    | _ => exact gen (fun l hh => by cases hh)
  obtain ⟨X, hX, hs, h0⟩ := main
  refine ⟨X, hX, ?_, fun b hb => ?_⟩
  · cases hn : nodupB (tops x) with
    | false => rw [h0 hn]; exact List.nodup_nil
    | true =>
      refine hs.nodup (nodup_filterMap _ (nodupB_nodup hn) fun i hi j hj b hbi hbj => ?_)
      obtain ⟨x1, hx1⟩ := hall i hi
      obtain ⟨x2, hx2⟩ := hall j hj
      obtain ⟨cb, sh, arr, e, hok⟩ := hr.blk i x1 hx1
      obtain ⟨cb', sh', arr', e', hok'⟩ := hr.blk j x2 hx2
      simp only [placeOf', hok.φ, hok'.φ, Option.map_some, Option.some.injEq] at hbi hbj
      have := hok.own
      rw [hbi, ← hbj, hok'.own] at this
      simpa using this.symm
  · have hm := hs.subset hb
    obtain ⟨j, hj, hjp⟩ := List.mem_filterMap.1 hm
    obtain ⟨bj, hbj⟩ := hall j hj
    obtain ⟨cb, sh, arr, e, hok⟩ := hr.blk j bj hbj
    simp only [placeOf', hok.φ, Option.map_some, Option.some.injEq] at hjp
    subst hjp
    have ho := hr.own _ _ hok.own
    refine ⟨by omega, ho.2, fun hg => ?_⟩
    rcases hg with hg | ⟨_, _, hg⟩
    · have := (hr.u _ hg).2
      rw [hok.own] at this
      cases this
    · exact hg hm

theorem take0_noFresh {safe : Bool} {x : T} (hx : noFresh0 x = true) : (take0 safe h x).2 = h := by
  cases x <;> first | rfl | (simp [noFresh0] at hx; done)
theorem takeL_noFresh {safe : Bool} : ∀ {l : List T} {h : Heap}, l.all noFresh0 = true → (takeL safe h l).2 = h
  | [], _, _ => rfl
  | x :: l, h, hl => by
    simp only [List.all_cons, Bool.and_eq_true] at hl
    have h1 := take0_noFresh (h := h) (safe := safe) hl.1
    simp only [takeL]
    rw [h1]
    exact takeL_noFresh hl.2
theorem take1_noFresh {safe : Bool} {x : T} {h : Heap} (hx : noFresh1 x = true) : (take1 safe h x).2 = h := by
  cases x with
  | agg l => exact takeL_noFresh (show l.all noFresh0 = true from hx)
  | _ => exact take0_noFresh hx
theorem takeLL_noFresh {safe : Bool} : ∀ {l : List T} {h : Heap}, l.all noFresh1 = true → (takeLL safe h l).2 = h
  | [], _, _ => rfl
  | x :: l, h, hl => by
    simp only [List.all_cons, Bool.and_eq_true] at hl
    have h1 := take1_noFresh (h := h) (safe := safe) hl.1
    simp only [takeLL]
    rw [h1]
    exact takeLL_noFresh hl.2
theorem taken_noFresh {safe : Bool} {x : T} {h : Heap} (hx : noFresh x = true) : (taken safe h x).2 = h := by
  cases x with
  | tup l => exact takeLL_noFresh (show l.all noFresh1 = true from hx)
  | _ => exact take1_noFresh hx
end
end Go.Ab
