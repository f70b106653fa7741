/- Values handed over a call, and back. -/
import Derived.Test.YtkiedolofnakoaaDoorAbOps9
namespace Go.Ab

section
variable {P : Program} {R : Type} {g : Gh} {h : Heap} {w : World}

theorem plain0_vi {c : T} {v : Value} {U U' : Nat → Prop} (hp : plain0 c = true) (hv : VI w U c v) : VI w U' c v := by
  cases hv <;> first
    | exact .undef _ | exact .bool _ | exact .int _ _ | exact .str _ _ ‹_›
    | (simp [plain0] at hp; done)
theorem plain0_vr {c : T} {v : Value} {U' : Nat → Prop} (hp : plain0 c = true) (hv : g.VR h w c v) : VI w U' c v := by
  cases hv with
  | imm _ _ hv => exact plain0_vi hp hv
  | _ => simp [plain0] at hp

theorem imm0_vi {c : T} {v : Value} (hp : imm0 c = true) (hv : g.VR h w c v) : VI w g.U c v := by
  cases hv with
  | imm _ _ hv => exact hv
  | fn f caps cs vs hl hc hv =>
    have : caps = [] := by simpa [imm0] using hp
    subst this
    exact .fn f [] cs vs hl (fun i c hi => by simp at hi) (fun i c hi => by simp at hi)
  | _ => simp [imm0] at hp

theorem imm_vi {c : T} {v : Value} (hp : imm c = true) (hv : g.VR h w c v) : VI w g.U c v := by
  cases hv with
  | imm _ _ hv => exact hv
  | fn f caps cs vs hl hc hv =>
    have := List.all_eq_true.1 (show caps.all imm0 = true from hp)
    exact .fn f caps cs vs hl hc (fun i c hi => imm0_vi (this c (List.mem_of_getElem? hi)) (hv i c hi))
  | agg l cs vs hl h1 hc hv =>
    have := List.all_eq_true.1 (show l.all imm0 = true from hp)
    exact .agg l cs vs hl h1 hc (fun i c hi => imm0_vi (this c (List.mem_of_getElem? hi)) (hv i c hi))
  | tup l cs vs hl hc hv =>
    have := List.all_eq_true.1 (show l.all imm0 = true from hp)
    exact .tup l cs vs hl hc (fun i c hi => imm0_vi (this c (List.mem_of_getElem? hi)) (hv i c hi))
  | iface t x v hv => exact .iface t x v (imm0_vi (show imm0 x = true from hp) hv)
  | _ => simp [imm, imm0] at hp

/-- A set of blocks that are not written while a reader reads: what was immutable, and own blocks beside the excluded ones. -/
structure Reads (g : Gh) (h : Heap) (w : World) (ex : List Nat) (V : Nat → Prop) : Prop where
  u : ∀ b, g.U b → V b
  own : ∀ i b cb sh, h[i]? = some b → i ∉ ex → g.φ i = some (cb, sh) → V cb

theorem keepU_of {V : Nat → Prop} (hV : ∀ b, g.U b → V b) : KeepU w g.U w V := fun b hb => ⟨hV b hb, rfl⟩

/-- A list of cells, each turned. -/
theorem map_get {f : T → T} {l : List T} {o : Nat} {c : T} (hc : (l.map f)[o]? = some c) : ∃ c0, l[o]? = some c0 ∧ c = f c0 := by
  rw [List.getElem?_map] at hc
  cases hl : l[o]? with
  | none => simp [hl] at hc
  | some c0 => rw [hl] at hc; exact ⟨c0, rfl, (Option.some.inj hc).symm⟩

/-- What a reader sees of an own slice. -/
theorem view_of (hr : HR g h w) {V : Nat → Prop} {i ver off len : Nat} {cap : Option Nat} {b : Blk} {v : Value} (hb : h[i]? = some b) (hver : b.ver = ver) (hx : g.VR h w (.own i ver off len cap) v) (hle : off + len ≤ b.n)
    (hV : ∀ cb sh, g.φ i = some (cb, sh) → V cb) (gg : Nat → List T) (hl : ∀ j, j < len → (gg j).length = b.sz)
    (hg : ∀ (j o : Nat) (c : T) (u : Value), j < len → (gg j)[o]? = some c → ∀ c0 : T, (b.get (off + j))[o]? = some c0 → g.VR h w c0 u → (b.flat = true → plain0 c0 = true) → VI w V c u) :
    VI w V (.view b.sz len gg cap) v := by
  obtain ⟨cb, sh, cc, ad, e1, rfl, es, e2, e3, e4, e5, e6⟩ := own_slice hb hver hx
  obtain ⟨cb', sh', arr, e', hok⟩ := hr.blk i b hb
  rw [hok.φ] at e1
  obtain ⟨rfl, rfl⟩ := Prod.mk.inj (Option.some.inj e1)
  have key : ∀ j o c, j < len → (gg j)[o]? = some c → ∃ u, cellAt w ad.block (ad.off + j * b.sz + o) u ∧ VI w V c u := by
    intro j o c hj ho
    have had := e2 (by omega)
    subst had
    have ho' := lt_of_get ho
    rw [hl j hj] at ho'
    have hlen := hok.len (off + j) (by omega)
    have hc0 : (b.get (off + j))[o]? = some (b.get (off + j))[o] := List.getElem?_eq_getElem (by omega)
    obtain ⟨u, hu, hur⟩ := hok.cellsAt (j := off + j) (by omega) o _ hc0
    refine ⟨u, ?_, hg j o c u hj ho _ hc0 hur (fun hf => hok.flat hf _ (by omega) _ (List.mem_of_getElem? hc0))⟩
    dsimp only
    rw [Nat.add_mul] at hu
    have e : sh' + off * b.sz + j * b.sz + o = sh' + (off * b.sz + j * b.sz) + o := by omega
    rw [e]; exact hu
  let vs : Nat → Nat → Value := fun j o => (w.cell? ⟨ad.block, ad.off + j * b.sz + o, none⟩).getD Go.undef
  have hvs : ∀ j o c, j < len → (gg j)[o]? = some c → cellAt w ad.block (ad.off + j * b.sz + o) (vs j o) ∧ VI w V c (vs j o) := by
    intro j o c hj ho
    obtain ⟨u, hu, hur⟩ := key j o c hj ho
    have : vs j o = u := by simp [vs, hu.1]
    rw [this]; exact ⟨hu, hur⟩
  refine .view b.sz len gg cap ad cc vs (fun _ => es) (fun m hm => (e4 m hm).1) e3 (fun hp => ?_) hl (fun j o c hj ho => (hvs j o c hj ho).1) (fun j o c hj ho => (hvs j o c hj ho).2)
  have had := e2 (by omega)
  subst had
  exact hV _ _ hok.φ

theorem vp_of (hr : HR g h w) {V : Nat → Prop} {i ver j o : Nat} {b : Blk} {v : Value} (hb : h[i]? = some b) (hver : b.ver = ver) (hx : g.VR h w (.ptr i ver j o) v) (hj : j < b.n)
    (hV : ∀ cb sh, g.φ i = some (cb, sh) → V cb) (cells : List T)
    (hg : ∀ (n : Nat) (c : T), cells[n]? = some c → ∃ c0 : T, (b.get j)[o + n]? = some c0 ∧ ∀ u : Value, g.VR h w c0 u → (b.flat = true → plain0 c0 = true) → VI w V c u) :
    VI w V (.vp cells) v := by
  obtain ⟨b', hb', _, _, hp⟩ := hx.ptr_inv
  rw [hb] at hb'
  obtain rfl := Option.some.inj hb'
  obtain ⟨cb, sh, e1, rfl⟩ := hp hver
  obtain ⟨cb', sh', arr, e', hok⟩ := hr.blk i b hb
  rw [hok.φ] at e1
  obtain ⟨rfl, rfl⟩ := Prod.mk.inj (Option.some.inj e1)
  have key : ∀ n c, cells[n]? = some c → ∃ u, cellAt w cb' (sh' + j * b.sz + o + n) u ∧ VI w V c u := by
    intro n c hn
    obtain ⟨c0, h0, hv⟩ := hg n c hn
    obtain ⟨u, hu, hur⟩ := hok.cellsAt hj (o + n) c0 h0
    exact ⟨u, by rw [Nat.add_assoc]; exact hu, hv u hur (fun hf => hok.flat hf _ hj _ (List.mem_of_getElem? h0))⟩
  let vs : Nat → Value := fun n => (w.cell? ⟨cb', sh' + j * b.sz + o + n, none⟩).getD Go.undef
  have hvs : ∀ n c, cells[n]? = some c → cellAt w cb' (sh' + j * b.sz + o + n) (vs n) ∧ VI w V c (vs n) := by
    intro n c hn
    obtain ⟨u, hu, hur⟩ := key n c hn
    have : vs n = u := by simp [vs, hu.1]
    rw [this]; exact ⟨hu, hur⟩
  exact .vp cells _ vs rfl (fun _ => hV _ _ hok.φ) (fun n c hn => (hvs n c hn).1) (fun n c hn => (hvs n c hn).2)

theorem bif_imm0 {x : T} {v : Value} {V : Nat → Prop} (hV : ∀ b, g.U b → V b) (hx : g.VR h w x v) : VI w V (bif imm0 x then x else .undef) v := by
  cases hi : imm0 x with
  | true => exact (imm0_vi hi hx).keep (keepU_of hV)
  | false => exact .undef _

theorem resolve_vi (hr : HR g h w) {ex : List Nat} {V : Nat → Prop} (hV : Reads g h w ex V) : ∀ (d : Nat) (x : T) (v : Value), g.VR h w x v → VI w V (resolve d ex h x) v
  | 0, x, v, hx => bif_imm0 hV.u hx
  | d + 1, x, v, hx => by
    have ih := resolve_vi hr hV d
    cases x with
    | own i ver off len cap =>
      simp only [resolve]
      cases hex : ex.contains i with
      | true => exact .undef _
      | false =>
        have hni : i ∉ ex := by simpa using hex
        simp only [cond_false]
        cases hb : h[i]? with
        | none => exact .undef _
        | some b =>
          dsimp only
          cases hc : (b.ver == ver && Nat.ble (off + len) b.n) with
          | false => exact .undef _
          | true =>
            simp only [Bool.and_eq_true, beq_iff_eq] at hc
            have hle := ble_le hc.2
            obtain ⟨cb, sh, arr, e', hok⟩ := hr.blk i b hb
            refine view_of hr hb hc.1 hx hle (fun cb sh hφ => hV.own i b cb sh hb hni hφ) _ (fun j hj => ?_) (fun j o c u hj ho c0 h0 hv hpl => ?_)
            · cases b.flat with
              | true => exact hok.len _ (by omega)
              | false => simp only [cond_false, List.length_map]; exact hok.len _ (by omega)
            · cases hfl : b.flat with
              | true =>
                rw [hfl] at ho hpl
                simp only [cond_true] at ho
                rw [ho] at h0
                obtain rfl := Option.some.inj h0
                exact plain0_vr (hpl rfl) hv
              | false =>
                rw [hfl] at ho
                simp only [cond_false] at ho
                obtain ⟨c1, h1, rfl⟩ := map_get ho
                rw [h1] at h0
                obtain rfl := Option.some.inj h0
                exact ih _ _ hv
    | ptr i ver j o =>
      simp only [resolve]
      cases hex : ex.contains i with
      | true => exact .undef _
      | false =>
        have hni : i ∉ ex := by simpa using hex
        simp only [cond_false]
        cases hb : h[i]? with
        | none => exact .undef _
        | some b =>
          dsimp only
          cases hc : (b.ver == ver && Nat.blt j b.n) with
          | false => exact .undef _
          | true =>
            simp only [Bool.and_eq_true, beq_iff_eq] at hc
            have hlt := blt_lt hc.2
            refine vp_of hr hb hc.1 hx hlt (fun cb sh hφ => hV.own i b cb sh hb hni hφ) _ (fun n c hn => ?_)
            cases hfl : b.flat with
            | true =>
              rw [hfl] at hn
              simp only [cond_true, List.getElem?_drop] at hn
              exact ⟨c, hn, fun u hu hpl => plain0_vr (hpl rfl) hu⟩
            | false =>
              rw [hfl] at hn
              simp only [cond_false] at hn
              obtain ⟨c1, h1, rfl⟩ := map_get hn
              rw [List.getElem?_drop] at h1
              exact ⟨c1, h1, fun u hu _ => ih _ _ hu⟩
    | agg l =>
      obtain ⟨cs, rfl, hl, h1, hc⟩ := hx.agg_inv
      simp only [resolve]
      refine VI.mk_agg (by simpa using hl) h1 (fun i c hi => ?_)
      obtain ⟨c0, h0, rfl⟩ := map_get hi
      obtain ⟨u, hu, hr'⟩ := hc i c0 h0
      exact ⟨u, hu, ih _ _ hr'⟩
    | tup l =>
      obtain ⟨cs, rfl, hl, hc⟩ := hx.tup_inv
      simp only [resolve]
      refine VI.mk_tup (by simpa using hl) (fun i c hi => ?_)
      obtain ⟨c0, h0, rfl⟩ := map_get hi
      obtain ⟨u, hu, hr'⟩ := hc i c0 h0
      exact ⟨u, hu, ih _ _ hr'⟩
    | fn f l =>
      obtain ⟨cs, rfl, hl, hc⟩ := hx.fn_inv
      simp only [resolve]
      refine VI.mk_fn (by simpa using hl) (fun i c hi => ?_)
      obtain ⟨c0, h0, rfl⟩ := map_get hi
      obtain ⟨u, hu, hr'⟩ := hc i c0 h0
      exact ⟨u, hu, ih _ _ hr'⟩
    | iface t x =>
      simp only [resolve]
      cases hx with
      | imm _ _ hv => cases hv with | iface _ _ u hu => exact .iface _ _ _ (ih _ _ (.imm _ _ hu))
      | iface _ _ u hu => exact .iface _ _ _ (ih _ _ hu)
    | _ => exact bif_imm0 hV.u hx

/-- All that there is, as a reader's ground. -/
theorem reads_all (hr : HR g h w) : Reads g h w [] (fun b => b < w.heap.size) :=
  ⟨fun b hb => (hr.u b hb).1, fun i b cb sh hb _ hφ => by
    obtain ⟨cb', sh', arr, e', hok⟩ := hr.blk i b hb
    rw [hok.φ] at hφ
    obtain ⟨rfl, rfl⟩ := Prod.mk.inj (Option.some.inj hφ)
    exact lt_of_heap hok.heap⟩

theorem resolveArg_vi (hr : HR g h w) {x : T} {v : Value} (hx : g.VR h w x v) : VI w (fun b => b < w.heap.size) (resolveArg h x) v := by
  unfold resolveArg
  cases hi : imm x with
  | true => exact (imm_vi hi hx).keep (keepU_of (reads_all hr).u)
  | false => exact resolve_vi hr (reads_all hr) 4 x v hx

/-! ### Results -/

/-- A result: immutable, or fresh memory that nobody else names. -/
inductive RT0 (w : World) (U : Nat → Prop) : T → Value → List Nat → Prop
  | vi (x : T) (v : Value) (hv : VI w U x v) : RT0 w U x v []
  | fresh (flat : Bool) (sz n : Nat) (gg : Nat → List T) (len : Nat) (cap : Option Nat) (cb sh cc : Nat) (ad : Addr) (arr : Array Value) (e : TypeId)
      (es : ad.spot = none) (e2 : 0 < cc → ad = ⟨cb, sh, none⟩) (e3 : len ≤ cc) (e4 : ∀ m, cap = some m → cc = m ∧ m ≤ n) (e5 : len ≤ n) (hh : w.heap[cb]? = some (.cells arr e (0, 0)))
      (r1 : sh + n * sz ≤ arr.size) (r2 : sh + cc * sz ≤ arr.size) (hl : ∀ j, j < n → (gg j).length = sz)
      (hc : ∀ j o c, j < n → (gg j)[o]? = some c → ∃ u, arr[sh + j * sz + o]? = some u ∧ u.oneCell' = true ∧ VI w U c u) (hf : flat = true → ∀ j, j < n → ∀ c, c ∈ gg j → plain0 c = true) :
      RT0 w U (.fresh flat sz n gg len cap) (.slice (some ad) len cc) [cb]

inductive RTL (Q : T → Value → List Nat → Prop) : List T → List Value → List Nat → Prop
  | nil : RTL Q [] [] []
  | cons (x : T) (v : Value) (X : List Nat) (l : List T) (vs : List Value) (Y : List Nat) (hx : Q x v X) (hl : RTL Q l vs Y) : RTL Q (x :: l) (v :: vs) (X ++ Y)

def RT1 (w : World) (U : Nat → Prop) (x : T) (v : Value) (X : List Nat) : Prop :=
  match x with
  | .agg l => ∃ cs : Array Value, v = .agg cs ∧ (∀ (i : Nat) (u : Value), cs[i]? = some u → u.oneCell' = true) ∧ RTL (RT0 w U) l cs.toList X
  | x => RT0 w U x v X
def RT2 (w : World) (U : Nat → Prop) (x : T) (v : Value) (X : List Nat) : Prop :=
  match x with
  | .tup l => ∃ cs : Array Value, v = .tuple cs ∧ RTL (RT1 w U) l cs.toList X
  | x => RT1 w U x v X

/-- What a by-value call hands back. -/
def RV (w : World) (U : Nat → Prop) (r : T) (v : Value) (w' : World) : Prop :=
  RowKit.Below w.heap.size w w' ∧ ∃ (U' : Nat → Prop) (X : List Nat), (∀ b, U b → U' b) ∧ (∀ b, U' b → (U b ∨ w.heap.size ≤ b) ∧ b < w'.heap.size) ∧ X.Nodup ∧
    (∀ b, b ∈ X → w.heap.size ≤ b ∧ b < w'.heap.size ∧ ¬ U' b) ∧ RT2 w' U' r v X

/-- A block that nobody owns becomes an own one. -/
theorem HR.adopt (hr : HR g h w) {cb sh : Nat} {arr : Array Value} {e : TypeId} {b' : Blk} (hcb : w.heap[cb]? = some (.cells arr e (0, 0))) (hown : g.own cb = none) (hU : ¬ g.U cb) (hbase : g.base ≤ cb)
    (hroom : sh + b'.n * b'.sz ≤ arr.size) (hlen : ∀ j, j < b'.n → (b'.get j).length = b'.sz)
    (hcell : ∀ j o c, j < b'.n → (b'.get j)[o]? = some c → ∃ v, arr[sh + j * b'.sz + o]? = some v ∧ v.oneCell' = true ∧ g.VR h w c v)
    (hflat : b'.flat = true → ∀ j, j < b'.n → ∀ c, c ∈ b'.get j → plain0 c = true) :
    ∃ g', g'.φ h.length = some (cb, sh) ∧ g'.U = g.U ∧ g'.base = g.base ∧ (∀ k, g'.own k = if k = cb then some (.inl h.length) else g.own k) ∧ HR g' (h ++ [b']) w ∧ Keep g h w g' (h ++ [b']) w := by
  have hcbl : cb < w.heap.size := lt_of_heap hcb
  let g' : Gh := { g with φ := fun k => if k = h.length then some (cb, sh) else g.φ k, own := fun k => if k = cb then some (.inl h.length) else g.own k }
  have hkeep : Keep g h w g' (h ++ [b']) w := by
    refine ⟨fun k hk => ⟨hk, rfl⟩, fun k x hx => ?_, fun k n hkn => hkn⟩
    have hk := lt_of_get hx
    exact ⟨x, by rw [List.getElem?_append_left hk]; exact hx, Nat.le_refl _, fun _ => ⟨rfl, Nat.le_refl _, by simp [g', Nat.ne_of_lt hk]⟩⟩
  refine ⟨g', by simp [g'], rfl, rfl, fun k => rfl, ?_, hkeep⟩
  refine ⟨fun k x hx => ?_, fun k hk => ?_, fun k o ho => ?_, hr.base⟩
  · rcases Nat.lt_or_ge k h.length with hk | hk
    · rw [List.getElem?_append_left hk] at hx
      obtain ⟨cb2, sh2, arr2, e2, hok⟩ := hr.blk k x hx
      have hne : cb2 ≠ cb := by rintro rfl; rw [hok.own] at hown; cases hown
      refine ⟨cb2, sh2, arr2, e2, by simp [g', Nat.ne_of_lt hk, hok.φ], by simp [g', hne, hok.own], hok.heap, hok.room, hok.len, fun j o c hj hc => ?_, hok.flat⟩
      obtain ⟨v, h1, h2, h3⟩ := hok.cell j o c hj hc
      exact ⟨v, h1, h2, h3.keep hkeep⟩
    · have hk' : k = h.length := by
        have := lt_of_get hx
        simp at this
        omega
      subst hk'
      simp only [List.getElem?_append_right (Nat.le_refl _), Nat.sub_self, List.getElem?_cons_zero, Option.some.injEq] at hx
      subst hx
      refine ⟨cb, sh, arr, e, by simp [g'], by simp [g'], hcb, hroom, hlen, fun j o c hj hc => ?_, hflat⟩
      obtain ⟨v, h1, h2, h3⟩ := hcell j o c hj hc
      exact ⟨v, h1, h2, h3.keep hkeep⟩
  · obtain ⟨h1, h2⟩ := hr.u k hk
    have hne : k ≠ cb := by rintro rfl; exact hU hk
    exact ⟨h1, by simp [g', hne, h2]⟩
  · by_cases hk : k = cb
    · subst hk; exact ⟨hbase, hcbl⟩
    · simp only [g', hk, if_false] at ho
      exact hr.own k o ho
end
end Go.Ab
