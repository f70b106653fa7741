/- The relation between abstract and concrete values, and that it is kept. -/
import Derived.WalkKit
import Derived.Test.YtkiedolofnakoaaDoorAbDef
namespace Go.Ab

/-- A cell of a block, by number. -/
def cellAt (w : World) (b n : Nat) (v : Value) : Prop := w.cell? ⟨b, n, none⟩ = some v ∧ v.oneCell' = true

/-- Immutable values. -/
inductive VI (w : World) (U : Nat → Prop) : T → Value → Prop
  | undef (v : Value) : VI w U .undef v
  | gone (v : Value) (h : ∀ b, v ≠ .bool b) : VI w U .gone v
  | bool (b : Bool) : VI w U (.bool b) (.bool b)
  | int (k : IntKind) (n : Int) : VI w U (.int k n) (.int k n)
  | str (s : List UInt8) (b : ByteArray) (h : b.data.toList = s) : VI w U (.str s) (.string b)
  | nilp : VI w U .nilp (.pointer none)
  | vp (cells : List T) (a : Addr) (vs : Nat → Value) (hs : a.spot = none) (hU : 0 < cells.length → U a.block)
      (hc : ∀ o c, cells[o]? = some c → cellAt w a.block (a.off + o) (vs o)) (hv : ∀ o c, cells[o]? = some c → VI w U c (vs o)) : VI w U (.vp cells) (.pointer (some a))
  | nils : VI w U .nils (.slice none 0 0)
  | view (sz n : Nat) (g : Nat → List T) (cap : Option Nat) (a : Addr) (c : Nat) (vs : Nat → Nat → Value) (hs : 0 < c → a.spot = none) (hcap : ∀ m, cap = some m → c = m) (hn : n ≤ c)
      (hU : 0 < n → U a.block) (hl : ∀ j, j < n → (g j).length = sz)
      (hc : ∀ j o c, j < n → (g j)[o]? = some c → cellAt w a.block (a.off + j * sz + o) (vs j o)) (hv : ∀ j o c, j < n → (g j)[o]? = some c → VI w U c (vs j o)) :
      VI w U (.view sz n g cap) (.slice (some a) n c)
  | nilf : VI w U .nilf .nilFunc
  | fn (f : FuncId) (caps : List T) (cs : Array Value) (vs : Nat → Value) (hl : caps.length = cs.size)
      (hc : ∀ (i : Nat) (c : T), caps[i]? = some c → cs[i]? = some (vs i)) (hv : ∀ (i : Nat) (c : T), caps[i]? = some c → VI w U c (vs i)) : VI w U (.fn f caps) (.func (.func f) #[] cs)
  | agg (l : List T) (cs : Array Value) (vs : Nat → Value) (hl : l.length = cs.size) (h1 : ∀ (i : Nat) (v : Value), cs[i]? = some v → v.oneCell' = true)
      (hc : ∀ (i : Nat) (c : T), l[i]? = some c → cs[i]? = some (vs i)) (hv : ∀ (i : Nat) (c : T), l[i]? = some c → VI w U c (vs i)) : VI w U (.agg l) (.agg cs)
  | tup (l : List T) (cs : Array Value) (vs : Nat → Value) (hl : l.length = cs.size)
      (hc : ∀ (i : Nat) (c : T), l[i]? = some c → cs[i]? = some (vs i)) (hv : ∀ (i : Nat) (c : T), l[i]? = some c → VI w U c (vs i)) : VI w U (.tup l) (.tuple cs)
  | nili : VI w U .nili .nilIface
  | iface (t : TypeId) (x : T) (v : Value) (h : VI w U x v) : VI w U (.iface t x) (.iface t v)
  | nilm : VI w U .nilm (.map none)

/-- A block of cells with room for n of them. -/
def room (w : World) (b n : Nat) : Prop := ∃ arr e, w.heap[b]? = some (.cells arr e (0, 0)) ∧ n ≤ arr.size

/-- What is behind an own slice's name. -/
def OwnOk (w : World) (φ : Nat → Option (Nat × Nat)) (b : Blk) (i off len : Nat) (cap : Option Nat) (v : Value) : Prop :=
  ∃ cb sh c ad, φ i = some (cb, sh) ∧ v = .slice (some ad) len c ∧ ad.spot = none ∧ (0 < c → ad = ⟨cb, sh + off * b.sz, none⟩) ∧ len ≤ c ∧ (∀ m, cap = some m → c = m ∧ off + m ≤ b.n) ∧ off + len ≤ b.n ∧ room w cb (sh + (off + c) * b.sz)
def PtrOk (φ : Nat → Option (Nat × Nat)) (b : Blk) (i j o : Nat) (v : Value) : Prop :=
  ∃ cb sh, φ i = some (cb, sh) ∧ v = .pointer (some ⟨cb, sh + j * b.sz + o, none⟩)

inductive VR (w : World) (U : Nat → Prop) (φ : Nat → Option (Nat × Nat)) (h : Heap) : T → Value → Prop
  | imm (x : T) (v : Value) (hv : VI w U x v) : VR w U φ h x v
  | own (i ver off len : Nat) (cap : Option Nat) (b : Blk) (v : Value) (hb : h[i]? = some b) (hver : ver ≤ b.ver) (h1 : v.oneCell' = true) (hok : b.ver = ver → OwnOk w φ b i off len cap v) : VR w U φ h (.own i ver off len cap) v
  | ptr (i ver j o : Nat) (b : Blk) (v : Value) (hb : h[i]? = some b) (hver : ver ≤ b.ver) (h1 : v.oneCell' = true) (hok : b.ver = ver → PtrOk φ b i j o v) : VR w U φ h (.ptr i ver j o) v
  | fn (f : FuncId) (caps : List T) (cs : Array Value) (vs : Nat → Value) (hl : caps.length = cs.size)
      (hc : ∀ (i : Nat) (c : T), caps[i]? = some c → cs[i]? = some (vs i)) (hv : ∀ (i : Nat) (c : T), caps[i]? = some c → VR w U φ h c (vs i)) : VR w U φ h (.fn f caps) (.func (.func f) #[] cs)
  | agg (l : List T) (cs : Array Value) (vs : Nat → Value) (hl : l.length = cs.size) (h1 : ∀ (i : Nat) (v : Value), cs[i]? = some v → v.oneCell' = true)
      (hc : ∀ (i : Nat) (c : T), l[i]? = some c → cs[i]? = some (vs i)) (hv : ∀ (i : Nat) (c : T), l[i]? = some c → VR w U φ h c (vs i)) : VR w U φ h (.agg l) (.agg cs)
  | tup (l : List T) (cs : Array Value) (vs : Nat → Value) (hl : l.length = cs.size)
      (hc : ∀ (i : Nat) (c : T), l[i]? = some c → cs[i]? = some (vs i)) (hv : ∀ (i : Nat) (c : T), l[i]? = some c → VR w U φ h c (vs i)) : VR w U φ h (.tup l) (.tuple cs)
  | iface (t : TypeId) (x : T) (v : Value) (hv : VR w U φ h x v) : VR w U φ h (.iface t x) (.iface t v)

/-- What is immutable stays. -/
def KeepU (w : World) (U : Nat → Prop) (w' : World) (U' : Nat → Prop) : Prop := ∀ b, U b → U' b ∧ w'.heap[b]? = w.heap[b]?

theorem cellAt.of_block {w w' : World} {b n : Nat} {v : Value} (h : cellAt w b n v) (e : w'.heap[b]? = w.heap[b]?) : cellAt w' b n v :=
  ⟨by rw [← h.1]; exact World.cell?_of_block e, h.2⟩

theorem VI.keep {w w' : World} {U U' : Nat → Prop} (k : KeepU w U w' U') {x : T} {v : Value} (h : VI w U x v) : VI w' U' x v := by
  induction h with
  | undef v => exact .undef v
  | gone v h => exact .gone v h
  | bool b => exact .bool b
  | int k n => exact .int k n
  | str s b h => exact .str s b h
  | nilp => exact .nilp
  | vp cells a vs hs hU hc hv ih =>
    refine .vp cells a vs hs (fun h => (k _ (hU h)).1) (fun o c ho => ?_) ih
    have hpos : 0 < cells.length := by
      rcases Nat.lt_or_ge o cells.length with h | h
      · omega
      · simp [List.getElem?_eq_none h] at ho
    exact (hc o c ho).of_block (k _ (hU hpos)).2
  | nils => exact .nils
  | view sz n g cap a c vs hs hcap hn hU hl hc hv ih =>
    exact .view sz n g cap a c vs hs hcap hn (fun h => (k _ (hU h)).1) hl (fun j o x hj ho => (hc j o x hj ho).of_block (k _ (hU (by omega))).2) ih
  | nilf => exact .nilf
  | fn f caps cs vs hl hc hv ih => exact .fn f caps cs vs hl hc ih
  | agg l cs vs hl h1 hc hv ih => exact .agg l cs vs hl h1 hc ih
  | tup l cs vs hl hc hv ih => exact .tup l cs vs hl hc ih
  | nili => exact .nili
  | iface t x v h ih => exact .iface t x v ih
  | nilm => exact .nilm

/-- The own blocks go on: none goes, none gets younger, what keeps its number of changes keeps its place. -/
structure KeepR (w : World) (U : Nat → Prop) (φ : Nat → Option (Nat × Nat)) (h : Heap) (w' : World) (U' : Nat → Prop) (φ' : Nat → Option (Nat × Nat)) (h' : Heap) : Prop where
  u : KeepU w U w' U'
  blk : ∀ i b, h[i]? = some b → ∃ b', h'[i]? = some b' ∧ b.ver ≤ b'.ver ∧ (b'.ver = b.ver → b'.sz = b.sz ∧ b.n ≤ b'.n ∧ φ' i = φ i)
  rm : ∀ b n, room w b n → room w' b n

theorem KeepU.refl (w : World) (U : Nat → Prop) : KeepU w U w U := fun _ h => ⟨h, rfl⟩
theorem KeepU.trans {w w1 w2 : World} {U U1 U2 : Nat → Prop} (a : KeepU w U w1 U1) (b : KeepU w1 U1 w2 U2) : KeepU w U w2 U2 :=
  fun x h => ⟨(b x (a x h).1).1, (b x (a x h).1).2.trans (a x h).2⟩

theorem KeepR.refl (w : World) (U : Nat → Prop) (φ : Nat → Option (Nat × Nat)) (h : Heap) : KeepR w U φ h w U φ h :=
  ⟨.refl w U, fun _ b hb => ⟨b, hb, Nat.le_refl _, fun _ => ⟨rfl, Nat.le_refl _, rfl⟩⟩, fun _ _ h => h⟩

theorem KeepR.trans {w w1 w2 : World} {U U1 U2 : Nat → Prop} {φ φ1 φ2 : Nat → Option (Nat × Nat)} {h h1 h2 : Heap}
    (a : KeepR w U φ h w1 U1 φ1 h1) (b : KeepR w1 U1 φ1 h1 w2 U2 φ2 h2) : KeepR w U φ h w2 U2 φ2 h2 := by
  refine ⟨a.u.trans b.u, fun i x hx => ?_, fun k n hr => b.rm k n (a.rm k n hr)⟩
  obtain ⟨y, hy, hxy, e1⟩ := a.blk i x hx
  obtain ⟨z, hz, hyz, e2⟩ := b.blk i y hy
  refine ⟨z, hz, Nat.le_trans hxy hyz, fun e => ?_⟩
  have q1 := e1 (by omega)
  have q2 := e2 (by omega)
  exact ⟨q2.1.trans q1.1, Nat.le_trans q1.2.1 q2.2.1, q2.2.2.trans q1.2.2⟩

theorem VR.keep {w w' : World} {U U' : Nat → Prop} {φ φ' : Nat → Option (Nat × Nat)} {h h' : Heap} (k : KeepR w U φ h w' U' φ' h') {x : T} {v : Value}
    (hx : VR w U φ h x v) : VR w' U' φ' h' x v := by
  induction hx with
  | imm x v hv => exact .imm x v (hv.keep k.u)
  | own i ver off len cap b v hb hver h1 hok =>
    obtain ⟨b', hb', hle, he⟩ := k.blk i b hb
    refine .own i ver off len cap b' v hb' (by omega) h1 (fun e => ?_)
    obtain ⟨hs, hn, hφ⟩ := he (by omega)
    obtain ⟨cb, sh, c, ad, e1, e2, es, e2', e3, e4, e5, e6⟩ := hok (by omega)
    exact ⟨cb, sh, c, ad, hφ.trans e1, e2, es, by rw [hs]; exact e2', e3, fun m hm => ⟨(e4 m hm).1, by have := (e4 m hm).2; omega⟩, by omega, by rw [hs]; exact k.rm _ _ e6⟩
  | ptr i ver j o b v hb hver h1 hok =>
    obtain ⟨b', hb', hle, he⟩ := k.blk i b hb
    refine .ptr i ver j o b' v hb' (by omega) h1 (fun e => ?_)
    obtain ⟨hs, hn, hφ⟩ := he (by omega)
    obtain ⟨cb, sh, e1, e2⟩ := hok (by omega)
    exact ⟨cb, sh, hφ.trans e1, by rw [hs]; exact e2⟩
  | fn f caps cs vs hl hc hv ih => exact .fn f caps cs vs hl hc ih
  | agg l cs vs hl h1 hc hv ih => exact .agg l cs vs hl h1 hc ih
  | tup l cs vs hl hc hv ih => exact .tup l cs vs hl hc ih
  | iface t x v hv ih => exact .iface t x v ih

/-! ### Shapes -/
section
variable {w : World} {U : Nat → Prop} {φ : Nat → Option (Nat × Nat)} {h : Heap}

theorem VR.bool {b : Bool} {v : Value} (hx : VR w U φ h (.bool b) v) : v = .bool b := by cases hx with | imm _ _ hv => cases hv; rfl
theorem VR.gone {v : Value} (hx : VR w U φ h .gone v) : ∀ b, v ≠ .bool b := by cases hx with | imm _ _ hv => cases hv; assumption
theorem VR.int {k : IntKind} {n : Int} {v : Value} (hx : VR w U φ h (.int k n) v) : v = .int k n := by cases hx with | imm _ _ hv => cases hv; rfl
theorem VR.str {s : List UInt8} {v : Value} (hx : VR w U φ h (.str s) v) : ∃ b : ByteArray, v = .string b ∧ b.data.toList = s := by
  cases hx with | imm _ _ hv => cases hv with | str _ b hb => exact ⟨b, rfl, hb⟩
theorem VR.nils {v : Value} (hx : VR w U φ h .nils v) : v = .slice none 0 0 := by cases hx with | imm _ _ hv => cases hv; rfl
theorem VR.nilf {v : Value} (hx : VR w U φ h .nilf v) : v = .nilFunc := by cases hx with | imm _ _ hv => cases hv; rfl
theorem VR.vp {cells : List T} {v : Value} (hx : VR w U φ h (.vp cells) v) : VI w U (.vp cells) v := by cases hx with | imm _ _ hv => exact hv
theorem VR.view {sz n : Nat} {g : Nat → List T} {cap : Option Nat} {v : Value} (hx : VR w U φ h (.view sz n g cap) v) : VI w U (.view sz n g cap) v := by cases hx with | imm _ _ hv => exact hv
theorem VR.not_reg {cells : List T} {v : Value} (hx : VR w U φ h (.reg cells) v) : False := by cases hx with | imm _ _ hv => cases hv
theorem VR.not_fresh {fl : Bool} {a b : Nat} {g : Nat → List T} {n : Nat} {c : Option Nat} {v : Value} (hx : VR w U φ h (.fresh fl a b g n c) v) : False := by cases hx with | imm _ _ hv => cases hv

theorem VR.own_inv {i ver off len : Nat} {cap : Option Nat} {v : Value} (hx : VR w U φ h (.own i ver off len cap) v) :
    ∃ b, h[i]? = some b ∧ ver ≤ b.ver ∧ v.oneCell' = true ∧ (b.ver = ver → OwnOk w φ b i off len cap v) := by
  cases hx with
  | imm _ _ hv => cases hv
  | own _ _ _ _ _ b _ hb hver h1 hok => exact ⟨b, hb, hver, h1, hok⟩
theorem VR.ptr_inv {i ver j o : Nat} {v : Value} (hx : VR w U φ h (.ptr i ver j o) v) :
    ∃ b, h[i]? = some b ∧ ver ≤ b.ver ∧ v.oneCell' = true ∧ (b.ver = ver → PtrOk φ b i j o v) := by
  cases hx with
  | imm _ _ hv => cases hv
  | ptr _ _ _ _ b _ hb hver h1 hok => exact ⟨b, hb, hver, h1, hok⟩

theorem VR.agg_inv {l : List T} {v : Value} (hx : VR w U φ h (.agg l) v) :
    ∃ cs : Array Value, v = .agg cs ∧ l.length = cs.size ∧ (∀ (i : Nat) (u : Value), cs[i]? = some u → u.oneCell' = true) ∧ ∀ (i : Nat) (c : T), l[i]? = some c → ∃ u, cs[i]? = some u ∧ VR w U φ h c u := by
  cases hx with
  | imm _ _ hv => cases hv with | agg _ cs vs hl h1 hc hv => exact ⟨cs, rfl, hl, h1, fun i c hi => ⟨vs i, hc i c hi, .imm _ _ (hv i c hi)⟩⟩
  | agg _ cs vs hl h1 hc hv => exact ⟨cs, rfl, hl, h1, fun i c hi => ⟨vs i, hc i c hi, hv i c hi⟩⟩
theorem VR.tup_inv {l : List T} {v : Value} (hx : VR w U φ h (.tup l) v) :
    ∃ cs : Array Value, v = .tuple cs ∧ l.length = cs.size ∧ ∀ (i : Nat) (c : T), l[i]? = some c → ∃ u, cs[i]? = some u ∧ VR w U φ h c u := by
  cases hx with
  | imm _ _ hv => cases hv with | tup _ cs vs hl hc hv => exact ⟨cs, rfl, hl, fun i c hi => ⟨vs i, hc i c hi, .imm _ _ (hv i c hi)⟩⟩
  | tup _ cs vs hl hc hv => exact ⟨cs, rfl, hl, fun i c hi => ⟨vs i, hc i c hi, hv i c hi⟩⟩
theorem VR.fn_inv {f : FuncId} {l : List T} {v : Value} (hx : VR w U φ h (.fn f l) v) :
    ∃ cs : Array Value, v = .func (.func f) #[] cs ∧ l.length = cs.size ∧ ∀ (i : Nat) (c : T), l[i]? = some c → ∃ u, cs[i]? = some u ∧ VR w U φ h c u := by
  cases hx with
  | imm _ _ hv => cases hv with | fn _ _ cs vs hl hc hv => exact ⟨cs, rfl, hl, fun i c hi => ⟨vs i, hc i c hi, .imm _ _ (hv i c hi)⟩⟩
  | fn _ _ cs vs hl hc hv => exact ⟨cs, rfl, hl, fun i c hi => ⟨vs i, hc i c hi, hv i c hi⟩⟩

theorem choose_vs {l : List T} {cs : Array Value} {R : T → Value → Prop} (hc : ∀ (i : Nat) (c : T), l[i]? = some c → ∃ u, cs[i]? = some u ∧ R c u) :
    (∀ (i : Nat) (c : T), l[i]? = some c → cs[i]? = some (cs.getD i Go.undef)) ∧ ∀ (i : Nat) (c : T), l[i]? = some c → R c (cs.getD i Go.undef) := by
  have key : ∀ (i : Nat) (c : T), l[i]? = some c → cs[i]? = some (cs.getD i Go.undef) ∧ R c (cs.getD i Go.undef) := by
    intro i c hi
    obtain ⟨u, hu, hr⟩ := hc i c hi
    have : cs.getD i Go.undef = u := by simp [Array.getD_eq_getD_getElem?, hu]
    rw [this]; exact ⟨hu, hr⟩
  exact ⟨fun i c hi => (key i c hi).1, fun i c hi => (key i c hi).2⟩

theorem VR.mk_agg {l : List T} {cs : Array Value} (hl : l.length = cs.size) (h1 : ∀ (i : Nat) (u : Value), cs[i]? = some u → u.oneCell' = true)
    (hc : ∀ (i : Nat) (c : T), l[i]? = some c → ∃ u, cs[i]? = some u ∧ VR w U φ h c u) : VR w U φ h (.agg l) (.agg cs) :=
  .agg l cs (fun i => cs.getD i Go.undef) hl h1 (choose_vs hc).1 (choose_vs hc).2
theorem VR.mk_tup {l : List T} {cs : Array Value} (hl : l.length = cs.size)
    (hc : ∀ (i : Nat) (c : T), l[i]? = some c → ∃ u, cs[i]? = some u ∧ VR w U φ h c u) : VR w U φ h (.tup l) (.tuple cs) :=
  .tup l cs (fun i => cs.getD i Go.undef) hl (choose_vs hc).1 (choose_vs hc).2
theorem VR.mk_fn {f : FuncId} {l : List T} {cs : Array Value} (hl : l.length = cs.size)
    (hc : ∀ (i : Nat) (c : T), l[i]? = some c → ∃ u, cs[i]? = some u ∧ VR w U φ h c u) : VR w U φ h (.fn f l) (.func (.func f) #[] cs) :=
  .fn f l cs (fun i => cs.getD i Go.undef) hl (choose_vs hc).1 (choose_vs hc).2
theorem VI.mk_agg {l : List T} {cs : Array Value} (hl : l.length = cs.size) (h1 : ∀ (i : Nat) (u : Value), cs[i]? = some u → u.oneCell' = true)
    (hc : ∀ (i : Nat) (c : T), l[i]? = some c → ∃ u, cs[i]? = some u ∧ VI w U c u) : VI w U (.agg l) (.agg cs) :=
  .agg l cs (fun i => cs.getD i Go.undef) hl h1 (choose_vs hc).1 (choose_vs hc).2
theorem VI.mk_tup {l : List T} {cs : Array Value} (hl : l.length = cs.size)
    (hc : ∀ (i : Nat) (c : T), l[i]? = some c → ∃ u, cs[i]? = some u ∧ VI w U c u) : VI w U (.tup l) (.tuple cs) :=
  .tup l cs (fun i => cs.getD i Go.undef) hl (choose_vs hc).1 (choose_vs hc).2
theorem VI.mk_fn {f : FuncId} {l : List T} {cs : Array Value} (hl : l.length = cs.size)
    (hc : ∀ (i : Nat) (c : T), l[i]? = some c → ∃ u, cs[i]? = some u ∧ VI w U c u) : VI w U (.fn f l) (.func (.func f) #[] cs) :=
  .fn f l cs (fun i => cs.getD i Go.undef) hl (choose_vs hc).1 (choose_vs hc).2

/-- The cells of a value. -/
theorem VR.cells_rel {x : T} {v : Value} (hx : VR w U φ h x v) (hk : cellsOk x = true) :
    x.cells.length = v.cells.size ∧ (∀ (i : Nat) (u : Value), v.cells[i]? = some u → u.oneCell' = true) ∧ ∀ (i : Nat) (c : T), x.cells[i]? = some c → ∃ u, v.cells[i]? = some u ∧ VR w U φ h c u := by
  have single : ∀ (x : T) (v : Value), x.cells = [x] → v.cells = #[v] → v.oneCell' = true → VR w U φ h x v →
      x.cells.length = v.cells.size ∧ (∀ (i : Nat) (u : Value), v.cells[i]? = some u → u.oneCell' = true) ∧ ∀ (i : Nat) (c : T), x.cells[i]? = some c → ∃ u, v.cells[i]? = some u ∧ VR w U φ h c u := by
    intro x v e1 e2 h1 hx
    rw [e1, e2]
    refine ⟨rfl, fun i u hu => ?_, fun i c hc => ?_⟩
    · cases i with
      | zero => simp at hu; subst hu; exact h1
      | succ i => simp at hu
    · cases i with
      | zero => simp at hc; subst hc; exact ⟨v, rfl, hx⟩
      | succ i => simp at hc
  cases hx with
  | imm _ _ hv =>
    cases hv with
    | undef v => simp [cellsOk] at hk
    | agg l cs vs hl h1 hc hv => exact ⟨hl, h1, fun i c hi => ⟨vs i, hc i c hi, .imm _ _ (hv i c hi)⟩⟩
    | tup l cs vs hl hc hv => simp [cellsOk] at hk
    | vp cells a vs hs hU hc hv => exact single _ _ rfl rfl rfl (.imm _ _ (.vp cells a vs hs hU hc hv))
    | view sz n g cap a c vs hs hcap hn hU hl hc hv => exact single _ _ rfl rfl rfl (.imm _ _ (.view sz n g cap a c vs hs hcap hn hU hl hc hv))
    | fn f caps cs vs hl hc hv => exact single _ _ rfl rfl rfl (.imm _ _ (.fn f caps cs vs hl hc hv))
    | iface t x v h => exact single _ _ rfl rfl rfl (.imm _ _ (.iface t x v h))
    | str s b hb => exact single _ _ rfl rfl rfl (.imm _ _ (.str s b hb))
    | bool b => exact single _ _ rfl rfl rfl (.imm _ _ (.bool b))
    | int k n => exact single _ _ rfl rfl rfl (.imm _ _ (.int k n))
    | nilp => exact single _ _ rfl rfl rfl (.imm _ _ .nilp)
    | nils => exact single _ _ rfl rfl rfl (.imm _ _ .nils)
    | nilf => exact single _ _ rfl rfl rfl (.imm _ _ .nilf)
    | nili => exact single _ _ rfl rfl rfl (.imm _ _ .nili)
    | gone => cases hk
    | nilm => exact single _ _ rfl rfl rfl (.imm _ _ .nilm)
  | own i ver off len cap b v hb hver h1 hok => exact single _ _ rfl (by cases v <;> first | rfl | simp [Value.oneCell'] at h1) h1 (.own i ver off len cap b v hb hver h1 hok)
  | ptr i ver j o b v hb hver h1 hok => exact single _ _ rfl (by cases v <;> first | rfl | simp [Value.oneCell'] at h1) h1 (.ptr i ver j o b v hb hver h1 hok)
  | fn f caps cs vs hl hc hv => exact single _ _ rfl rfl rfl (.fn f caps cs vs hl hc hv)
  | agg l cs vs hl h1 hc hv => exact ⟨hl, h1, fun i c hi => ⟨vs i, hc i c hi, hv i c hi⟩⟩
  | tup l cs vs hl hc hv => simp [cellsOk] at hk
  | iface t x v hv => exact single _ _ rfl rfl rfl (.iface t x v hv)

theorem ofVal0_rel (v : Value) : VI w U (ofVal0 v) v := by
  unfold ofVal0
  split <;> first | exact .bool _ | exact .int _ _ | exact .str _ _ rfl | exact .nilp | exact .nils | exact .nilf | exact .nili | exact .nilm | exact .undef _

theorem ofVal_rel (v : Value) (hf : flatVal v = true) : VI w U (ofVal v) v := by
  cases v with
  | agg cs =>
    refine VI.mk_agg (by simp) ?_ ?_
    · intro i u hu
      have hm : u ∈ cs.toList := by simpa using Array.mem_of_getElem? hu
      have := (List.all_eq_true.1 hf) u hm
      revert this
      cases u <;> simp [Value.oneCell']
    · intro i c hi
      simp only [List.getElem?_map, Option.map_eq_some_iff] at hi
      obtain ⟨u, hu, rfl⟩ := hi
      exact ⟨u, by simpa using hu, ofVal0_rel u⟩
  | tuple cs =>
    refine VI.mk_tup (by simp) ?_
    intro i c hi
    simp only [List.getElem?_map, Option.map_eq_some_iff] at hi
    obtain ⟨u, hu, rfl⟩ := hi
    exact ⟨u, by simpa using hu, ofVal0_rel u⟩
  | _ => simp only [ofVal]; exact ofVal0_rel _
end
end Go.Ab
