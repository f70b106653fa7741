/- A part of the proof: nothing is assumed. -/
import Derived.Test.YtkiedolofnakoaaDoorP2
import Derived.OpenShut
import Derived.Deep.DeepHandedRow
import Derived.Lib.LaidTab
set_option linter.all false
/- Results in a normal form: the elements of a fresh slice as a list. -/
namespace Go.Ab

def tabG (n : Nat) (g : Nat → List T) : Nat → List T := fun j => ((List.range n).map g).getD j []
theorem tabG_eq {n : Nat} {g : Nat → List T} {j : Nat} (h : j < n) : tabG n g j = g j := by
  simp [tabG, h]

def canon0 : T → T
  | .fresh flat sz n g len cap => .fresh flat sz n (tabG n g) len cap
  | x => x
def canon1 : T → T
  | .agg l => .agg (l.map canon0)
  | x => canon0 x
def canonT : T → T
  | .tup l => .tup (l.map canon1)
  | x => canon1 x

section
variable {w : World} {U : Nat → Prop}
theorem canon0_ok {x : T} {v : Value} {X : List Nat} (h : RT0 w U x v X) : RT0 w U (canon0 x) v X := by
  cases h with
  | vi x v hv =>
    cases x with
    | fresh => cases hv
    | _ => exact .vi _ _ hv
  | fresh flat sz n gg len cap cb sh cc ad arr e es e2 e3 e4 e5 hh r1 r2 hl hc hf =>
    refine .fresh flat sz n _ len cap cb sh cc ad arr e es e2 e3 e4 e5 hh r1 r2 (fun j hj => by rw [tabG_eq hj]; exact hl j hj) (fun j o c hj ho => hc j o c hj (by rw [tabG_eq hj] at ho; exact ho))
      (fun h j hj c hx => hf h j hj c (by rw [tabG_eq hj] at hx; exact hx))

theorem RTL.mapT {Q : T → Value → List Nat → Prop} {f : T → T} (hf : ∀ x v X, Q x v X → Q (f x) v X) {l : List T} {vs : List Value} {X : List Nat} (h : RTL Q l vs X) : RTL Q (l.map f) vs X := by
  induction h with
  | nil => exact .nil
  | cons x v X l vs Y hx hl ih => exact .cons _ _ _ _ _ _ (hf _ _ _ hx) ih

theorem canon0_noagg {x : T} (h : ∀ l, x ≠ .agg l) : ∀ l, canon0 x ≠ .agg l := by
  intro l
  cases x with
  | agg m => exact absurd rfl (h m)
  | _ => simp [canon0]

theorem canon1_ok {x : T} {v : Value} {X : List Nat} (h : RT1 w U x v X) : RT1 w U (canon1 x) v X := by
  cases x with
  | agg l =>
    obtain ⟨cs, rfl, h1, h2⟩ := h
    exact ⟨cs, rfl, h1, h2.mapT fun _ _ _ h => canon0_ok h⟩
  | _ => exact canon0_ok h

theorem canonT_ok {x : T} {v : Value} {X : List Nat} (h : RT2 w U x v X) : RT2 w U (canonT x) v X := by
  cases x with
  | tup l =>
    obtain ⟨cs, rfl, h2⟩ := h
    exact ⟨cs, rfl, h2.mapT fun _ _ _ h => canon1_ok h⟩
  | agg l => exact canon1_ok (x := .agg l) h
  | _ =>
    have h0 : RT0 w U _ v X := h
    exact canon0_ok h0
end

section
variable {P : Program} {K : Orc} {Gl : Nat → Option (List T)} {A : FuncId → Ann}

/-- One call, its result in normal form. -/
def stepC (P : Program) (G : Nat → Option (List T)) (A : FuncId → Ann) (K : Orc) (m : Nat) (f : FuncId) (args : List T) : Option T :=
  runR P G A K (recN P G A K m f) f args [] fun v h' => some (canonT (give h' v))

theorem stepC_some {m : Nat} {f : FuncId} {args : List T} {r : T} (h : stepC P Gl A K m f args = some r) : ∃ r0, stepV P Gl A K m f args = some r0 ∧ r = canonT r0 := by
  obtain ⟨⟨v, h'⟩, h1, h2⟩ := det_some (runR_det (P := P) (K := K) (Gl := Gl) (A := A) (recN_det P Gl A K m f) f args []) (k := fun p => some (canonT (give p.2 p.1))) h
  exact ⟨give h' v, h2 T fun p => some (give p.2 p.1), (Option.some.inj h1).symm⟩

theorem RV.canon {w : World} {U : Nat → Prop} {r : T} {v : Value} {w' : World} (h : RV w U r v w') : RV w U (canonT r) v w' := by
  obtain ⟨h1, U', X, h2, h3, h4, h5, h6⟩ := h
  exact ⟨h1, U', X, h2, h3, h4, h5, canonT_ok h6⟩

/-- One more function, told over a table: its results as they come, or in normal form. -/
theorem step_add (hm : P.follows .mixedOrders = true) (hn : namesOk P = true) {K' : Orc} (hK' : OrcOk P Gl K') (hK : OrcOk P Gl K) {f : FuncId} {spec : List T → Tree}
    (hs : ∀ args r, (spec args).run some = some r → ∃ A m, stepV P Gl A K m f args = some r ∨ stepC P Gl A K m f args = some r) : OrcOk P Gl (K'.add f spec) := by
  refine ⟨fun e hx => ?_, fun e args r hx w U cargs hU hgl ha => ?_, hK'.ref⟩
  · rcases hx with ⟨args, r, hx⟩ | hx
    · simp only [Orc.add] at hx
      rcases bif_some hx with ⟨he, hy⟩ | ⟨_, hy⟩
      · have he : e = f := by simpa using he
        subst he
        obtain ⟨A, m, hv | hv⟩ := hs args r hy
        · exact runR_enters hn hv
        · exact runR_enters hn hv
      · exact hK'.enters e (.inl ⟨args, r, hy⟩)
    · exact hK'.enters e (.inr hx)
  · simp only [Orc.add] at hx
    rcases bif_some hx with ⟨he, hy⟩ | ⟨_, hy⟩
    · have he : e = f := by simpa using he
      subst he
      obtain ⟨A, m, hv | hv⟩ := hs args r hy
      · exact runR_val hm hK (recN_det P Gl A K m e) (recN_ok hm hK m e) hv hU hgl ha
      · obtain ⟨r0, hv0, rfl⟩ := stepC_some hv
        exact (runR_val hm hK (recN_det P Gl A K m e) (recN_ok hm hK m e) hv0 hU hgl ha).mono fun e w' ⟨v, h1, h2⟩ => ⟨v, h1, h2.canon⟩
    · exact hK'.val e args r hy w U cargs hU hgl ha

/-- One more function, told over tables: its results as they come, or in normal form. -/
theorem step_add2 (hm : P.follows .mixedOrders = true) (hn : namesOk P = true) {K' : Orc} (hK' : OrcOk P Gl K') {f : FuncId} {spec : List T → Tree}
    (hs : ∀ args r, (spec args).run some = some r → ∃ A m K, OrcOk P Gl K ∧ (stepV P Gl A K m f args = some r ∨ stepC P Gl A K m f args = some r)) : OrcOk P Gl (K'.add f spec) := by
  refine ⟨fun e hx => ?_, fun e args r hx w U cargs hU hgl ha => ?_, hK'.ref⟩
  · rcases hx with ⟨args, r, hx⟩ | hx
    · simp only [Orc.add] at hx
      rcases bif_some hx with ⟨he, hy⟩ | ⟨_, hy⟩
      · have he : e = f := by simpa using he
        subst he
        obtain ⟨A, m, K, hK, hv | hv⟩ := hs args r hy
        · exact runR_enters hn hv
        · exact runR_enters hn hv
      · exact hK'.enters e (.inl ⟨args, r, hy⟩)
    · exact hK'.enters e (.inr hx)
  · simp only [Orc.add] at hx
    rcases bif_some hx with ⟨he, hy⟩ | ⟨_, hy⟩
    · have he : e = f := by simpa using he
      subst he
      obtain ⟨A, m, K, hK, hv | hv⟩ := hs args r hy
      · exact runR_val hm hK (recN_det P Gl A K m e) (recN_ok hm hK m e) hv hU hgl ha
      · obtain ⟨r0, hv0, rfl⟩ := stepC_some hv
        exact (runR_val hm hK (recN_det P Gl A K m e) (recN_ok hm hK m e) hv0 hU hgl ha).mono fun e w' ⟨v, h1, h2⟩ => ⟨v, h1, h2.canon⟩
    · exact hK'.val e args r hy w U cargs hU hgl ha

/-- The same at whole trees: where the call's tree is the told one, under conditions. -/
theorem Tree.of_eq {t : Tree} {o : Option T} (h : t.run some = o) {r : T} (hr : t.run some = some r) : o = some r := h ▸ hr
end
end Go.Ab

/- Loops that are told by what they do. -/
namespace Go.Ab

/-- What is told of a loop from some state on. -/
inductive LT where
  | none
  | ret (e : Ex) (vs : List T) (h : Heap)
  | ite (c : Bool) (x y : LT)
def LT.run {R : Type} : LT → (Ex → List T → Heap → Option R) → Option R
  | .none, _ => Option.none
  | .ret e vs h, k => k e vs h
  | .ite c x y, k => bif c then x.run k else y.run k
theorem LT.det : ∀ t : LT, Det (A := Ex × List T × Heap) fun R k => t.run (R := R) fun e vs h => k (e, vs, h)
  | .none => det_none
  | .ret e vs h => det_ret (e, vs, h)
  | .ite c x y => det_bif c x.det y.det

/-- The body of a function's loop, by its first region. -/
def bodyAt (P : Program) (f : FuncId) (r : Nat) : Code := match P.funcs[f]? with
  | some fn => match fn.body with
    | some c => ((loopsOf c).find? fun b => firstReg b == r).getD .skip
    | none => .skip
  | none => .skip

def nodupN : List Nat → Bool
  | [] => true
  | a :: l => !(l.contains a) && nodupN l
/-- A function's loops begin with different regions. -/
def loopsApart (P : Program) (f : FuncId) : Bool := match P.funcs[f]? with
  | some fn => match fn.body with
    | some c => nodupN ((loopsOf c).map firstReg)
    | none => true
  | none => true

/-- Loops that are told, by their first regions; the others as before. -/
def recWith : List (Nat × (List T → Heap → LT)) → (Func → Rec) → Func → Rec
  | [], base, fn, R, b, vs, h, k => base fn R b vs h k
  | (r, spec) :: l, base, fn, R, b, vs, h, k => bif firstReg b == r then (spec vs h).run k else recWith l base fn R b vs h k

section
variable {P : Program} {K : Orc} {Gl : Nat → Option (List T)} {A : FuncId → Ann}

/-- What is told of a loop is so. -/
def LoopOk (P : Program) (Gl : Nat → Option (List T)) (an : Ann) (f : FuncId) (r : Nat) (spec : List T → Heap → LT) : Prop :=
  ∀ fn, P.funcs[f]? = some fn → fn.ntmps ≤ 1024 → ∀ vs h e vs' h', (spec vs h).run (fun e vs h => some (e, vs, h)) = some (e, vs', h') →
    CodeGoes P Gl an.prom fn.ntmps (.loop (bodyAt P f r)) (mkSt (an.live r false) vs h) e (mkSt (an.live r true) vs' h')

theorem LoopOk.assume {an : Ann} {f : FuncId} {r : Nat} {spec : List T → Heap → LT} (h : LoopOk P Gl an f r spec) (l : List (Nat × Nat × Bool)) (hr : Nat.ble 2000000 r = false) : LoopOk P Gl (an.assume l) f r spec := by
  intro fn hf hnt vs hp e vs' h' hk
  have := h fn hf hnt vs hp e vs' h' hk
  simpa only [Ann.assume, hr, cond_false] using this

theorem recWith_det {base : Func → Rec} (hb : ∀ fn, RecDet (base fn)) : ∀ (l : List (Nat × (List T → Heap → LT))) (fn : Func), RecDet (recWith l base fn)
  | [], fn => hb fn
  | (r, spec) :: l, fn => fun b vs h => by
    simp only [recWith]
    exact det_bif _ (spec vs h).det (recWith_det hb l fn b vs h)

theorem nodupN_at : ∀ {l : List Code} {b : Code}, nodupN (l.map firstReg) = true → b ∈ l → l.find? (fun x => firstReg x == firstReg b) = some b
  | [], b, _, h => by cases h
  | a :: l, b, hn, h => by
    simp only [List.map_cons, nodupN, Bool.and_eq_true, Bool.not_eq_true'] at hn
    rcases List.mem_cons.1 h with rfl | h
    · simp
    · have hne : firstReg a ≠ firstReg b := fun e => by
        have : firstReg a ∈ l.map firstReg := by rw [e]; exact List.mem_map_of_mem h
        have h2 : (l.map firstReg).contains (firstReg a) = true := List.contains_iff_mem.2 this
        rw [h2] at hn
        cases hn.1
      rw [List.find?_cons_of_neg (by simpa using hne)]
      exact nodupN_at hn.2 h

theorem bodyAt_of {f : FuncId} {fn : Func} {c b : Code} (ha : loopsApart P f = true) (hf : P.funcs[f]? = some fn) (hb : fn.body = some c) (h : b ∈ loopsOf c) : bodyAt P f (firstReg b) = b := by
  unfold loopsApart at ha
  rw [hf] at ha
  dsimp only at ha
  rw [hb] at ha
  unfold bodyAt
  rw [hf]
  dsimp only
  rw [hb]
  dsimp only
  rw [nodupN_at ha h]
  rfl

theorem recWith_ok {f : FuncId} (ha : loopsApart P f = true) {base : Func → Rec} (hbd : ∀ fn, RecDet (base fn)) (hb : RecsOk P Gl A f base) :
    ∀ {l : List (Nat × (List T → Heap → LT))}, (∀ p ∈ l, LoopOk P Gl (A f) f p.1 p.2) → RecsOk P Gl A f (recWith l base)
  | [], _ => hb
  | (r, spec) :: l, hl => by
    intro fn c hf hc hnt
    have ih := recWith_ok ha hbd hb (l := l) (fun p hp => hl p (by simp [hp])) fn c hf hc hnt
    refine ⟨recWith_det hbd _ fn, fun b vs h e vs' h' hS hk => ?_⟩
    simp only [recWith] at hk
    rcases bif_some hk with ⟨hr, hk⟩ | ⟨_, hk⟩
    · have hr : firstReg b = r := by simpa using hr
      have := hl (r, spec) (by simp) fn hf hnt vs h e vs' h' hk
      dsimp only at this
      rw [← hr, bodyAt_of ha hf hc hS] at this
      exact this
    · exact ih.2 b vs h e vs' h' hS hk

/-- One call, some loops told. -/
def stepL (P : Program) (G : Nat → Option (List T)) (A : FuncId → Ann) (K : Orc) (m : Nat) (f : FuncId) (l : List (Nat × (List T → Heap → LT))) (args : List T) : Option T :=
  runR P G A K (recWith l (recN P G A K m f)) f args [] fun v h' => some (give h' v)
def stepLC (P : Program) (G : Nat → Option (List T)) (A : FuncId → Ann) (K : Orc) (m : Nat) (f : FuncId) (l : List (Nat × (List T → Heap → LT))) (args : List T) : Option T :=
  runR P G A K (recWith l (recN P G A K m f)) f args [] fun v h' => some (canonT (give h' v))

/-- What is told of one call. -/
def Told (P : Program) (Gl : Nat → Option (List T)) (f : FuncId) (args : List T) (r : T) : Prop :=
  ∀ (w : World) (U : Nat → Prop) (cargs : Array Value), (∀ b, U b → b < w.heap.size) → GlobOk Gl w U → ArgsVI w U args cargs →
    (∃ fn, P.funcs[f]? = some fn ∧ fn.body.isNone = false ∧ (fn.name == "runtime.NumGoroutine") = false) ∧ Calls P f cargs w fun e w' => ∃ v, e = .returned v ∧ RV w U r v w'

/-- What is told of one call is so, and there is such a function. -/
structure ToldOk (P : Program) (Gl : Nat → Option (List T)) (f : FuncId) (args : List T) (r : T) : Prop where
  enters : ∃ fn, P.funcs[f]? = some fn ∧ fn.body.isNone = false ∧ (fn.name == "runtime.NumGoroutine") = false
  calls : ∀ (w : World) (U : Nat → Prop) (cargs : Array Value), (∀ b, U b → b < w.heap.size) → GlobOk Gl w U → ArgsVI w U args cargs →
    Calls P f cargs w fun e w' => ∃ v, e = .returned v ∧ RV w U r v w'

theorem stepL_told (hm : P.follows .mixedOrders = true) (hn : namesOk P = true) (hK : OrcOk P Gl K) {m : Nat} {f : FuncId} (ha : loopsApart P f = true) {l : List (Nat × (List T → Heap → LT))}
    (hl : ∀ p ∈ l, LoopOk P Gl (A f) f p.1 p.2) {args : List T} {r : T} (h : stepL P Gl A K m f l args = some r) : ToldOk P Gl f args r :=
  ⟨runR_enters hn h, fun _ _ _ hU hgl hargs => runR_val hm hK (recWith_det (recN_det P Gl A K m f) l) (recWith_ok ha (recN_det P Gl A K m f) (recN_ok hm hK m f) hl) h hU hgl hargs⟩

theorem stepLC_told (hm : P.follows .mixedOrders = true) (hn : namesOk P = true) (hK : OrcOk P Gl K) {m : Nat} {f : FuncId} (ha : loopsApart P f = true) {l : List (Nat × (List T → Heap → LT))}
    (hl : ∀ p ∈ l, LoopOk P Gl (A f) f p.1 p.2) {args : List T} {r : T} (h : stepLC P Gl A K m f l args = some r) : ToldOk P Gl f args r := by
  obtain ⟨⟨v, h'⟩, h1, h2⟩ := det_some (runR_det (P := P) (K := K) (Gl := Gl) (A := A) (recWith_det (recN_det P Gl A K m f) l) f args []) (k := fun p => some (canonT (give p.2 p.1))) h
  have hr := (Option.some.inj h1).symm
  have t := stepL_told hm hn hK (m := m) ha hl (h2 T fun p => some (give p.2 p.1))
  subst hr
  exact ⟨t.enters, fun w U cargs hU hgl hargs => (t.calls w U cargs hU hgl hargs).mono fun e w' ⟨v, q1, q2⟩ => ⟨v, q1, q2.canon⟩⟩

theorem stepV_told (hm : P.follows .mixedOrders = true) (hn : namesOk P = true) (hK : OrcOk P Gl K) {m : Nat} {f : FuncId} {args : List T} {r : T} (h : stepV P Gl A K m f args = some r) : ToldOk P Gl f args r :=
  ⟨runR_enters hn h, fun _ _ _ hU hgl hargs => runR_val hm hK (recN_det P Gl A K m f) (recN_ok hm hK m f) h hU hgl hargs⟩
theorem stepC_told (hm : P.follows .mixedOrders = true) (hn : namesOk P = true) (hK : OrcOk P Gl K) {m : Nat} {f : FuncId} {args : List T} {r : T} (h : stepC P Gl A K m f args = some r) : ToldOk P Gl f args r := by
  obtain ⟨r0, h0, rfl⟩ := stepC_some h
  have t := stepV_told hm hn hK h0
  exact ⟨t.enters, fun w U cargs hU hgl hargs => (t.calls w U cargs hU hgl hargs).mono fun e w' ⟨v, q1, q2⟩ => ⟨v, q1, q2.canon⟩⟩

/-- One more function in the table. -/
theorem told_add {K' : Orc} (hK' : OrcOk P Gl K') {f : FuncId} {spec : List T → Tree} (hs : ∀ args r, (spec args).run some = some r → ToldOk P Gl f args r) : OrcOk P Gl (K'.add f spec) := by
  refine ⟨fun e hx => ?_, fun e args r hx w U cargs hU hgl ha => ?_, hK'.ref⟩
  · rcases hx with ⟨args, r, hx⟩ | hx
    · simp only [Orc.add] at hx
      rcases bif_some hx with ⟨he, hy⟩ | ⟨_, hy⟩
      · have he : e = f := by simpa using he
        subst he
        exact (hs args r hy).enters
      · exact hK'.enters e (.inl ⟨args, r, hy⟩)
    · exact hK'.enters e (.inr hx)
  · simp only [Orc.add] at hx
    rcases bif_some hx with ⟨he, hy⟩ | ⟨_, hy⟩
    · have he : e = f := by simpa using he
      subst he
      exact (hs args r hy).calls w U cargs hU hgl ha
    · exact hK'.val e args r hy w U cargs hU hgl ha
/-- A table that tells one function alone. -/
theorem told_one {f : FuncId} {args : List T} {r : T} (h : ToldOk P Gl f args r) {w : World} {U : Nat → Prop} {cargs : Array Value} (hU : ∀ b, U b → b < w.heap.size) (hgl : GlobOk Gl w U) (ha : ArgsVI w U args cargs) :
    Calls P f cargs w fun e w' => ∃ v, e = .returned v ∧ RV w U r v w' := h.calls w U cargs hU hgl ha

/-- One round of a loop: how it ends, the values that live on, the own blocks. -/
def iterR (P : Program) (G : Nat → Option (List T)) (A : FuncId → Ann) (K : Orc) (m : Nat) (f : FuncId) (l : List (Nat × (List T → Heap → LT))) (r : Nat) (vs : List T) (h : Heap) : Option (Ex × List T × Heap) :=
  match P.funcs[f]? with
  | some fn => exK P K G (A f).prom fn.ntmps (A f).live (recWith l (recN P G A K m f) fn) (bodyAt P f r) (mkSt ((A f).live r false) vs h) fun e s' => match e with
    | .normal => some (.normal, getL s' ((A f).live r false), s'.h)
    | e => some (e, getL s' ((A f).live r true), s'.h)
  | none => none

/-- There is such a loop. -/
def loopAt (P : Program) (f : FuncId) (r : Nat) : Bool := match P.funcs[f]? with
  | some fn => match fn.body with
    | some c => nodupN ((loopsOf c).map firstReg) && (loopsOf c).any fun b => firstReg b == r
    | none => false
  | none => false

theorem loopsOf_trans : ∀ (c : Code) {b d : Code}, b ∈ loopsOf c → d ∈ loopsOf b → d ∈ loopsOf c
  | .seq x y, b, d, hb, hd => by
    simp only [loopsOf, List.mem_append] at hb ⊢
    rcases hb with hb | hb
    · exact .inl (loopsOf_trans x hb hd)
    · exact .inr (loopsOf_trans y hb hd)
  | .cond _ x y, b, d, hb, hd => by
    simp only [loopsOf, List.mem_append] at hb ⊢
    rcases hb with hb | hb
    · exact .inl (loopsOf_trans x hb hd)
    · exact .inr (loopsOf_trans y hb hd)
  | .block _ x, b, d, hb, hd => by
    simp only [loopsOf] at hb ⊢
    exact loopsOf_trans x hb hd
  | .loop x, b, d, hb, hd => by
    simp only [loopsOf, List.mem_cons] at hb ⊢
    rcases hb with rfl | hb
    · exact .inr hd
    · exact .inr (loopsOf_trans x hb hd)
  | .skip, _, _, hb, _ => by simp [loopsOf] at hb
  | .label _, _, _, hb, _ => by simp [loopsOf] at hb
  | .region .., _, _, hb, _ => by simp [loopsOf] at hb
  | .exit _, _, _, hb, _ => by simp [loopsOf] at hb
  | .ret, _, _, hb, _ => by simp [loopsOf] at hb
  | .scope _, _, _, hb, _ => by simp [loopsOf] at hb
  | .goto _, _, _, hb, _ => by simp [loopsOf] at hb
  | .refuse _, _, _, hb, _ => by simp [loopsOf] at hb
  | .rangeFunc .., _, _, hb, _ => by simp [loopsOf] at hb

theorem loopAt_of {f : FuncId} {r : Nat} (ha : loopAt P f r = true) {fn : Func} (hf : P.funcs[f]? = some fn) : loopsApart P f = true ∧ ∃ c, fn.body = some c ∧ bodyAt P f r ∈ loopsOf c ∧ firstReg (bodyAt P f r) = r := by
  unfold loopAt at ha
  rw [hf] at ha
  dsimp only at ha
  cases hb : fn.body with
  | none => rw [hb] at ha; cases ha
  | some c =>
    rw [hb] at ha
    simp only [Bool.and_eq_true] at ha
    obtain ⟨h1, h2⟩ := ha
    rw [List.any_eq_true] at h2
    obtain ⟨b, hbm, hbr⟩ := h2
    have hbr : firstReg b = r := by simpa using hbr
    have hap : loopsApart P f = true := by unfold loopsApart; rw [hf]; dsimp only; rw [hb]; exact h1
    have e := bodyAt_of hap hf hb hbm
    rw [hbr] at e
    exact ⟨hap, c, rfl, by rw [e]; exact hbm, by rw [e]; exact hbr⟩

/-- A loop by its rounds: as long as a number falls. What is known, and what is assumed, may differ from round to round. -/
theorem loop_told (hm : P.follows .mixedOrders = true) {f : FuncId} {r : Nat} (ha : loopAt P f r = true)
    {an : Ann} (I : Nat → List T → Heap → Prop) {e1 : Ex} {vs1 : List T} {h1 : Heap}
    (round : ∀ n vs h, I n vs h → ∃ (A : FuncId → Ann) (K : Orc) (m : Nat) (l : List (Nat × (List T → Heap → LT))), OrcOk P Gl K ∧ (A f).prom = an.prom ∧ (A f).live r = an.live r ∧ (∀ p ∈ l, LoopOk P Gl (A f) f p.1 p.2) ∧
      ∃ e vs' h', iterR P Gl A K m f l r vs h = some (e, vs', h') ∧ ((e = .normal ∧ ∃ j, j < n ∧ I j vs' h') ∨ (e ≠ .normal ∧ e = e1 ∧ vs' = vs1 ∧ h' = h1)))
    {n : Nat} {vs : List T} {h : Heap} (hI : I n vs h) {fn : Func} (hf : P.funcs[f]? = some fn) (hnt : fn.ntmps ≤ 1024) :
    CodeGoes P Gl an.prom fn.ntmps (.loop (bodyAt P f r)) (mkSt (an.live r false) vs h) e1 (mkSt (an.live r true) vs1 h1) := by
  obtain ⟨hap, c, hb, hmem, hfr⟩ := loopAt_of ha hf
  intro g0 a0 w0 hs0 Q hn
  refine wp_loop_num (fun j a w => ∃ vs' h' g, I j vs' h' ∧ SR Gl an.prom fn.ntmps g (mkSt (an.live r false) vs' h') a w ∧ FrC g0 h w0 g h' w) (fun j a w hJ => ?_) n a0 w0 ⟨vs, h, g0, hI, hs0, FrC.refl _ _ _⟩
  obtain ⟨vs', h', g, hI, hs, hf0⟩ := hJ
  obtain ⟨A, K, m, l, hK, hp, hlive, hl, e, vs2, h2, hit, hcase⟩ := round j vs' h' hI
  unfold iterR at hit
  rw [hf] at hit
  dsimp only at hit
  have hrec := recWith_ok (A := A) hap (recN_det P Gl A K m f) (recN_ok hm hK m f) hl fn c hf hb hnt
  obtain ⟨e', s', hk2, hgo⟩ := exK_goes hm hK hnt hrec (bodyAt P f r) (fun b hb' => loopsOf_trans c hmem hb') hit
  rw [hp, hlive] at hgo
  rw [hlive] at hk2
  refine hgo g a w hs _ fun a' w' g' hs' hf' => ?_
  cases e' with
  | normal =>
    simp only [Option.some.injEq, Prod.mk.injEq] at hk2
    obtain ⟨rfl, rfl, rfl⟩ := hk2
    rcases hcase with ⟨_, i, hi, hI'⟩ | ⟨hne, _⟩
    · exact ⟨i, hi, _, _, g', hI', hs'.only _, hf0.trans hf'⟩
    · exact absurd rfl hne
  | exit i =>
    simp only [Option.some.injEq, Prod.mk.injEq] at hk2
    obtain ⟨rfl, rfl, rfl⟩ := hk2
    rcases hcase with ⟨hne, _⟩ | ⟨_, rfl, rfl, rfl⟩
    · cases hne
    · exact hn a' w' g' (hs'.only _) (hf0.trans hf')
  | ret =>
    simp only [Option.some.injEq, Prod.mk.injEq] at hk2
    obtain ⟨rfl, rfl, rfl⟩ := hk2
    rcases hcase with ⟨hne, _⟩ | ⟨_, rfl, rfl, rfl⟩
    · cases hne
    · exact hn a' w' g' (hs'.only _) (hf0.trans hf')
end
end Go.Ab

/- Saying less of a value; what that does to a loop. -/
namespace Go.Ab

/-- What 'x' tells, 'y' tells too. -/
def Sim (x y : T) : Prop := ∀ w U v, VI w U x v → VI w U y v
theorem Sim.refl (x : T) : Sim x x := fun _ _ _ h => h
theorem Sim.undef (x : T) : Sim x .undef := fun _ _ v _ => .undef v
def Sims (l m : List T) : Prop := l.length = m.length ∧ ∀ (i : Nat) a b, l[i]? = some a → m[i]? = some b → Sim a b
theorem Sims.refl (l : List T) : Sims l l := ⟨rfl, fun i a b h1 h2 => by rw [h1] at h2; obtain rfl := Option.some.inj h2; exact .refl _⟩
theorem Sims.nil : Sims [] [] := .refl _
theorem Sims.cons {x y : T} {l m : List T} (h : Sim x y) (hl : Sims l m) : Sims (x :: l) (y :: m) := by
  refine ⟨by simp [hl.1], fun i a b h1 h2 => ?_⟩
  cases i with
  | zero => simp at h1 h2; subst h1; subst h2; exact h
  | succ i => exact hl.2 i a b (by simpa using h1) (by simpa using h2)
theorem Sims.get {l m : List T} (h : Sims l m) {i : Nat} {b : T} (hb : m[i]? = some b) : ∃ a, l[i]? = some a ∧ Sim a b := by
  have hi : i < m.length := by
    rcases Nat.lt_or_ge i m.length with q | q
    · exact q
    · simp [q] at hb
  have ha : l[i]? = some (l[i]'(by rw [h.1]; exact hi)) := List.getElem?_eq_getElem _
  exact ⟨_, ha, h.2 i _ _ ha hb⟩

theorem Sim.view {sz n : Nat} {g g' : Nat → List T} {c c' : Option Nat} (hc : c' = c ∨ c' = none) (hg : ∀ j, j < n → Sims (g j) (g' j)) : Sim (.view sz n g c) (.view sz n g' c') := by
  intro w U v h
  cases h with
  | view _ _ _ _ a cc vs hs hcap hn hU hl hcl hv =>
    refine .view sz n g' c' a cc vs hs (fun m hm => ?_) hn hU (fun j hj => by rw [← (hg j hj).1]; exact hl j hj) (fun j o x hj ho => ?_) (fun j o x hj ho => ?_)
    · rcases hc with rfl | rfl
      · exact hcap m hm
      · cases hm
    · obtain ⟨y, hy, _⟩ := (hg j hj).get ho
      exact hcl j o y hj hy
    · obtain ⟨y, hy, hs⟩ := (hg j hj).get ho
      exact hs _ _ _ (hv j o y hj hy)

theorem Sim.agg {l m : List T} (h : Sims l m) : Sim (.agg l) (.agg m) := by
  intro w U v hv
  cases hv with
  | agg _ cs vs hl h1 hc hv =>
    refine .agg m cs vs (by rw [← h.1]; exact hl) h1 (fun i c hi => ?_) (fun i c hi => ?_)
    · obtain ⟨y, hy, _⟩ := h.get hi
      exact hc i y hy
    · obtain ⟨y, hy, hs⟩ := h.get hi
      exact hs _ _ _ (hv i y hy)


/-- The same, or a view of which less is told. -/
def SimV (x y : T) : Prop := x = y ∨ (Sim x y ∧ (∃ sz n g c, x = .view sz n g c) ∧ ∃ sz n g c, y = .view sz n g c)
theorem SimV.refl (x : T) : SimV x x := .inl rfl

theorem VR.simV {w : World} {U : Nat → Prop} {φ : Nat → Option (Nat × Nat)} {h : Heap} {x y : T} {v : Value} (hs : SimV x y) (hx : VR w U φ h x v) : VR w U φ h y v := by
  rcases hs with rfl | ⟨hs, ⟨sz, n, g, c, rfl⟩, _⟩
  · exact hx
  · exact .imm _ _ (hs _ _ _ hx.view)

section
variable {P : Program} {Gl : Nat → Option (List T)} {prom : List Nat} {nt : Nat}

theorem SR.simV {g : Gh} {s s2 : St} {a : Act} {w : World} (hs : SR Gl prom nt g s a w) (hh : s2.h = s.h) (hl : s2.loc = s.loc) (hu : s2.used = s.used) (ha : ∀ t, SimV (s.at t) (s2.at t)) : SR Gl prom nt g s2 a w := by
  refine ⟨by rw [hh]; exact hs.hr, hs.defers, hs.size, hs.nt, fun t ht => ?_, fun t ht cells hc => ?_, fun d t o h => hs.loc d t o (by rw [← hl]; exact h), hs.glob, fun d t o h => by rw [hu]; exact hs.used d t o (by rw [← hl]; exact h)⟩
  · rw [hh]
    exact (hs.tmps t ht).simV (ha t)
  · rcases ha t with e | ⟨_, _, ⟨_, _, _, _, e⟩⟩
    · rw [hh]
      exact hs.regs t ht cells (e.trans hc)
    · rw [hc] at e; cases e

theorem putL_simV : ∀ (l : List Nat) (vs vs2 : List T) (e e2 : Tr), vs.length = vs2.length → (∀ (i : Nat) x y, vs[i]? = some x → vs2[i]? = some y → SimV x y) → (∀ t, t < 1024 → SimV (Tr.get deep e t) (Tr.get deep e2 t)) →
    ∀ t, t < 1024 → SimV (Tr.get deep (putL l vs e) t) (Tr.get deep (putL l vs2 e2) t)
  | [], _, _, e, e2, _, _, he => by simpa only [putL] using he
  | i :: l, [], [], e, e2, _, _, he => by simpa only [putL] using he
  | i :: l, x :: vs, y :: vs2, e, e2, hl, hv, he => by
    simp only [putL]
    refine putL_simV l vs vs2 _ _ (by simpa using hl) (fun j x y a b => hv (j + 1) x y (by simpa using a) (by simpa using b)) (fun t ht => ?_)
    cases hi : Nat.blt i 1024 with
    | false => exact he t ht
    | true =>
      simp only [cond_true]
      have hi' : i < 1024 := by
        have := hi
        simp only [Nat.blt_eq] at this
        exact this
      have h1 : Tr.get deep (Tr.set deep e i x) t = if t = i then x else Tr.get deep e t := Tr.get_set 10 e i t x (by omega) ht
      have h2 : Tr.get deep (Tr.set deep e2 i y) t = if t = i then y else Tr.get deep e2 t := Tr.get_set 10 e2 i t y (by omega) ht
      rw [h1, h2]
      by_cases q : t = i
      · rw [if_pos q, if_pos q]; exact hv 0 x y rfl rfl
      · rw [if_neg q, if_neg q]; exact he t ht
  | i :: l, [], y :: vs2, _, _, hl, _, _ => by simp at hl
  | i :: l, x :: vs, [], _, _, hl, _, _ => by simp at hl

theorem mkSt_simV {l : List Nat} {vs vs2 : List T} (h : Heap) (hl : vs.length = vs2.length) (hv : ∀ (i : Nat) x y, vs[i]? = some x → vs2[i]? = some y → SimV x y) (t : Nat) : SimV ((mkSt l vs h).at t) ((mkSt l vs2 h).at t) := by
  unfold St.at
  cases ht : Nat.blt t 1024 with
  | false => exact .refl _
  | true =>
    simp only [cond_true]
    exact putL_simV l vs vs2 .nil .nil hl hv (fun _ _ => .refl _) t (by simp only [Nat.blt_eq] at ht; exact ht)

/-- A loop from a state of which more is told. -/
theorem CodeGoes.simV {c : Code} {l : List Nat} {vs vs2 : List T} {h : Heap} {e : Ex} {s' : St} (hg : CodeGoes P Gl prom nt c (mkSt l vs2 h) e s') (hl : vs.length = vs2.length)
    (hv : ∀ (i : Nat) x y, vs[i]? = some x → vs2[i]? = some y → SimV x y) : CodeGoes P Gl prom nt c (mkSt l vs h) e s' :=
  fun g a w hs Q hn => hg g a w (hs.simV rfl rfl rfl (mkSt_simV h hl hv)) Q hn
end

/-- A view whose elements are single integers. -/
def intAt : List T → Int
  | [.int _ n] => n
  | _ => 0
def isInt (k : IntKind) : List T → Bool
  | [.int k' _] => decide (k' = k)
  | _ => false
def allInt (k : IntKind) (n : Nat) (g : Nat → List T) : Bool := (List.range n).all fun j => isInt k (g j)
theorem allInt_lit (k : IntKind) (n : Nat) (x : Nat → Int) : allInt k n (fun j => [.int k (x j)]) = true := by
  simp [allInt, isInt]
theorem isInt_eq {k : IntKind} {l : List T} (h : isInt k l = true) : l = [.int k (intAt l)] := by
  unfold isInt at h
  split at h
  · rw [of_decide_eq_true h]; rfl
  · cases h
theorem view_int {k : IntKind} {sz n : Nat} {g : Nat → List T} {c : Option Nat} (h : allInt k n g = true) : SimV (.view sz n g c) (.view sz n (fun j => [.int k (intAt (g j))]) c) := by
  refine .inr ⟨.view (.inl rfl) fun j hj => ?_, ⟨_, _, _, _, rfl⟩, ⟨_, _, _, _, rfl⟩⟩
  have := isInt_eq (List.all_eq_true.1 h j (List.mem_range.2 hj))
  rw [← this]
  exact .refl _

theorem ToldOk.sim {P : Program} {Gl : Nat → Option (List T)} {f : FuncId} {args args2 : List T} {r : T} (h : ToldOk P Gl f args2 r) (hs : Sims args args2) : ToldOk P Gl f args r :=
  ⟨h.enters, fun w U cargs hU hgl ha => h.calls w U cargs hU hgl ⟨by rw [← hs.1]; exact ha.1, fun i x hx => by
    obtain ⟨y, hy, hxy⟩ := hs.get hx
    obtain ⟨v, q1, q2⟩ := ha.2 i y hy
    exact ⟨v, q1, hxy _ _ _ q2⟩⟩⟩
theorem SimV.sim {x y : T} (h : SimV x y) : Sim x y := by
  rcases h with rfl | ⟨h, _⟩
  · exact .refl _
  · exact h
end Go.Ab

/- From the interpreter's answer to a law's statement: arguments. No program is named here. -/
namespace Go.Ab
open Go.ChangeShapes Go.WideShapes Go.ChangeAt Go.RowKit

/-- A kind of which nothing is told. -/
def othDesc : Option TypeDesc → Bool
  | some .bool | some (.int _) | some .string | some (.struct _) | some (.array _ _) | some (.slice _) | none => false
  | _ => true

/-- The cells of a value of a type that reads as 'd'. -/
inductive CT (P : Program) {H : Type} : TypeId → List T → DataW H → Prop
  | bool (t : TypeId) (b : Bool) (ht : P.underlying t = some .bool) : CT P t [.bool b] (.lit (.bool b))
  | int (t : TypeId) (k : IntKind) (n : Int) (ht : P.underlying t = some (.int k)) (hn : (Lit.int k n).wf = true) : CT P t [.int k n] (.lit (.int k n))
  | str (t : TypeId) (s : List UInt8) (ht : P.underlying t = some .string) (hs : s.length ≤ maxLen) : CT P t [.str s] (.lit (.string s))
  | nils (t e : TypeId) (ht : P.underlying t = some (.slice e)) : CT P t [.nils] .nil
  | view (t e : TypeId) (n c : Nat) (g : Nat → List T) (elems spare : List (DataW H)) (ht : P.underlying t = some (.slice e)) (he : elems.length = n) (hs : spare.length = c - n) (hn : n ≤ c) (hc : c ≤ maxLen)
      (hg : ∀ j d, elems[j]? = some d → CT P e (g j) d) : CT P t [.view (P.cellsOf e) n g (some c)] (.slice elems spare)
  | thin (t e : TypeId) (d : DataW H) (ht : P.underlying t = some (.slice e)) (h0 : P.cellsOf e = 0) : CT P t [.undef] d
  | struct (t : TypeId) (fs : Array Field) (parts : List (List T)) (ds : List (DataW H)) (ht : P.underlying t = some (.struct fs)) (h1 : parts.length = fs.size) (h2 : ds.length = fs.size)
      (hp : ∀ (i : Nat) f p d, fs[i]? = some f → parts[i]? = some p → ds[i]? = some d → CT P f.type p d) : CT P t parts.flatten (.agg ds)
  | array (t e : TypeId) (n : Nat) (parts : List (List T)) (ds : List (DataW H)) (ht : P.underlying t = some (.array n e)) (h1 : parts.length = n) (h2 : ds.length = n)
      (hp : ∀ (i : Nat) p d, parts[i]? = some p → ds[i]? = some d → CT P e p d) : CT P t parts.flatten (.agg ds)
  | oth (t : TypeId) (d : DataW H) (ht : othDesc (P.underlying t) = true) : CT P t [.undef] d

/-- Cell by cell. -/
def CellsVI (w : World) (U : Nat → Prop) (ts : List T) (cs : List Value) : Prop :=
  ts.length = cs.length ∧ ∀ (i : Nat) (c : T), ts[i]? = some c → ∃ v, cs[i]? = some v ∧ VI w U c v ∧ v.oneCell' = true

theorem CellsVI.nil {w : World} {U : Nat → Prop} : CellsVI w U [] [] := ⟨rfl, fun i c h => by simp at h⟩
theorem CellsVI.one {w : World} {U : Nat → Prop} {c : T} {v : Value} (h : VI w U c v) (h1 : v.oneCell' = true) : CellsVI w U [c] [v] :=
  ⟨rfl, fun i x hx => by
    cases i with
    | zero => simp at hx; subst hx; exact ⟨v, rfl, h, h1⟩
    | succ i => simp at hx⟩
theorem CellsVI.append {w : World} {U : Nat → Prop} {a b : List T} {c d : List Value} (h : CellsVI w U a c) (h' : CellsVI w U b d) : CellsVI w U (a ++ b) (c ++ d) := by
  refine ⟨by simp [h.1, h'.1], fun i x hx => ?_⟩
  rcases Nat.lt_or_ge i a.length with hi | hi
  · rw [List.getElem?_append_left hi] at hx
    rw [List.getElem?_append_left (by rw [← h.1]; exact hi)]
    exact h.2 i x hx
  · rw [List.getElem?_append_right hi] at hx
    rw [List.getElem?_append_right (by rw [← h.1]; exact hi), ← h.1]
    exact h'.2 _ x hx

theorem CellsVI.flatten {w : World} {U : Nat → Prop} : ∀ {ps : List (List T)} {qs : List (List Value)}, ps.length = qs.length → (∀ (i : Nat) p q, ps[i]? = some p → qs[i]? = some q → CellsVI w U p q) → CellsVI w U ps.flatten qs.flatten
  | [], [], _, _ => .nil
  | p :: ps, q :: qs, hl, h => by
    simp only [List.flatten_cons]
    exact (h 0 p q rfl rfl).append (CellsVI.flatten (by simpa using hl) fun i p q hp hq => h (i + 1) p q (by simpa using hp) (by simpa using hq))
  | [], _ :: _, hl, _ => by simp at hl
  | _ :: _, [], hl, _ => by simp at hl

/-- A list cut by running sums of sizes. -/
theorem cut_flatten {α : Type} : ∀ (sz : List Nat) (cs : List α), cs.length = sz.sum → ((List.range sz.length).map fun i => (cs.drop (sz.take i).sum).take (sz.getD i 0)).flatten = cs
  | [], cs, h => by simp at h; subst h; rfl
  | s :: sz, cs, h => by
    have ih := cut_flatten sz (cs.drop s) (by simp at h ⊢; omega)
    rw [List.length_cons, List.range_succ_eq_map, List.map_cons, List.flatten_cons, List.map_map]
    have e : (List.map ((fun i => (cs.drop (List.take i (s :: sz)).sum).take ((s :: sz).getD i 0)) ∘ Nat.succ) (List.range sz.length)) = (List.range sz.length).map fun i => ((cs.drop s).drop (sz.take i).sum).take (sz.getD i 0) := by
      apply List.map_congr_left
      intro i _
      simp [List.drop_drop]
    rw [e, ih]
    simp

section
variable {H : Type} {enc : TypeId × Value → H} {P : Program} {w : World} {base : Nat} {spare : Nat → Bool} {held : Bool}

theorem fine_of (hl : laidOutB P = true) {t : TypeId} (hv : isVar P t = true) : rowFine P t = true := by
  simp only [laidOutB, Bool.and_eq_true] at hl
  have h1 := hl.1.1
  simp only [isVar, Bool.and_eq_true, decide_eq_true_eq] at hv
  exact List.all_eq_true.1 h1 t (by simpa using hv.1)

theorem fine_struct (hl : laidOutB P = true) {t : TypeId} (hv : isVar P t = true) {fs : Array Field} (ht : P.underlying t = some (.struct fs)) :
    (∀ (i : Nat) f, fs[i]? = some f → isVar P f.type = true) ∧ P.cellsOf t = (fs.toList.map fun f => P.cellsOf f.type).sum ∧ ∀ (i : Nat) f, fs[i]? = some f → f.offset = ((fs.toList.take i).map fun f => P.cellsOf f.type).sum := by
  have h := fine_of hl hv
  unfold rowFine at h
  rw [hv, ht] at h
  simp only [Bool.not_true, Bool.false_or, Bool.and_eq_true, beq_iff_eq] at h
  obtain ⟨⟨h1, h2⟩, h3⟩ := h
  refine ⟨fun i f hf => List.all_eq_true.1 h1 f (by rw [Array.mem_toList_iff]; exact Array.mem_of_getElem? hf), h2, fun i f hf => ?_⟩
  have hi : i < fs.toList.length := by
    rcases Nat.lt_or_ge i fs.size with q | q
    · simpa using q
    · simp [q] at hf
  have := List.all_eq_true.1 h3 i (by simpa using hi)
  have hf' : fs.toList[i]? = some f := by simpa using hf
  rw [hf'] at this
  simpa using this

theorem fine_array (hl : laidOutB P = true) {t e : TypeId} {n : Nat} (hv : isVar P t = true) (ht : P.underlying t = some (.array n e)) : isVar P e = true ∧ P.cellsOf t = n * P.cellsOf e := by
  have h := fine_of hl hv
  unfold rowFine at h
  rw [hv, ht] at h
  simpa using h
theorem fine_slice (hl : laidOutB P = true) {t e : TypeId} (hv : isVar P t = true) (ht : P.underlying t = some (.slice e)) : isVar P e = true := by
  have h := fine_of hl hv
  unfold rowFine at h
  rw [hv, ht] at h
  simp at h
  exact h.1

theorem cells?_some {a : Addr} {n : Nat} {l : List Value} (h : w.cells? base a n = some l) : l.length = n ∧ ∀ i, i < n → w.cell? (a.add i) = l[i]? := by
  unfold World.cells? at h
  split at h
  · exact ⟨by simpa using mapM_some_length h, fun i hi => mapM_some_get h i i (by simp [hi])⟩
  · cases h

theorem choose_list {α β : Type} {R : Nat → α → β → Prop} : ∀ (l : List α), (∀ (i : Nat) a, l[i]? = some a → ∃ b, R i a b) → ∃ m : List β, m.length = l.length ∧ ∀ (i : Nat) a b, l[i]? = some a → m[i]? = some b → R i a b
  | [], _ => ⟨[], rfl, fun i a b h => by simp at h⟩
  | x :: l, h => by
    obtain ⟨b, hb⟩ := h 0 x rfl
    obtain ⟨m, hm, hr⟩ := choose_list (R := fun i => R (i + 1)) l fun i a ha => h (i + 1) a (by simpa using ha)
    refine ⟨b :: m, by simp [hm], fun i a c ha hc => ?_⟩
    cases i with
    | zero => simp at ha hc; subst ha; subst hc; exact hb
    | succ i => exact hr i a c (by simpa using ha) (by simpa using hc)

theorem trod_oth {fuel : Nat} {t : TypeId} {cs : List Value} {x : DataW H × List MemPlace} (ho : othDesc (P.underlying t) = true) (h : DataW.trod enc P w base spare held fuel t cs = some x) : ∃ v, cs = [v] ∧ v.oneCell' = true := by
  cases fuel with
  | zero => simp [DataW.trod] at h
  | succ n =>
    unfold DataW.trod at h
    split at h <;> rename_i e <;> first
      | exact ⟨_, rfl, rfl⟩
      | (rw [e] at ho; simp [othDesc] at ho)
      | cases h

theorem trod_undef {fuel : Nat} {t : TypeId} {cs : List Value} {x : DataW H × List MemPlace} (h : DataW.trod enc P w base spare held fuel t cs = some x) : P.underlying t ≠ none := by
  intro e
  cases fuel with
  | zero => simp [DataW.trod] at h
  | succ n =>
    unfold DataW.trod at h
    rw [e] at h
    simp at h

theorem trod_CT (hl : laidOutB P = true) (hsp : ∀ b, spare b = true) : ∀ (fuel : Nat) (t : TypeId) (cs : List Value) (x : DataW H × List MemPlace), isVar P t = true → DataW.trod enc P w base spare held fuel t cs = some x →
    ∃ ts, CT P t ts x.1 ∧ CellsVI w (fun b => b < w.heap.size) ts cs := by
  intro fuel
  induction fuel with
  | zero => intro t cs x _ h; simp [DataW.trod] at h
  | succ n ih =>
    intro t cs x hv h
    cases hu : P.underlying t with
    | none => exact absurd hu (trod_undef h)
    | some de =>
      have hoth : othDesc (P.underlying t) = true → ∃ ts, CT P t ts x.1 ∧ CellsVI w (fun b => b < w.heap.size) ts cs := fun ho => by
        obtain ⟨v, rfl, h1⟩ := trod_oth ho h
        exact ⟨[.undef], .oth t _ ho, .one (.undef _) h1⟩
      cases de with
      | bool =>
        unfold DataW.trod at h
        rw [hu] at h
        split at h <;> rename_i e <;> simp at e
        · obtain rfl := Option.some.inj h
          exact ⟨_, .bool t _ hu, .one (.bool _) rfl⟩
        · cases h
      | int k =>
        unfold DataW.trod at h
        rw [hu] at h
        split at h <;> rename_i e <;> simp at e
        · subst e
          split at h
          · rename_i hc
            obtain ⟨rfl, hwf⟩ := hc
            obtain rfl := Option.some.inj h
            exact ⟨_, .int t _ _ hu hwf, .one (.int _ _) rfl⟩
          · cases h
        · cases h
      | string =>
        unfold DataW.trod at h
        rw [hu] at h
        split at h <;> rename_i e <;> simp at e
        · split at h
          · rename_i s hc
            obtain rfl := Option.some.inj h
            exact ⟨_, .str t _ hu (by simpa using hc), .one (.str _ s rfl) rfl⟩
          · cases h
        · cases h
      | struct fs =>
        obtain ⟨xs, m, hm, rfl, hlen, hxl, hget⟩ := DataW.trod_struct hu h
        obtain rfl : n = m := by omega
        obtain ⟨q1, q2, q3⟩ := fine_struct hl hv hu
        obtain ⟨parts, hpl, hpr⟩ := choose_list (α := Field) (β := List T) (R := fun i f p => ∃ y, xs[i]? = some y ∧ CT P f.type p y.1 ∧ CellsVI w (fun b => b < w.heap.size) p ((cs.drop f.offset).take (P.cellsOf f.type))) fs.toList (fun i f hf => by
          have hf : fs[i]? = some f := by simpa using hf
          have hi : i < fs.size := by
            rcases Nat.lt_or_ge i fs.size with q | q
            · exact q
            · simp [q] at hf
          have hx : xs[i]? = some xs[i] := List.getElem?_eq_getElem (by omega)
          obtain ⟨ts, r1, r2⟩ := ih f.type _ xs[i] (q1 i f hf) ((hget i f hf).trans hx)
          exact ⟨ts, xs[i], hx, r1, r2⟩)
        refine ⟨parts.flatten, .struct t fs parts _ hu (by simpa using hpl) (by simpa using hxl) (fun i f p d hf hp hd => ?_), ?_⟩
        · obtain ⟨y, r1, r2, _⟩ := hpr i f p (by simpa using hf) hp
          rw [List.getElem?_map, r1] at hd
          obtain rfl := Option.some.inj hd
          exact r2
        · have hcut := cut_flatten (fs.toList.map fun f => P.cellsOf f.type) cs (by rw [hlen, q2])
          rw [← hcut]
          refine CellsVI.flatten (by simp [hpl]) fun i p q hp hq => ?_
          have hi : i < fs.size := by
            rcases Nat.lt_or_ge i parts.length with r | r
            · simpa [hpl] using r
            · simp [r] at hp
          obtain ⟨y, r1, _, r3⟩ := hpr i fs[i] p (by simp [hi]) hp
          simp only [List.length_map, List.getElem?_map, Array.length_toList] at hq
          rw [List.getElem?_range hi] at hq
          simp only [Option.map_some, Option.some.injEq] at hq
          rw [← hq]
          have hoff := q3 i fs[i] (by simp [hi])
          have hgd : (fs.toList.map fun f => P.cellsOf f.type).getD i 0 = P.cellsOf fs[i].type := by simp [hi]
          rw [hgd, ← List.map_take, ← hoff]
          exact r3
      | array k e =>
        obtain ⟨xs, m, hm, rfl, hlen, hxl, hget⟩ := DataW.trod_array hu h
        obtain rfl : n = m := by omega
        obtain ⟨q1, q2⟩ := fine_array hl hv hu
        obtain ⟨parts, hpl, hpr⟩ := choose_list (α := DataW H × List MemPlace) (β := List T) (R := fun i y p => CT P e p y.1 ∧ CellsVI w (fun b => b < w.heap.size) p ((cs.drop (i * P.cellsOf e)).take (P.cellsOf e))) xs (fun i y hy => by
          have hi : i < k := by
            rcases Nat.lt_or_ge i xs.length with q | q
            · omega
            · simp [q] at hy
          exact ih e _ y q1 ((hget i hi).trans hy))
        refine ⟨parts.flatten, .array t e k parts _ hu (by omega) (by simpa using hxl) (fun i p d hp hd => ?_), ?_⟩
        · rw [List.getElem?_map, Option.map_eq_some_iff] at hd
          obtain ⟨y, hy, rfl⟩ := hd
          exact (hpr i y p hy hp).1
        · have hcut := cut_flatten (List.replicate k (P.cellsOf e)) cs (by rw [hlen, q2]; simp)
          rw [← hcut]
          refine CellsVI.flatten (by simp [hpl, hxl]) fun i p q hp hq => ?_
          have hi : i < k := by
            rcases Nat.lt_or_ge i parts.length with r | r
            · omega
            · simp [r] at hp
          have hy : xs[i]? = some xs[i] := List.getElem?_eq_getElem (by omega)
          have r3 := (hpr i _ p hy hp).2
          simp only [List.length_replicate, List.getElem?_map] at hq
          rw [List.getElem?_range hi] at hq
          simp only [Option.map_some, Option.some.injEq] at hq
          rw [← hq]
          have hgd : (List.replicate k (P.cellsOf e)).getD i 0 = P.cellsOf e := by simp [hi]
          have hsum : (List.take i (List.replicate k (P.cellsOf e))).sum = i * P.cellsOf e := by
            rw [List.take_replicate]
            simp [Nat.min_eq_left (Nat.le_of_lt hi)]
          rw [hgd, hsum]
          exact r3
      | slice e =>
        rcases Nat.eq_zero_or_pos (P.cellsOf e) with hz | hz
        · have hone : ∃ v, cs = [v] ∧ v.oneCell' = true := by
            rcases DataW.trod_slice hu h with ⟨rfl, _⟩ | ⟨a, len, cap, elems, rest, m, hm, rfl, _⟩
            · exact ⟨_, rfl, rfl⟩
            · exact ⟨_, rfl, rfl⟩
          obtain ⟨v, rfl, h1⟩ := hone
          exact ⟨[.undef], .thin t e _ hu hz, .one (.undef _) h1⟩
        rcases DataW.trod_slice hu h with ⟨rfl, rfl⟩ | ⟨a, len, cap, elems, rest, m, hm, rfl, rfl, hb, hle, hcap, hel, hget, hrest, _⟩
        · exact ⟨[.nils], .nils t e hu, .one .nils rfl⟩
        · obtain rfl : n = m := by omega
          have hve := fine_slice hl hv hu
          have hcell : ∀ (j : Nat) y, elems[j]? = some y → ∃ l, w.cells? base (a.add (j * P.cellsOf e)) (P.cellsOf e) = some l ∧ DataW.trod enc P w base spare held n e l = some y := by
            intro j y hy
            have hj : j < len := by
              rcases Nat.lt_or_ge j elems.length with q | q
              · omega
              · simp [q] at hy
            have := hget j hj
            rw [hy] at this
            exact Option.bind_eq_some_iff.1 this
          obtain ⟨parts, hpl, hpr⟩ := choose_list (α := DataW H × List MemPlace) (β := List T) (R := fun j y p => CT P e p y.1 ∧ ∃ l, w.cells? base (a.add (j * P.cellsOf e)) (P.cellsOf e) = some l ∧ CellsVI w (fun b => b < w.heap.size) p l) elems (fun j y hy => by
            obtain ⟨l, h1, h2⟩ := hcell j y hy
            obtain ⟨ts, r1, r2⟩ := ih e l y hve h2
            exact ⟨ts, r1, l, h1, r2⟩)
          have hpart : ∀ j, j < len → ∃ y l, parts[j]? = some (parts.getD j []) ∧ elems[j]? = some y ∧ CT P e (parts.getD j []) y.1 ∧ w.cells? base (a.add (j * P.cellsOf e)) (P.cellsOf e) = some l ∧ CellsVI w (fun b => b < w.heap.size) (parts.getD j []) l := by
            intro j hj
            have hy : elems[j]? = some elems[j] := List.getElem?_eq_getElem (by omega)
            have hp : parts[j]? = some (parts.getD j []) := by simp [show j < parts.length by omega]
            obtain ⟨r1, l, r2, r3⟩ := hpr j _ _ hy hp
            exact ⟨_, l, hp, hy, r1, r2, r3⟩
          have hspot : 0 < len → a.spot = none ∧ a.block < w.heap.size := fun h0 => by
            obtain ⟨y, l, _, _, _, r2, _⟩ := hpart 0 h0
            obtain ⟨_, q2⟩ := cells?_some r2
            have := q2 0 hz
            have hl0 : ∃ v, w.cell? ((a.add (0 * P.cellsOf e)).add 0) = some v := by
              rw [this]
              exact ⟨_, List.getElem?_eq_getElem (by rw [(cells?_some r2).1]; exact hz)⟩
            obtain ⟨v, hv0⟩ := hl0
            unfold World.cell? at hv0
            have hblk : ((a.add (0 * P.cellsOf e)).add 0).block = a.block := by simp [Addr.add]
            rw [hblk] at hv0
            have hs0 : ((a.add (0 * P.cellsOf e)).add 0).spot = a.spot := by
              simp [Addr.add]
            split at hv0
            · rename_i hh
              refine ⟨?_, ?_⟩
              · cases hsp : a.spot with
                | none => rfl
                | some q => rw [hs0, hsp] at hv0; simp at hv0
              · rcases Nat.lt_or_ge a.block w.heap.size with r | r
                · exact r
                · simp [r] at hh
            · cases hv0
          have hspot' : 0 < cap → a.spot = none := fun h0 => by
            rcases Nat.eq_zero_or_pos len with h1 | h1
            · obtain ⟨hr1, hr2⟩ := hrest (hsp _)
              have hr := hr2 0 (by omega)
              have hr0 : rest[0]? = some rest[0] := List.getElem?_eq_getElem (by omega)
              rw [hr0] at hr
              obtain ⟨l, r2, _⟩ := Option.bind_eq_some_iff.1 hr
              obtain ⟨_, q2⟩ := cells?_some r2
              have := q2 0 hz
              obtain ⟨v, hv0⟩ : ∃ v, w.cell? ((a.add ((len + 0) * P.cellsOf e)).add 0) = some v := by
                rw [this]
                exact ⟨_, List.getElem?_eq_getElem (by rw [(cells?_some r2).1]; exact hz)⟩
              unfold World.cell? at hv0
              have hs0 : ((a.add ((len + 0) * P.cellsOf e)).add 0).spot = none → a.spot = none := fun h => by simpa [Addr.add, h1] using h
              split at hv0
              · apply hs0
                split at hv0
                · cases hv0
                · rename_i q
                  simpa using q
              · cases hv0
            · exact (hspot h1).1
          refine ⟨[.view (P.cellsOf e) len (fun j => parts.getD j []) (some cap)], .view t e len cap _ _ _ hu (by simpa using hel) (by simpa using (hrest (hsp _)).1) hle hcap (fun j d hd => ?_), .one ?_ rfl⟩
          · rw [List.getElem?_map, Option.map_eq_some_iff] at hd
            obtain ⟨y, hy, rfl⟩ := hd
            have hj : j < len := by
              rcases Nat.lt_or_ge j elems.length with q | q
              · omega
              · simp [q] at hy
            obtain ⟨y', l, _, r2, r3, _⟩ := hpart j hj
            rw [hy] at r2
            obtain rfl := Option.some.inj r2
            exact r3
          · refine .view (P.cellsOf e) len _ (some cap) a cap (fun j o => (w.cell? ⟨a.block, a.off + j * P.cellsOf e + o, none⟩).getD Go.undef) hspot' (fun m hm => Option.some.inj hm) hle (fun h0 => (hspot h0).2) (fun j hj => ?_) (fun j o c hj ho => ?_) (fun j o c hj ho => ?_)
            all_goals obtain ⟨y, l, r1, r2, r3, r4, r5⟩ := hpart j hj
            all_goals obtain ⟨q1, q2⟩ := cells?_some r4
            · rw [r5.1, q1]
            all_goals
              have ho' : o < P.cellsOf e := by
                rcases Nat.lt_or_ge o (parts.getD j []).length with q | q
                · have := r5.1; omega
                · rw [List.getElem?_eq_none q] at ho; cases ho
              obtain ⟨v, s1, s2, s3⟩ := r5.2 o c ho
              have hadd : (a.add (j * P.cellsOf e)).add o = ⟨a.block, a.off + j * P.cellsOf e + o, none⟩ := by
                have := (hspot (by omega)).1
                cases a with | mk b o s => dsimp only at this; subst this; rw [add_none, add_none]
              have hcv : w.cell? ⟨a.block, a.off + j * P.cellsOf e + o, none⟩ = some v := by rw [← hadd, q2 o ho', s1]
            · rw [hcv]; exact ⟨hcv, s3⟩
            · rw [hcv]; exact s2
      | _ => exact hoth (by rw [hu]; rfl)

/-! ### Arguments -/
/-- A value out of its cells. -/
def topT (P : Program) (t : TypeId) (ts : List T) : T := if aggTy P t then .agg ts else ts.headD .undef

/-- The arguments, as they read. -/
def ATs (P : Program) : List TypeId → List T → List (DataW H) → Prop
  | [], [], [] => True
  | t :: l, x :: xs, d :: ds => (∃ ts, CT P t ts d ∧ x = topT P t ts) ∧ ATs P l xs ds
  | _, _, _ => False

theorem CT.single {t : TypeId} {ts : List T} {d : DataW H} (h : CT P t ts d) (ha : aggTy P t = false) : ∃ x, ts = [x] := by
  cases h with
  | bool => exact ⟨_, rfl⟩
  | int => exact ⟨_, rfl⟩
  | str => exact ⟨_, rfl⟩
  | nils => exact ⟨_, rfl⟩
  | view => exact ⟨_, rfl⟩
  | thin => exact ⟨_, rfl⟩
  | struct _ fs _ _ ht => simp [aggTy, ht] at ha
  | array _ e n _ _ ht => simp [aggTy, ht] at ha
  | oth => exact ⟨_, rfl⟩

theorem okWide_cells {t : TypeId} {v : Value} {r : Reach} {b0 : Nat} (h : Value.okWide P w r b0 t v) (ha : aggTy P t = false) : v.cells = #[v] := by
  have hnot : ∀ u : Value, (∀ cs, u ≠ .agg cs) → (∀ cs, u ≠ .tuple cs) → u.cells = #[u] := fun u h1 h2 => by
    cases u <;> first | rfl | exact absurd rfl (h1 _) | exact absurd rfl (h2 _)
  unfold aggTy at ha
  unfold Value.okWide at h
  refine hnot v (fun cs e => ?_) (fun cs e => ?_)
  all_goals
    subst e
    split at h
    · rename_i hx; rw [hx] at ha; simp at ha
    · rename_i hx; rw [hx] at ha; simp at ha
    · unfold Cell.okWide at h
      split at h
      all_goals first
        | contradiction
        | (rename_i e1; cases e1)
        | (unfold Cell.ok at h; split at h <;> first | contradiction | (rename_i e1; cases e1))

theorem okWide_agg {t : TypeId} {v : Value} {r : Reach} {b0 : Nat} (h : Value.okWide P w r b0 t v) (ha : aggTy P t = true) : ∃ cs, v = .agg cs := by
  unfold aggTy at ha
  unfold Value.okWide at h
  cases hu : P.underlying t with
  | none => rw [hu] at ha; simp at ha
  | some de =>
    rw [hu] at ha h
    cases de <;> simp at ha
    all_goals
      obtain ⟨cs, e, _⟩ := h
      exact ⟨cs, e⟩

theorem top_VI {U : Nat → Prop} {t : TypeId} {v : Value} {ts : List T} {d : DataW H} {r : Reach} {b0 : Nat} (hct : CT P t ts d) (hc : CellsVI w U ts v.cells.toList) (hok : Value.okWide P w r b0 t v) : VI w U (topT P t ts) v := by
  unfold topT
  cases ha : aggTy P t with
  | true =>
    obtain ⟨cs, rfl⟩ := okWide_agg hok ha
    have hcs : (Value.agg cs).cells.toList = cs.toList := rfl
    rw [hcs] at hc
    have hlen : ts.length = cs.size := by simpa using hc.1
    simp only [if_true]
    refine VI.mk_agg hlen (fun i u hu => ?_) (fun i c hi => ?_)
    · have hi : i < ts.length := by
        rcases Nat.lt_or_ge i cs.size with q | q
        · omega
        · simp [q] at hu
      obtain ⟨v, h1, _, h3⟩ := hc.2 i ts[i] (by simp [hi])
      have h1 : cs[i]? = some v := by simpa using h1
      rw [hu] at h1
      obtain rfl := Option.some.inj h1
      exact h3
    · obtain ⟨v, h1, h2, _⟩ := hc.2 i c hi
      exact ⟨v, by simpa using h1, h2⟩
  | false =>
    obtain ⟨x, rfl⟩ := hct.single ha
    have e := okWide_cells hok ha
    rw [e] at hc
    obtain ⟨v', h1, h2, _⟩ := hc.2 0 x rfl
    simp at h1
    subst h1
    simpa using h2

theorem args_CT (hl : laidOutB P = true) (hsp : ∀ b, spare b = true) : ∀ (params : List TypeId) (args : List Value) (ds : List (DataW H)) (ps : List MemPlace), (∀ t ∈ params, isVar P t = true) →
    (∀ (j : Nat) t v, params[j]? = some t → args[j]? = some v → Value.okWide P w .any base t v) → DataW.TrodAll enc P w 0 spare held params args ds ps →
    ∃ xs, ATs P params xs ds ∧ xs.length = args.length ∧ ∀ (i : Nat) x, xs[i]? = some x → ∃ v, args[i]? = some v ∧ VI w (fun b => b < w.heap.size) x v
  | [], args, ds, ps, _, _, h => by
    obtain ⟨rfl, rfl, rfl⟩ := trodAll_nil h
    exact ⟨[], trivial, rfl, fun i x hx => by simp at hx⟩
  | t :: params, args, ds, ps, hv, hok, h => by
    obtain ⟨v, vs, d, ds', a, b, rfl, rfl, rfl, h1, h2⟩ := trodAll_cons h
    obtain ⟨fuel, h1⟩ := h1
    obtain ⟨ts, q1, q2⟩ := trod_CT hl hsp fuel t _ _ (hv t (by simp)) h1
    obtain ⟨xs, r1, r2, r3⟩ := args_CT hl hsp params vs ds' b (fun t ht => hv t (by simp [ht])) (fun j t v ht hv => hok (j + 1) t v (by simpa using ht) (by simpa using hv)) h2
    refine ⟨topT P t ts :: xs, ⟨⟨ts, q1, rfl⟩, r1⟩, by simp [r2], fun i x hx => ?_⟩
    cases i with
    | zero =>
      simp only [List.getElem?_cons_zero, Option.some.injEq] at hx
      subst hx
      exact ⟨v, rfl, top_VI q1 q2 (hok 0 t v rfl rfl)⟩
    | succ i => exact r3 i x (by simpa using hx)

/-! ### Package-level variables -/
/-- The cells of a datum of a flat type. -/
def toT (P : Program) : Nat → TypeId → DataW H → Option (List T)
  | 0, _, _ => none
  | n + 1, t, d => match P.underlying t, d with
    | some .bool, .lit (.bool b) => some [.bool b]
    | some (.int _), .lit (.int k m) => some [.int k m]
    | some .string, .lit (.string s) => some [.str s]
    | some (.array _ e), .agg ds => (ds.mapM (toT P n e)).map List.flatten
    | _, _ => none

theorem CT_toT : ∀ (n : Nat) {t : TypeId} {ts ts' : List T} {d : DataW H}, toT P n t d = some ts' → CT P t ts d → ts = ts'
  | 0, t, ts, ts', d, h, _ => by cases h
  | n + 1, t, ts, ts', d, h, hc => by
    unfold toT at h
    cases hc with
    | bool _ b ht => simp [ht] at h; exact h
    | int _ k m ht => simp [ht] at h; exact h
    | str _ s ht => simp [ht] at h; exact h
    | nils _ e ht => simp [ht] at h
    | view _ e m c g l sp ht => simp [ht] at h
    | thin _ e _ ht => simp [ht] at h
    | struct _ fs parts ds ht => simp [ht] at h
    | array _ e m parts ds ht h1 h2 hp =>
      simp only [ht, Option.map_eq_some_iff] at h
      obtain ⟨l, hm, rfl⟩ := h
      have hll := mapM_some_length hm
      congr 1
      apply List.ext_getElem?
      intro i
      rcases Nat.lt_or_ge i m with hi | hi
      · have e1 : parts[i]? = some parts[i] := List.getElem?_eq_getElem (by omega)
        have e2 : ds[i]? = some ds[i] := List.getElem?_eq_getElem (by omega)
        have e3 := mapM_some_get hm i _ e2
        have e4 : l[i]? = some l[i] := List.getElem?_eq_getElem (by omega)
        rw [e4] at e3
        rw [e1, e4, CT_toT n e3 (hp i _ _ e1 e2)]
      · rw [List.getElem?_eq_none (by omega), List.getElem?_eq_none (by omega)]
    | oth _ _ ht =>
      exfalso
      cases hu : P.underlying t with
      | none => rw [hu] at h; cases h
      | some de =>
        rw [hu] at h ht
        cases de <;> simp [othDesc] at ht h

theorem laidVars_mem {laid : List (String × DataW Unit)} {ps : List MemPlace} (h : DataW.LaidVars P w laid ps) {name : String} {d : DataW Unit} (hm : (name, d) ∈ laid) :
    ∃ g t cs fuel p, P.globalNamed name = some g ∧ (P.globals[g]?).map (·.type) = some t ∧ w.var? P name = some cs ∧ DataW.trod (fun _ => ()) P w 0 (fun _ => true) false fuel t cs.toList = some (d, p) := by
  induction laid generalizing ps with
  | nil => cases hm
  | cons x l ih =>
    obtain ⟨n, d'⟩ := x
    obtain ⟨g, t, cs, fuel, p, q, h1, h2, h3, h4, h5, _⟩ := h
    rcases List.mem_cons.1 hm with e | e
    · obtain ⟨rfl, rfl⟩ := Prod.mk.inj e
      exact ⟨g, t, cs, fuel, p, h1, h2, h3, h4⟩
    · exact ih h5 e

/-- The table of the package-level variables that are told. -/
def gOf : List (Nat × List T) → Nat → Option (List T)
  | [], _ => none
  | (g, c) :: l, x => bif x == g then some c else gOf l x

/-- It is what the row lists. -/
def GL (P : Program) (laid : List (String × DataW Unit)) : List (Nat × List T) → Prop
  | [] => True
  | (g, c) :: l => (∃ name d t, P.globalNamed name = some g ∧ (P.globals[g]?).map (·.type) = some t ∧ isVar P t = true ∧ (name, d) ∈ laid ∧ toT P 8 t d = some c) ∧ GL P laid l

theorem globOk_of (hl : laidOutB P = true) {laid : List (String × DataW Unit)} (hm : laidMet P laid w) : ∀ {l : List (Nat × List T)}, GL P laid l → GlobOk (gOf l) w (fun b => b < w.heap.size)
  | [], _ => fun g c h => by cases h
  | (g, c) :: l, ⟨⟨name, d, t, h1, h2, h3, h4, h5⟩, hr⟩ => fun gl cells h => by
    simp only [gOf] at h
    rcases bif_some h with ⟨he, hcc⟩ | ⟨_, hcc⟩
    · clear hr h
      have he : gl = g := by simpa using he
      subst he
      obtain rfl := Option.some.inj hcc
      obtain ⟨ps, hlv, _, _⟩ := hm
      obtain ⟨g', t', cs, fuel, p, q1, q2, q3, q4⟩ := laidVars_mem hlv h4
      obtain rfl := Option.some.inj (q1.symm.trans h1)
      obtain rfl := Option.some.inj (h2.symm.trans q2)
      obtain ⟨ts, r1, r2⟩ := trod_CT hl (fun _ => rfl) fuel t cs.toList _ h3 q4
      obtain rfl := CT_toT 8 h5 r1
      have hcell : ∀ (i : Nat) v, cs[i]? = some v → w.cell? ⟨g', i, none⟩ = some v := fun i v hi => World.var?_cell q1 q3 i |>.trans hi
      refine .vp _ ⟨g', 0, none⟩ (fun o => cs.getD o Go.undef) rfl (fun h0 => ?_) (fun o c ho => ?_) (fun o c ho => ?_)
      · obtain ⟨v, s1, _, _⟩ := r2.2 0 ts[0] (by simp [h0])
        have := hcell 0 v (by simpa using s1)
        unfold World.cell? at this
        split at this
        · rename_i hh
          rcases Nat.lt_or_ge g' w.heap.size with r | r
          · exact r
          · simp [r] at hh
        · cases this
      all_goals
        obtain ⟨v, s1, s2, s3⟩ := r2.2 o c ho
        have s1 : cs[o]? = some v := by simpa using s1
        have hg : cs.getD o Go.undef = v := by simp [Array.getD_eq_getD_getElem?, s1]
        rw [hg]
      · exact ⟨by simpa using hcell o v s1, s3⟩
      · exact s2
    · exact globOk_of hl hm hr gl cells hcc

/-! ### A law's contract -/
theorem trodAll_below (hl : laidOutB P = true) {W W' : World} (hb : RowKit.Below W.heap.size W W') :
    ∀ {params : List TypeId} {args : List Value} {ds : List (DataW H)} {ps : List MemPlace}, (∀ t ∈ params, P.readableRec t = true ∧ t < P.types.size) → (∀ x ∈ ps, x.block < W.heap.size) →
      DataW.TrodAll enc P W 0 (fun _ => true) true params args ds ps → DataW.TrodAll enc P W' 0 (fun b => decide (b < W.heap.size)) true params args ds ps
  | [], _, _, _, _, _, h => by
    obtain ⟨rfl, rfl, rfl⟩ := trodAll_nil h
    exact trodAll_mk0
  | t :: params, _, _, _, hp, hlt, h => by
    obtain ⟨v, vs, d, ds', a, b, rfl, rfl, rfl, h1, h2⟩ := trodAll_cons h
    refine trodAll_cons_mk (Below.trod hl (hp t (by simp)).1 (hp t (by simp)).2 h1 hb fun x hx => hlt x (by simp [hx])) (trodAll_below hl hb (fun t ht => hp t (by simp [ht])) (fun x hx => hlt x (by simp [hx])) h2)

/-- What a law's function answers, as its row says it. -/
theorem contract_of {G : Nat → Option (List T)} (_hm : P.follows .mixedOrders = true) (_hn : namesOk P = true) (hl : laidOutB P = true) {f : FuncId} {fn : Func} {spec : ChangeSpec} (hvars : spec.vars = [])
    (hfn : ∀ ds : List (DataW H), ds.length = fn.params.size → spec.fn H ds = { results := [.lit (.bool true)], args := ds }) {tb : TypeId} (hres : fn.resultTypes = #[tb]) (htb : P.underlying tb = some .bool)
    (hps : ∀ t ∈ fn.params.toList, isVar P t = true ∧ P.readableRec t = true) {W : World} {args : Array Value} {ds gs : List (DataW H)} {before : List MemPlace}
    (hval : ∀ (j : Nat) t v, fn.params[j]? = some t → args[j]? = some v → Value.okWide P W .any base t v)
    (hW : DataW.Whole enc P fn.params.toList spec.vars false W args.toList ds gs before) (hG : GlobOk G W (fun b => b < W.heap.size))
    (hlaw : ∀ xs, ATs P fn.params.toList xs ds → ∃ ys, Sims xs ys ∧ ToldOk P G f ys (.bool true)) :
    Calls P f args W fun e W' => ∃ v, e = .returned v ∧ spec.post enc P fn false true false false W args v W' := by
  have hW' := hW
  obtain ⟨p, q, hA, hV, rfl, hfz, hnd⟩ := hW
  have hV0 : gs = [] ∧ q = [] := by
    rw [hvars] at hV
    exact trodVars_none hV
  obtain ⟨rfl, rfl⟩ := hV0
  obtain ⟨xs, h1, h2, h3⟩ := args_CT hl (fun _ => rfl) fn.params.toList args.toList ds p (fun t ht => (hps t ht).1) (fun j t v ht hv => hval j t v (by simpa using ht) (by simpa using hv)) hA
  obtain ⟨ys, hsim, hval2⟩ := hlaw xs h1
  refine (hval2.calls W _ args (fun b hb => hb) hG ⟨by rw [← hsim.1]; simpa using h2, fun i x hx => ?_⟩).mono fun e W' ⟨v, he, hrv⟩ => ⟨v, he, ?_⟩
  · obtain ⟨y, hy, hs⟩ := hsim.get hx
    obtain ⟨v, q1, q2⟩ := h3 i y hy
    exact ⟨v, by simpa using q1, hs _ _ _ q2⟩
  · obtain ⟨hbelow, U', X, _, _, _, _, hrt⟩ := hrv
    obtain rfl : v = .bool true := by
      simp only [RT2, RT1] at hrt
      cases hrt with
      | vi _ _ hv => cases hv; rfl
    have hlen : ds.length = fn.params.size := by
      have : ∀ (params : List TypeId) (xs : List T) (ds : List (DataW H)), ATs P params xs ds → ds.length = params.length := by
        intro params
        induction params with
        | nil => intro xs ds h; cases xs <;> cases ds <;> simp_all [ATs]
        | cons t l ih =>
          intro xs ds h
          cases xs with
          | nil => cases ds <;> simp [ATs] at h
          | cons x xs =>
            cases ds with
            | nil => simp [ATs] at h
            | cons d ds => simp only [List.length_cons]; rw [ih xs ds h.2]
      simpa using this _ _ _ h1
    have hspec := hfn (ds ++ []) (by simpa using hlen)
    have hlt := hW'.lt
    refine ⟨ds, [], p ++ [], [], p, [], hW', ?_, ?_, ?_, hbelow.frame _, fun h => by cases h⟩
    · rw [hspec, hres]
      exact trodAll_cons_mk (shut_bool htb true) trodAll_mk0
    · rw [hspec]
      simp only [List.append_nil]
      exact trodAll_below hl hbelow (fun t ht => ⟨(hps t ht).2, by have := (hps t ht).1; simp only [isVar, Bool.and_eq_true, decide_eq_true_eq] at this; exact this.1⟩) (fun x hx => hlt x (by simpa using hx)) hA
    · rw [hvars, hspec]
      rfl
end
end Go.Ab

