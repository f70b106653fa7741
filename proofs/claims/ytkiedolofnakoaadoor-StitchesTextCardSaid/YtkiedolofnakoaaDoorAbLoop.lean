/- Loops that are told by what they do. -/
import Derived.Test.YtkiedolofnakoaaDoorAbNorm
namespace Go.Ab

/-- What is told of a loop from some state on. -/
inductive LT where
  | none
  | ret (e : Ex) (vs : List T) (h : Heap)
  | ite (c : Bool) (x y : LT)
def LT.run {R : Type} : LT → (Ex → List T → Heap → Option R) → Option R
  | .none, _ => Option.none
  | .ret e vs h, k => k e vs h
  | .ite c x y, k => bif c then x.run k else y.run k
theorem LT.det : ∀ t : LT, Det (A := Ex × List T × Heap) fun R k => t.run (R := R) fun e vs h => k (e, vs, h)
  | .none => det_none
  | .ret e vs h => det_ret (e, vs, h)
  | .ite c x y => det_bif c x.det y.det

/-- The body of a function's loop, by its first region. -/
def bodyAt (P : Program) (f : FuncId) (r : Nat) : Code := match P.funcs[f]? with
  | some fn => match fn.body with
    | some c => ((loopsOf c).find? fun b => firstReg b == r).getD .skip
    | none => .skip
  | none => .skip

def nodupN : List Nat → Bool
  | [] => true
  | a :: l => !(l.contains a) && nodupN l
/-- A function's loops begin with different regions. -/
def loopsApart (P : Program) (f : FuncId) : Bool := match P.funcs[f]? with
  | some fn => match fn.body with
    | some c => nodupN ((loopsOf c).map firstReg)
    | none => true
  | none => true

/-- Loops that are told, by their first regions; the others as before. -/
def recWith : List (Nat × (List T → Heap → LT)) → (Func → Rec) → Func → Rec
  | [], base, fn, R, b, vs, h, k => base fn R b vs h k
  | (r, spec) :: l, base, fn, R, b, vs, h, k => bif firstReg b == r then (spec vs h).run k else recWith l base fn R b vs h k

section
variable {P : Program} {K : Orc} {Gl : Nat → Option (List T)} {A : FuncId → Ann}

/-- What is told of a loop is so. -/
def LoopOk (P : Program) (Gl : Nat → Option (List T)) (an : Ann) (f : FuncId) (r : Nat) (spec : List T → Heap → LT) : Prop :=
  ∀ fn, P.funcs[f]? = some fn → fn.ntmps ≤ 1024 → ∀ vs h e vs' h', (spec vs h).run (fun e vs h => some (e, vs, h)) = some (e, vs', h') →
    CodeGoes P Gl an.prom fn.ntmps (.loop (bodyAt P f r)) (mkSt (an.live r false) vs h) e (mkSt (an.live r true) vs' h')

theorem LoopOk.assume {an : Ann} {f : FuncId} {r : Nat} {spec : List T → Heap → LT} (h : LoopOk P Gl an f r spec) (l : List (Nat × Nat × Bool)) (hr : Nat.ble 2000000 r = false) : LoopOk P Gl (an.assume l) f r spec := by
  intro fn hf hnt vs hp e vs' h' hk
  have := h fn hf hnt vs hp e vs' h' hk
  simpa only [Ann.assume, hr, cond_false] using this

theorem recWith_det {base : Func → Rec} (hb : ∀ fn, RecDet (base fn)) : ∀ (l : List (Nat × (List T → Heap → LT))) (fn : Func), RecDet (recWith l base fn)
  | [], fn => hb fn
  | (r, spec) :: l, fn => fun b vs h => by
    simp only [recWith]
    exact det_bif _ (spec vs h).det (recWith_det hb l fn b vs h)

theorem nodupN_at : ∀ {l : List Code} {b : Code}, nodupN (l.map firstReg) = true → b ∈ l → l.find? (fun x => firstReg x == firstReg b) = some b
  | [], b, _, h => by cases h
  | a :: l, b, hn, h => by
    simp only [List.map_cons, nodupN, Bool.and_eq_true, Bool.not_eq_true'] at hn
    rcases List.mem_cons.1 h with rfl | h
    · simp
    · have hne : firstReg a ≠ firstReg b := fun e => by
        have : firstReg a ∈ l.map firstReg := by rw [e]; exact List.mem_map_of_mem h
        have h2 : (l.map firstReg).contains (firstReg a) = true := List.contains_iff_mem.2 this
        rw [h2] at hn
        cases hn.1
      rw [List.find?_cons_of_neg (by simpa using hne)]
      exact nodupN_at hn.2 h

theorem bodyAt_of {f : FuncId} {fn : Func} {c b : Code} (ha : loopsApart P f = true) (hf : P.funcs[f]? = some fn) (hb : fn.body = some c) (h : b ∈ loopsOf c) : bodyAt P f (firstReg b) = b := by
  unfold loopsApart at ha
  rw [hf] at ha
  dsimp only at ha
  rw [hb] at ha
  unfold bodyAt
  rw [hf]
  dsimp only
  rw [hb]
  dsimp only
  rw [nodupN_at ha h]
  rfl

theorem recWith_ok {f : FuncId} (ha : loopsApart P f = true) {base : Func → Rec} (hbd : ∀ fn, RecDet (base fn)) (hb : RecsOk P Gl A f base) :
    ∀ {l : List (Nat × (List T → Heap → LT))}, (∀ p ∈ l, LoopOk P Gl (A f) f p.1 p.2) → RecsOk P Gl A f (recWith l base)
  | [], _ => hb
  | (r, spec) :: l, hl => by
    intro fn c hf hc hnt
    have ih := recWith_ok ha hbd hb (l := l) (fun p hp => hl p (by simp [hp])) fn c hf hc hnt
    refine ⟨recWith_det hbd _ fn, fun b vs h e vs' h' hS hk => ?_⟩
    simp only [recWith] at hk
    rcases bif_some hk with ⟨hr, hk⟩ | ⟨_, hk⟩
    · have hr : firstReg b = r := by simpa using hr
      have := hl (r, spec) (by simp) fn hf hnt vs h e vs' h' hk
      dsimp only at this
      rw [← hr, bodyAt_of ha hf hc hS] at this
      exact this
    · exact ih.2 b vs h e vs' h' hS hk

/-- One call, some loops told. -/
def stepL (P : Program) (G : Nat → Option (List T)) (A : FuncId → Ann) (K : Orc) (m : Nat) (f : FuncId) (l : List (Nat × (List T → Heap → LT))) (args : List T) : Option T :=
  runR P G A K (recWith l (recN P G A K m f)) f args [] fun v h' => some (give h' v)
def stepLC (P : Program) (G : Nat → Option (List T)) (A : FuncId → Ann) (K : Orc) (m : Nat) (f : FuncId) (l : List (Nat × (List T → Heap → LT))) (args : List T) : Option T :=
  runR P G A K (recWith l (recN P G A K m f)) f args [] fun v h' => some (canonT (give h' v))

/-- What is told of one call. -/
def Told (P : Program) (Gl : Nat → Option (List T)) (f : FuncId) (args : List T) (r : T) : Prop :=
  ∀ (w : World) (U : Nat → Prop) (cargs : Array Value), (∀ b, U b → b < w.heap.size) → GlobOk Gl w U → ArgsVI w U args cargs →
    (∃ fn, P.funcs[f]? = some fn ∧ fn.body.isNone = false ∧ (fn.name == "runtime.NumGoroutine") = false) ∧ Calls P f cargs w fun e w' => ∃ v, e = .returned v ∧ RV w U r v w'

/-- What is told of one call is so, and there is such a function. -/
structure ToldOk (P : Program) (Gl : Nat → Option (List T)) (f : FuncId) (args : List T) (r : T) : Prop where
  enters : ∃ fn, P.funcs[f]? = some fn ∧ fn.body.isNone = false ∧ (fn.name == "runtime.NumGoroutine") = false
  calls : ∀ (w : World) (U : Nat → Prop) (cargs : Array Value), (∀ b, U b → b < w.heap.size) → GlobOk Gl w U → ArgsVI w U args cargs →
    Calls P f cargs w fun e w' => ∃ v, e = .returned v ∧ RV w U r v w'

theorem stepL_told (hm : P.follows .mixedOrders = true) (hn : namesOk P = true) (hK : OrcOk P Gl K) {m : Nat} {f : FuncId} (ha : loopsApart P f = true) {l : List (Nat × (List T → Heap → LT))}
    (hl : ∀ p ∈ l, LoopOk P Gl (A f) f p.1 p.2) {args : List T} {r : T} (h : stepL P Gl A K m f l args = some r) : ToldOk P Gl f args r :=
  ⟨runR_enters hn h, fun _ _ _ hU hgl hargs => runR_val hm hK (recWith_det (recN_det P Gl A K m f) l) (recWith_ok ha (recN_det P Gl A K m f) (recN_ok hm hK m f) hl) h hU hgl hargs⟩

theorem stepLC_told (hm : P.follows .mixedOrders = true) (hn : namesOk P = true) (hK : OrcOk P Gl K) {m : Nat} {f : FuncId} (ha : loopsApart P f = true) {l : List (Nat × (List T → Heap → LT))}
    (hl : ∀ p ∈ l, LoopOk P Gl (A f) f p.1 p.2) {args : List T} {r : T} (h : stepLC P Gl A K m f l args = some r) : ToldOk P Gl f args r := by
  obtain ⟨⟨v, h'⟩, h1, h2⟩ := det_some (runR_det (P := P) (K := K) (Gl := Gl) (A := A) (recWith_det (recN_det P Gl A K m f) l) f args []) (k := fun p => some (canonT (give p.2 p.1))) h
  have hr := (Option.some.inj h1).symm
  have t := stepL_told hm hn hK (m := m) ha hl (h2 T fun p => some (give p.2 p.1))
  subst hr
  exact ⟨t.enters, fun w U cargs hU hgl hargs => (t.calls w U cargs hU hgl hargs).mono fun e w' ⟨v, q1, q2⟩ => ⟨v, q1, q2.canon⟩⟩

theorem stepV_told (hm : P.follows .mixedOrders = true) (hn : namesOk P = true) (hK : OrcOk P Gl K) {m : Nat} {f : FuncId} {args : List T} {r : T} (h : stepV P Gl A K m f args = some r) : ToldOk P Gl f args r :=
  ⟨runR_enters hn h, fun _ _ _ hU hgl hargs => runR_val hm hK (recN_det P Gl A K m f) (recN_ok hm hK m f) h hU hgl hargs⟩
theorem stepC_told (hm : P.follows .mixedOrders = true) (hn : namesOk P = true) (hK : OrcOk P Gl K) {m : Nat} {f : FuncId} {args : List T} {r : T} (h : stepC P Gl A K m f args = some r) : ToldOk P Gl f args r := by
  obtain ⟨r0, h0, rfl⟩ := stepC_some h
  have t := stepV_told hm hn hK h0
  exact ⟨t.enters, fun w U cargs hU hgl hargs => (t.calls w U cargs hU hgl hargs).mono fun e w' ⟨v, q1, q2⟩ => ⟨v, q1, q2.canon⟩⟩

/-- One more function in the table. -/
theorem told_add {K' : Orc} (hK' : OrcOk P Gl K') {f : FuncId} {spec : List T → Tree} (hs : ∀ args r, (spec args).run some = some r → ToldOk P Gl f args r) : OrcOk P Gl (K'.add f spec) := by
  refine ⟨fun e hx => ?_, fun e args r hx w U cargs hU hgl ha => ?_, hK'.ref⟩
  · rcases hx with ⟨args, r, hx⟩ | hx
    · simp only [Orc.add] at hx
      rcases bif_some hx with ⟨he, hy⟩ | ⟨_, hy⟩
      · have he : e = f := by simpa using he
        subst he
        exact (hs args r hy).enters
      · exact hK'.enters e (.inl ⟨args, r, hy⟩)
    · exact hK'.enters e (.inr hx)
  · simp only [Orc.add] at hx
    rcases bif_some hx with ⟨he, hy⟩ | ⟨_, hy⟩
    · have he : e = f := by simpa using he
      subst he
      exact (hs args r hy).calls w U cargs hU hgl ha
    · exact hK'.val e args r hy w U cargs hU hgl ha
/-- A table that tells one function alone. -/
theorem told_one {f : FuncId} {args : List T} {r : T} (h : ToldOk P Gl f args r) {w : World} {U : Nat → Prop} {cargs : Array Value} (hU : ∀ b, U b → b < w.heap.size) (hgl : GlobOk Gl w U) (ha : ArgsVI w U args cargs) :
    Calls P f cargs w fun e w' => ∃ v, e = .returned v ∧ RV w U r v w' := h.calls w U cargs hU hgl ha

/-- One round of a loop: how it ends, the values that live on, the own blocks. -/
def iterR (P : Program) (G : Nat → Option (List T)) (A : FuncId → Ann) (K : Orc) (m : Nat) (f : FuncId) (l : List (Nat × (List T → Heap → LT))) (r : Nat) (vs : List T) (h : Heap) : Option (Ex × List T × Heap) :=
  match P.funcs[f]? with
  | some fn => exK P K G (A f).prom fn.ntmps (A f).live (recWith l (recN P G A K m f) fn) (bodyAt P f r) (mkSt ((A f).live r false) vs h) fun e s' => match e with
    | .normal => some (.normal, getL s' ((A f).live r false), s'.h)
    | e => some (e, getL s' ((A f).live r true), s'.h)
  | none => none

/-- There is such a loop. -/
def loopAt (P : Program) (f : FuncId) (r : Nat) : Bool := match P.funcs[f]? with
  | some fn => match fn.body with
    | some c => nodupN ((loopsOf c).map firstReg) && (loopsOf c).any fun b => firstReg b == r
    | none => false
  | none => false

theorem loopsOf_trans : ∀ (c : Code) {b d : Code}, b ∈ loopsOf c → d ∈ loopsOf b → d ∈ loopsOf c
  | .seq x y, b, d, hb, hd => by
    simp only [loopsOf, List.mem_append] at hb ⊢
    rcases hb with hb | hb
    · exact .inl (loopsOf_trans x hb hd)
    · exact .inr (loopsOf_trans y hb hd)
  | .cond _ x y, b, d, hb, hd => by
    simp only [loopsOf, List.mem_append] at hb ⊢
    rcases hb with hb | hb
    · exact .inl (loopsOf_trans x hb hd)
    · exact .inr (loopsOf_trans y hb hd)
  | .block _ x, b, d, hb, hd => by
    simp only [loopsOf] at hb ⊢
    exact loopsOf_trans x hb hd
  | .loop x, b, d, hb, hd => by
    simp only [loopsOf, List.mem_cons] at hb ⊢
    rcases hb with rfl | hb
    · exact .inr hd
    · exact .inr (loopsOf_trans x hb hd)
  | .skip, _, _, hb, _ => by simp [loopsOf] at hb
  | .label _, _, _, hb, _ => by simp [loopsOf] at hb
  | .region .., _, _, hb, _ => by simp [loopsOf] at hb
  | .exit _, _, _, hb, _ => by simp [loopsOf] at hb
  | .ret, _, _, hb, _ => by simp [loopsOf] at hb
  | .scope _, _, _, hb, _ => by simp [loopsOf] at hb
  | .goto _, _, _, hb, _ => by simp [loopsOf] at hb
  | .refuse _, _, _, hb, _ => by simp [loopsOf] at hb
  | .rangeFunc .., _, _, hb, _ => by simp [loopsOf] at hb

theorem loopAt_of {f : FuncId} {r : Nat} (ha : loopAt P f r = true) {fn : Func} (hf : P.funcs[f]? = some fn) : loopsApart P f = true ∧ ∃ c, fn.body = some c ∧ bodyAt P f r ∈ loopsOf c ∧ firstReg (bodyAt P f r) = r := by
  unfold loopAt at ha
  rw [hf] at ha
  dsimp only at ha
  cases hb : fn.body with
  | none => rw [hb] at ha; cases ha
  | some c =>
    rw [hb] at ha
    simp only [Bool.and_eq_true] at ha
    obtain ⟨h1, h2⟩ := ha
    rw [List.any_eq_true] at h2
    obtain ⟨b, hbm, hbr⟩ := h2
    have hbr : firstReg b = r := by simpa using hbr
    have hap : loopsApart P f = true := by unfold loopsApart; rw [hf]; dsimp only; rw [hb]; exact h1
    have e := bodyAt_of hap hf hb hbm
    rw [hbr] at e
    exact ⟨hap, c, rfl, by rw [e]; exact hbm, by rw [e]; exact hbr⟩

/-- A loop by its rounds: as long as a number falls. What is known, and what is assumed, may differ from round to round. -/
theorem loop_told (hm : P.follows .mixedOrders = true) {f : FuncId} {r : Nat} (ha : loopAt P f r = true)
    {an : Ann} (I : Nat → List T → Heap → Prop) {e1 : Ex} {vs1 : List T} {h1 : Heap}
    (round : ∀ n vs h, I n vs h → ∃ (A : FuncId → Ann) (K : Orc) (m : Nat) (l : List (Nat × (List T → Heap → LT))), OrcOk P Gl K ∧ (A f).prom = an.prom ∧ (A f).live r = an.live r ∧ (∀ p ∈ l, LoopOk P Gl (A f) f p.1 p.2) ∧
      ∃ e vs' h', iterR P Gl A K m f l r vs h = some (e, vs', h') ∧ ((e = .normal ∧ ∃ j, j < n ∧ I j vs' h') ∨ (e ≠ .normal ∧ e = e1 ∧ vs' = vs1 ∧ h' = h1)))
    {n : Nat} {vs : List T} {h : Heap} (hI : I n vs h) {fn : Func} (hf : P.funcs[f]? = some fn) (hnt : fn.ntmps ≤ 1024) :
    CodeGoes P Gl an.prom fn.ntmps (.loop (bodyAt P f r)) (mkSt (an.live r false) vs h) e1 (mkSt (an.live r true) vs1 h1) := by
  obtain ⟨hap, c, hb, hmem, hfr⟩ := loopAt_of ha hf
  intro g0 a0 w0 hs0 Q hn
  refine wp_loop_num (fun j a w => ∃ vs' h' g, I j vs' h' ∧ SR Gl an.prom fn.ntmps g (mkSt (an.live r false) vs' h') a w ∧ FrC g0 h w0 g h' w) (fun j a w hJ => ?_) n a0 w0 ⟨vs, h, g0, hI, hs0, FrC.refl _ _ _⟩
  obtain ⟨vs', h', g, hI, hs, hf0⟩ := hJ
  obtain ⟨A, K, m, l, hK, hp, hlive, hl, e, vs2, h2, hit, hcase⟩ := round j vs' h' hI
  unfold iterR at hit
  rw [hf] at hit
  dsimp only at hit
  have hrec := recWith_ok (A := A) hap (recN_det P Gl A K m f) (recN_ok hm hK m f) hl fn c hf hb hnt
  obtain ⟨e', s', hk2, hgo⟩ := exK_goes hm hK hnt hrec (bodyAt P f r) (fun b hb' => loopsOf_trans c hmem hb') hit
  rw [hp, hlive] at hgo
  rw [hlive] at hk2
  refine hgo g a w hs _ fun a' w' g' hs' hf' => ?_
  cases e' with
  | normal =>
    simp only [Option.some.injEq, Prod.mk.injEq] at hk2
    obtain ⟨rfl, rfl, rfl⟩ := hk2
    rcases hcase with ⟨_, i, hi, hI'⟩ | ⟨hne, _⟩
    · exact ⟨i, hi, _, _, g', hI', hs'.only _, hf0.trans hf'⟩
    · exact absurd rfl hne
  | exit i =>
    simp only [Option.some.injEq, Prod.mk.injEq] at hk2
    obtain ⟨rfl, rfl, rfl⟩ := hk2
    rcases hcase with ⟨hne, _⟩ | ⟨_, rfl, rfl, rfl⟩
    · cases hne
    · exact hn a' w' g' (hs'.only _) (hf0.trans hf')
  | ret =>
    simp only [Option.some.injEq, Prod.mk.injEq] at hk2
    obtain ⟨rfl, rfl, rfl⟩ := hk2
    rcases hcase with ⟨hne, _⟩ | ⟨_, rfl, rfl, rfl⟩
    · cases hne
    · exact hn a' w' g' (hs'.only _) (hf0.trans hf')
end
end Go.Ab
