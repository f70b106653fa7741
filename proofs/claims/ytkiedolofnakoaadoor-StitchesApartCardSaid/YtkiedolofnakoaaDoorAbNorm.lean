/- Results in a normal form: the elements of a fresh slice as a list. -/
import Derived.Test.YtkiedolofnakoaaDoorAbBody
namespace Go.Ab

def tabG (n : Nat) (g : Nat → List T) : Nat → List T := fun j => ((List.range n).map g).getD j []
theorem tabG_eq {n : Nat} {g : Nat → List T} {j : Nat} (h : j < n) : tabG n g j = g j := by
  simp [tabG, h]

def canon0 : T → T
  | .fresh flat sz n g len cap => .fresh flat sz n (tabG n g) len cap
  | x => x
def canon1 : T → T
  | .agg l => .agg (l.map canon0)
  | x => canon0 x
def canonT : T → T
  | .tup l => .tup (l.map canon1)
  | x => canon1 x

section
variable {w : World} {U : Nat → Prop}
theorem canon0_ok {x : T} {v : Value} {X : List Nat} (h : RT0 w U x v X) : RT0 w U (canon0 x) v X := by
  cases h with
  | vi x v hv =>
    cases x with
    | fresh => cases hv
    | _ => exact .vi _ _ hv
  | fresh flat sz n gg len cap cb sh cc ad arr e es e2 e3 e4 e5 hh r1 r2 hl hc hf =>
    refine .fresh flat sz n _ len cap cb sh cc ad arr e es e2 e3 e4 e5 hh r1 r2 (fun j hj => by rw [tabG_eq hj]; exact hl j hj) (fun j o c hj ho => hc j o c hj (by rw [tabG_eq hj] at ho; exact ho))
      (fun h j hj c hx => hf h j hj c (by rw [tabG_eq hj] at hx; exact hx))

theorem RTL.mapT {Q : T → Value → List Nat → Prop} {f : T → T} (hf : ∀ x v X, Q x v X → Q (f x) v X) {l : List T} {vs : List Value} {X : List Nat} (h : RTL Q l vs X) : RTL Q (l.map f) vs X := by
  induction h with
  | nil => exact .nil
  | cons x v X l vs Y hx hl ih => exact .cons _ _ _ _ _ _ (hf _ _ _ hx) ih

theorem canon0_noagg {x : T} (h : ∀ l, x ≠ .agg l) : ∀ l, canon0 x ≠ .agg l := by
  intro l
  cases x with
  | agg m => exact absurd rfl (h m)
  | _ => simp [canon0]

theorem canon1_ok {x : T} {v : Value} {X : List Nat} (h : RT1 w U x v X) : RT1 w U (canon1 x) v X := by
  cases x with
  | agg l =>
    obtain ⟨cs, rfl, h1, h2⟩ := h
    exact ⟨cs, rfl, h1, h2.mapT fun _ _ _ h => canon0_ok h⟩
  | _ => exact canon0_ok h

theorem canonT_ok {x : T} {v : Value} {X : List Nat} (h : RT2 w U x v X) : RT2 w U (canonT x) v X := by
  cases x with
  | tup l =>
    obtain ⟨cs, rfl, h2⟩ := h
    exact ⟨cs, rfl, h2.mapT fun _ _ _ h => canon1_ok h⟩
  | agg l => exact canon1_ok (x := .agg l) h
  | _ =>
    have h0 : RT0 w U _ v X := h
    exact canon0_ok h0
end

section
variable {P : Program} {K : Orc} {Gl : Nat → Option (List T)} {A : FuncId → Ann}

/-- One call, its result in normal form. -/
def stepC (P : Program) (G : Nat → Option (List T)) (A : FuncId → Ann) (K : Orc) (m : Nat) (f : FuncId) (args : List T) : Option T :=
  runR P G A K (recN P G A K m f) f args [] fun v h' => some (canonT (give h' v))

theorem stepC_some {m : Nat} {f : FuncId} {args : List T} {r : T} (h : stepC P Gl A K m f args = some r) : ∃ r0, stepV P Gl A K m f args = some r0 ∧ r = canonT r0 := by
  obtain ⟨⟨v, h'⟩, h1, h2⟩ := det_some (runR_det (P := P) (K := K) (Gl := Gl) (A := A) (recN_det P Gl A K m f) f args []) (k := fun p => some (canonT (give p.2 p.1))) h
  exact ⟨give h' v, h2 T fun p => some (give p.2 p.1), (Option.some.inj h1).symm⟩

theorem RV.canon {w : World} {U : Nat → Prop} {r : T} {v : Value} {w' : World} (h : RV w U r v w') : RV w U (canonT r) v w' := by
  obtain ⟨h1, U', X, h2, h3, h4, h5, h6⟩ := h
  exact ⟨h1, U', X, h2, h3, h4, h5, canonT_ok h6⟩

/-- One more function, told over a table: its results as they come, or in normal form. -/
theorem step_add (hm : P.follows .mixedOrders = true) (hn : namesOk P = true) {K' : Orc} (hK' : OrcOk P Gl K') (hK : OrcOk P Gl K) {f : FuncId} {spec : List T → Tree}
    (hs : ∀ args r, (spec args).run some = some r → ∃ A m, stepV P Gl A K m f args = some r ∨ stepC P Gl A K m f args = some r) : OrcOk P Gl (K'.add f spec) := by
  refine ⟨fun e hx => ?_, fun e args r hx w U cargs hU hgl ha => ?_, hK'.ref⟩
  · rcases hx with ⟨args, r, hx⟩ | hx
    · simp only [Orc.add] at hx
      rcases bif_some hx with ⟨he, hy⟩ | ⟨_, hy⟩
      · have he : e = f := by simpa using he
        subst he
        obtain ⟨A, m, hv | hv⟩ := hs args r hy
        · exact runR_enters hn hv
        · exact runR_enters hn hv
      · exact hK'.enters e (.inl ⟨args, r, hy⟩)
    · exact hK'.enters e (.inr hx)
  · simp only [Orc.add] at hx
    rcases bif_some hx with ⟨he, hy⟩ | ⟨_, hy⟩
    · have he : e = f := by simpa using he
      subst he
      obtain ⟨A, m, hv | hv⟩ := hs args r hy
      · exact runR_val hm hK (recN_det P Gl A K m e) (recN_ok hm hK m e) hv hU hgl ha
      · obtain ⟨r0, hv0, rfl⟩ := stepC_some hv
        exact (runR_val hm hK (recN_det P Gl A K m e) (recN_ok hm hK m e) hv0 hU hgl ha).mono fun e w' ⟨v, h1, h2⟩ => ⟨v, h1, h2.canon⟩
    · exact hK'.val e args r hy w U cargs hU hgl ha

/-- One more function, told over tables: its results as they come, or in normal form. -/
theorem step_add2 (hm : P.follows .mixedOrders = true) (hn : namesOk P = true) {K' : Orc} (hK' : OrcOk P Gl K') {f : FuncId} {spec : List T → Tree}
    (hs : ∀ args r, (spec args).run some = some r → ∃ A m K, OrcOk P Gl K ∧ (stepV P Gl A K m f args = some r ∨ stepC P Gl A K m f args = some r)) : OrcOk P Gl (K'.add f spec) := by
  refine ⟨fun e hx => ?_, fun e args r hx w U cargs hU hgl ha => ?_, hK'.ref⟩
  · rcases hx with ⟨args, r, hx⟩ | hx
    · simp only [Orc.add] at hx
      rcases bif_some hx with ⟨he, hy⟩ | ⟨_, hy⟩
      · have he : e = f := by simpa using he
        subst he
        obtain ⟨A, m, K, hK, hv | hv⟩ := hs args r hy
        · exact runR_enters hn hv
        · exact runR_enters hn hv
      · exact hK'.enters e (.inl ⟨args, r, hy⟩)
    · exact hK'.enters e (.inr hx)
  · simp only [Orc.add] at hx
    rcases bif_some hx with ⟨he, hy⟩ | ⟨_, hy⟩
    · have he : e = f := by simpa using he
      subst he
      obtain ⟨A, m, K, hK, hv | hv⟩ := hs args r hy
      · exact runR_val hm hK (recN_det P Gl A K m e) (recN_ok hm hK m e) hv hU hgl ha
      · obtain ⟨r0, hv0, rfl⟩ := stepC_some hv
        exact (runR_val hm hK (recN_det P Gl A K m e) (recN_ok hm hK m e) hv0 hU hgl ha).mono fun e w' ⟨v, h1, h2⟩ => ⟨v, h1, h2.canon⟩
    · exact hK'.val e args r hy w U cargs hU hgl ha

/-- The same at whole trees: where the call's tree is the told one, under conditions. -/
theorem Tree.of_eq {t : Tree} {o : Option T} (h : t.run some = o) {r : T} (hr : t.run some = some r) : o = some r := h ▸ hr
end
end Go.Ab
