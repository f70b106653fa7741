/- Own blocks that a round of a loop has laid, and that nobody names behind it, are forgotten. -/
import Derived.Test.YtkiedolofnakoaaDoorP3
set_option linter.all false
namespace Go.Ab

def low0 (k : Nat) : T → Bool
  | .own i _ _ _ _ => Nat.blt i k
  | .ptr i _ _ _ => Nat.blt i k
  | x => imm0 x
/-- No own block from 'k' on is named. -/
def low (k : Nat) : T → Bool
  | .agg l => l.all (low0 k)
  | .reg l => l.all (low0 k)
  | x => low0 k x
def trimOk (k : Nat) (vs : List T) (h : Heap) : Bool := vs.all (low k) && (h.take k).all (·.flat)

section
variable {w : World} {g : Gh} {h : Heap} {k : Nat}

theorem VR.low0 {x : T} {v : Value} (hx : g.VR h w x v) (hl : Ab.low0 k x = true) : g.VR (h.take k) w x v := by
  cases x with
  | own i ver off len cap =>
    obtain ⟨b, hb, hver, h1, hok⟩ := hx.own_inv
    have hi : i < k := blt_lt hl
    exact .own _ _ _ _ _ b _ (by rw [List.getElem?_take_of_lt hi]; exact hb) hver h1 hok
  | ptr i ver j o =>
    obtain ⟨b, hb, hver, h1, hok⟩ := hx.ptr_inv
    have hi : i < k := blt_lt hl
    exact .ptr _ _ _ _ b _ (by rw [List.getElem?_take_of_lt hi]; exact hb) hver h1 hok
  | agg l => simp [Ab.low0, imm0] at hl
  | reg l => exact absurd hx VR.not_reg
  | tup l => simp [Ab.low0, imm0] at hl
  | iface t x => simp [Ab.low0, imm0] at hl
  | fresh => exact absurd hx VR.not_fresh
  | fn f caps =>
    simp only [Ab.low0, imm0, List.isEmpty_iff] at hl
    subst hl
    obtain ⟨cs, rfl, hlen, hc⟩ := hx.fn_inv
    exact VR.mk_fn hlen (fun i c hi => by simp at hi)
  | _ => exact .imm _ _ (imm_vi (by first | rfl | simpa [Ab.low0, imm0, imm] using hl) hx)

theorem VR.low {x : T} {v : Value} (hx : g.VR h w x v) (hl : Ab.low k x = true) : g.VR (h.take k) w x v := by
  cases x with
  | agg l =>
    obtain ⟨cs, rfl, hlen, h1, hc⟩ := hx.agg_inv
    refine VR.mk_agg hlen h1 (fun i c hi => ?_)
    obtain ⟨u, hu, hr⟩ := hc i c hi
    exact ⟨u, hu, hr.low0 (List.all_eq_true.1 hl c (List.mem_of_getElem? hi))⟩
  | reg l => exact absurd hx VR.not_reg
  | _ => exact VR.low0 hx hl

theorem HR.take (hr : HR g h w) (hf : (h.take k).all (·.flat) = true) : HR g (h.take k) w := by
  refine ⟨fun i b hb => ?_, hr.u, hr.own, hr.base⟩
  have hi : i < k := by
    rcases Nat.lt_or_ge i k with q | q
    · exact q
    · rw [List.getElem?_eq_none (by simp; omega)] at hb; cases hb
  have hb0 : h[i]? = some b := by rw [List.getElem?_take_of_lt hi] at hb; exact hb
  obtain ⟨cb, sh, arr, e, hok⟩ := hr.blk i b hb0
  have hfl : b.flat = true := List.all_eq_true.1 hf b (List.mem_of_getElem? hb)
  refine ⟨cb, sh, arr, e, hok.φ, hok.own, hok.heap, hok.room, hok.len, fun j o c hj ho => ?_, hok.flat⟩
  obtain ⟨v, h1, h2, h3⟩ := hok.cell j o c hj ho
  refine ⟨v, h1, h2, VR.low0 (g := g) h3 ?_⟩
  have hp := hok.flat hfl j hj c (List.mem_of_getElem? ho)
  cases c <;> simp_all [plain0, Ab.low0, imm0]
end

section
variable {P : Program} {Gl : Nat → Option (List T)} {prom : List Nat} {nt : Nat}

theorem SR.take {g : Gh} {l : List Nat} {vs : List T} {h : Heap} {a : Act} {w : World} {k : Nat} (hs : SR Gl prom nt g (mkSt l vs h) a w) (ht : trimOk k vs h = true) : SR Gl prom nt g (mkSt l vs (h.take k)) a w := by
  simp only [trimOk, Bool.and_eq_true] at ht
  obtain ⟨hv, hf⟩ := ht
  have hat : ∀ t, (mkSt l vs (h.take k)).at t = (mkSt l vs h).at t := fun t => rfl
  have hlow : ∀ t, Ab.low k ((mkSt l vs h).at t) = true := by
    intro t
    unfold St.at
    cases hb : Nat.blt t 1024 with
    | false => rfl
    | true =>
      simp only [cond_true]
      have key : ∀ (l : List Nat) (vs : List T) (e : Tr), vs.all (Ab.low k) = true → (∀ t, t < 1024 → Ab.low k (Tr.get deep e t) = true) → ∀ t, t < 1024 → Ab.low k (Tr.get deep (putL l vs e) t) = true := by
        intro l
        induction l with
        | nil => intro vs e _ he; simpa only [putL] using he
        | cons i l ih =>
          intro vs e hv he
          cases vs with
          | nil => simpa only [putL] using he
          | cons x vs =>
            simp only [List.all_cons, Bool.and_eq_true] at hv
            simp only [putL]
            refine ih vs _ hv.2 (fun t ht => ?_)
            cases hi : Nat.blt i 1024 with
            | false => exact he t ht
            | true =>
              simp only [cond_true]
              have h1 : Tr.get deep (Tr.set deep e i x) t = if t = i then x else Tr.get deep e t := Tr.get_set 10 e i t x (by have := blt_lt hi; omega) ht
              rw [h1]
              by_cases q : t = i
              · rw [if_pos q]; exact hv.1
              · rw [if_neg q]; exact he t ht
      exact key l vs .nil hv (fun t _ => by rfl) t (blt_lt hb)
  refine ⟨hs.hr.take hf, hs.defers, hs.size, hs.nt, fun t ht => ?_, fun t ht cells hc => ?_, fun d t o h => (by cases h), hs.glob, fun d t o h => (by cases h)⟩
  · rw [hat]
    exact VR.low (hs.tmps t ht) (hlow t)
  · rw [hat] at hc
    obtain ⟨cb, arr, e, hok⟩ := hs.regs t ht cells hc
    refine ⟨cb, arr, e, hok.ptr, hok.own, hok.heap, hok.len, fun o c ho => ?_⟩
    obtain ⟨u, h1, h2, h3⟩ := hok.cell o c ho
    have hl := hlow t
    rw [hc] at hl
    exact ⟨u, h1, h2, h3.low0 (List.all_eq_true.1 hl c (List.mem_of_getElem? ho))⟩

theorem FrC.take {g0 g : Gh} {h0 h : Heap} {w0 w : World} {k : Nat} (hf : FrC g0 h0 w0 g h w) (hk : h0.length ≤ k) : FrC g0 h0 w0 g (h.take k) w := by
  refine ⟨⟨hf.keep.u, fun i b hb => ?_, hf.keep.rm⟩, hf.size, hf.own, hf.os, hf.tape, hf.output, hf.same, hf.base, hf.u, hf.u'⟩
  obtain ⟨b', hb', h1, h2⟩ := hf.keep.blk i b hb
  have hi : i < k := by
    rcases Nat.lt_or_ge i h0.length with q | q
    · omega
    · rw [List.getElem?_eq_none q] at hb; cases hb
  exact ⟨b', by rw [List.getElem?_take_of_lt hi]; exact hb', h1, h2⟩

/-- From a state one may go on as from another, where no more than 'k' own blocks were there at first. -/
def WeakTo (Gl : Nat → Option (List T)) (prom : List Nat) (nt : Nat) (l : List Nat) (k : Nat) (vs : List T) (h : Heap) (vs2 : List T) (h2 : Heap) : Prop :=
  ∀ (g : Gh) (a : Act) (w : World) (g0 : Gh) (h0 : Heap) (w0 : World), h0.length ≤ k → HR g0 h0 w0 → FrC g0 h0 w0 g h w → SR Gl prom nt g (mkSt l vs h) a w → ∃ g2, SR Gl prom nt g2 (mkSt l vs2 h2) a w ∧ FrC g0 h0 w0 g2 h2 w
theorem WeakTo.refl {l : List Nat} {k : Nat} (vs : List T) (h : Heap) : WeakTo Gl prom nt l k vs h vs h := fun g _ _ _ _ _ _ _ hf hs => ⟨g, hs, hf⟩
theorem WeakTo.trans {l : List Nat} {k : Nat} {vs vs1 vs2 : List T} {h h1 h2 : Heap} (a : WeakTo Gl prom nt l k vs h vs1 h1) (b : WeakTo Gl prom nt l k vs1 h1 vs2 h2) : WeakTo Gl prom nt l k vs h vs2 h2 := by
  intro g ac w g0 h0 w0 hk hr hf hs
  obtain ⟨g1, q1, q2⟩ := a g ac w g0 h0 w0 hk hr hf hs
  exact b g1 ac w g0 h0 w0 hk hr q2 q1
theorem WeakTo.take {l : List Nat} {k : Nat} {vs : List T} {h : Heap} (ht : trimOk k vs h = true) : WeakTo Gl prom nt l k vs h vs (h.take k) :=
  fun g _ _ _ _ _ hk _ hf hs => ⟨g, hs.take ht, hf.take hk⟩
theorem WeakTo.simV {l : List Nat} {k : Nat} {vs vs2 : List T} {h : Heap} (hl : vs.length = vs2.length) (hv : ∀ (i : Nat) x y, vs[i]? = some x → vs2[i]? = some y → SimV x y) : WeakTo Gl prom nt l k vs h vs2 h :=
  fun g _ _ _ _ _ _ _ hf hs => ⟨g, hs.simV rfl rfl rfl (mkSt_simV h hl hv), hf⟩

/-- The same blocks, their elements told in other words. -/
def SameBlks (h h2 : Heap) : Prop := h2.length = h.length ∧ ∀ (i : Nat) b b2, h[i]? = some b → h2[i]? = some b2 → b2.ver = b.ver ∧ b2.sz = b.sz ∧ b2.n = b.n ∧ (b2.flat = true → b.flat = true) ∧ ∀ j, j < b.n → b2.get j = b.get j
theorem SameBlks.at {h h2 : Heap} (hs : SameBlks h h2) {i : Nat} {b : Blk} (hb : h[i]? = some b) : ∃ b2, h2[i]? = some b2 ∧ b2.ver = b.ver ∧ b2.sz = b.sz ∧ b2.n = b.n ∧ (b2.flat = true → b.flat = true) ∧ ∀ j, j < b.n → b2.get j = b.get j := by
  have hi := lt_of_get hb
  have h2i : h2[i]? = some (h2[i]'(by rw [hs.1]; exact hi)) := List.getElem?_eq_getElem _
  exact ⟨_, h2i, hs.2 i b _ hb h2i⟩
theorem SameBlks.back {h h2 : Heap} (hs : SameBlks h h2) {i : Nat} {b2 : Blk} (hb : h2[i]? = some b2) : ∃ b, h[i]? = some b ∧ b2.ver = b.ver ∧ b2.sz = b.sz ∧ b2.n = b.n ∧ (b2.flat = true → b.flat = true) ∧ ∀ j, j < b.n → b2.get j = b.get j := by
  have hi := lt_of_get hb
  have hi' : h[i]? = some (h[i]'(by rw [← hs.1]; exact hi)) := List.getElem?_eq_getElem _
  exact ⟨_, hi', hs.2 i _ b2 hi' hb⟩
theorem SameBlks.keep {h h2 : Heap} (hs : SameBlks h h2) (w : World) (U : Nat → Prop) (φ : Nat → Option (Nat × Nat)) : KeepR w U φ h w U φ h2 :=
  ⟨.refl _ _, fun i b hb => by
    obtain ⟨b2, q1, q2, q3, q4, _⟩ := hs.at hb
    exact ⟨b2, q1, by omega, fun _ => ⟨q3, by omega, rfl⟩⟩, fun _ _ hr => hr⟩
theorem HR.same {g : Gh} {h h2 : Heap} {w : World} (hr : HR g h w) (hs : SameBlks h h2) : HR g h2 w := by
  refine ⟨fun i b2 hb => ?_, hr.u, hr.own, hr.base⟩
  obtain ⟨b, hb0, q1, q2, q3, q4, q5⟩ := hs.back hb
  obtain ⟨cb, sh, arr, e, hok⟩ := hr.blk i b hb0
  refine ⟨cb, sh, arr, e, hok.φ, hok.own, hok.heap, by rw [q2, q3]; exact hok.room, fun j hj => ?_, fun j o c hj ho => ?_, fun hf j hj c hc => ?_⟩
  · rw [q5 j (by omega), q2]; exact hok.len j (by omega)
  · rw [q5 j (by omega)] at ho
    obtain ⟨v, h1, h3, h4⟩ := hok.cell j o c (by omega) ho
    rw [q2]
    exact ⟨v, h1, h3, h4.keep (hs.keep _ _ _)⟩
  · rw [q5 j (by omega)] at hc
    exact hok.flat (q4 hf) j (by omega) c hc
theorem WeakTo.same {l : List Nat} {k : Nat} {vs : List T} {h h2 : Heap} (hs : SameBlks h h2) : WeakTo Gl prom nt l k vs h vs h2 := by
  intro g a w g0 h0 w0 _ _ hf hsr
  have hk := hs.keep w g.U g.φ
  refine ⟨g, ⟨hsr.hr.same hs, hsr.defers, hsr.size, hsr.nt, fun t ht => (hsr.tmps t ht).keep hk, fun t ht cells hc => ?_, fun d t o h => (by cases h), hsr.glob, fun d t o h => (by cases h)⟩, hf.trans ⟨hk, Nat.le_refl _, fun _ _ => rfl, rfl, rfl, rfl, fun _ _ _ => rfl, rfl, fun _ h => .inl h, fun _ h => h⟩⟩
  obtain ⟨cb, arr, e, hok⟩ := hsr.regs t ht cells hc
  refine ⟨cb, arr, e, hok.ptr, hok.own, hok.heap, hok.len, fun o c ho => ?_⟩
  obtain ⟨u, h1, h2', h3⟩ := hok.cell o c ho
  exact ⟨u, h1, h2', h3.keep hk⟩
/-- A loop from a state of which more is told. -/
theorem CodeGoes.weak {c : Code} {l : List Nat} {vs vs2 : List T} {h h2 : Heap} {e : Ex} {s' : St} (hg : CodeGoes P Gl prom nt c (mkSt l vs2 h2) e s') (hw : WeakTo Gl prom nt l h.length vs h vs2 h2) : CodeGoes P Gl prom nt c (mkSt l vs h) e s' := by
  intro g a w hs Q hn
  obtain ⟨g2, q1, q2⟩ := hw g a w g h w (Nat.le_refl _) hs.hr (.refl _ _ _) hs
  exact hg g2 a w q1 Q fun a' w' g' h1 h2 => hn a' w' g' h1 (q2.trans h2)

variable {K : Orc} {A : FuncId → Ann}
/-- A loop by its rounds, where between rounds less may be said of the state. -/
theorem loop_told2 (hm : P.follows .mixedOrders = true) {f : FuncId} {r : Nat} (ha : loopAt P f r = true)
    {an : Ann} {h : Heap} (I : Nat → List T → Heap → Prop) {e1 : Ex} {vs1 : List T} {h1 : Heap} {fn : Func} (hf : P.funcs[f]? = some fn) (hnt : fn.ntmps ≤ 1024)
    (round : ∀ n vs h0, I n vs h0 → ∃ (A : FuncId → Ann) (K : Orc) (m : Nat) (l : List (Nat × (List T → Heap → LT))), OrcOk P Gl K ∧ (A f).prom = an.prom ∧ (A f).live r = an.live r ∧ (∀ p ∈ l, LoopOk P Gl (A f) f p.1 p.2) ∧
      ∃ e vs' h', iterR P Gl A K m f l r vs h0 = some (e, vs', h') ∧ ((e = .normal ∧ ∃ j vs2 h2, j < n ∧ WeakTo Gl an.prom fn.ntmps (an.live r false) h.length vs' h' vs2 h2 ∧ I j vs2 h2) ∨
        (e ≠ .normal ∧ e = e1 ∧ WeakTo Gl an.prom fn.ntmps (an.live r true) h.length vs' h' vs1 h1)))
    {n : Nat} {vs : List T} (hI : I n vs h) :
    CodeGoes P Gl an.prom fn.ntmps (.loop (bodyAt P f r)) (mkSt (an.live r false) vs h) e1 (mkSt (an.live r true) vs1 h1) := by
  obtain ⟨hap, c, hb, hmem, hfr⟩ := loopAt_of ha hf
  intro g0 a0 w0 hs0 Q hn
  refine wp_loop_num (fun j a w => ∃ vs' h' g, I j vs' h' ∧ SR Gl an.prom fn.ntmps g (mkSt (an.live r false) vs' h') a w ∧ FrC g0 h w0 g h' w) (fun j a w hJ => ?_) n a0 w0 ⟨vs, h, g0, hI, hs0, FrC.refl _ _ _⟩
  obtain ⟨vs', h', g, hI, hs, hf0⟩ := hJ
  obtain ⟨A, K, m, l, hK, hp, hlive, hl, e, vs2, h2, hit, hcase⟩ := round j vs' h' hI
  unfold iterR at hit
  rw [hf] at hit
  dsimp only at hit
  have hrec := recWith_ok (A := A) hap (recN_det P Gl A K m f) (recN_ok hm hK m f) hl fn c hf hb hnt
  obtain ⟨e', s', hk2, hgo⟩ := exK_goes hm hK hnt hrec (bodyAt P f r) (fun b hb' => loopsOf_trans c hmem hb') hit
  rw [hp, hlive] at hgo
  rw [hlive] at hk2
  refine hgo g a w hs _ fun a' w' g' hs' hf' => ?_
  have hr0 : HR g0 h w0 := hs0.hr
  cases e' with
  | normal =>
    simp only [Option.some.injEq, Prod.mk.injEq] at hk2
    obtain ⟨rfl, rfl, rfl⟩ := hk2
    rcases hcase with ⟨_, i, vs3, h3, hi, hw, hI'⟩ | ⟨hne, _⟩
    · obtain ⟨g3, q1, q2⟩ := hw g' a' w' g0 h w0 (Nat.le_refl _) hr0 (hf0.trans hf') (hs'.only _)
      exact ⟨i, hi, _, _, g3, hI', q1, q2⟩
    · exact absurd rfl hne
  | exit i =>
    simp only [Option.some.injEq, Prod.mk.injEq] at hk2
    obtain ⟨rfl, rfl, rfl⟩ := hk2
    rcases hcase with ⟨hne, _⟩ | ⟨_, rfl, hw⟩
    · cases hne
    · obtain ⟨g3, q1, q2⟩ := hw g' a' w' g0 h w0 (Nat.le_refl _) hr0 (hf0.trans hf') (hs'.only _)
      exact hn a' w' g3 q1 q2
  | ret =>
    simp only [Option.some.injEq, Prod.mk.injEq] at hk2
    obtain ⟨rfl, rfl, rfl⟩ := hk2
    rcases hcase with ⟨hne, _⟩ | ⟨_, rfl, hw⟩
    · cases hne
    · obtain ⟨g3, q1, q2⟩ := hw g' a' w' g0 h w0 (Nat.le_refl _) hr0 (hf0.trans hf') (hs'.only _)
      exact hn a' w' g3 q1 q2
end
end Go.Ab

