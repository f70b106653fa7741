/- Code: one activation from a state to another. -/
import Derived.Test.YtkiedolofnakoaaDoorAbDraw
import Derived.Tactics
namespace Go.Ab

def Ex.out : Ex → Exit
  | .normal => .normal
  | .exit i => .exit i
  | .ret => .ret

/-- A loop by a number that falls. -/
theorem wp_loop_num {P : Program} {Q : Exit → Act → World → Prop} {c : Code} (I : Nat → Act → World → Prop) (round : ∀ n a w, I n a w → c.wp P (Exit.then (fun a' w' => ∃ m, m < n ∧ I m a' w') Q) a w) :
    ∀ n a w, I n a w → (Code.loop c).wp P Q a w := by
  intro n a w h0 b k cs
  have key : ∀ n a w, I n a w → ∃ e a' w', Q e a' w' ∧ Arrives P (lone (b.at a (.code c :: .inLoop c :: k)) cs w) b k cs e a' w' := by
    intro n
    induction n using Nat.strongRecOn with
    | _ n ih =>
      intro a w hI
      obtain ⟨e, a₁, w₁, hq, harr⟩ := round n a w hI b (.inLoop c :: k) cs
      cases e with
      | normal =>
        obtain ⟨m, hlt, hI₁⟩ := hq
        obtain ⟨e₂, a₂, w₂, hq₂, harr₂⟩ := ih m hlt a₁ w₁ hI₁
        exact ⟨e₂, a₂, w₂, hq₂, .of_steps (Steps.trans harr (.one step_inLoop)) harr₂⟩
      | exit id => exact ⟨_, a₁, w₁, hq, .pass (x := .inLoop c) rfl (fun _ _ => .inl (by simp)) harr⟩
      | goto l => exact ⟨_, a₁, w₁, hq, .pass (x := .inLoop c) rfl (fun _ _ => .inl (by simp)) harr⟩
      | ret => exact ⟨_, a₁, w₁, hq, .pass (x := .inLoop c) rfl (fun _ _ => .inl (by simp)) harr⟩
      | panic ch => exact ⟨_, a₁, w₁, hq, .pass (x := .inLoop c) rfl (fun _ _ => .inl (by simp)) harr⟩
      | outgrown => exact ⟨_, a₁, w₁, hq, .pass (x := .inLoop c) rfl (fun _ _ => .inl (by simp)) harr⟩
  obtain ⟨e, a', w', hq, harr⟩ := key n a w h0
  exact ⟨e, a', w', hq, .of_steps (.one step_loop) harr⟩

section
variable {P : Program} {K : Orc} {Gl : Nat → Option (List T)} {prom : List Nat} {nt : Nat} {R : Type}

/-- Code brings an activation from one state to another. -/
def CodeGoes (P : Program) (Gl : Nat → Option (List T)) (prom : List Nat) (nt : Nat) (c : Code) (s : St) (e : Ex) (s' : St) : Prop :=
  ∀ (g : Gh) (a : Act) (w : World), SR Gl prom nt g s a w → ∀ Q : Exit → Act → World → Prop, (∀ a' w' g', SR Gl prom nt g' s' a' w' → FrC g s.h w g' s'.h w' → Q e.out a' w') → c.wp P Q a w

theorem SR.bare {g : Gh} {s : St} {a : Act} {w : World} (h : SR Gl prom nt g s a w) (env : Tr) (he : ∀ t, ({ s with env := env, loc := fun _ => none, used := fun _ => false } : St).at t = s.at t ∨ ({ s with env := env, loc := fun _ => none, used := fun _ => false } : St).at t = .undef) :
    SR Gl prom nt g { s with env := env, loc := fun _ => none, used := fun _ => false } a w := by
  refine ⟨h.hr, h.defers, h.size, h.nt, fun t ht => ?_, fun t ht cells hc => ?_, fun d t o hl => (by cases hl), h.glob, fun d t o hl => (by cases hl)⟩
  · rcases he t with h1 | h1
    · rw [h1]; exact h.tmps t ht
    · rw [h1]; exact .imm _ _ (.undef _)
  · rcases he t with h1 | h1
    · exact h.regs t ht cells (by rw [← h1]; exact hc)
    · rw [h1] at hc; cases hc

theorem putL_at (s : St) (h : Heap) (l : List Nat) (t : Nat) : (mkSt l (getL s l) h).at t = s.at t ∨ (mkSt l (getL s l) h).at t = .undef := by
  rcases Nat.lt_or_ge t 1024 with ht | ht
  · rw [at_lt ht]
    have key : ∀ (l : List Nat) (e : Tr), (Tr.get deep e t = s.at t ∨ Tr.get deep e t = .undef) → (Tr.get deep (putL l (getL s l) e) t = s.at t ∨ Tr.get deep (putL l (getL s l) e) t = .undef) := by
      intro l
      induction l with
      | nil => exact fun e he => he
      | cons i l ih =>
        intro e he
        refine ih _ ?_
        cases hb : Nat.blt i 1024 with
        | false => simp only [cond_false]; exact he
        | true =>
          have hi := blt_lt hb
          simp only [cond_true]
          rw [show Tr.get deep (Tr.set deep e i (s.at i)) t = _ from Tr.get_set 10 e i t _ hi ht]
          by_cases hti : t = i
          · subst hti; rw [if_pos rfl]; exact .inl rfl
          · rw [if_neg hti]; exact he
    exact key l .nil (.inr rfl)
  · rw [at_ge (by omega)]; exact .inr rfl

/-- Only some slots are told. -/
theorem SR.only {g : Gh} {s : St} {a : Act} {w : World} (h : SR Gl prom nt g s a w) (l : List Nat) : SR Gl prom nt g (mkSt l (getL s l) s.h) a w := by
  have := putL_at s s.h l
  exact h.bare (putL l (getL s l) .nil) this

theorem SR.drawn {g : Gh} {s : St} {a : Act} {w : World} (h : SR Gl prom nt g s a w) (n : Nat) : SR Gl prom nt g s a { w with drawn := n } := by
  have hk : Keep g s.h w g s.h { w with drawn := n } := ⟨fun b hb => ⟨hb, rfl⟩, fun _ b hb => ⟨b, hb, Nat.le_refl _, fun _ => ⟨rfl, Nat.le_refl _, rfl⟩⟩, fun _ _ h => h⟩
  refine ⟨⟨fun i b hb => ?_, h.hr.u, h.hr.own, h.hr.base⟩, h.defers, h.size, h.nt, fun t ht => (h.tmps t ht).keep hk, fun t ht cells hc => ?_, h.loc, fun gl cells hg => (h.glob gl cells hg).keep hk.u, h.used⟩
  · obtain ⟨cb, sh, arr, e, hok⟩ := h.hr.blk i b hb
    refine ⟨cb, sh, arr, e, hok.φ, hok.own, hok.heap, hok.room, hok.len, fun j o c hj hc => ?_, hok.flat⟩
    obtain ⟨v, h1, h2, h3⟩ := hok.cell j o c hj hc
    exact ⟨v, h1, h2, h3.keep hk⟩
  · obtain ⟨cb, arr, e, hreg⟩ := h.regs t ht cells hc
    exact ⟨cb, arr, e, hreg.keep hk rfl rfl⟩

theorem region_goes (hm : P.follows .mixedOrders = true) (hK : OrcOk P Gl K) (hnt : nt ≤ 1024) {id : Nat} {ops : Array Oper} {draw : Bool} {s s' : St} {fps : List FP}
    (hrun : RunIs P K Gl prom nt ops.toList ops.toList { s with loc := fun _ => none, used := fun _ => false } s' fps) (hd : draw = true → orderOk ops fps = true) : CodeGoes P Gl prom nt (.region id ops draw) s .normal s' := by
  intro g a w hs Q hn
  have hs0 := hs.bare s.env (fun t => .inl rfl)
  cases draw with
  | false => exact wp_region_list (hrun.goes hK hs0 Q hn)
  | true =>
    have hok := hd rfl
    simp only [orderOk, Bool.and_eq_true] at hok
    have hlen : fps.length = ops.size := by
      have : ∀ {l : List Oper} {s s' : St} {fps : List FP}, RunIs P K Gl prom nt ops.toList l s s' fps → fps.length = l.length := by
        intro l s s' fps h
        induction h with
        | nil => rfl
        | cons _ _ ih => simp [ih]
      have := this hrun
      simpa using this
    refine wp_region_any hm ?_
    have hO : ∀ i, i < ops.size → ops[i]? = some (ops.getD i default) := fun i hi => by
      rw [Array.getD_eq_getD_getElem?, Array.getElem?_eq_getElem hi]; rfl
    have hmapO : (List.range ops.size).map (fun i => ops.getD i default) = ops.toList := by
      apply List.ext_getElem (by simp)
      intro i h1 h2
      simp only [List.length_map, List.length_range] at h1
      simp [Array.getElem?_eq_getElem h1]
    have hmapF : (List.range ops.size).map (fun i => fps.getD i ⟨[], [], false, false⟩) = fps := by
      apply List.ext_getElem (by simp [hlen])
      intro i h1 h2
      simp [List.getElem?_eq_getElem h2]
    have hpair : ∀ i j, i < j → j < ops.size → ((Region.before ops).getD j 0).testBit i = true ∨ clash (fps.getD i ⟨[], [], false, false⟩) (fps.getD j ⟨[], [], false, false⟩) = false := by
      intro i j hij hj
      have hp := pairsOk_spec _ hok.2
      rw [List.pairwise_iff_getElem] at hp
      have hz : ∀ m, m < ops.size → ((List.range ops.size).zip fps)[m]? = some (m, fps.getD m ⟨[], [], false, false⟩) := by
        intro m hm
        rw [List.getElem?_zip_eq_some]
        refine ⟨by simp [hm], ?_⟩
        rw [List.getD_eq_getElem?_getD, List.getElem?_eq_getElem (by omega)]
        rfl
      have hlz : ((List.range ops.size).zip fps).length = ops.size := by simp [hlen]
      have h1 := hp i j (by omega) (by omega) hij
      have e1 := hz i (by omega)
      have e2 := hz j hj
      rw [List.getElem?_eq_getElem (by omega)] at e1 e2
      rw [Option.some.inj e1, Option.some.inj e2] at h1
      dsimp only at h1
      have e3 : (Region.before ops).toList.getD j 0 = (Region.before ops).getD j 0 := by
        simp [List.getD_eq_getElem?_getD, Array.getD_eq_getD_getElem?]
      rw [e3] at h1
      exact h1
    refine drawn_goes hK hnt (s' := s') hok.1 hO hpair ops.size (rem := List.range ops.size) (listed := Array.replicate ops.size false) (s := _) (s1 := s') (by simp) ⟨by simp, fun i => ?_, ?_, fun j o _ hl => ?_⟩ (by rw [hmapO, hmapF]; exact hrun) (.refl _) (hs0.drawn _) Q ?_
    · rw [List.mem_range, Array.getD_eq_getD_getElem?]
      rcases Nat.lt_or_ge i ops.size with h | h
      · simp [h]
      · rw [Array.getElem?_eq_none (by simpa using h)]; simp; omega
    · exact List.pairwise_lt_range
    · rw [Array.getD_eq_getD_getElem?] at hl
      rcases Nat.lt_or_ge j ops.size with h | h
      · simp [h] at hl
      · rw [Array.getElem?_eq_none (by simpa using h)] at hl; simp at hl
    · intro a' w' g' hs' hf'
      exact hn a' w' g' hs' ⟨⟨hf'.keep.u, hf'.keep.blk, hf'.keep.rm⟩, hf'.size, hf'.own, hf'.os, hf'.tape, hf'.output, hf'.same, hf'.base, hf'.u, hf'.u'⟩

/-- What is told of a loop's rounds is so. -/
def RecOk (P : Program) (Gl : Nat → Option (List T)) (prom : List Nat) (nt : Nat) (live : Nat → Bool → List Nat) (S : Code → Prop) (rec : Rec) : Prop :=
  RecDet rec ∧ ∀ b vs h e vs' h', S b → rec _ b vs h (fun e vs h => some (e, vs, h)) = some (e, vs', h') → CodeGoes P Gl prom nt (.loop b) (mkSt (live (firstReg b) false) vs h) e (mkSt (live (firstReg b) true) vs' h')

theorem RecOk.mono {live : Nat → Bool → List Nat} {S : Code → Prop} {rec : Rec} (h : RecOk P Gl prom nt live (fun _ => True) rec) : RecOk P Gl prom nt live S rec :=
  ⟨h.1, fun b vs h0 e vs' h' _ hk => h.2 b vs h0 e vs' h' trivial hk⟩

theorem exK_goes (hm : P.follows .mixedOrders = true) (hK : OrcOk P Gl K) (hnt : nt ≤ 1024) {live : Nat → Bool → List Nat} {S : Code → Prop} {rec : Rec} (hrec : RecOk P Gl prom nt live S rec) :
    ∀ (c : Code) (_ : ∀ b ∈ loopsOf c, S b) {s : St} {k : Ex → St → Option R} {r : R}, exK P K Gl prom nt live rec c s k = some r → ∃ e s', k e s' = some r ∧ CodeGoes P Gl prom nt c s e s'
  | .skip, _, s, k, r, hk => ⟨_, _, hk, fun g a w hs Q hn => wp_skip (hn _ _ _ hs (FrC.refl _ _ _))⟩
  | .label _, _, s, k, r, hk => ⟨_, _, hk, fun g a w hs Q hn => wp_label (hn _ _ _ hs (FrC.refl _ _ _))⟩
  | .region id ops draw, _, s, k, r, hk => by
    simp only [exK] at hk
    obtain ⟨s', fps, hk, hrun⟩ := runOps_is _ hk
    replace hk := (bif_none hk).2
    cases draw with
    | false => exact ⟨_, _, hk, region_goes hm hK hnt hrun (fun h => by cases h)⟩
    | true =>
      simp only [cond_true] at hk
      obtain ⟨ho, hk⟩ := bif_none hk
      exact ⟨_, _, hk, region_goes hm hK hnt hrun (fun _ => ho)⟩
  | .seq x y, hl, s, k, r, hk => by
    simp only [exK] at hk
    obtain ⟨e, s1, hk, h1⟩ := exK_goes hm hK hnt hrec x (fun b hb => hl b (by simp [loopsOf, hb])) hk
    cases e with
    | normal =>
      obtain ⟨e2, s2, hk, h2⟩ := exK_goes hm hK hnt hrec y (fun b hb => hl b (by simp [loopsOf, hb])) hk
      exact ⟨e2, s2, hk, fun g a w hs Q hn => wp_seq (h1 g a w hs _ fun a1 w1 g1 hs1 hf1 => h2 g1 a1 w1 hs1 Q fun a2 w2 g2 hs2 hf2 => hn a2 w2 g2 hs2 (hf1.trans hf2))⟩
    | exit i => exact ⟨_, _, hk, fun g a w hs Q hn => wp_seq (h1 g a w hs _ fun a1 w1 g1 hs1 hf1 => hn a1 w1 g1 hs1 hf1)⟩
    | ret => exact ⟨_, _, hk, fun g a w hs Q hn => wp_seq (h1 g a w hs _ fun a1 w1 g1 hs1 hf1 => hn a1 w1 g1 hs1 hf1)⟩
  | .cond c x y, hl, s, k, r, hk => by
    simp only [exK] at hk
    cases hc : Ab.ev Gl prom s c with
    | bool t =>
      rw [hc] at hk
      have hev : ∀ (g : Gh) (a : Act) (w : World), SR Gl prom nt g s a w → a.eval c = .bool t := fun g a w hs => by
        have := hs.ev c
        rw [hc] at this
        exact this.bool
      cases t with
      | true =>
        obtain ⟨e, s1, hk, h1⟩ := exK_goes hm hK hnt hrec x (fun b hb => hl b (by simp [loopsOf, hb])) hk
        exact ⟨e, s1, hk, fun g a w hs Q hn => wp_cond_true (hev g a w hs) (h1 g a w hs Q hn)⟩
      | false =>
        obtain ⟨e, s1, hk, h1⟩ := exK_goes hm hK hnt hrec y (fun b hb => hl b (by simp [loopsOf, hb])) hk
        exact ⟨e, s1, hk, fun g a w hs Q hn => wp_cond_false (hev g a w hs) (h1 g a w hs Q hn)⟩
    | _ => rw [hc] at hk; cases hk
  | .block id b, hl, s, k, r, hk => by
    simp only [exK] at hk
    obtain ⟨e, s1, hk, h1⟩ := exK_goes hm hK hnt hrec b (fun b' hb => hl b' (by simp [loopsOf, hb])) hk
    cases e with
    | normal => exact ⟨_, _, hk, fun g a w hs Q hn => wp_block (h1 g a w hs _ fun a1 w1 g1 hs1 hf1 => hn a1 w1 g1 hs1 hf1)⟩
    | ret => exact ⟨_, _, hk, fun g a w hs Q hn => wp_block (h1 g a w hs _ fun a1 w1 g1 hs1 hf1 => hn a1 w1 g1 hs1 hf1)⟩
    | exit i =>
      dsimp only at hk
      rcases bif_some hk with ⟨hi, hk⟩ | ⟨hi, hk⟩
      · refine ⟨_, _, hk, fun g a w hs Q hn => wp_block (h1 g a w hs _ fun a1 w1 g1 hs1 hf1 => ?_)⟩
        have hi : i = id := by simpa using hi
        simp only [Ex.out, Exit.inBlock, if_pos hi]
        exact hn a1 w1 g1 hs1 hf1
      · refine ⟨_, _, hk, fun g a w hs Q hn => wp_block (h1 g a w hs _ fun a1 w1 g1 hs1 hf1 => ?_)⟩
        have hi : i ≠ id := by simpa using hi
        simp only [Ex.out, Exit.inBlock, if_neg hi]
        exact hn a1 w1 g1 hs1 hf1
  | .loop b, hl, s, k, r, hk => by
    simp only [exK] at hk
    obtain ⟨⟨e, vs, h⟩, hk, hr⟩ := det_some (hrec.1 b (getL s (live (firstReg b) false)) s.h) (k := fun p => k p.1 (mkSt (live (firstReg b) true) p.2.1 p.2.2)) hk
    exact ⟨e, _, hk, fun g a w hs Q hn => hrec.2 b _ _ e vs h (hl b (by simp [loopsOf])) (hr _ some) g a w (hs.only _) Q hn⟩
  | .exit id, _, s, k, r, hk => ⟨_, _, hk, fun g a w hs Q hn => wp_exit (hn _ _ _ hs (FrC.refl _ _ _))⟩
  | .ret, _, s, k, r, hk => ⟨_, _, hk, fun g a w hs Q hn => wp_ret (hn _ _ _ hs (FrC.refl _ _ _))⟩
  | .scope _, _, s, k, r, hk => by simp only [exK] at hk; cases hk
  | .goto _, _, s, k, r, hk => by simp only [exK] at hk; cases hk
  | .refuse _, _, s, k, r, hk => by simp only [exK] at hk; cases hk
  | .rangeFunc .., _, s, k, r, hk => by simp only [exK] at hk; cases hk

/-- A loop of which it is told what a round does: as long as a number falls. -/
theorem loop_rule (hm : P.follows .mixedOrders = true) (hK : OrcOk P Gl K) (hnt : nt ≤ 1024) {live : Nat → Bool → List Nat} {b : Code} (I : Nat → List T → Heap → Prop) {e1 : Ex} {vs1 : List T} {h1 : Heap}
    (round : ∀ n vs h, I n vs h → ∃ (rec : Rec) (S : Code → Prop), RecOk P Gl prom nt live S rec ∧ (∀ b' ∈ loopsOf b, S b') ∧ ∃ e s', exK (R := Ex × St) P K Gl prom nt live rec b (mkSt (live (firstReg b) false) vs h) (fun e s => some (e, s)) = some (e, s') ∧
      ((e = .normal ∧ ∃ m, m < n ∧ I m (getL s' (live (firstReg b) false)) s'.h) ∨ (e ≠ .normal ∧ e = e1 ∧ getL s' (live (firstReg b) true) = vs1 ∧ s'.h = h1))) :
    ∀ n vs h, I n vs h → CodeGoes P Gl prom nt (.loop b) (mkSt (live (firstReg b) false) vs h) e1 (mkSt (live (firstReg b) true) vs1 h1) := by
  intro n vs h hI g0 a0 w0 hs0 Q hn
  refine wp_loop_num (fun m a w => ∃ vs' h' g, I m vs' h' ∧ SR Gl prom nt g (mkSt (live (firstReg b) false) vs' h') a w ∧ FrC g0 h w0 g h' w) (fun m a w hJ => ?_) n a0 w0 ⟨vs, h, g0, hI, hs0, FrC.refl _ _ _⟩
  obtain ⟨vs', h', g, hI, hs, hf⟩ := hJ
  obtain ⟨rec, S, hrec, hS, e, s', hk, hcase⟩ := round m vs' h' hI
  obtain ⟨e', s2, hk2, hgo⟩ := exK_goes hm hK hnt hrec b hS hk
  simp only [Option.some.injEq, Prod.mk.injEq] at hk2
  obtain ⟨rfl, rfl⟩ := hk2
  refine hgo g a w hs _ fun a' w' g' hs' hf' => ?_
  rcases hcase with ⟨rfl, j, hj, hI'⟩ | ⟨hne, rfl, rfl, rfl⟩
  · exact ⟨j, hj, _, _, g', hI', hs'.only _, hf.trans hf'⟩
  · have := hn a' w' g' (hs'.only _) (hf.trans hf')
    cases e' with
    | normal => exact absurd rfl hne
    | exit i => exact this
    | ret => exact this

theorem loopN_ok (hm : P.follows .mixedOrders = true) (hK : OrcOk P Gl K) (hnt : nt ≤ 1024) {live : Nat → Bool → List Nat} : ∀ n, RecOk P Gl prom nt live (fun _ => True) (loopN P K Gl prom nt live n) := by
  intro n
  induction n using Nat.strongRecOn with
  | _ n ih =>
    refine ⟨loopN_det P K Gl prom nt live n, fun b vs h e1 vs1 h1 _ hl => ?_⟩
    refine loop_rule hm hK hnt (fun m vs h => m ≤ n ∧ loopN P K Gl prom nt live m _ b vs h (fun e vs h => some (e, vs, h)) = some (e1, vs1, h1)) (fun m vs h hI => ?_) n vs h ⟨Nat.le_refl _, hl⟩
    obtain ⟨hmn, hl⟩ := hI
    cases m with
    | zero => cases hl
    | succ j =>
      refine ⟨_, _, ih j (by omega), fun _ _ => trivial, ?_⟩
      simp only [loopN] at hl
      obtain ⟨⟨e, s'⟩, hk, hall⟩ := det_some (exK_det P K Gl prom nt live (loopN_det P K Gl prom nt live j) b (mkSt (live (firstReg b) false) vs h)) (k := fun p => match p.1 with
        | .normal => loopN P K Gl prom nt live j _ b (getL p.2 (live (firstReg b) false)) p.2.h fun e vs h => some (e, vs, h)
        | e => some (e, getL p.2 (live (firstReg b) true), p.2.h)) hl
      refine ⟨e, s', hall _ some, ?_⟩
      cases e with
      | normal => exact .inl ⟨rfl, j, by omega, by omega, hk⟩
      | exit i =>
        simp only [Option.some.injEq, Prod.mk.injEq] at hk
        exact .inr ⟨by simp, hk.1, hk.2.1, hk.2.2⟩
      | ret =>
        simp only [Option.some.injEq, Prod.mk.injEq] at hk
        exact .inr ⟨by simp, hk.1, hk.2.1, hk.2.2⟩
end
end Go.Ab
