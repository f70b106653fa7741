/- A region, in the order of the text. -/
import Derived.Test.YtkiedolofnakoaaDoorAbStep2
import Derived.Test.YtkiedolofnakoaaDoorAbDet2
namespace Go.Ab
section
variable {P : Program} {Gl : Nat → Option (List T)} {K : Orc} {R : Type} {prom : List Nat} {nt : Nat} {g : Gh} {s : St} {a : Act} {w : World}

/-- One operation under its guard, in a region's list. -/
def GoesIn (P : Program) (Gl : Nat → Option (List T)) (prom : List Nat) (nt : Nat) (ops : Array Oper) (o : Oper) (a : Act) (w : World) (g : Gh) (h : Heap) (s' : St) : Prop :=
  ∀ (next : Act → World → Prop) (Q : Exit → Act → World → Prop), (∀ a' w' g', SR Gl prom nt g' s' a' w' → FrC g h w g' s'.h w' → next a' w') →
    if Region.wanted o (yielded ops a.tmps) then o.wp P a w next Q else next (a.put o.dst undef) w

theorem guarded_goes (hK : OrcOk P Gl K) {ops : Array Oper} {o : Oper} {k : Eff → FP → Option R} {r : R} (hk : guarded P K Gl prom nt ops.toList o s k = some r) (hs : SR Gl prom nt g s a w) :
    ∃ f fp, k f fp = some r ∧ GoesIn P Gl prom nt ops o a w g s.h (f.app s) := by
  unfold guarded at hk
  cases hg : o.guard with
  | none =>
    rw [hg] at hk
    obtain ⟨s', fp, h1, h2⟩ := opStep_goes hK hk hs
    exact ⟨s', fp, h1, fun next Q hn => by rw [if_pos (by simp [Region.wanted, hg])]; exact h2 next Q hn⟩
  | some p =>
    obtain ⟨j, want⟩ := p
    rw [hg] at hk
    dsimp only at hk
    cases hgs : guardSlot ops.toList j with
    | none => rw [hgs] at hk; cases hk
    | some gd =>
      rw [hgs] at hk
      dsimp only at hk
      cases hat : s.at gd with
      | bool b =>
        rw [hat] at hk
        dsimp only at hk
        rcases bif_some hk with ⟨_, hk⟩ | ⟨hp, hk⟩
        · cases hk
        have hv := hs.tmps gd (by simpa using hp)
        rw [hat] at hv
        have hv := hv.bool
        have hy : yielded ops a.tmps j = some b := by
          have hd : (ops[j]?).bind (·.dst) = some gd := by
            unfold guardSlot at hgs
            rw [Array.getElem?_toList] at hgs
            cases ho : ops[j]? with
            | none => rw [ho] at hgs; cases hgs
            | some o' => rw [ho] at hgs; exact hgs
          unfold yielded
          rw [hd]
          simp only [Option.bind_some]
          have hlt : gd < a.tmps.size := by
            rcases Nat.lt_or_ge gd a.tmps.size with hq | hq
            · exact hq
            · rw [Array.getD_eq_getD_getElem?, Array.getElem?_eq_none hq] at hv; cases hv
          rw [Array.getD_eq_getD_getElem?, Array.getElem?_eq_getElem hlt] at hv
          rw [Array.getElem?_eq_getElem hlt]
          simp only [Option.getD_some] at hv
          rw [hv]
        have hw : Region.wanted o (yielded ops a.tmps) = (b == want) := by simp [Region.wanted, hg, hy]
        have hb : (bif b then want else !want) = (b == want) := beq_bool b want
        rw [hb] at hk
        rcases bif_some hk with ⟨hbw, hk⟩ | ⟨hbw, hk⟩
        · obtain ⟨s', fp, h1, h2⟩ := opStep_goes hK hk hs
          exact ⟨s', _, h1, fun next Q hn => by rw [if_pos (by rw [hw]; exact hbw)]; exact h2 next Q hn⟩
        · unfold done at hk
          have hneg : ¬ Region.wanted o (yielded ops a.tmps) = true := by rw [hw, hbw]; simp
          cases hd : o.dst with
          | none =>
            rw [hd] at hk
            refine ⟨_, _, hk, fun next Q hn => ?_⟩
            rw [if_neg hneg]
            refine hn _ _ g ?_ (FrC.refl _ _ _)
            rw [hd]
            exact hs.done0 hs.hr (.refl _ _ _ _) (.refl _ _ fun b o e => (hs.hr.own b o e).2) rfl
          | some d =>
            rw [hd] at hk
            obtain ⟨hlt, hk⟩ := bif_none hk
            refine ⟨_, _, parted_eq hk, fun next Q hn => ?_⟩
            rw [if_neg hneg]
            refine hn _ _ g ?_ (FrC.refl _ _ _)
            rw [hd]
            simp only [Bool.and_eq_true, Bool.not_eq_true'] at hlt
            exact hs.done (blt_lt hlt.1) hs.hr (.imm _ _ (.gone _ (fun b h => by cases h))) (.refl _ _ _ _) (.refl _ _ fun b o e => (hs.hr.own b o e).2) rfl hlt.2
      | gone =>
        rw [hat] at hk
        dsimp only at hk
        rcases bif_some hk with ⟨_, hk⟩ | ⟨hp, hk⟩
        · cases hk
        have hv := hs.tmps gd (by simpa using hp)
        rw [hat] at hv
        have hy : yielded ops a.tmps j = none := by
          have hd : (ops[j]?).bind (·.dst) = some gd := by
            unfold guardSlot at hgs
            rw [Array.getElem?_toList] at hgs
            cases ho : ops[j]? with
            | none => rw [ho] at hgs; cases hgs
            | some o' => rw [ho] at hgs; exact hgs
          unfold yielded
          rw [hd]
          simp only [Option.bind_some]
          rcases Nat.lt_or_ge gd a.tmps.size with hq | hq
          · rw [Array.getD_eq_getD_getElem?, Array.getElem?_eq_getElem hq] at hv
            rw [Array.getElem?_eq_getElem hq]
            simp only [Option.getD_some] at hv
            have hnb := hv.gone
            generalize a.tmps[gd] = x at hnb
            cases x <;> first | rfl | exact absurd rfl (hnb _)
          · rw [Array.getElem?_eq_none hq]
        have hw : Region.wanted o (yielded ops a.tmps) = false := by simp [Region.wanted, hg, hy]
        have hneg : ¬ Region.wanted o (yielded ops a.tmps) = true := by rw [hw]; simp
        unfold done at hk
        cases hd : o.dst with
        | none =>
          rw [hd] at hk
          refine ⟨_, _, hk, fun next Q hn => ?_⟩
          rw [if_neg hneg]
          refine hn _ _ g ?_ (FrC.refl _ _ _)
          rw [hd]
          exact hs.done0 hs.hr (.refl _ _ _ _) (.refl _ _ fun b o e => (hs.hr.own b o e).2) rfl
        | some d =>
          rw [hd] at hk
          obtain ⟨hlt, hk⟩ := bif_none hk
          refine ⟨_, _, parted_eq hk, fun next Q hn => ?_⟩
          rw [if_neg hneg]
          refine hn _ _ g ?_ (FrC.refl _ _ _)
          rw [hd]
          simp only [Bool.and_eq_true, Bool.not_eq_true'] at hlt
          exact hs.done (blt_lt hlt.1) hs.hr (.imm _ _ (.gone _ (fun b h => by cases h))) (.refl _ _ _ _) (.refl _ _ fun b o e => (hs.hr.own b o e).2) rfl hlt.2
      | _ => rw [hat] at hk; cases hk

/-- One guarded operation hands on exactly this. -/
def StepIs (P : Program) (K : Orc) (Gl : Nat → Option (List T)) (prom : List Nat) (nt : Nat) (ops : List Oper) (o : Oper) (s : St) (f : Eff) (fp : FP) : Prop :=
  ∀ (R : Type) (k : Eff → FP → Option R), guarded P K Gl prom nt ops o s k = k f fp

theorem guarded_is {ops : List Oper} {o : Oper} {k : Eff → FP → Option R} {r : R} (hk : guarded P K Gl prom nt ops o s k = some r) : ∃ f fp, k f fp = some r ∧ StepIs P K Gl prom nt ops o s f fp := by
  obtain ⟨⟨f, fp⟩, h1, h2⟩ := det_some (guarded_det P K Gl prom nt ops o s) (k := fun p => k p.1 p.2) hk
  exact ⟨f, fp, h1, fun R k => h2 R fun p => k p.1 p.2⟩

theorem StepIs.goes (hK : OrcOk P Gl K) {ops : Array Oper} {o : Oper} {f : Eff} {fp : FP} (h : StepIs P K Gl prom nt ops.toList o s f fp) (hs : SR Gl prom nt g s a w) : GoesIn P Gl prom nt ops o a w g s.h (f.app s) := by
  obtain ⟨f', fp', h1, h2⟩ := guarded_goes hK (h (Eff × FP) fun f fp => some (f, fp)) hs
  simp only [Option.some.injEq, Prod.mk.injEq] at h1
  obtain ⟨rfl, rfl⟩ := h1
  exact h2

/-- Several operations, one behind the other. -/
inductive RunIs (P : Program) (K : Orc) (Gl : Nat → Option (List T)) (prom : List Nat) (nt : Nat) (ops : List Oper) : List Oper → St → St → List FP → Prop where
  | nil (s : St) : RunIs P K Gl prom nt ops [] s s []
  | cons {o : Oper} {l : List Oper} {s s' : St} {f : Eff} {fp : FP} {fps : List FP} (h : StepIs P K Gl prom nt ops o s f fp) (t : RunIs P K Gl prom nt ops l (f.app s) s' fps) : RunIs P K Gl prom nt ops (o :: l) s s' (fp :: fps)

theorem runOps_is {ops : List Oper} : ∀ (l : List Oper) {s : St} {k : St → List FP → Option R} {r : R}, runOps P K Gl prom nt ops l s k = some r → ∃ s' fps, k s' fps = some r ∧ RunIs P K Gl prom nt ops l s s' fps
  | [], s, k, r, hk => ⟨s, [], hk, .nil s⟩
  | o :: l, s, k, r, hk => by
    simp only [runOps] at hk
    obtain ⟨f, fp, hk, h1⟩ := guarded_is hk
    obtain ⟨s', fps, hk, h2⟩ := runOps_is l hk
    exact ⟨s', fp :: fps, hk, .cons h1 h2⟩

/-- The operations of a region, in the order of the text. -/
theorem RunIs.goes (hK : OrcOk P Gl K) {ops : Array Oper} {l : List Oper} {s s' : St} {fps : List FP} (h : RunIs P K Gl prom nt ops.toList l s s' fps) : ∀ {g : Gh} {a : Act} {w : World}, SR Gl prom nt g s a w →
    ∀ Q : Exit → Act → World → Prop, (∀ a' w' g', SR Gl prom nt g' s' a' w' → FrC g s.h w g' s'.h w' → Q .normal a' w') → wpList P ops Q l a w := by
  induction h with
  | nil s => exact fun hs Q hn => hn _ _ _ hs (FrC.refl _ _ _)
  | cons h1 h2 ih =>
    intro g a w hs Q hn
    unfold wpList
    have := h1.goes hK hs (wpList P ops Q _) Q (fun a' w' g' hs' hf' => ih hs' Q fun a2 w2 g2 hs2 hf2 => hn a2 w2 g2 hs2 (hf'.trans hf2))
    split at this
    · rename_i hw; rw [if_pos hw]; exact .inl this
    · rename_i hw; rw [if_neg hw]; exact this
end
end Go.Ab
