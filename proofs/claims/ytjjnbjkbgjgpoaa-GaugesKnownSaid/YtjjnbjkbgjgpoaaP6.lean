/- Functions that are ranged over: their walk. -/
import Derived.Test.YtjjnbjkbgjgpoaaP4
set_option linter.all false
namespace Go.Ab
section
variable (P : Program) (K : Orc) (G : Nat → Option (List T)) (prom : List Nat) (nt : Nat)

/-- A piece of code, from slots to slots. -/
def codeR (m : Nat) (c : Code) (l : List Nat) (vs : List T) (h : Heap) (l' : List Nat) : Option (Ex × List T × Heap) :=
  exK P K G prom nt (fun _ _ => []) (loopN P K G prom nt (fun _ _ => []) m) c (mkSt l vs h) fun e s => some (e, getL s l', s.h)

/-- A region with a call of yield, at place k: the elements; behind true; behind false. -/
def yieldR (ops : Array Oper) (k : Nat) (l : List Nat) (vs : List T) (h : Heap) (l' : List Nat) : Option (Nat × List T × (List T × Heap) × (List T × Heap)) :=
  match ops.toList[k]? with
  | some y => match y.op, y.dst, y.guard with
    | .call { callee := .value (.tmp ty), args := oargs, .. }, some d, none => bif !(prom.contains ty) && Nat.blt d nt then
        runOps P K G prom nt ops.toList (ops.toList.take k) (mkSt l vs h) fun s1 _ => match s1.at ty with
          | .yld n => bif !(s1.used d) then
              runOps P K G prom nt ops.toList (ops.toList.drop (k + 1)) (s1.lay d (.bool true) none) fun sT _ => runOps P K G prom nt ops.toList (ops.toList.drop (k + 1)) (s1.lay d (.bool false) none) fun sF _ =>
                some (n, oargs.toList.map (ev G prom s1), (getL sT l', sT.h), (getL sF l', sF.h))
            else none
          | _ => none
      else none
    | _, _, _ => none
  | none => none
end

section
variable {P : Program} {Gl : Nat → Option (List T)} {K : Orc} {prom : List Nat} {nt : Nat}

theorem It.only {R : Nat → Prop} {J : (Nat → Prop) → World → Prop} {X : Nat → Prop} {g : Gh} {s : St} {a : Act} {W : World} (h : It Gl prom nt R J X g s a W) (l : List Nat) : It Gl prom nt R J X g (mkSt l (getL s l) s.h) a W :=
  ⟨h.sr.only l, h.own, h.u, h.lt, h.j, h.nd⟩

theorem It.exk (hm : P.follows .mixedOrders = true) (hK : OrcOk P Gl K) (hnt : nt ≤ 1024) {m n : Nat} {c : Code} {l l' : List Nat} {vs vs' : List T} {h h' : Heap} {e : Ex} {R : Nat → Prop} {J : (Nat → Prop) → World → Prop} {X : Nat → Prop} {g : Gh} {a : Act} {W : World} {Q : Exit → Act → World → Prop}
    (hk : codeR P K Gl prom nt m c l vs h l' = some (e, vs', h')) (hrg : hasRange c = false) (hJ : Shut J) (hi : It Gl prom nt R J X g (mkSt l vs h) a W)
    (hQ : ∀ X' g' a' W', It Gl prom nt R J X' g' (mkSt l' vs' h') a' W' → Q e.out a' W') : c.wpIn (wideR none) n P Q a W := by
  unfold codeR at hk
  obtain ⟨e1, s1, hk, hgo⟩ := exK_goes hm hK hnt ((loopN_ok hm hK hnt m).mono (S := fun _ => True)) c (fun _ _ => trivial) hk
  simp only [Option.some.injEq, Prod.mk.injEq] at hk
  obtain ⟨rfl, rfl, rfl⟩ := hk
  exact hi.code hJ hgo hrg fun X' g' a' W' hi' => hQ X' g' a' W' (hi'.only l')

theorem It.yield (hK : OrcOk P Gl K) {k n id l0 : Nat} {ops : Array Oper} {l l' : List Nat} {vs vsT vsF xs : List T} {h hT hF : Heap} {R : Nat → Prop} {J J1 J2 : (Nat → Prop) → World → Prop} {X : Nat → Prop} {g : Gh} {a : Act} {W : World} {Q : Exit → Act → World → Prop}
    (hk : yieldR P K Gl prom nt ops k l vs h l' = some (l0, xs, (vsT, hT), (vsF, hF))) (hpl : xs.all plainT = true) (hJ : Shut J) (hJ1 : Shut J1) (hJ2 : Shut J2) (hi : It Gl prom nt R J X g (mkSt l vs h) a W)
    (hyield : ∀ X W args, J X W → Plains xs args → YieldAt (wideR none) 0 P l0 args W fun e W' => RoundSteps R X W W' ∧ ((e = .returned (.bool true) ∧ J1 X W') ∨ (e = .returned (.bool false) ∧ J2 X W')))
    (hQ1 : ∀ X' g' a' W', It Gl prom nt R J1 X' g' (mkSt l' vsT hT) a' W' → Q .normal a' W') (hQ2 : ∀ X' g' a' W', It Gl prom nt R J2 X' g' (mkSt l' vsF hF) a' W' → Q .normal a' W') :
    (Code.region id ops false).wpIn (wideR none) n P Q a W := by
  unfold yieldR at hk
  split at hk
  · rename_i y hy
    split at hk
    · rename_i ty oargs ts d hop hd hgu
      obtain ⟨hc, hk⟩ := bif_none hk
      simp only [Bool.and_eq_true, Bool.not_eq_true'] at hc
      obtain ⟨s1, fps, hk, hpre⟩ := runOps_is _ hk
      split at hk
      · rename_i n' hyl
        obtain ⟨hus, hk⟩ := bif_none hk
        obtain ⟨sT, fT, hk, hpT⟩ := runOps_is _ hk
        obtain ⟨sF, fF, hk, hpF⟩ := runOps_is _ hk
        simp only [Option.some.injEq, Prod.mk.injEq] at hk
        obtain ⟨rfl, rfl, ⟨rfl, rfl⟩, rfl, rfl⟩ := hk
        have hops : ops.toList = ops.toList.take k ++ y :: ops.toList.drop (k + 1) := by
          have hlt : k < ops.toList.length := by
            rcases Nat.lt_or_ge k ops.toList.length with q | q
            · exact q
            · rw [List.getElem?_eq_none q] at hy; cases hy
          have hyk : ops.toList[k] = y := by rw [List.getElem?_eq_getElem hlt] at hy; exact Option.some.inj hy
          rw [← hyk, List.getElem_cons_drop, List.take_append_drop]
        refine It.region hK hJ hJ1 hJ2 hi hops hop hd hgu (s1 := s1) (fps := fps) (sb := fun b => bif b then sT else sF) (fpb := fun b => bif b then fT else fF) ?_ hyl (by simpa using hc.1) (blt_lt hc.2) (by simpa using hus) rfl hpl ?_ hyield (fun X' g' a' W' q => hQ1 X' g' a' W' (q.only l')) (fun X' g' a' W' q => hQ2 X' g' a' W' (q.only l'))
        · exact hpre
        · intro b
          cases b
          · exact hpF
          · exact hpT
      · cases hk
    · cases hk
  · cases hk

/-- How such a function ends. -/
def ItPost (Gl : Nat → Option (List T)) (prom : List Nat) (nt : Nat) (R : Nat → Prop) (J Jx : Nat → (Nat → Prop) → World → Prop) (N : Nat) (e : Exit) (a : Act) (W : World) : Prop :=
  (e = .normal ∨ e = .ret) ∧ ∃ X g s, It Gl prom nt R (J N) X g s a W ∨ ∃ i, i < N ∧ It Gl prom nt R (Jx i) X g s a W

theorem seq_told {gf : FuncId} {fn : Func} {c : Code} (hf : P.funcs[gf]? = some fn) (hb : fn.body = some c) (hnm : (fn.name == "runtime.NumGoroutine") = false) (hres : fn.results = #[]) (hnt : fn.ntmps ≤ 1024) {caps : List T} (hle : caps.length + 1 ≤ fn.ntmps) {N : Nat} {xs : Nat → List T}
    (h : ∀ (l : Nat) (R : Nat → Prop) (J Jx : Nat → (Nat → Prop) → World → Prop), (∀ i, Shut (J i)) → (∀ i, Shut (Jx i)) →
      (∀ i X W args, i < N → J i X W → Plains (xs i) args → YieldAt (wideR none) 0 P l args W fun e W' => RoundSteps R X W W' ∧ ((e = .returned (.bool true) ∧ J (i + 1) X W') ∨ (e = .returned (.bool false) ∧ Jx i X W'))) →
      ∀ X g a W, It Gl prom fn.ntmps R (J 0) X g (enter (.yld l :: caps) []) a W → c.wpIn (wideR none) 0 P (ItPost Gl prom fn.ntmps R J Jx N) a W) : SeqTold P Gl gf caps N xs := by
  refine ⟨⟨fn, hf, by rw [hb]; rfl, hnm⟩, fun w U lb hU hgl ha l J Jx hJ hJx hy W hsz hsame hj0 => ?_⟩
  refine callsIn_of_wp hf hb trivial (wpIn_mono (h l U J Jx (fun i X W X' W' => hJ i X W X' W') (fun i X W X' W' => hJx i X W X' W') hy (fun _ => False) { U := U, φ := fun _ => none, own := fun _ => none, base := W.heap.size, low := W.heap.size } _ W ?_) ?_) rfl
  · have hku : KeepU w U W U := fun b hb => ⟨hb, hsame b hb⟩
    refine ⟨SR.enter (Nat.le_refl _) ⟨fun i b hb => (by cases hb), fun b hb => ⟨Nat.lt_of_lt_of_le (hU b hb) hsz, rfl⟩, fun b o ho => (by cases ho), Nat.le_refl _, fun b o ho => (by cases ho)⟩ (fun gl cells hg => (hgl gl cells hg).keep hku) ⟨by simp [ha.1]; omega, fun i x hi => ?_⟩ hnt (by simpa using hle), fun b hb => absurd rfl hb, fun b hb => .inr hb, fun b hb => hb.elim, hj0, rfl⟩
    cases i with
    | zero =>
      simp at hi
      subst hi
      exact ⟨.func (.yield l) #[] #[], by rw [Array.getElem?_append_left (by simp)]; rfl, .imm _ _ (.yld l)⟩
    | succ i =>
      simp at hi
      obtain ⟨v, q1, q2⟩ := ha.2 i x hi
      refine ⟨v, ?_, .imm _ _ (q2.keep hku)⟩
      rw [Array.getElem?_append_right (by simp)]
      simpa using q1
  · rintro e a' W' ⟨he, X, g, s, hit⟩
    have key : bodyPost P fn (fun e W' => (∃ v, e = .returned v) ∧ ((∃ X, J N X W') ∨ (∃ i X, i < N ∧ Jx i X W'))) .ret a' W' := by
      have hr : (results fn a'.tmps).run P W' = .ok (.tuple #[]) W' := by
        rw [results_eq, hres]
        simp
      rcases hit with hit | ⟨i, hi, hit⟩
      · exact ⟨hit.nd, _, hr, ⟨_, rfl⟩, .inl ⟨X, hit.j⟩⟩
      · exact ⟨hit.nd, _, hr, ⟨_, rfl⟩, .inr ⟨i, X, hi, hit.j⟩⟩
    rcases he with rfl | rfl
    · exact key
    · exact key
end
end Go.Ab

