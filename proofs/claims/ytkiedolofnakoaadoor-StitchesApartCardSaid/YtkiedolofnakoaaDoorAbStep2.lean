/- One operation of an activation, whole. -/
import Derived.Test.YtkiedolofnakoaaDoorAbOp
namespace Go.Ab

/-- An operation brings an activation from one state to another. -/
def Goes (P : Program) (Gl : Nat → Option (List T)) (prom : List Nat) (nt : Nat) (o : Oper) (a : Act) (w : World) (g : Gh) (h : Heap) (s' : St) : Prop :=
  ∀ (next : Act → World → Prop) (Q : Exit → Act → World → Prop), (∀ a' w' g', SR Gl prom nt g' s' a' w' → FrC g h w g' s'.h w' → next a' w') → o.wp P a w next Q

section
variable {P : Program} {Gl : Nat → Option (List T)} {K : Orc} {R : Type} {prom : List Nat} {nt : Nat} {g : Gh} {s : St} {a : Act} {w : World}

theorem goes_value {h0 : Heap} {o : Oper} {v : Value} {w' : World} {s' : St} {g' : Gh} (h : (execOp a.eval o).run P w = .ok (.value v) w') (hs : SR Gl prom nt g' s' (a.put o.dst v) w') (hf : FrC g h0 w g' s'.h w') : Goes P Gl prom nt o a w g h0 s' := by
  intro next Q hn
  unfold Oper.wp
  rw [h]
  exact hn _ _ g' hs hf
theorem goes_skip {h0 : Heap} {o : Oper} {w' : World} {s' : St} {g' : Gh} (h : (execOp a.eval o).run P w = .ok .skip w') (hs : SR Gl prom nt g' s' (a.put o.dst undef) w') (hf : FrC g h0 w g' s'.h w') : Goes P Gl prom nt o a w g h0 s' := by
  intro next Q hn
  unfold Oper.wp
  rw [h]
  exact hn _ _ g' hs hf

theorem parted_eq {A : Type} {v : T} {k : T → Option A} {r : A} (h : parted v k = some r) : k v = some r := by
  cases v with
  | bool b => cases b <;> exact h
  | _ => exact h

theorem done_goes {o : Oper} {v : T} {h' : Heap} {hp : Option Heap} {rs : List Nat} {rd wr : Bool} {k : Eff → FP → Option R} {r : R} (hk : done nt o s v hp rs rd wr k = some r) (hs : SR Gl prom nt g s a w) (he : hp.getD s.h = h') (hy : Yields P o a w (Res g s.h w v h')) :
    ∃ f fp, k f fp = some r ∧ Goes P Gl prom nt o a w g s.h (f.app s) := by
  unfold done at hk
  cases hd : o.dst with
  | none =>
    rw [hd] at hk
    refine ⟨_, _, hk, fun next Q hn => hy next Q fun cv w' hres => ?_⟩
    obtain ⟨g', hr', hx, hkp, hf⟩ := hres
    rw [hd]
    subst he; exact hn _ _ g' (hs.done0 hr' hkp hf rfl) (hf.toC hkp)
  | some d =>
    rw [hd] at hk
    obtain ⟨hlt, hk⟩ := bif_none hk
    simp only [Bool.and_eq_true, Bool.not_eq_true'] at hlt
    refine ⟨_, _, parted_eq hk, fun next Q hn => hy next Q fun cv w' hres => ?_⟩
    obtain ⟨g', hr', hx, hkp, hf⟩ := hres
    rw [hd]
    subst he; exact hn _ _ g' (hs.done (blt_lt hlt.1) hr' hx hkp hf rfl hlt.2) (hf.toC hkp)

theorem plainStep_goes (hK : OrcOk P Gl K) {o : Oper} {k : Eff → FP → Option R} {r : R} (hk : plainStep P K Gl prom nt o s k = some r) (hs : SR Gl prom nt g s a w) :
    ∃ f fp, k f fp = some r ∧ Goes P Gl prom nt o a w g s.h (f.app s) := by
  unfold plainStep at hk
  rcases bif_some hk with ⟨hn, hk⟩ | ⟨_, hk⟩
  · rcases Bool.or_eq_true _ _ ▸ hn with hv | hm
    · rw [semVals_any (P := P) (K := K) hv (Ab.ev Gl prom s) [] s.h (fun wr v => bif wr then none else done nt o s v none (opSlots o.op) false false k)] at hk
      obtain ⟨y, h', wr, hk, hwr, hy⟩ := semOp_sound hK hk hs.hr hs.glob hs.ev
      rcases bif_some hk with ⟨_, hk⟩ | ⟨hw, hk⟩
      · cases hk
      obtain rfl := hwr hw
      exact done_goes hk hs rfl hy
    · simp only [Bool.and_eq_true] at hm
      obtain ⟨y, wr, hk, v, hrun, hyr⟩ := semMem_sound hm.1 hm.2 hk hs.hr hs.ev
      rcases bif_some hk with ⟨_, hk⟩ | ⟨_, hk⟩
      · cases hk
      exact done_goes hk hs rfl (yields_value hrun (.pure hs.hr hyr))
  · obtain ⟨y, h', wr, hk, hwr, hy⟩ := semOp_sound hK hk hs.hr hs.glob hs.ev
    refine done_goes hk hs ?_ hy
    cases wr with
    | true => rfl
    | false => exact (hwr rfl).symm

/-- An operand that names a place in a promoted box. -/
theorem base_sound {x : Operand} {t off : Nat} (hb : base prom s x = some (t, off)) (hs : SR Gl prom nt g s a w) {cells : List T} (hc : s.at t = .reg cells) :
    t ∈ prom ∧ ∃ cb arr e, RegOk g s.h w t (a.tmps.getD t undef) cells cb arr e ∧ a.eval x = .pointer (some ⟨cb, off, none⟩) := by
  cases x with
  | tmp d =>
    simp only [base] at hb
    cases hp : prom.contains d with
    | true =>
      rw [hp] at hb
      simp only [cond_true, Option.some.injEq, Prod.mk.injEq] at hb
      obtain ⟨rfl, rfl⟩ := hb
      have hm : d ∈ prom := by simpa using hp
      obtain ⟨cb, arr, e, hreg⟩ := hs.regs d hm cells hc
      exact ⟨hm, cb, arr, e, hreg, hreg.ptr⟩
    | false =>
      rw [hp] at hb
      simp only [cond_false] at hb
      obtain ⟨hm, _, cb, h1, h2⟩ := hs.loc d t off hb
      obtain ⟨cb', arr, e, hreg⟩ := hs.regs t hm cells hc
      have := hreg.ptr
      rw [h1] at this
      simp only [Value.pointer.injEq, Option.some.injEq, Addr.mk.injEq, and_true] at this
      subst this
      exact ⟨hm, cb, arr, e, hreg, h2⟩
  | _ => cases hb

theorem base_place {x : Operand} {t off : Nat} (hb : base prom s x = some (t, off)) (hs : SR Gl prom nt g s a w) {cells : List T} (hc : s.at t = .reg cells) :
    t ∈ prom ∧ ∃ cb, a.tmps.getD t undef = .pointer (some ⟨cb, 0, none⟩) ∧ a.eval x = .pointer (some ⟨cb, off, none⟩) := by
  obtain ⟨hm, cb, arr, e, hreg, hev⟩ := base_sound hb hs hc
  exact ⟨hm, cb, hreg.ptr, hev⟩

theorem RegOk.cellsAt {h : Heap} {t : Nat} {v : Value} {cells : List T} {cb : Nat} {arr : Array Value} {e : TypeId} (hreg : RegOk g h w t v cells cb arr e) : CellsAt g h w cb 0 cells := by
  intro o c ho
  obtain ⟨u, h1, h2, h3⟩ := hreg.cell o c ho
  exact ⟨u, ⟨by simp [World.cell?, hreg.heap, h1], h2⟩, h3⟩

theorem doneLoc_goes {o : Oper} {x : Operand} {t off off' : Nat} {rs : List Nat} {k : Eff → FP → Option R} {r : R} {cells : List T} (hc : s.at t = .reg cells) (hk : doneLoc prom nt o t off' rs k = some r) (hb : base prom s x = some (t, off)) (hs : SR Gl prom nt g s a w)
    (hrun : ∀ cb, a.eval x = .pointer (some ⟨cb, off, none⟩) → (execOp a.eval o).run P w = .ok (.value (.pointer (some ⟨cb, off', none⟩))) w) : ∃ f fp, k f fp = some r ∧ Goes P Gl prom nt o a w g s.h (f.app s) := by
  unfold doneLoc at hk
  cases hd : o.dst with
  | none => rw [hd] at hk; cases hk
  | some d =>
    rw [hd] at hk
    obtain ⟨hc', hk⟩ := bif_none hk
    simp only [Bool.and_eq_true, Bool.not_eq_true'] at hc'
    obtain ⟨hm, cb, h1, h2⟩ := base_place hb hs hc
    refine ⟨_, _, hk, goes_value (g' := g) (hrun cb h2) ?_ (FrC.refl _ _ _)⟩
    rw [hd]
    exact hs.putLoc (blt_lt hc'.1) hm (by simpa using hc'.2) h1

theorem opStep_goes (hK : OrcOk P Gl K) {o : Oper} {k : Eff → FP → Option R} {r : R} (hk : opStep P K Gl prom nt o s k = some r) (hs : SR Gl prom nt g s a w) :
    ∃ f fp, k f fp = some r ∧ Goes P Gl prom nt o a w g s.h (f.app s) := by
  unfold opStep at hk
  split at hk
  · rename_i ty x ho
    cases hd : o.dst with
    | none => rw [hd] at hk; cases hk
    | some d =>
      rw [hd] at hk
      rcases bif_some hk with ⟨hp, hk⟩ | ⟨hp, hk⟩
      · obtain ⟨hc, hk⟩ := bif_none hk
        obtain ⟨c1, c2, c3⟩ := (hs.ev x).cells_rel hc
        unfold done at hk
        rw [hd] at hk
        obtain ⟨hlt, hk⟩ := bif_none hk
        simp only [Bool.and_eq_true, Bool.not_eq_true'] at hlt
        obtain ⟨g', hs', hf⟩ := hs.box (e := ty) (blt_lt hlt.1) (by simpa using hp) hlt.2 c1 c2 c3
        refine ⟨_, _, parted_eq hk, goes_value (g' := g') ?_ (by rw [hd]; exact hs') hf⟩
        unfold execOp
        rw [ho]
        simp [Instr.box, newVar, newRow]
      · exact plainStep_goes hK hk hs
  · rename_i ty ho
    cases hd : o.dst with
    | none => rw [hd] at hk; cases hk
    | some d =>
      rw [hd] at hk
      rcases bif_some hk with ⟨hp, hk⟩ | ⟨hp, hk⟩
      · obtain ⟨hz, hk⟩ := bif_none hk
        obtain ⟨z, hz, hkn, hz1, hz2, hz3, hz4⟩ := zero_run (P := P) (g := g) (h := s.h) (w := w) hz
        unfold done at hk
        rw [hd] at hk
        obtain ⟨hlt, hk⟩ := bif_none hk
        simp only [Bool.and_eq_true, Bool.not_eq_true'] at hlt
        obtain ⟨g', hs', hf⟩ := hs.box (e := ty) (blt_lt hlt.1) (by simpa using hp) hlt.2 hz1 hz3 hz4
        refine ⟨_, _, parted_eq hk, goes_value (g' := g') ?_ (by rw [hd]; exact hs') hf⟩
        unfold execOp
        rw [ho]
        simp [Instr.alloc, hz, newVar, newRow]
      · exact plainStep_goes hK hk hs
  · rename_i ty x ho
    cases hb : base prom s x with
    | none => rw [hb] at hk; exact plainStep_goes hK hk hs
    | some p =>
      obtain ⟨t, off⟩ := p
      rw [hb] at hk
      dsimp only at hk
      cases hc : s.at t with
      | reg cells =>
        rw [hc] at hk
        obtain ⟨hm, cb, arr, e, hreg, hev⟩ := base_sound hb hs hc
        obtain ⟨y, hk, u, hrun, hyr⟩ := ld_sound hk (hreg.cellsAt.drop off)
        rw [Nat.zero_add] at hrun
        refine done_goes hk hs rfl (yields_res (s := Instr.loadAt ty (a.eval x)) (by unfold execOp; rw [ho]) ?_ (.pure hs.hr hyr))
        rw [hev]
        simp [Instr.loadAt, Instr.sureAddr, hrun]
      | _ => rw [hc] at hk; cases hk
  · rename_i ty x v ho
    cases hb : base prom s x with
    | none => rw [hb] at hk; exact plainStep_goes hK hk hs
    | some p =>
      obtain ⟨t, off⟩ := p
      rw [hb] at hk
      dsimp only at hk
      cases hc : s.at t with
      | reg cells =>
        rw [hc] at hk
        cases hd : o.dst with
        | some d => rw [hd] at hk; cases hk
        | none =>
          rw [hd] at hk
          obtain ⟨hcd, hk⟩ := bif_none hk
          simp only [Bool.and_eq_true, beq_iff_eq] at hcd
          obtain ⟨⟨⟨hkn, hsz⟩, hok⟩, hle⟩ := hcd
          have hle := ble_le hle
          obtain ⟨hm, cb, arr, e, hreg, hev⟩ := base_sound hb hs hc
          obtain ⟨c1, c2, c3⟩ := (hs.ev v).cells_rel hok
          have hlen := hreg.len
          have hfit : off + (a.eval v).cells.size ≤ arr.size := by rw [← c1, hsz]; omega
          have hfit' : off + (a.eval v).cells.toList.length ≤ arr.size := by simpa using hfit
          have hrun := run_storeVar (P := P) (w := w) (v := a.eval v) hkn (by rw [← c1, hsz]) hreg.heap hfit c2
          have hsp : off + (Ab.ev Gl prom s v).cells.length ≤ cells.length := by rw [hsz]; exact hle
          obtain ⟨g', hs', hf⟩ := hs.setReg hm hc hreg (arr' := (arr.toList.take off ++ (a.eval v).cells.toList ++ arr.toList.drop (off + (a.eval v).cells.toList.length)).toArray) (cells' := splice cells off (Ab.ev Gl prom s v).cells)
            (written_size arr _ _ hfit') (by rw [splice_length _ _ _ hsp]; exact hlen) (fun i c hi => by
              rw [splice_get _ _ _ _ hsp] at hi
              rw [written arr _ _ _ hfit']
              by_cases hin : off ≤ i ∧ i < off + (Ab.ev Gl prom s v).cells.length
              · rw [if_pos hin] at hi
                rw [if_pos (by simp only [Array.length_toList, ← c1]; exact hin)]
                obtain ⟨u, hu, hur⟩ := c3 _ c hi
                exact ⟨u, by simpa using hu, c2 _ _ hu, hur⟩
              · rw [if_neg hin] at hi
                rw [if_neg (by simp only [Array.length_toList, ← c1]; exact hin)]
                exact hreg.cell i c hi)
          refine ⟨_, _, hk, goes_skip (g' := g') ?_ (by rw [hd]; exact hs') hf⟩
          unfold execOp
          rw [ho]
          simp only [hev, Instr.storeAt, Instr.sureAddr, Sem.run_bind, Sem.run_pure, Result.andThen_ok, hrun]
      | _ => rw [hc] at hk; cases hk
  · rename_i ty x f ho
    cases hb : base prom s x with
    | none => rw [hb] at hk; exact plainStep_goes hK hk hs
    | some p =>
      obtain ⟨t, off⟩ := p
      rw [hb] at hk
      dsimp only at hk
      cases hc : s.at t with
      | reg cells =>
        rw [hc] at hk
        dsimp only at hk
        cases hf : fieldOf P ty f with
        | none => rw [hf] at hk; cases hk
        | some q =>
          obtain ⟨fo, fty⟩ := q
          rw [hf] at hk
          obtain ⟨fs, x', hu, hx', rfl, rfl, hkn, hnz⟩ := fieldOf_eq hf
          refine doneLoc_goes hc hk hb hs (fun cb hev => ?_)
          unfold execOp
          rw [ho]
          have hrun : ∀ ad : Addr, (fieldPlace ad x').run P w = .ok (ad.add x'.offset) w := by
            intro ad
            simp [fieldPlace, run_size hkn, hnz]
          simp [hev, Instr.fieldAt, Instr.sureAddr, run_underlying' hu, hx', hrun, add_none]
      | _ => rw [hc] at hk; cases hk
  · rename_i ty x i ho
    cases hb : base prom s x with
    | none => rw [hb] at hk; exact plainStep_goes hK hk hs
    | some p =>
      obtain ⟨t, off⟩ := p
      rw [hb] at hk
      dsimp only at hk
      cases hc : s.at t with
      | reg cells =>
        rw [hc] at hk
        dsimp only at hk
        cases hi : Ab.ev Gl prom s i with
        | int ki i' =>
          rw [hi] at hk
          cases ha : arrayOf P ty with
          | none => rw [ha] at hk; cases hk
          | some q =>
            obtain ⟨n, e⟩ := q
            rw [ha] at hk
            obtain ⟨hcd, hk⟩ := bif_none hk
            simp only [Bool.and_eq_true, decide_eq_true_eq] at hcd
            obtain ⟨⟨hkn, h0⟩, hlt⟩ := hcd
            have hie := hs.ev i
            rw [hi] at hie
            have hie := hie.int
            have hk := pickAt_some (by omega) hk
            refine doneLoc_goes hc hk hb hs (fun cb hev => ?_)
            unfold execOp
            rw [ho]
            simp [hev, hie, Instr.indexAt, Instr.sureAddr, asIntOf, run_underlying' (arrayOf_eq ha), h0, hlt, run_size hkn, add_none]
        | _ => rw [hi] at hk; cases hk
      | _ => rw [hc] at hk; cases hk
  · rename_i x ho
    cases hb : base prom s x with
    | none => rw [hb] at hk; exact plainStep_goes hK hk hs
    | some p =>
      obtain ⟨t, off⟩ := p
      rw [hb] at hk
      dsimp only at hk
      cases hc : s.at t with
      | reg cells =>
        rw [hc] at hk
        refine doneLoc_goes hc hk hb hs (fun cb hev => ?_)
        unfold execOp
        rw [ho]
        simp [hev]
      | _ => rw [hc] at hk; cases hk
  · exact plainStep_goes hK hk hs
end
end Go.Ab
