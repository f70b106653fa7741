/- An operation on values, whole; a call. -/
import Derived.Test.YtkiedolofnakoaaDoorAbStep
namespace Go.Ab

def GlobOk (Gl : Nat → Option (List T)) (w : World) (U : Nat → Prop) : Prop := ∀ gl cells, Gl gl = some cells → VI w U (.vp cells) (.pointer (some ⟨gl, 0, none⟩))

def ArgsVI (w : World) (U : Nat → Prop) (args : List T) (cargs : Array Value) : Prop := args.length = cargs.size ∧ ∀ (i : Nat) (x : T), args[i]? = some x → ∃ v, cargs[i]? = some v ∧ VI w U x v
def ArgsVR (g : Gh) (h : Heap) (w : World) (args : List T) (cargs : Array Value) : Prop := args.length = cargs.size ∧ ∀ (i : Nat) (x : T), args[i]? = some x → ∃ v, cargs[i]? = some v ∧ g.VR h w x v

/-- Nobody's promoted boxes. -/
def NoRegs (g : Gh) : Prop := ∀ b t, g.own b ≠ some (.inr t)

/-- What is told of the callees is so. -/
structure OrcOk (P : Program) (Gl : Nat → Option (List T)) (K : Orc) : Prop where
  enters : ∀ f, (∃ args r, K.val f args T some = some r) ∨ (∃ args h r, K.ref f args h (T × Heap) (fun v h => some (v, h)) = some r) → ∃ fn, P.funcs[f]? = some fn ∧ fn.body.isNone = false ∧ (fn.name == "runtime.NumGoroutine") = false
  val : ∀ f args r, K.val f args T some = some r → ∀ (w : World) (U : Nat → Prop) (cargs : Array Value), (∀ b, U b → b < w.heap.size) → GlobOk Gl w U → ArgsVI w U args cargs →
    Calls P f cargs w fun e w' => ∃ v, e = .returned v ∧ RV w U r v w'
  ref : ∀ f args h r h', K.ref f args h (T × Heap) (fun v h => some (v, h)) = some (r, h') → ∀ (g : Gh) (w : World) (cargs : Array Value), HR g h w → NoRegs g → GlobOk Gl w g.U → ArgsVR g h w args cargs →
    Calls P f cargs w fun e w' => ∃ v, e = .returned v ∧ Res g h w r h' v w'

section
variable {P : Program} {Gl : Nat → Option (List T)} {K : Orc} {R : Type} {g : Gh} {h : Heap} {w : World}

theorem ArgsVR.append {args caps : List T} {cargs ccaps : Array Value} (ha : ArgsVR g h w args cargs) (hc : ArgsVR g h w caps ccaps) : ArgsVR g h w (args ++ caps) (cargs ++ ccaps) := by
  refine ⟨by simp [ha.1, hc.1], fun i x hi => ?_⟩
  rw [List.getElem?_append] at hi
  split at hi
  · rename_i hlt
    obtain ⟨v, hv, hr⟩ := ha.2 i x hi
    exact ⟨v, by rw [Array.getElem?_append_left (by rw [← ha.1]; exact hlt)]; exact hv, hr⟩
  · rename_i hge
    obtain ⟨v, hv, hr⟩ := hc.2 _ x hi
    exact ⟨v, by rw [Array.getElem?_append_right (by rw [← ha.1]; omega), ← ha.1]; exact hv, hr⟩

/-- The caller's boxes are no concern of a callee's that shares its blocks. -/
theorem res_strip {x : T} {h' : Heap} {v : Value} {w' : World} (hr : HR g h w) (hres : Res { g with own := fun b => match g.own b with | some (.inl i) => some (.inl i) | _ => none } h w x h' v w') : Res g h w x h' v w' := by
  obtain ⟨g', hr', hx, hk, hf⟩ := hres
  let g2 : Gh := { g' with own := fun b => if b < w.heap.size then g.own b else g'.own b }
  have old : ∀ b i, b < w.heap.size → g'.own b = some (.inl i) → g.own b = some (.inl i) := by
    intro b i hb ho
    rw [hf.own b hb] at ho
    dsimp only at ho
    split at ho
    · rename_i j hj; rw [hj]; exact ho
    · cases ho
  refine ⟨g2, ⟨fun i b hib => ?_, fun b hb => ?_, fun b o ho => ?_, ?_⟩, hx, hk, ⟨hf.size, fun b hb => by simp [g2, hb], hf.os, hf.tape, hf.output, fun b hb hn => hf.same b hb (fun i hi => ?_), hf.base, hf.u, fun b hb t => ?_⟩⟩
  · obtain ⟨cb, sh, arr, e, hok⟩ := hr'.blk i b hib
    refine ⟨cb, sh, arr, e, hok.φ, ?_, hok.heap, hok.room, hok.len, hok.cell, hok.flat⟩
    by_cases hlt : cb < w.heap.size
    · simp only [g2, hlt, if_true]; exact old cb i hlt hok.own
    · simp only [g2, hlt, if_false]; exact hok.own
  · obtain ⟨h1, h2⟩ := hr'.u b hb
    refine ⟨h1, ?_⟩
    by_cases hlt : b < w.heap.size
    · simp only [g2, hlt, if_true]
      rcases hf.u b hb with hq | hq
      · exact (hr.u b hq).2
      · omega
    · simp only [g2, hlt, if_false]; exact h2
  · by_cases hlt : b < w.heap.size
    · simp only [g2, hlt, if_true] at ho
      exact ⟨by show g'.base ≤ b; rw [hf.base]; exact (hr.own b o ho).1, by have := hf.size; omega⟩
    · simp only [g2, hlt, if_false] at ho
      exact hr'.own b o ho
  · exact hr'.base
  · dsimp only at hi
    split at hi
    · rename_i j hj; exact hn j hj
    · cases hi
  · simp only [g2, Nat.not_lt.2 hb, if_false]; exact hf.new b hb t

theorem HR.strip (hr : HR g h w) : HR { g with own := fun b => match g.own b with | some (.inl i) => some (.inl i) | _ => none } h w := by
  refine ⟨fun i b hib => ?_, fun b hb => ?_, fun b o ho => ?_, hr.base⟩
  · obtain ⟨cb, sh, arr, e, hok⟩ := hr.blk i b hib
    exact ⟨cb, sh, arr, e, hok.φ, by simp [hok.own], hok.heap, hok.room, hok.len, hok.cell, hok.flat⟩
  · obtain ⟨h1, h2⟩ := hr.u b hb
    exact ⟨h1, by simp [h2]⟩
  · dsimp only at ho
    split at ho
    · rename_i j hj; exact hr.own b _ hj
    · cases ho

theorem calls_yields {o : Oper} {a : Act} {f : FuncId} {cargs : Array Value} {Φ : Value → World → Prop} (hrun : (execOp a.eval o).run P w = .ok (.enter f cargs) w)
    (hc : Calls P f cargs w fun e w' => ∃ v, e = .returned v ∧ Φ v w') : Yields P o a w Φ := by
  intro next Q hn
  unfold Oper.wp
  rw [hrun, Oper.upon_enter]
  refine hc.mono fun e w' hv => ?_
  obtain ⟨v, rfl, hΦ⟩ := hv
  exact hn v w' hΦ

theorem semCall_sound (hK : OrcOk P Gl K) {o : Oper} {a : Act} {of : Operand} {oargs : Array Operand} {ts : Array TypeId} (ho : o.op = .call { callee := .value of, args := oargs, argTypes := ts })
    {f : T} {args : List T} {k : Kont R} {r : R} (hk : semCall K f args h k = some r) (hr : HR g h w) (hgl : GlobOk Gl w g.U) (hf : g.VR h w f (a.eval of)) (ha : ArgsVR g h w args (oargs.map a.eval)) :
    ∃ y h' wr, k y h' wr = some r ∧ (wr = false → h' = h) ∧ Yields P o a w (Res g h w y h') := by
  cases f with
  | fn f caps =>
    obtain ⟨cs, hev, hcl, hcc⟩ := hf.fn_inv
    have hargs : ArgsVR g h w (args ++ caps) (oargs.map a.eval ++ cs) := ha.append ⟨hcl, hcc⟩
    have hrun : (∃ fn, P.funcs[f]? = some fn ∧ fn.body.isNone = false ∧ (fn.name == "runtime.NumGoroutine") = false) → (execOp a.eval o).run P w = .ok (.enter f (oargs.map a.eval ++ cs)) w := by
      rintro ⟨fn, h1, h2, h3⟩
      unfold execOp
      rw [ho]
      have h3' : ¬ fn.name = "runtime.NumGoroutine" := by simpa using h3
      have h2' : ¬ fn.body = none := by intro hh; rw [hh] at h2; cases h2
      simp [Go.resolve, hev, Deferred.ofValue, invoke, callFunc, h1, h2', h3']
    simp only [semCall] at hk
    rcases bif_some hk with ⟨hb, hk⟩ | ⟨hb, hk⟩
    · obtain ⟨⟨v, h'⟩, hk, hall⟩ := det_some (K.refDet f (args ++ caps) h) (k := fun p => k p.1 p.2 true) hk
      · have hK' := hall (T × Heap) some
        refine ⟨_, _, _, hk, (fun hh => by cases hh), ?_⟩
        have hc := hK.ref f _ h v h' hK' _ w (oargs.map a.eval ++ cs) hr.strip (fun b t => by dsimp only; split <;> simp) hgl hargs
        exact calls_yields (hrun (hK.enters f (.inr ⟨_, _, _, hK'⟩))) (hc.mono fun e w' ⟨v', e1, e2⟩ => ⟨v', e1, res_strip hr e2⟩)
    · obtain ⟨rr, hk, hall⟩ := det_some (K.valDet f ((args ++ caps).map (resolveArg h))) hk
      · have hK' := hall T some
        refine ⟨_, _, _, hk, fun hh => ?_, ?_⟩
        · have : noFresh rr = true := by simpa using hh
          exact taken_noFresh this
        · have hent := hrun (hK.enters f (.inl ⟨_, _, hK'⟩))
          cases hs : (args ++ caps).all imm with
          | true =>
            have hall := List.all_eq_true.1 hs
            have hc := hK.val f _ rr hK' w g.U (oargs.map a.eval ++ cs) (fun b hb => (hr.u b hb).1) hgl ⟨by simpa using hargs.1, fun i x hi => by
              obtain ⟨x0, h0, rfl⟩ := map_get hi
              obtain ⟨v, hv, hvr⟩ := hargs.2 i x0 h0
              have hi0 := hall x0 (List.mem_of_getElem? h0)
              refine ⟨v, hv, ?_⟩
              simp only [resolveArg, hi0, cond_true]
              exact imm_vi hi0 hvr⟩
            exact calls_yields hent (hc.mono fun e w' ⟨v', e1, e2⟩ => ⟨v', e1, taken_res hr e2 (fun _ => rfl)⟩)
          | false =>
            have hc := hK.val f _ rr hK' w (fun b => b < w.heap.size) (oargs.map a.eval ++ cs) (fun b hb => hb) (fun gl cells hg => (hgl gl cells hg).keep (keepU_of (reads_all hr).u)) ⟨by simpa using hargs.1, fun i x hi => by
              obtain ⟨x0, h0, rfl⟩ := map_get hi
              obtain ⟨v, hv, hvr⟩ := hargs.2 i x0 h0
              exact ⟨v, hv, resolveArg_vi hr hvr⟩⟩
            exact calls_yields hent (hc.mono fun e w' ⟨v', e1, e2⟩ => ⟨v', e1, taken_res hr e2 (fun hh => by cases hh)⟩)
  | _ => simp [semCall] at hk

/-- What an operation yields that runs to a value, all in one world or with a new one. -/
theorem yields_res {o : Oper} {a : Act} {s : Sem Value} {v : Value} {w' : World} {y : T} {h' : Heap} (he : execOp a.eval o = (do pure (.value (← s)))) (hrun : s.run P w = .ok v w') (hres : Res g h w y h' v w') : Yields P o a w (Res g h w y h') :=
  yields_value (by rw [he]; simp [hrun]) hres

theorem args_rel {ops : List Operand} {e : Operand → T} {ce : Operand → Value} (he : ∀ x, g.VR h w (e x) (ce x)) : ∀ (i : Nat) (x : T), (ops.map e)[i]? = some x → ∃ v, (ops.map ce)[i]? = some v ∧ g.VR h w x v := by
  intro i x hi
  rw [List.getElem?_map] at hi
  cases ho : ops[i]? with
  | none => simp [ho] at hi
  | some o =>
    rw [ho] at hi
    obtain rfl := Option.some.inj hi
    exact ⟨ce o, by simp [ho], he o⟩
theorem args_arr {ops : Array Operand} {e : Operand → T} {ce : Operand → Value} (he : ∀ x, g.VR h w (e x) (ce x)) : ArgsVR g h w (ops.toList.map e) (ops.map ce) := by
  refine ⟨by simp, fun i x hi => ?_⟩
  obtain ⟨v, hv, hr⟩ := args_rel (ops := ops.toList) he i x hi
  exact ⟨v, by rw [← hv]; simp, hr⟩
theorem parts_rel {ps : Array (Nat × Operand)} {e : Operand → T} {ce : Operand → Value} (he : ∀ x, g.VR h w (e x) (ce x)) :
    ∀ (n : Nat) (p : Nat × T), (ps.toList.map fun p => (p.1, e p.2))[n]? = some p → ∃ q : Nat × Value, (ps.map fun p => (p.1, ce p.2)).toList[n]? = some q ∧ q.1 = p.1 ∧ g.VR h w p.2 q.2 := by
  intro n p hn
  rw [List.getElem?_map] at hn
  cases ho : ps.toList[n]? with
  | none => simp [ho] at hn
  | some o =>
    rw [ho] at hn
    obtain rfl := Option.some.inj hn
    refine ⟨(o.1, ce o.2), ?_, rfl, he o.2⟩
    rw [Array.toList_map, List.getElem?_map, ho]
    rfl
theorem opt_rel {x : Option Operand} {e : Operand → T} {ce : Operand → Value} (he : ∀ x, g.VR h w (e x) (ce x)) : OptR g h w (x.map e) (x.map ce) := by
  cases x with
  | none => exact .inl ⟨rfl, rfl⟩
  | some x => exact .inr ⟨_, _, rfl, rfl, he x⟩

theorem semBuiltin_sound {o : Oper} {a : Act} {b : Builtin} {oargs : Array Operand} {ts : Array TypeId} (ho : o.op = .call { callee := .builtin b, args := oargs, argTypes := ts })
    {args : List T} {k : Kont R} {r : R} (hk : semBuiltin P b ts.toList args h k = some r) (hr : HR g h w) (ha : ArgsVR g h w args (oargs.map a.eval)) :
    ∃ y h' wr, k y h' wr = some r ∧ (wr = false → h' = h) ∧ Yields P o a w (Res g h w y h') := by
  have one : ∀ {x : T}, args = [x] → ∃ u, oargs.map a.eval = #[u] ∧ g.VR h w x u := by
    rintro x rfl
    obtain ⟨v, hv, hvr⟩ := ha.2 0 x rfl
    refine ⟨v, ?_, hvr⟩
    have h1 : (oargs.map a.eval).size = 1 := ha.1.symm
    apply Array.ext (by simp [h1])
    intro i hi _
    have : i = 0 := by omega
    subst this
    rw [Array.getElem?_eq_getElem hi] at hv
    simpa using Option.some.inj hv
  have two : ∀ {x y : T}, args = [x, y] → ∃ u v, oargs.map a.eval = #[u, v] ∧ g.VR h w x u ∧ g.VR h w y v := by
    rintro x y rfl
    obtain ⟨u, hu, hur⟩ := ha.2 0 x rfl
    obtain ⟨v, hv, hvr⟩ := ha.2 1 y rfl
    refine ⟨u, v, ?_, hur, hvr⟩
    have h1 : (oargs.map a.eval).size = 2 := ha.1.symm
    apply Array.ext (by simp [h1])
    intro i hi _
    have : i = 0 ∨ i = 1 := by omega
    rcases this with rfl | rfl
    · rw [Array.getElem?_eq_getElem hi] at hu
      simpa using Option.some.inj hu
    · rw [Array.getElem?_eq_getElem hi] at hv
      simpa using Option.some.inj hv
  have hex : ∀ (s : Sem Value), builtin b ts o.type (oargs.map fun | .const _ => true | _ => false) (oargs.map a.eval) = (do pure (.value (← s))) → execOp a.eval o = (do pure (.value (← s))) := by
    intro s hs
    unfold execOp
    rw [ho]
    show (do let d ← Go.resolve a.eval { callee := .builtin b, args := oargs, argTypes := ts } o.type; invoke d.target d.args) = _
    exact hs
  have fin : ∀ {s : Sem Value} {y : T} {h' : Heap} {v : Value} {w' : World}, builtin b ts o.type (oargs.map fun | .const _ => true | _ => false) (oargs.map a.eval) = (do pure (.value (← s))) → s.run P w = .ok v w' → Res g h w y h' v w' → Yields P o a w (Res g h w y h') :=
    fun hs hrun hres => yields_res (hex _ hs) hrun hres
  have tl : ∀ {t : TypeId} {l : List TypeId}, ts.toList = t :: l → ts[0]? = some t := by
    intro t l he
    rw [← Array.getElem?_toList, he]; rfl
  unfold semBuiltin at hk
  split at hk
  · rename_i t l x hts
    obtain ⟨u, hu, hur⟩ := one rfl
    obtain ⟨z, hz, c, hrun, hzr⟩ := semLen_sound (ty := o.type) hk hur (tl hts)
    exact ⟨z, h, false, hz, fun _ => rfl, fin (s := Builtin.len_ ts o.type (oargs.map a.eval)) rfl (by rw [hu]; exact hrun) (.pure hr hzr)⟩
  · rename_i t l x hts
    obtain ⟨u, hu, hur⟩ := one rfl
    obtain ⟨z, hz, c, hrun, hzr⟩ := semCap_sound (ty := o.type) hk hur (tl hts)
    exact ⟨z, h, false, hz, fun _ => rfl, fin (s := Builtin.cap_ ts o.type (oargs.map a.eval)) rfl (by rw [hu]; exact hrun) (.pure hr hzr)⟩
  · rename_i t tx l s x hts
    obtain ⟨u, v, hu, hur, hvr⟩ := two rfl
    obtain ⟨hx, hk⟩ := bif_none hk
    obtain ⟨z, h', wr, hz, hwr, c, w', hrun, hres⟩ := semAppend_sound (tx := tx) (ty := o.type) hk hx hr hur hvr
    refine ⟨z, h', wr, hz, hwr, fin (s := Builtin.append_ ts o.type (oargs.map a.eval)) rfl ?_ hres⟩
    rw [hu]
    have e : Builtin.append_ ts o.type #[u, v] = Builtin.append_ #[t, tx] o.type #[u, v] := by
      unfold Builtin.append_
      have e0 : ts[0]? = (#[t, tx] : Array TypeId)[0]? := tl hts
      have e1 : ts[1]? = (#[t, tx] : Array TypeId)[1]? := by rw [← Array.getElem?_toList, hts]; rfl
      rw [e0, e1]
    rw [e]; exact hrun
  · rename_i t l d x hts
    obtain ⟨u, v, hu, hur, hvr⟩ := two rfl
    obtain ⟨z, h', wr, hz, hwr, c, w', hrun, hres⟩ := semCopy_sound (tx := t) (ty := o.type) hk hr hur hvr
    refine ⟨z, h', wr, hz, hwr, fin (s := Builtin.copy_ ts o.type (oargs.map a.eval)) rfl ?_ hres⟩
    rw [hu]
    have e : Builtin.copy_ ts o.type #[u, v] = Builtin.copy_ #[t, t] o.type #[u, v] := by
      unfold Builtin.copy_
      have e0 : ts[0]? = (#[t, t] : Array TypeId)[0]? := tl hts
      rw [e0]
    rw [e]; exact hrun
  · rename_i x y
    obtain ⟨u, v, hu, hur, hvr⟩ := two rfl
    obtain ⟨z, hz, c, hrun, hzr⟩ := semMin2_sound (ty := o.type) (ts := ts) hk hur hvr
    exact ⟨z, h, false, hz, fun _ => rfl, fin (s := Builtin.min_ ts o.type (oargs.map a.eval)) rfl (by rw [hu]; exact hrun) (.pure hr hzr)⟩
  · rename_i x y
    obtain ⟨u, v, hu, hur, hvr⟩ := two rfl
    obtain ⟨z, hz, c, hrun, hzr⟩ := semMin2_sound (ty := o.type) (ts := ts) hk hur hvr
    exact ⟨z, h, false, hz, fun _ => rfl, fin (s := Builtin.max_ ts o.type (oargs.map a.eval)) rfl (by rw [hu]; exact hrun) (.pure hr hzr)⟩
  · cases hk

theorem exec_build {o : Oper} {ρ : Operand → Value} {t : TypeId} {ps : Array (Nat × Operand)} (ho : o.op = .build t ps) : execOp ρ o = (do pure (.value (← Instr.build t (ps.map fun p => (p.1, ρ p.2))))) := by
  unfold execOp
  rw [ho]
theorem exec_buildSlice {o : Oper} {ρ : Operand → Value} {t : TypeId} {len : Nat} {ps : Array (Nat × Operand)} (ho : o.op = .buildSlice t len ps) : execOp ρ o = (do pure (.value (← Instr.buildSlice t len (ps.map fun p => (p.1, ρ p.2))))) := by
  unfold execOp
  rw [ho]

set_option maxHeartbeats 1000000 in
/-- An operation on values is met by the model's. -/
theorem semOp_sound (hK : OrcOk P Gl K) {o : Oper} {a : Act} {e : Operand → T} {k : Kont R} {r : R} (hk : semOp P K o.op e h k = some r) (hr : HR g h w) (hgl : GlobOk Gl w g.U) (he : ∀ x, g.VR h w (e x) (a.eval x)) :
    ∃ y h' wr, k y h' wr = some r ∧ (wr = false → h' = h) ∧ Yields P o a w (Res g h w y h') := by
  have ofRun : ∀ {s : Sem Value}, execOp a.eval o = (do pure (.value (← s))) → (∃ y, k y h false = some r ∧ ∃ u, s.run P w = .ok u w ∧ g.VR h w y u) → ∃ y h' wr, k y h' wr = some r ∧ (wr = false → h' = h) ∧ Yields P o a w (Res g h w y h') := by
    rintro s hs ⟨y, hy, u, hrun, hyr⟩
    exact ⟨y, h, false, hy, fun _ => rfl, yields_res hs hrun (.pure hr hyr)⟩
  have ofVal : ∀ (x : Operand), execOp a.eval o = pure (.value (a.eval x)) → k (e x) h false = some r → ∃ y h' wr, k y h' wr = some r ∧ (wr = false → h' = h) ∧ Yields P o a w (Res g h w y h') :=
    fun x hs hk => ⟨e x, h, false, hk, fun _ => rfl, yields_value (by rw [hs]; rfl) (.pure hr (he x))⟩
  unfold semOp at hk
  split at hk
  · rename_i x ho; exact ofVal x (by unfold execOp; rw [ho]) hk
  · rename_i x ho; exact ofVal x (by unfold execOp; rw [ho]) hk
  · rename_i c x y ho
    cases hc : e c with
    | bool t =>
      rw [hc] at hk
      have hce := he c
      rw [hc] at hce
      have hce := hce.bool
      rcases bif_some hk with ⟨rfl, hk⟩ | ⟨rfl, hk⟩
      · exact ⟨e x, h, false, hk, fun _ => rfl, yields_value (v := a.eval x) (by unfold execOp; rw [ho]; simp [hce, asBool]) (.pure hr (he x))⟩
      · exact ⟨e y, h, false, hk, fun _ => rfl, yields_value (v := a.eval y) (by unfold execOp; rw [ho]; simp [hce, asBool]) (.pure hr (he y))⟩
    | _ => simp [hc] at hk
  · rename_i ty ho
    obtain ⟨hz, hk⟩ := bif_none hk
    obtain ⟨z, hz, hkn, hz1, hz2, hz3, hz4⟩ := zero_run (P := P) (g := g) (h := h) (w := w) hz
    obtain ⟨y, h', hy, hres⟩ := semAlloc_sound (e := ty) hk hr hz1 hz3 hz4
    exact ⟨y, h', true, hy, (fun hh => by cases hh), yields_res (s := Instr.alloc ty true (.tuple #[])) (by unfold execOp; rw [ho]) (by simp [Instr.alloc, hz, newVar, newRow]) hres⟩
  · rename_i ty x ho
    obtain ⟨hc, hk⟩ := bif_none hk
    obtain ⟨c1, c2, c3⟩ := (he x).cells_rel hc
    obtain ⟨y, h', hy, hres⟩ := semAlloc_sound (e := ty) hk hr c1 c2 c3
    exact ⟨y, h', true, hy, (fun hh => by cases hh), yields_res (s := Instr.box ty (a.eval x)) (by unfold execOp; rw [ho]) (by simp [Instr.box, newVar, newRow]) hres⟩
  · rename_i t ps ho
    exact ofRun (exec_build ho) (semBuild_sound hk (by simp) (parts_rel he))
  · rename_i t len ps ho
    obtain ⟨y, h', hy, v, w', hrun, hres⟩ := semBuildSlice_sound (cparts := ps.map fun p => (p.1, a.eval p.2)) hk hr (by simp) (parts_rel he)
    exact ⟨y, h', true, hy, (fun hh => by cases hh), yields_res (exec_buildSlice ho) hrun hres⟩
  · rename_i t x ho
    exact ofRun (s := Instr.loadAt t (a.eval x)) (by unfold execOp; rw [ho]) (semLoad_sound hk hr (he x))
  · rename_i t x v ho
    obtain ⟨h', hy, w', hrun, hres⟩ := semStore_sound hk hr (he x) (he v)
    refine ⟨_, h', true, hy, (fun hh => by cases hh), yields_skip ?_ hres⟩
    unfold execOp
    rw [ho]
    simp [hrun]
  · rename_i x ho
    obtain ⟨hy, hu⟩ := semNil_sound hk (he x)
    refine ⟨_, h, false, hy, fun _ => rfl, yields_value (v := a.eval x) ?_ (.pure hr (he x))⟩
    unfold execOp
    rw [ho]
    rcases hu with ⟨ad, hu⟩ | ⟨f, cs, hu⟩ <;> simp [hu]
  · rename_i op t x y ty ho
    exact ofRun (s := do eqGuard op t x y (a.eval x) (a.eval y); binOp op t (a.eval x) (a.eval y)) (by unfold execOp; rw [ho]) (semBin_sound hk (he x) (he y))
  · rename_i op t x ho
    exact ofRun (s := Op.unary op (a.eval x)) (by unfold execOp; rw [ho]) (semUn_sound hk (he x))
  · rename_i src dst x ho
    cases hs : P.underlying src with
    | none => simp [hs] at hk
    | some d =>
      simp only [hs, Option.isSome_some, cond_true] at hk
      exact ofRun (s := convert src dst (a.eval x)) (by unfold execOp; rw [ho]) (semConvert_sound hk hr (he x) ⟨d, hs⟩)
  · rename_i f first cap ho
    obtain ⟨hf, hk⟩ := bif_none hk
    have hf : first = #[] := by simpa using hf
    subst hf
    obtain ⟨q1, q2⟩ := args_arr (ops := cap) he
    exact ⟨_, h, false, hk, fun _ => rfl, yields_res (s := Instr.makeFunc (.func f) ((#[] : Array Operand).map a.eval) (cap.map a.eval)) (by unfold execOp; rw [ho]) (by simp [Instr.makeFunc]) (.pure hr (VR.mk_fn q1 q2))⟩
  · rename_i t l c ho
    obtain ⟨y, h', hy, v, w', hrun, hres⟩ := semMake_sound hk hr (he l) (he c)
    exact ⟨y, h', true, hy, (fun hh => by cases hh), yields_res (s := Instr.makeSlice t (a.eval l) (a.eval c)) (by unfold execOp; rw [ho]) hrun hres⟩
  · rename_i t x lo hi mx ho
    exact ofRun (s := Instr.sliceAt t (a.eval x) (lo.map a.eval) (hi.map a.eval) (mx.map a.eval)) (by unfold execOp; rw [ho]) (semSlice_sound hk (he x) (opt_rel he) (opt_rel he) (opt_rel he))
  · rename_i t x f ho
    exact ofRun (s := Instr.fieldAt t (a.eval x) f) (by unfold execOp; rw [ho]) (semFieldAddr_sound hk (he x))
  · rename_i t x f ho
    exact ofRun (s := Instr.field t (a.eval x) f) (by unfold execOp; rw [ho]) (semField_sound hk (he x))
  · rename_i t x i ho
    exact ofRun (s := Instr.indexAt t (a.eval x) (a.eval i)) (by unfold execOp; rw [ho]) (semIndexAddr_sound hk (he x) (he i))
  · rename_i t x i ho
    exact ofRun (s := Instr.index t (a.eval x) (a.eval i)) (by unfold execOp; rw [ho]) (semIndex_sound hk (he x) (he i))
  · rename_i x i ho
    exact ofRun (s := Instr.extract (a.eval x) i) (by unfold execOp; rw [ho]) (semExtract_sound hk (he x))
  · rename_i f args ts ho
    exact semCall_sound hK ho hk hr hgl (he f) (args_arr he)
  · rename_i b args ts ho
    exact semBuiltin_sound ho hk hr (args_arr he)
  · cases hk

theorem vr_nil {U : Nat → Prop} {φ : Nat → Option (Nat × Nat)} {x : T} {v : Value} (hx : VR w U φ [] x v) : VI w U x v := by
  generalize hh : ([] : Heap) = h0 at hx
  induction hx with
  | imm x v hv => exact hv
  | own i ver off len cap b v hb hver h1 hok => subst hh; simp at hb
  | ptr i ver j o b v hb hver h1 hok => subst hh; simp at hb
  | fn f caps cs vs hl hc hv ih => exact .fn f caps cs vs hl hc (fun i c hi => ih i c hi)
  | agg l cs vs hl h1 hc hv ih => exact .agg l cs vs hl h1 hc (fun i c hi => ih i c hi)
  | tup l cs vs hl hc hv ih => exact .tup l cs vs hl hc (fun i c hi => ih i c hi)
  | iface t x v hv ih => exact .iface t x v ih

theorem HR.empty (hr : HR g h w) : HR g [] w := ⟨fun i b hb => by simp at hb, hr.u, hr.own, hr.base⟩

/-- An operation that looks into no own block. -/
theorem semMem_sound {o : Oper} {a : Act} {e : Operand → T} {k : Kont R} {r : R} (hb : onMem o.op = true) (hi : (o.op.operands.toList.all fun x => imm (e x)) = true) (hk : semOp P K o.op e [] k = some r) (hr : HR g h w) (he : ∀ x, g.VR h w (e x) (a.eval x)) :
    ∃ y wr, k y [] wr = some r ∧ ∃ v, (execOp a.eval o).run P w = .ok (.value v) w ∧ g.VR h w y v := by
  have hall := List.all_eq_true.1 hi
  have hev : ∀ x, x ∈ o.op.operands.toList → g.VR [] w (e x) (a.eval x) := fun x hx => .imm _ _ (imm_vi (hall x hx) (he x))
  have ofRun : ∀ {s : Sem Value}, execOp a.eval o = (do pure (.value (← s))) → (∃ y, k y [] false = some r ∧ ∃ u, s.run P w = .ok u w ∧ g.VR [] w y u) → ∃ y wr, k y [] wr = some r ∧ ∃ v, (execOp a.eval o).run P w = .ok (.value v) w ∧ g.VR h w y v := by
    rintro s hs ⟨y, hy, u, hrun, hyr⟩
    exact ⟨y, false, hy, u, by rw [hs]; simp [hrun], .imm _ _ (vr_nil hyr)⟩
  have opt : ∀ {x : Option Operand}, (∀ y, x = some y → y ∈ o.op.operands.toList) → OptR g [] w (x.map e) (x.map a.eval) := by
    intro x hx
    cases x with
    | none => exact .inl ⟨rfl, rfl⟩
    | some x => exact .inr ⟨_, _, rfl, rfl, hev x (hx x rfl)⟩
  unfold semOp at hk
  split at hk
  all_goals first | (cases hk; done) | (rename_i ho; rw [ho] at hb; simp [onMem] at hb; done) | skip
  · rename_i t x ho
    exact ofRun (s := Instr.loadAt t (a.eval x)) (by unfold execOp; rw [ho]) (semLoad_sound hk hr.empty (hev x (by rw [ho]; simp [Op.operands])))
  · rename_i x ho
    obtain ⟨hy, hu⟩ := semNil_sound hk (hev x (by rw [ho]; simp [Op.operands]))
    refine ⟨_, false, hy, a.eval x, ?_, he x⟩
    unfold execOp
    rw [ho]
    rcases hu with ⟨ad, hu⟩ | ⟨f, cs, hu⟩ <;> simp [hu]
  · rename_i op t x y ty ho
    exact ofRun (s := do eqGuard op t x y (a.eval x) (a.eval y); binOp op t (a.eval x) (a.eval y)) (by unfold execOp; rw [ho]) (semBin_sound hk (hev x (by rw [ho]; simp [Op.operands])) (hev y (by rw [ho]; simp [Op.operands])))
  · rename_i src dst x ho
    cases hs : P.underlying src with
    | none => simp [hs] at hk
    | some d =>
      simp only [hs, Option.isSome_some, cond_true] at hk
      exact ofRun (s := convert src dst (a.eval x)) (by unfold execOp; rw [ho]) (semConvert_sound hk hr.empty (hev x (by rw [ho]; simp [Op.operands])) ⟨d, hs⟩)
  · rename_i t x lo hi mx ho
    exact ofRun (s := Instr.sliceAt t (a.eval x) (lo.map a.eval) (hi.map a.eval) (mx.map a.eval)) (by unfold execOp; rw [ho]) (semSlice_sound hk (hev x (by rw [ho]; simp [Op.operands]))
      (opt (fun y hy => by rw [ho, hy]; simp [Op.operands])) (opt (fun y hy => by rw [ho, hy]; simp [Op.operands])) (opt (fun y hy => by rw [ho, hy]; simp [Op.operands])))
  · rename_i t x f ho
    exact ofRun (s := Instr.fieldAt t (a.eval x) f) (by unfold execOp; rw [ho]) (semFieldAddr_sound hk (hev x (by rw [ho]; simp [Op.operands])))
  · rename_i t x i ho
    exact ofRun (s := Instr.indexAt t (a.eval x) (a.eval i)) (by unfold execOp; rw [ho]) (semIndexAddr_sound hk (hev x (by rw [ho]; simp [Op.operands])) (hev i (by rw [ho]; simp [Op.operands])))
  · rename_i b oargs ts ho
    have ha : ArgsVR g [] w (oargs.toList.map e) (oargs.map a.eval) := by
      refine ⟨by simp, fun i x hi => ?_⟩
      rw [List.getElem?_map] at hi
      cases hoi : oargs.toList[i]? with
      | none => simp [hoi] at hi
      | some y =>
        rw [hoi] at hi
        obtain rfl := Option.some.inj hi
        refine ⟨a.eval y, by rw [Array.getElem?_map, ← Array.getElem?_toList, hoi]; rfl, hev y ?_⟩
        rw [ho]
        have := List.mem_of_getElem? hoi
        simpa [Op.operands, Call.operands] using this
    have hex : ∀ (s : Sem Value), builtin b ts o.type (oargs.map fun | .const _ => true | _ => false) (oargs.map a.eval) = (do pure (.value (← s))) → execOp a.eval o = (do pure (.value (← s))) := by
      intro s hs
      unfold execOp
      rw [ho]
      show (do let d ← Go.resolve a.eval { callee := .builtin b, args := oargs, argTypes := ts } o.type; invoke d.target d.args) = _
      exact hs
    have arr1 : ∀ {x : T}, oargs.toList.map e = [x] → ∃ u, oargs.map a.eval = #[u] ∧ g.VR [] w x u := by
      intro x hx
      rw [hx] at ha
      obtain ⟨v, hv, hvr⟩ := ha.2 0 x rfl
      refine ⟨v, ?_, hvr⟩
      have h1 : (oargs.map a.eval).size = 1 := ha.1.symm
      apply Array.ext (by simp [h1])
      intro i hi _
      have : i = 0 := by omega
      subst this
      rw [Array.getElem?_eq_getElem hi] at hv
      simpa using Option.some.inj hv
    have arr2 : ∀ {x y : T}, oargs.toList.map e = [x, y] → ∃ u v, oargs.map a.eval = #[u, v] ∧ g.VR [] w x u ∧ g.VR [] w y v := by
      intro x y hx
      rw [hx] at ha
      obtain ⟨u, hu, hur⟩ := ha.2 0 x rfl
      obtain ⟨v, hv, hvr⟩ := ha.2 1 y rfl
      refine ⟨u, v, ?_, hur, hvr⟩
      have h1 : (oargs.map a.eval).size = 2 := ha.1.symm
      apply Array.ext (by simp [h1])
      intro i hi _
      have : i = 0 ∨ i = 1 := by omega
      rcases this with rfl | rfl
      · rw [Array.getElem?_eq_getElem hi] at hu
        simpa using Option.some.inj hu
      · rw [Array.getElem?_eq_getElem hi] at hv
        simpa using Option.some.inj hv
    have tl : ∀ {t : TypeId} {l : List TypeId}, ts.toList = t :: l → ts[0]? = some t := by
      intro t l he
      rw [← Array.getElem?_toList, he]; rfl
    unfold semBuiltin at hk
    split at hk
    · rename_i t l x hts hargs
      obtain ⟨u, hu, hur⟩ := arr1 hargs
      exact ofRun (hex (Builtin.len_ ts o.type (oargs.map a.eval)) rfl) (by rw [hu]; exact semLen_sound (ty := o.type) hk hur (tl hts))
    · rename_i t l x hts hargs
      obtain ⟨u, hu, hur⟩ := arr1 hargs
      exact ofRun (hex (Builtin.cap_ ts o.type (oargs.map a.eval)) rfl) (by rw [hu]; exact semCap_sound (ty := o.type) hk hur (tl hts))
    · rw [ho] at hb; simp [onMem] at hb
    · rw [ho] at hb; simp [onMem] at hb
    · rename_i x y hargs
      obtain ⟨u, v, hu, hur, hvr⟩ := arr2 hargs
      exact ofRun (hex (Builtin.min_ ts o.type (oargs.map a.eval)) rfl) (by rw [hu]; exact semMin2_sound (ty := o.type) (ts := ts) hk hur hvr)
    · rename_i x y hargs
      obtain ⟨u, v, hu, hur, hvr⟩ := arr2 hargs
      exact ofRun (hex (Builtin.max_ ts o.type (oargs.map a.eval)) rfl) (by rw [hu]; exact semMin2_sound (ty := o.type) (ts := ts) hk hur hvr)
    · cases hk

/-- An operation on values alone does not know the own blocks. -/
theorem semVals_any {op : Op} (hv : onVals op = true) (e : Operand → T) (h h' : Heap) (k : Bool → T → Option R) : semOp P K op e h (fun y _ wr => k wr y) = semOp P K op e h' (fun y _ wr => k wr y) := by
  cases op <;> first | rfl | (simp [onVals] at hv; done) | skip
  case makeFunc fn first cap => cases fn <;> rfl
end
end Go.Ab
