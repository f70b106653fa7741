/- A call: what the interpreter tells of it is so. -/
import Derived.RangeFuncLeaves
import Derived.RangeFuncRecord
import Derived.Test.YtjjnbjkbgjgpoaaP2
set_option linter.all false
namespace Go.Ab

/-- The reader of a result. -/
def readRes (tmps : Array Value) : ResultVar → Sem Value
  | .tmp t => pure (tmps.getD t undef)
  | .cell a t => do loadVar t (← asAddr (tmps.getD a undef))

theorem results_eq (fn : Func) (tmps : Array Value) : results fn tmps = (do let vs ← fn.results.mapM (readRes tmps); pure (if h : vs.size = 1 then vs[0] else .tuple vs)) := by
  unfold results
  first | rfl | (congr 1; done) | (congr 1; congr 1; done) | (congr 1; congr 1; funext r; cases r <;> rfl)

section
variable {P : Program} {K : Orc} {Gl : Nat → Option (List T)} {prom : List Nat} {nt : Nat} {R : Type} {g : Gh} {s : St} {a : Act} {w : World}

theorem run_asAddr {ty : TypeId} {v u : Value} (h : (Instr.loadAt ty v).run P w = .ok u w) : (do loadVar ty (← asAddr v) : Sem Value).run P w = .ok u w := by
  cases v with
  | pointer p =>
    cases p with
    | some ad => simpa [Instr.loadAt, Instr.sureAddr, asAddr] using h
    | none => simp [Instr.loadAt, Instr.sureAddr, stuck] at h
  | _ => simp [Instr.loadAt, Instr.sureAddr, stuck] at h

theorem resOf_sound (hs : SR Gl prom nt g s a w) {rv : ResultVar} {k : T → Option R} {r : R} (hk : resOf P Gl prom s rv k = some r) :
    ∃ x, k x = some r ∧ ∃ v, (readRes a.tmps rv).run P w = .ok v w ∧ g.VR s.h w x v := by
  cases rv with
  | tmp t =>
    refine ⟨_, hk, _, rfl, ?_⟩
    have := hs.ev (.tmp t)
    simpa [Act.eval] using this
  | cell c ty =>
    simp only [resOf] at hk
    cases hb : base prom s (.tmp c) with
    | some p =>
      obtain ⟨t, off⟩ := p
      rw [hb] at hk
      dsimp only at hk
      cases hc : s.at t with
      | reg cells =>
        rw [hc] at hk
        obtain ⟨hm, cb, arr, e, hreg, hev⟩ := base_sound hb hs hc
        obtain ⟨y, hk, u, hrun, hyr⟩ := ld_sound hk (hreg.cellsAt.drop off)
        rw [Nat.zero_add] at hrun
        have hev' : a.tmps.getD c undef = .pointer (some ⟨cb, off, none⟩) := by simpa [Act.eval] using hev
        refine ⟨y, hk, u, ?_, hyr⟩
        simp [readRes, hev', asAddr, hrun]
      | _ => rw [hc] at hk; cases hk
    | none =>
      rw [hb] at hk
      dsimp only at hk
      have hp : c ∉ prom := by
        intro hp
        have : prom.contains c = true := by simpa using hp
        simp only [base, this, cond_true] at hb
        cases hb
      obtain ⟨y, hk, u, hrun, hyr⟩ := semLoad_sound (k := fun v _ _ => k v) hk hs.hr (hs.tmps c hp)
      exact ⟨y, hk, u, run_asAddr hrun, hyr⟩

theorem resAll_sound (hs : SR Gl prom nt g s a w) : ∀ (l : List ResultVar) {k : List T → Option R} {r : R}, resAll P Gl prom s l k = some r →
    ∃ xs, k xs = some r ∧ ∃ vs : List Value, (l.mapM (readRes a.tmps)).run P w = .ok vs w ∧ xs.length = vs.length ∧ ∀ (i : Nat) (x : T), xs[i]? = some x → ∃ v, vs[i]? = some v ∧ g.VR s.h w x v
  | [], k, r, hk => ⟨[], hk, [], rfl, rfl, fun i x hi => by simp at hi⟩
  | rv :: l, k, r, hk => by
    simp only [resAll] at hk
    obtain ⟨x, hk, v, h1, h2⟩ := resOf_sound hs hk
    obtain ⟨xs, hk, vs, h3, h4, h5⟩ := resAll_sound hs l hk
    refine ⟨x :: xs, hk, v :: vs, ?_, by simp [h4], fun i y hi => ?_⟩
    · simp [List.mapM_cons, h1, h3]
    · cases i with
      | zero =>
        simp only [List.getElem?_cons_zero, Option.some.injEq] at hi
        subst hi
        exact ⟨v, rfl, h2⟩
      | succ i => exact h5 i y (by simpa using hi)

theorem resK_sound (hs : SR Gl prom nt g s a w) {fn : Func} {k : T → Option R} {r : R} (hk : resK P Gl prom fn s k = some r) :
    ∃ x, k x = some r ∧ ∃ v, (results fn a.tmps).run P w = .ok v w ∧ g.VR s.h w x v := by
  unfold resK at hk
  obtain ⟨xs, hk, vs, h1, h2, h3⟩ := resAll_sound hs _ hk
  have hrun : (fn.results.mapM (readRes a.tmps)).run P w = .ok vs.toArray w := by
    rw [Array.mapM_eq_mapM_toList]
    rw [map_eq_pure_bind]
    simp only [Sem.run_bind, h1, Result.andThen_ok, Sem.run_pure]
  rw [results_eq]
  have hres : (do let vs ← fn.results.mapM (readRes a.tmps); pure (if h : vs.size = 1 then vs[0] else .tuple vs) : Sem Value).run P w = .ok (if h : vs.toArray.size = 1 then vs.toArray[0] else .tuple vs.toArray) w := by
    simp only [Sem.run_bind, hrun, Result.andThen_ok, Sem.run_pure]
  have tup : vs.length ≠ 1 → k (.tup xs) = some r → ∃ x, k x = some r ∧ ∃ v, (do let vs ← fn.results.mapM (readRes a.tmps); pure (if h : vs.size = 1 then vs[0] else .tuple vs) : Sem Value).run P w = .ok v w ∧ g.VR s.h w x v := by
    intro hl hk
    refine ⟨_, hk, _, hres, ?_⟩
    rw [dif_neg (by simpa using hl)]
    exact VR.mk_tup (by simpa using h2) (fun i c hi => by
      obtain ⟨v, q1, q2⟩ := h3 i c hi
      exact ⟨v, by simpa using q1, q2⟩)
  match xs, h2, h3, hk, tup with
  | [x], h2, h3, hk, _ =>
    obtain ⟨v, q1, q2⟩ := h3 0 x rfl
    refine ⟨x, hk, v, ?_, q2⟩
    rw [hres]
    have hl : vs.length = 1 := by simpa using h2.symm
    rw [dif_pos (by simpa using hl)]
    congr 1
    rw [List.getElem?_eq_getElem (by omega)] at q1
    simpa using Option.some.inj q1
  | [], h2, h3, hk, tup => exact tup (by simp at h2; omega) hk
  | x :: y :: l, h2, h3, hk, tup => exact tup (by simp at h2; omega) hk

/-! ### Entering -/
theorem enterEnv_get (t : Nat) (ht : t < 1024) : ∀ (l : List T) (i : Nat) (e : Tr), i + l.length ≤ 1024 → Tr.get deep (enterEnv i l e) t = if i ≤ t ∧ t < i + l.length then l.getD (t - i) .undef else Tr.get deep e t
  | [], i, e, _ => by
    rw [if_neg (by simp)]
    rfl
  | x :: l, i, e, hl => by
    simp only [List.length_cons] at hl
    simp only [enterEnv]
    rw [enterEnv_get t ht l (i + 1) _ (by omega)]
    have hset : Tr.get deep (Tr.set deep e i x) t = if t = i then x else Tr.get deep e t := Tr.get_set 10 e i t x (by omega) ht
    rw [hset]
    simp only [List.length_cons]
    by_cases h1 : t = i
    · subst h1
      rw [if_neg (by omega), if_pos rfl, if_pos (by omega), Nat.sub_self]
      rfl
    · rw [if_neg h1]
      by_cases h2 : i ≤ t ∧ t < i + (l.length + 1)
      · rw [if_pos (by omega), if_pos h2, show t - i = (t - (i + 1)) + 1 by omega]
        rfl
      · rw [if_neg (by omega), if_neg h2]

theorem enter_at (args : List T) (h : Heap) (hl : args.length ≤ 1024) (t : Nat) : (enter args h).at t = args.getD t .undef := by
  rcases Nat.lt_or_ge t 1024 with ht | ht
  · rw [at_lt ht]
    have := enterEnv_get t ht args 0 .nil (by omega)
    simp only [Nat.zero_add, Nat.zero_le, true_and, Nat.sub_zero] at this
    rw [show (enter args h).env = enterEnv 0 args .nil from rfl, this]
    split
    · rfl
    · rename_i hx
      rw [List.getD_eq_getElem?_getD, List.getElem?_eq_none (by omega)]
      rfl
  · rw [at_ge (by omega), List.getD_eq_getElem?_getD, List.getElem?_eq_none (by omega)]
    rfl

theorem SR.enter {args : List T} {h : Heap} {cargs : Array Value} (hlow : g.low ≤ w.heap.size) (hr : HR g h w) (hgl : GlobOk Gl w g.U) (ha : ArgsVR g h w args cargs) (hnt : nt ≤ 1024) (hle : args.length ≤ nt) :
    SR Gl prom nt g (enter args h) { tmps := cargs ++ Array.replicate (nt - cargs.size) undef, defers := [] } w := by
  have hsz : cargs.size = args.length := ha.1.symm
  have hat := enter_at args h (by omega)
  have hv : ∀ t, g.VR h w ((Ab.enter args h).at t) ((cargs ++ Array.replicate (nt - cargs.size) undef).getD t undef) := by
    intro t
    rw [hat]
    rcases Nat.lt_or_ge t args.length with ht | ht
    · obtain ⟨v, q1, q2⟩ := ha.2 t args[t] (by simp [ht])
      rw [List.getD_eq_getElem?_getD, List.getElem?_eq_getElem ht, Array.getD_eq_getD_getElem?, Array.getElem?_append_left (by omega), q1]
      exact q2
    · rw [List.getD_eq_getElem?_getD, List.getElem?_eq_none ht]
      exact .imm _ _ (.undef _)
  refine ⟨hr, Marks.nil hlow, by simp [hsz]; omega, hnt, fun t _ => hv t, fun t _ cells hc => ?_, fun d t o hl => (by cases hl), hgl, fun d t o hl => (by cases hl)⟩
  have := hv t
  rw [hc] at this
  exact absurd this VR.not_reg

variable {A : FuncId → Ann}

theorem resK_det (fn : Func) (s : St) : Det fun R k => resK (R := R) P Gl prom fn s k := by
  unfold resK
  refine det_bind (g := fun vs R k => match vs with | [v] => k v | vs => k (T.tup vs)) (resAll_det P Gl prom s _) fun vs => ?_
  match vs with
  | [v] => exact det_ret v
  | [] => exact det_ret (T.tup [])
  | x :: y :: l => exact det_ret (T.tup (x :: y :: l))

theorem resE_det (fn : Func) (e : Ex) (s : St) : Det (A := T × Heap) fun R k => resE (R := R) P Gl prom fn e s fun v h => k (v, h) := by
  cases e with
  | exit i => exact det_none
  | normal => exact det_bind (g := fun v _ k => k (v, s.h)) (resK_det fn s) fun v => det_ret (v, s.h)
  | ret => exact det_bind (g := fun v _ k => k (v, s.h)) (resK_det fn s) fun v => det_ret (v, s.h)

theorem bodyR_det {rec : Rec} (hrec : RecDet rec) (f : FuncId) (fn : Func) (c : Code) (args : List T) (h : Heap) : Det (A := T × Heap) fun _R k => bodyR P Gl A K rec f fn c args h fun v h => k (v, h) := by
  unfold bodyR
  refine det_if _ (det_bind2 (exK_det P K Gl (A f).prom fn.ntmps (A f).live hrec c (enter args h)) fun e s => resE_det fn e s)

theorem runR_det {rec : Func → Rec} (hrec : ∀ fn, RecDet (rec fn)) (f : FuncId) (args : List T) (h : Heap) : Det (A := T × Heap) fun _R k => runR P Gl A K rec f args h fun v h => k (v, h) := by
  unfold runR
  cases P.funcs[f]? with
  | none => exact det_none
  | some fn =>
    dsimp only
    cases fn.body with
    | none => exact det_none
    | some c => exact bodyR_det (hrec fn) _ _ _ _ _

theorem runR_some {rec : Func → Rec} (hrec : ∀ fn, RecDet (rec fn)) {f : FuncId} {args : List T} {h : Heap} {k : T → Heap → Option R} {r : R} (hk : runR P Gl A K rec f args h k = some r) : ∃ v h', k v h' = some r ∧ runR P Gl A K rec f args h (fun v h => some (v, h)) = some (v, h') := by
  obtain ⟨⟨v, h'⟩, h1, h2⟩ := det_some (runR_det (P := P) (K := K) (Gl := Gl) (A := A) hrec f args h) (k := fun p => k p.1 p.2) hk
  exact ⟨v, h', h1, h2 _ some⟩

/-- The world has gone on where we do not look. -/
theorem SR.world (hs : SR Gl prom nt g s a w) {w' : World} {ds : List Deferred} (hsize : w.heap.size ≤ w'.heap.size) (hsame : ∀ b, g.U b ∨ g.own b ≠ none → w'.heap[b]? = w.heap[b]?) (hrm : ∀ b n, room w b n → room w' b n)
    (hds : Marks g w' ds) : SR Gl prom nt g s { a with defers := ds } w' := by
  have hk : Keep g s.h w g s.h w' := ⟨fun b hb => ⟨hb, hsame b (.inl hb)⟩, fun i b hb => ⟨b, hb, Nat.le_refl _, fun _ => ⟨rfl, Nat.le_refl _, rfl⟩⟩, hrm⟩
  refine ⟨⟨fun i b hb => ?_, fun b hb => ⟨Nat.lt_of_lt_of_le (hs.hr.u b hb).1 hsize, (hs.hr.u b hb).2⟩, fun b o ho => ⟨(hs.hr.own b o ho).1, Nat.lt_of_lt_of_le (hs.hr.own b o ho).2 hsize⟩, Nat.le_trans hs.hr.base hsize, fun b o ho => by obtain ⟨arr, e, q⟩ := hs.hr.cells b o ho; exact ⟨arr, e, (hsame b (.inr (by rw [ho]; simp))).trans q⟩⟩,
    hds, hs.size, hs.nt, fun t ht => (hs.tmps t ht).keep hk, fun t ht cells hc => ?_, hs.loc, fun gl cells hg => (hs.glob gl cells hg).keep hk.u, hs.used⟩
  · obtain ⟨cb, sh, arr, e, hok⟩ := hs.hr.blk i b hb
    exact ⟨cb, sh, arr, e, hok.φ, hok.own, (hsame cb (.inr (by rw [hok.own]; simp))).trans hok.heap, hok.room, hok.len, fun j o c hj ho => by
      obtain ⟨v, q1, q2, q3⟩ := hok.cell j o c hj ho
      exact ⟨v, q1, q2, q3.keep hk⟩, hok.flat⟩
  · obtain ⟨cb, arr, e, hreg⟩ := hs.regs t ht cells hc
    exact ⟨cb, arr, e, hreg.keep hk rfl (hsame cb (.inr (by rw [hreg.own]; simp)))⟩

theorem HR.setLow {h : Heap} (hr : HR g h w) (n : Nat) : HR { g with low := n } h w :=
  ⟨fun i b hb => by obtain ⟨cb, sh, arr, e, hok⟩ := hr.blk i b hb; exact ⟨cb, sh, arr, e, hok.φ, hok.own, hok.heap, hok.room, hok.len, hok.cell, hok.flat⟩, hr.u, hr.own, hr.base, hr.cells⟩

/-- The blocks of the deferred calls are shut. -/
def turn : List Nat → World → World
  | [], w => w
  | D :: l, w => turn l (w.putObj D (.deferred none))
theorem turn_is : ∀ (l : List Nat) (w : World), (turn l w).heap.size = w.heap.size ∧ (turn l w).os = w.os ∧ (turn l w).tape = w.tape ∧ (turn l w).output = w.output ∧ ∀ b, b ∉ l → (turn l w).heap[b]? = w.heap[b]?
  | [], w => ⟨rfl, rfl, rfl, rfl, fun _ _ => rfl⟩
  | D :: l, w => by
    obtain ⟨h1, h2, h3, h4, h5⟩ := turn_is l (w.putObj D (.deferred none))
    refine ⟨by simp only [turn]; rw [h1, World.putObj_size], by simp only [turn]; rw [h2]; rfl, by simp only [turn]; rw [h3]; rfl, by simp only [turn]; rw [h4]; rfl, fun b hb => ?_⟩
    simp only [List.mem_cons, not_or] at hb
    simp only [turn]
    rw [h5 b hb.2, World.putObj_heap_other hb.1]
theorem leaves_marks {F : Fence} {n : Nat} {fn : Func} {tmps : Array Value} {R : Ending → World → Prop} : ∀ (l : List Nat) (w : World), l.Nodup → (∀ D ∈ l, w.heap[D]? = some (.deferred (some []))) →
    (∃ v, (results fn tmps).run P (turn l w) = .ok v (turn l w) ∧ R (.returned v) (turn l w)) → LeavesInM F n P fn tmps R (l.map mark) .returning w
  | [], w, _, _, h => by simpa [LeavesInM, LeavesIn, turn] using h
  | D :: l, w, hn, hD, h => by
    rw [List.nodup_cons] at hn
    refine ⟨by simp, .inl ⟨D, _, rfl, run_takeDeferred (hD D (by simp)), leaves_marks l _ hn.2 (fun E hE => ?_) h⟩⟩
    rw [World.putObj_heap_other (by rintro rfl; exact hn.1 hE)]
    exact hD E (by simp [hE])

/-- What is told of a function's loops is so. -/
def RecsOk (P : Program) (Gl : Nat → Option (List T)) (A : FuncId → Ann) (f : FuncId) (rec : Func → Rec) : Prop :=
  ∀ fn c, P.funcs[f]? = some fn → fn.body = some c → fn.ntmps ≤ 1024 → RecOk P Gl (A f).prom fn.ntmps (A f).live (fun b => b ∈ loopsOf c) (rec fn)

/-- A call that shares the caller's blocks. -/
theorem runR_calls (hm : P.follows .mixedOrders = true) (hK : OrcOk P Gl K) {f : FuncId} {rec : Func → Rec} (hrec : RecsOk P Gl A f rec) {args : List T} {h h' : Heap} {r : T} (hk : runR P Gl A K rec f args h (fun v h => some (v, h)) = some (r, h'))
    {cargs : Array Value} (hr : HR g h w) (hno : NoRegs g) (hgl : GlobOk Gl w g.U) (ha : ArgsVR g h w args cargs) :
    Calls P f cargs w fun e w' => ∃ v, e = .returned v ∧ Res g h w r h' v w' := by
  unfold runR at hk
  cases hf : P.funcs[f]? with
  | none => rw [hf] at hk; cases hk
  | some fn =>
    rw [hf] at hk
    dsimp only at hk
    cases hb : fn.body with
    | none => rw [hb] at hk; cases hk
    | some c =>
      rw [hb] at hk
      dsimp only [bodyR] at hk
      obtain ⟨hc, hk⟩ := bif_none hk
      simp only [Bool.and_eq_true] at hc
      have hnt := ble_le hc.1
      have hle := ble_le hc.2
      obtain ⟨e, s', hk, hgo⟩ := exK_goes hm hK hnt (hrec fn c hf hb hnt) c (fun _ hb => hb) hk
      have hs0 := SR.enter (Gl := Gl) (prom := (A f).prom) (Nat.le_refl _) (hr.setLow w.heap.size) hgl ha hnt hle
      rw [← callsIn_wide (n := 0)]
      refine callsIn_of_wp_marks hf hb trivial (hgo none 0 (fun _ => rfl) _ _ w hs0 _ fun a' w' g' hs' hf' _ => ?_) rfl
      have fin : resK P Gl (A f).prom fn s' (fun v => some (v, s'.h)) = some (r, h') → LeavesInM Fence.wide 0 P fn a'.tmps (fun e w' => ∃ v, e = .returned v ∧ Res g h w r h' v w') a'.defers .returning w' := by
        intro hk
        obtain ⟨hlo, l, hl1, hl2, hl3⟩ := hs'.defers
        obtain ⟨t1, t2, t3, t4, t5⟩ := turn_is l w'
        have hlow : g'.low = w.heap.size := hf'.low
        have hoff : ∀ b, g'.U b ∨ g'.own b ≠ none → b ∉ l := by
          rintro b hb hbl
          obtain ⟨q1, q2, q3, q4⟩ := hl3 b hbl
          rcases hb with hb | hb
          · exact q3 hb
          · exact hb q2
        have hrm : ∀ b n, room w' b n → room (turn l w') b n := by
          rintro b n ⟨arr, e, h1, h2⟩
          refine ⟨arr, e, ?_, h2⟩
          rw [t5 b fun hbl => ?_]
          · exact h1
          · have := (hl3 b hbl).2.2.2
            rw [h1] at this; cases this
        have hs2 := hs'.world (w' := turn l w') (ds := []) (by omega) (fun b hb => t5 b (hoff b hb)) hrm (Marks.nil (by omega))
        obtain ⟨x, hk, v, h1, h2⟩ := resK_sound hs2 hk
        simp only [Option.some.injEq, Prod.mk.injEq] at hk
        obtain ⟨rfl, rfl⟩ := hk
        rw [hl1]
        refine leaves_marks l w' hl2 (fun D hD => (hl3 D hD).2.2.2) ⟨v, h1, v, rfl, { g' with own := fun b => match g'.own b with | some (.inl i) => some (.inl i) | _ => none, low := g.low }, (hs2.hr.strip).setLow g.low, h2, ?_, ?_⟩
        · exact hf'.keep.trans ⟨fun b hb => ⟨hb, t5 b (hoff b (.inl hb))⟩, fun i b hb => ⟨b, hb, Nat.le_refl _, fun _ => ⟨rfl, Nat.le_refl _, rfl⟩⟩, hrm⟩
        · refine ⟨by have := hf'.size; omega, fun b hb => ?_, t2.trans hf'.os, t3.trans hf'.tape, t4.trans hf'.output, fun b hb hn => ?_, ?_, hf'.u, fun b hb t => by dsimp only; split <;> simp⟩
          · dsimp only
            rw [hf'.own b hb]
            dsimp only
            cases ho : g.own b with
            | none => rfl
            | some q =>
              cases q with
              | inl i => rfl
              | inr t => exact absurd ho (hno b t)
          · rw [t5 b fun hbl => by have := (hl3 b hbl).1; omega]
            refine hf'.same b hb ?_
            dsimp only
            cases ho : g.own b with
            | none => rfl
            | some q =>
              cases q with
              | inl i => exact absurd ho (hn i)
              | inr t => exact absurd ho (hno b t)
          · have := hf'.base
            simp only [Gh.bs, this]
      cases e with
      | normal => exact fin hk
      | ret => exact fin hk
      | exit i => cases hk

/-- A call that is told by values alone. -/
theorem runR_val (hm : P.follows .mixedOrders = true) (hK : OrcOk P Gl K) {f : FuncId} {rec : Func → Rec} (hdet : ∀ fn, RecDet (rec fn)) (hrec : RecsOk P Gl A f rec) {args : List T} {r : T} (hk : runR P Gl A K rec f args [] (fun v h => some (give h v)) = some r)
    {cargs : Array Value} {U : Nat → Prop} (hU : ∀ b, U b → b < w.heap.size) (hgl : GlobOk Gl w U) (ha : ArgsVI w U args cargs) :
    Calls P f cargs w fun e w' => ∃ v, e = .returned v ∧ RV w U r v w' := by
  obtain ⟨rv, h', hgive, hk2⟩ := runR_some hdet hk
  obtain rfl := Option.some.inj hgive
  let g0 : Gh := { U := U, φ := fun _ => none, own := fun _ => none, base := w.heap.size, low := 0 }
  have hr : HR g0 [] w := ⟨fun i b hb => by simp at hb, fun b hb => ⟨hU b hb, rfl⟩, fun b o ho => (by cases ho), Nat.le_refl _, fun b o ho => (by cases ho)⟩
  refine (runR_calls (g := g0) hm hK hrec hk2 hr (fun b t => by simp [g0]) hgl ⟨ha.1, fun i x hi => ?_⟩).mono fun e w' ⟨v, he, hres⟩ => ⟨v, he, ?_⟩
  · obtain ⟨v, q1, q2⟩ := ha.2 i x hi
    exact ⟨v, q1, .imm _ _ q2⟩
  · obtain ⟨g', hr', hx, hkp, hf⟩ := hres
    have hbase : g'.base = w.heap.size := hf.base
    obtain ⟨X, q1, q2, q3⟩ := give_sound hr' (B := w.heap.size) (by omega) hx
    refine ⟨⟨hf.os, hf.tape, hf.output, hf.size, fun b hb => hf.same b hb (fun i => by simp [g0])⟩, Given g' w' w.heap.size (tops rv), X, fun b hb => .inl (hkp.u b hb).1, fun b hb => ?_, q2, q3, q1⟩
    rcases hb with hb | hb
    · exact ⟨hf.u b hb, (hr'.u b hb).1⟩
    · exact ⟨.inr hb.1, hb.2.1⟩

/-- No function of the model's own, seen by its name, is told of. -/
def namesOk (P : Program) : Bool := P.funcs.all fun fn => fn.body.isNone || !(fn.name == "runtime.NumGoroutine")

theorem runR_enters (hn : namesOk P = true) {rec : Func → Rec} {f : FuncId} {args : List T} {h : Heap} {k : T → Heap → Option R} {r : R} (hk : runR P Gl A K rec f args h k = some r) : ∃ fn, P.funcs[f]? = some fn ∧ fn.body.isNone = false ∧ (fn.name == "runtime.NumGoroutine") = false := by
  unfold runR at hk
  cases hf : P.funcs[f]? with
  | none => rw [hf] at hk; cases hk
  | some fn =>
    rw [hf] at hk
    dsimp only at hk
    cases hb : fn.body with
    | none => rw [hb] at hk; cases hk
    | some c =>
      refine ⟨fn, rfl, by rw [hb]; rfl, ?_⟩
      have := Array.all_eq_true'.1 hn fn (Array.mem_of_getElem? hf)
      rw [hb] at this
      simpa using this

theorem recN_det (P : Program) (Gl : Nat → Option (List T)) (A : FuncId → Ann) (K : Orc) (m : Nat) (f : FuncId) : ∀ fn, RecDet (recN P Gl A K m f fn) := fun _fn => loopN_det P K Gl _ _ _ m

theorem recN_ok (hm : P.follows .mixedOrders = true) (hK : OrcOk P Gl K) (m : Nat) (f : FuncId) : RecsOk P Gl A f (recN P Gl A K m f) := fun _ _ _ _ hnt => (loopN_ok hm hK hnt m).mono

/-- One level of calls over known callees. -/
def stepO (P : Program) (Gl : Nat → Option (List T)) (A : FuncId → Ann) (m : Nat) (K : Orc) : Orc where
  byRef f := (A f).byRef
  val f args _R k := runR P Gl A K (recN P Gl A K m f) f args [] fun v h => k (give h v)
  ref f args h _R k := runR P Gl A K (recN P Gl A K m f) f args h k
  valDet f args := det_bind2 (runR_det (recN_det P Gl A K m f) f args []) fun v h => det_ret (give h v)
  refDet f args h := runR_det (recN_det P Gl A K m f) f args h

theorem stepO_ok (hm : P.follows .mixedOrders = true) (hn : namesOk P = true) (hK : OrcOk P Gl K) (m : Nat) : OrcOk P Gl (stepO P Gl A m K) := by
  refine ⟨fun f hx => ?_, fun f args r hx w U cargs hU hgl ha => runR_val hm hK (recN_det P Gl A K m f) (recN_ok hm hK m f) hx hU hgl ha,
    fun f args h r h' hx g w cargs hr hno hgl ha => runR_calls hm hK (recN_ok hm hK m f) hx hr hno hgl ha⟩
  rcases hx with ⟨args, r, hx⟩ | ⟨args, h, r, hx⟩
  · exact runR_enters hn hx
  · exact runR_enters hn hx

/-- Nothing is known. -/
def noneO : Orc := ⟨fun _ => false, fun _ _ _ _ => none, fun _ _ _ _ _ => none, fun _ _ => det_none, fun _ _ _ => det_none⟩
theorem none_ok : OrcOk P Gl noneO :=
  ⟨fun f hx => (by rcases hx with ⟨args, r, hx⟩ | ⟨args, h, r, hx⟩ <;> cases hx), fun f args r hx => (by cases hx), fun f args h r h' hx => (by cases hx)⟩

/-- 'm': rounds of a loop; 'n': calls within calls; 'K': what is known of callees at the bottom. -/
def arunO (P : Program) (Gl : Nat → Option (List T)) (A : FuncId → Ann) (m : Nat) : Nat → Orc
  | 0 => noneO
  | n + 1 => stepO P Gl A m (arunO P Gl A m n)
def arunV (P : Program) (Gl : Nat → Option (List T)) (A : FuncId → Ann) (m n : Nat) (f : FuncId) (args : List T) : Option T := (arunO P Gl A m n).val f args T some

theorem arun_ok (hm : P.follows .mixedOrders = true) (hn : namesOk P = true) (m : Nat) : ∀ n, OrcOk P Gl (arunO P Gl A m n)
  | 0 => none_ok
  | n + 1 => stepO_ok hm hn (arun_ok hm hn m n) m

/-- What the interpreter tells of a call is so. -/
theorem arunV_calls (hm : P.follows .mixedOrders = true) (hn : namesOk P = true) {m n : Nat} {f : FuncId} {args : List T} {r : T} (hk : arunV P Gl A m n f args = some r)
    {cargs : Array Value} {U : Nat → Prop} {w : World} (hU : ∀ b, U b → b < w.heap.size) (hgl : GlobOk Gl w U) (ha : ArgsVI w U args cargs) :
    Calls P f cargs w fun e w' => ∃ v, e = .returned v ∧ RV w U r v w' :=
  (arun_ok hm hn m n).val f args r hk w U cargs hU hgl ha

/-- What is told of a function at some arguments. -/
inductive Tree where
  | none
  | ret (v : T)
  | ite (c : Bool) (x y : Tree)
def Tree.run {R : Type} : Tree → (T → Option R) → Option R
  | .none, _ => Option.none
  | .ret v, k => k v
  | .ite c x y, k => bif c then x.run k else y.run k
theorem Tree.det : ∀ t : Tree, Det fun R k => t.run (R := R) k
  | .none => det_none
  | .ret v => det_ret v
  | .ite c x y => det_bif c x.det y.det

/-- A table of what is known of functions, with one more. -/
def Orc.add (K : Orc) (f : FuncId) (spec : List T → Tree) : Orc where
  byRef e := bif e == f then false else K.byRef e
  ref := K.ref
  val e args R k := bif e == f then (spec args).run k else K.val e args R k
  valDet e args := det_bif _ (spec args).det (K.valDet e args)
  refDet := K.refDet

theorem Orc.add_ok (hm : P.follows .mixedOrders = true) (hn : namesOk P = true) {K' : Orc} (hK' : OrcOk P Gl K') (hK : OrcOk P Gl K) {f : FuncId} {rec : Func → Rec} (hdet : ∀ fn, RecDet (rec fn)) (hrec : RecsOk P Gl A f rec) {spec : List T → Tree}
    (hs : ∀ args r, (spec args).run some = some r → runR P Gl A K rec f args [] (fun v h => some (give h v)) = some r) : OrcOk P Gl (K'.add f spec) := by
  refine ⟨fun e hx => ?_, fun e args r hx w U cargs hU hgl ha => ?_, hK'.ref⟩
  · rcases hx with ⟨args, r, hx⟩ | hx
    · simp only [Orc.add] at hx
      rcases bif_some hx with ⟨he, hy⟩ | ⟨_, hy⟩
      · have he : e = f := by simpa using he
        subst he
        exact runR_enters hn (hs args r hy)
      · exact hK'.enters e (.inl ⟨args, r, hy⟩)
    · exact hK'.enters e (.inr hx)
  · simp only [Orc.add] at hx
    rcases bif_some hx with ⟨he, hy⟩ | ⟨_, hy⟩
    · have he : e = f := by simpa using he
      subst he
      exact runR_val hm hK hdet hrec (hs args r hy) hU hgl ha
    · exact hK'.val e args r hy w U cargs hU hgl ha

/-- One more, told over a table. -/
theorem stepV_add (hm : P.follows .mixedOrders = true) (hn : namesOk P = true) {K' : Orc} (hK' : OrcOk P Gl K') (hK : OrcOk P Gl K) {_m : Nat} {f : FuncId} {spec : List T → Tree}
    (hs : ∀ args r, (spec args).run some = some r → ∃ A m, stepV P Gl A K m f args = some r) : OrcOk P Gl (K'.add f spec) := by
  refine ⟨fun e hx => ?_, fun e args r hx w U cargs hU hgl ha => ?_, hK'.ref⟩
  · rcases hx with ⟨args, r, hx⟩ | hx
    · simp only [Orc.add] at hx
      rcases bif_some hx with ⟨he, hy⟩ | ⟨_, hy⟩
      · have he : e = f := by simpa using he
        subst he
        obtain ⟨A, m, hv⟩ := hs args r hy
        exact runR_enters hn hv
      · exact hK'.enters e (.inl ⟨args, r, hy⟩)
    · exact hK'.enters e (.inr hx)
  · simp only [Orc.add] at hx
    rcases bif_some hx with ⟨he, hy⟩ | ⟨_, hy⟩
    · have he : e = f := by simpa using he
      subst he
      obtain ⟨A, m, hv⟩ := hs args r hy
      exact runR_val hm hK (recN_det P Gl A K m e) (recN_ok hm hK m e) hv hU hgl ha
    · exact hK'.val e args r hy w U cargs hU hgl ha
end
end Go.Ab

