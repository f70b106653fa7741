/- Each operation of the abstract interpreter is met by the model's: make, slices, fields, indexes, arithmetic, conversion. -/
import Derived.Test.YtkiedolofnakoaaDoorAbOps3
import Derived.IntWalk
namespace Go.Ab
section
variable {P : Program} {R : Type} {g : Gh} {h : Heap} {w : World}

theorem elemTy_eq {t e : TypeId} (h : elemTy P t = some e) : P.underlying t = some (.slice e) := by
  unfold elemTy at h
  cases hu : P.underlying t with
  | none => simp [hu] at h
  | some d =>
    rw [hu] at h
    cases d <;> simp at h
    rw [h]
theorem arrayOf_eq {t e : TypeId} {n : Nat} (h : arrayOf P t = some (n, e)) : P.underlying t = some (.array n e) := by
  unfold arrayOf at h
  cases hu : P.underlying t with
  | none => simp [hu] at h
  | some d =>
    rw [hu] at h
    cases d <;> simp at h
    rw [h.1, h.2]

theorem wrap_i64 {n : Int} (h1 : -9223372036854775808 ≤ n) (h2 : n ≤ 9223372036854775807) : IntKind.i64.wrap n = n := by
  exact IntWalk.i64_in n ⟨h1, h2⟩

theorem semMake_sound {t : TypeId} {l c : T} {k : Kont R} {r : R} {cl cc : Value} (hk : semMake P t l c h k = some r) (hr : HR g h w) (hl : g.VR h w l cl) (hc : g.VR h w c cc) :
    ∃ y h', k y h' true = some r ∧ ∃ v w', (Instr.makeSlice t cl cc).run P w = .ok v w' ∧ Res g h w y h' v w' := by
  unfold semMake at hk
  cases he : elemTy P t with
  | none => simp [he] at hk
  | some e =>
    rw [he] at hk
    cases l with
    | int kl l =>
      cases c with
      | int kc c =>
        dsimp only at hk
        obtain ⟨hz, hk⟩ := bif_none hk
        obtain ⟨hcond, hk⟩ := bif_none hk
        simp only [Bool.and_eq_true, decide_eq_true_eq] at hcond
        obtain ⟨⟨⟨q1, q2⟩, q3⟩, q4⟩ := hcond
        obtain rfl := hl.int
        obtain rfl := hc.int
        obtain ⟨z, hz, hkn, hz1, hz2, hz3, hz4⟩ := zero_run (P := P) (g := g) (h := h) (w := w) hz
        obtain ⟨i, hi⟩ := known_info hkn
        have hb : bytesTy P e = i.bytes := by simp [bytesTy, hi]
        refine ⟨_, _, hk, .slice (some ⟨w.heap.size, 0, none⟩) l.toNat c.toNat, w.alloc (.cells ((Array.range (c.toNat * szTy P e)).map (z.cells[· % z.cells.size]!)) e), ?_, ?_⟩
        · unfold Instr.makeSlice
          simp only [Sem.run_bind, run_underlying' (elemTy_eq he), Result.andThen_ok]
          have e1 := wrap_i64 (n := l) (by omega) (by omega)
          have e2 := wrap_i64 (n := c) (by omega) (by omega)
          have hn : ¬ ((decide (c < 0) || decide ((i.bytes : Int) * c > 2 ^ 48) || decide (l < 0) || decide (l > c)) = true) := by
            rw [hb] at q3
            have q5 : (i.bytes : Int) * c ≤ 140737488355328 := by rw [Int.mul_comm]; exact q3
            have e3 : ((2 : Int) ^ 48) = 281474976710656 := by decide
            simp only [Bool.or_eq_true, decide_eq_true_eq, not_or, e3]
            omega
          have hti : (typeInfo e).run P w = .ok i w := by simp [typeInfo, hi]
          simp only [asInt, asIntOf, Sem.run_bind, Sem.run_pure, Result.andThen_ok, hti, e1, e2, hn, if_false, run_askRoom, run_size hkn, Bool.false_eq_true]
          by_cases h0 : c.toNat * szTy P e = 0
          · simp only [h0, if_true, Sem.run_bind, Sem.run_pure, Result.andThen_ok, map_range0]
            rfl
          · simp only [h0, if_false, Sem.run_bind, hz, Sem.run_pure, Result.andThen_ok]
            rfl
        · obtain ⟨g', e1, _, hr', hkeep, hfr⟩ := hr.alloc (w' := w.alloc (.cells ((Array.range (c.toNat * szTy P e)).map (z.cells[· % z.cells.size]!)) e)) (cb := w.heap.size) (sh := 0) (arr := (Array.range (c.toNat * szTy P e)).map (z.cells[· % z.cells.size]!)) (e := e)
            (b' := ⟨0, szTy P e, c.toNat, fun _ => zeroTy P e, (zeroTy P e).all plain0, false⟩)
            (by simp) (fun k hk => RowKit.Below.heap_alloc _ _ _ hk) (heap_new w _) (Nat.le_refl _) (by simp)
            (fun j _ => by rw [hz1, hz2])
            (fun j o x hj ho => by
              have hq := replicate_cells hz1 hz2 c.toNat j o x hj ho
              obtain ⟨u, hu, hur⟩ := hz4 o x ho
              refine ⟨u, ?_, hz3 _ _ hu, hur⟩
              rw [← hu, ← hq]
              simp)
            (fun hf j _ x hx => (List.all_eq_true.1 hf) x hx) rfl rfl rfl
          refine ⟨g', hr', .own _ _ _ _ _ _ _ (at_end h _) (Nat.le_refl _) rfl fun _ => ⟨_, _, c.toNat, _, e1, rfl, rfl, by simp, by omega, fun m hm => ?_, by simp; omega, ?_⟩, hkeep, hfr⟩
          · simp only [Option.some.injEq] at hm; subst hm; exact ⟨rfl, by simp⟩
          · exact ⟨_, e, heap_new w _, by simp⟩
      | _ => simp at hk
    | _ => simp at hk

theorem optInt_sound {x : Option T} {d : Int} {k : Int → Option R} {r : R} (hk : optInt x d k = some r) : (x = none ∧ k d = some r) ∨ ∃ kk i, x = some (.int kk i) ∧ k i = some r := by
  cases x with
  | none => exact .inl ⟨rfl, hk⟩
  | some x =>
    cases x with
    | int kk i => exact .inr ⟨kk, i, rfl, hk⟩
    | _ => simp [optInt] at hk

/-- An index that may be left out, and its value. -/
def OptR (g : Gh) (h : Heap) (w : World) (x : Option T) (v : Option Value) : Prop := (x = none ∧ v = none) ∨ ∃ y u, x = some y ∧ v = some u ∧ g.VR h w y u

theorem bounds_sound {isS : Bool} {len ccap : Nat} {cap : Option Nat} {lo hi mx : Option T} {vlo vhi vmx : Option Value} {k : Nat → Nat → Option Nat → Option R} {r : R}
    (hk : bounds len cap lo hi mx k = some r) (hlo : OptR g h w lo vlo) (hhi : OptR g h w hi vhi) (hmx : OptR g h w mx vmx) (hcap : ∀ m, cap = some m → ccap = m) (hlen : len ≤ ccap) :
    ∃ l hh c m, k l hh c = some r ∧ (Instr.sliceBounds isS len ccap vlo vhi vmx).run P w = .ok (l, hh, m) w ∧ l ≤ hh ∧ hh ≤ m ∧ m ≤ ccap ∧
      (mx = none → m = ccap ∧ c = cap.map (· - l) ∧ (cap = none → hh ≤ len)) ∧ (mx ≠ none → c = some (m - l) ∧ (cap = none → m ≤ len)) := by
  have optv : ∀ {x : Option T} {v : Option Value} {kk : IntKind} {i : Int}, OptR g h w x v → x = some (.int kk i) → v = some (.int kk i) := by
    intro x v kk i hx e
    rcases hx with ⟨e1, e2⟩ | ⟨y, u, e1, e2, hr⟩
    · rw [e1] at e; cases e
    · rw [e1] at e
      obtain rfl := Option.some.inj e
      rw [e2, hr.int]
  have optn : ∀ {x : Option T} {v : Option Value}, OptR g h w x v → x = none → v = none := by
    intro x v hx e
    rcases hx with ⟨e1, e2⟩ | ⟨y, u, e1, e2, hr⟩
    · exact e2
    · rw [e1] at e; cases e
  have sb : ∀ (kk : IntKind) (i : Int) (y : Nat) (code : BoundsCode), 0 ≤ i → i ≤ (y : Int) → (Instr.sliceBound (.int kk i) y code).run P w = .ok i.toNat w := by
    intro kk i y code h1 h2
    simp [Instr.sliceBound, asIntOf, h1, h2]
  have capv : (cap.getD len : Int) ≤ (ccap : Int) := by
    cases cap with
    | none => simp; omega
    | some c => have := hcap c rfl; simp; omega
  unfold bounds at hk
  cases mx with
  | none =>
    obtain rfl := optn hmx rfl
    rcases optInt_sound hk with ⟨e1, hk⟩ | ⟨kl, l, e1, hk⟩ <;> rcases optInt_sound hk with ⟨e2, hk⟩ | ⟨kh, hh, e2, hk⟩ <;>
      (dsimp only at hk; obtain ⟨hc, hk⟩ := bif_none hk; simp only [Bool.and_eq_true, decide_eq_true_eq] at hc; obtain ⟨⟨c1, c2⟩, c3⟩ := hc)
    · refine ⟨_, _, _, ccap, hk, ?_, by omega, by omega, Nat.le_refl _, fun _ => ⟨rfl, ?_, fun hn => by subst hn; simp⟩, fun hh => absurd rfl hh⟩
      · rw [optn hlo e1, optn hhi e2]; simp [Instr.sliceBounds]
      · rfl
    · refine ⟨_, _, _, ccap, hk, ?_, by omega, by omega, Nat.le_refl _, fun _ => ⟨rfl, ?_, fun hn => by subst hn; simp only [Option.getD_none] at c3; omega⟩, fun hh => absurd rfl hh⟩
      · rw [optn hlo e1, optv hhi e2]; simp [Instr.sliceBounds, sb kh hh ccap _ (by omega) (by omega)]
      · rfl
    · refine ⟨_, _, _, ccap, hk, ?_, by omega, by omega, Nat.le_refl _, fun _ => ⟨rfl, ?_, fun hn => by subst hn; simp⟩, fun hh => absurd rfl hh⟩
      · rw [optv hlo e1, optn hhi e2]; simp [Instr.sliceBounds, sb kl l len _ c1 c2]
      · rfl
    · refine ⟨_, _, _, ccap, hk, ?_, by omega, by omega, Nat.le_refl _, fun _ => ⟨rfl, ?_, fun hn => by subst hn; simp only [Option.getD_none] at c3; omega⟩, fun hh => absurd rfl hh⟩
      · rw [optv hlo e1, optv hhi e2]; simp [Instr.sliceBounds, sb kh hh ccap _ (by omega) (by omega), sb kl l hh.toNat _ c1 (by omega)]
      · rfl
  | some mx =>
    cases mx with
    | int km m =>
      cases hi with
      | none =>
        rcases optInt_sound hk with ⟨e1, hk⟩ | ⟨kl, l, e1, hk⟩ <;> simp [optInt] at hk
      | some hi =>
        have em := optv hmx rfl
        rcases optInt_sound hk with ⟨e1, hk⟩ | ⟨kl, l, e1, hk⟩ <;> rcases optInt_sound hk with ⟨e2, hk⟩ | ⟨kh, hh, e2, hk⟩ <;>
          (dsimp only at hk; obtain ⟨hc, hk⟩ := bif_none hk; simp only [Bool.and_eq_true, decide_eq_true_eq] at hc; obtain ⟨⟨⟨c1, c2⟩, c3⟩, c4⟩ := hc)
        · cases e2
        · refine ⟨_, _, _, m.toNat, hk, ?_, by omega, by omega, by omega, (fun hn => by cases hn), fun _ => ⟨rfl, fun hn => by subst hn; simp only [Option.getD_none] at c4; omega⟩⟩
          rw [optn hlo e1, optv hhi e2, em]; simp [Instr.sliceBounds, sb km m ccap _ (by omega) (by omega), sb kh hh m.toNat _ (by omega) (by omega)]
        · cases e2
        · refine ⟨_, _, _, m.toNat, hk, ?_, by omega, by omega, by omega, (fun hn => by cases hn), fun _ => ⟨rfl, fun hn => by subst hn; simp only [Option.getD_none] at c4; omega⟩⟩
          rw [optv hlo e1, optv hhi e2, em]; simp [Instr.sliceBounds, sb km m ccap _ (by omega) (by omega), sb kh hh m.toNat _ (by omega) (by omega), sb kl l hh.toNat _ c1 (by omega)]
    | _ =>
      rcases optInt_sound hk with ⟨e1, hk⟩ | ⟨kl, l, e1, hk⟩ <;> rcases optInt_sound hk with ⟨e2, hk⟩ | ⟨kh, hh, e2, hk⟩ <;> simp at hk

theorem str_bytes {s : List UInt8} {b : ByteArray} (hb : b.data.toList = s) : b.size = s.length := by
  show b.data.size = _
  rw [← hb]
  exact Array.length_toList.symm

theorem extract_list (b : ByteArray) (l r : Nat) : (b.extract l r).data.toList = (b.data.toList.take r).drop l := by
  rw [ByteArray.data_extract, Array.toList_extract]
  simp [List.extract, List.drop_take]

theorem strTy_eq {t : TypeId} (h : strTy P t = true) : P.underlying t = some .string := by
  unfold strTy at h
  cases hu : P.underlying t with
  | none => simp [hu] at h
  | some d =>
    rw [hu] at h
    cases d <;> simp at h
    rfl

theorem add_eta (a : Addr) (hs : a.spot = none) (n : Nat) : a.add n = ⟨a.block, a.off + n, none⟩ := by
  cases a with
  | mk b o s => dsimp only at hs; subst hs; exact add_none b o n

theorem semSlice_sound {t : TypeId} {x : T} {lo hi mx : Option T} {v : Value} {vlo vhi vmx : Option Value} {k : Kont R} {r : R} (hk : semSlice P t x lo hi mx h k = some r)
    (hx : g.VR h w x v) (hlo : OptR g h w lo vlo) (hhi : OptR g h w hi vhi) (hmx : OptR g h w mx vmx) :
    ∃ y, k y h false = some r ∧ ∃ u, (Instr.sliceAt t v vlo vhi vmx).run P w = .ok u w ∧ g.VR h w y u := by
  cases x with
  | str s =>
    obtain ⟨b, rfl, hb⟩ := hx.str
    cases mx with
    | some mx => simp [semSlice] at hk
    | none =>
      obtain rfl : vmx = none := by
        rcases hmx with ⟨_, e⟩ | ⟨y, u, e, _⟩
        · exact e
        · cases e
      obtain ⟨hs, hk⟩ := bif_none hk
      have hu := strTy_eq hs
      have hsz := str_bytes hb
      obtain ⟨l, hh, c, m, hk, hrun, h1, h2, h3, h4, _⟩ := bounds_sound (P := P) (isS := false) (ccap := b.size) hk hlo hhi (.inl ⟨rfl, rfl⟩) (fun m hm => by simp only [Option.some.injEq] at hm; omega) (by omega)
      rw [← hsz] at hrun
      refine ⟨_, hk, .string (b.extract l hh), ?_, .imm _ _ (.str _ _ (by rw [extract_list, hb]))⟩
      simp only [Instr.sliceAt, Instr.slice, Sem.run_bind, run_underlying' hu, Result.andThen_ok]
      simp only [Option.isSome_none, Bool.false_eq_true, if_false, Sem.run_bind, hrun, Result.andThen_ok]
      rfl
  | nils =>
    obtain rfl := hx.nils
    simp only [semSlice] at hk
    cases he : elemTy P t with
    | none => simp [he] at hk
    | some e =>
      rw [he] at hk
      obtain ⟨hkn, hk⟩ := bif_none hk
      obtain ⟨l, hh, c, m, hk, hrun, h1, h2, h3, _, _⟩ := bounds_sound (P := P) (isS := true) (ccap := 0) hk hlo hhi hmx (fun m hm => by simp only [Option.some.injEq] at hm; omega) (by omega)
      refine ⟨_, hk, .slice none 0 0, ?_, .imm _ _ .nils⟩
      simp only [Instr.sliceAt, Instr.slice, Sem.run_bind, run_underlying' (elemTy_eq he), Result.andThen_ok]
      simp only [hrun, Result.andThen_ok, run_size hkn]
      have e1 : hh - l = 0 := by omega
      have e2 : m - l = 0 := by omega
      simp [e1, e2]
  | view sz n g' cap =>
    simp only [semSlice] at hk
    cases he : elemTy P t with
    | none => simp [he] at hk
    | some e =>
      rw [he] at hk
      obtain ⟨hc, hk⟩ := bif_none hk
      simp only [Bool.and_eq_true, beq_iff_eq] at hc
      obtain ⟨hkn, hsz⟩ := hc
      cases hx.view with
      | view _ _ _ _ a cc vs hs hcap hn hU hl hc hv =>
        obtain ⟨l, hh, c, m, hk, hrun, h1, h2, h3, h4, h5⟩ := bounds_sound (P := P) (isS := true) (ccap := cc) hk hlo hhi hmx hcap hn
        obtain ⟨hle, hk⟩ := bif_none hk
        have hle := ble_le hle
        refine ⟨_, hk, .slice (if m = l then some a else (some a).map (·.add (l * szTy P e))) (hh - l) (m - l), ?_, ?_⟩
        · simp only [Instr.sliceAt, Instr.slice, Sem.run_bind, run_underlying' (elemTy_eq he), Result.andThen_ok]
          simp only [hrun, Result.andThen_ok, run_size hkn]
          rfl
        · have hcap' : ∀ m', c = some m' → m - l = m' := by
            intro m' hm'
            cases hmx' : mx with
            | none =>
              obtain ⟨e1, e2, _⟩ := h4 hmx'
              rw [e2] at hm'
              cases cap with
              | none => cases hm'
              | some c0 => have := hcap c0 rfl; simp at hm'; omega
            | some y =>
              obtain ⟨e1, _⟩ := h5 (by rw [hmx']; simp)
              rw [e1] at hm'
              exact Option.some.inj hm'
          by_cases hml : m = l
          · rw [if_pos hml]
            exact .imm _ _ (.view sz (hh - l) _ c a _ (fun j o => vs (l + j) o) (fun h0 => by omega) hcap' (by omega) (fun hp => by omega) (fun j hj => by omega) (fun j o c hj => by omega) (fun j o c hj => by omega))
          · rw [if_neg hml]
            simp only [Option.map_some]
            rw [add_eta a (hs (by omega))]
            exact .imm _ _ (.view sz (hh - l) _ c _ _ (fun j o => vs (l + j) o) (fun _ => rfl) hcap' (by omega) (fun hp => hU (by omega)) (fun j hj => hl (l + j) (by omega))
              (fun j o c hj ho => by
                have := hc (l + j) o c (by omega) ho
                rw [← hsz]
                have e : a.off + l * sz + j * sz + o = a.off + (l + j) * sz + o := by rw [Nat.add_mul]; omega
                dsimp only
                rw [e]; exact this)
              (fun j o c hj ho => hv (l + j) o c (by omega) ho))
  | own i ver off len cap =>
    simp only [semSlice] at hk
    cases he : elemTy P t with
    | none => simp [he] at hk
    | some e =>
      rw [he] at hk
      obtain ⟨b, hb, hver, hk⟩ := blk_of hk
      obtain ⟨hc, hk⟩ := bif_none hk
      simp only [Bool.and_eq_true, beq_iff_eq] at hc
      obtain ⟨hkn, hsz⟩ := hc
      obtain ⟨b', hb', _, _, hp⟩ := hx.own_inv
      rw [hb] at hb'
      obtain rfl := Option.some.inj hb'
      obtain ⟨cb, sh, cc, ad, e1, rfl, es, e2, e3, e4, e5, e6⟩ := hp hver
      obtain ⟨l, hh, c, m, hk, hrun, h1, h2, h3, h4, h5⟩ := bounds_sound (P := P) (isS := true) (ccap := cc) hk hlo hhi hmx (fun m hm => (e4 m hm).1) e3
      refine ⟨_, hk, .slice (if m = l then some ad else (some ad).map (·.add (l * szTy P e))) (hh - l) (m - l), ?_, ?_⟩
      · simp only [Instr.sliceAt, Instr.slice, Sem.run_bind, run_underlying' (elemTy_eq he), Result.andThen_ok]
        simp only [hrun, Result.andThen_ok, run_size hkn]
        rfl
      · have hcc : ∀ m', c = some m' → m - l = m' ∧ off + l + m' ≤ b.n := by
          intro m' hm'
          cases hmx' : mx with
          | none =>
            obtain ⟨q1, q2, _⟩ := h4 hmx'
            rw [q2] at hm'
            cases cap with
            | none => cases hm'
            | some c0 => have := e4 c0 rfl; simp at hm'; omega
          | some y =>
            obtain ⟨q1, q2⟩ := h5 (by rw [hmx']; simp)
            rw [q1] at hm'
            have := Option.some.inj hm'
            cases cap with
            | none => have := q2 rfl; omega
            | some c0 => have := e4 c0 rfl; omega
        have hlen : off + l + (hh - l) ≤ b.n := by
          cases hmx' : mx with
          | none =>
            obtain ⟨q1, q2, q3⟩ := h4 hmx'
            cases cap with
            | none => have := q3 rfl; omega
            | some c0 => have := e4 c0 rfl; omega
          | some y =>
            obtain ⟨q1, q2⟩ := h5 (by rw [hmx']; simp)
            cases cap with
            | none => have := q2 rfl; omega
            | some c0 => have := e4 c0 rfl; omega
        have hrm : room w cb (sh + (off + l + (m - l)) * b.sz) := by
          obtain ⟨arr, e', r1, r2⟩ := e6
          refine ⟨arr, e', r1, Nat.le_trans ?_ r2⟩
          exact Nat.add_le_add_left (Nat.mul_le_mul_right _ (by omega)) _
        by_cases hml : m = l
        · rw [if_pos hml]
          exact .own _ _ _ _ _ b _ hb (Nat.le_of_eq hver.symm) rfl fun _ => ⟨cb, sh, m - l, ad, e1, rfl, es, fun hp => by omega, by omega, hcc, hlen, hrm⟩
        · rw [if_neg hml]
          have had := e2 (by omega)
          subst had
          simp only [Option.map_some, add_none]
          exact .own _ _ _ _ _ b _ hb (Nat.le_of_eq hver.symm) rfl fun _ => ⟨cb, sh, m - l, _, e1, rfl, rfl, fun _ => by rw [hsz, Nat.add_mul, Nat.add_assoc], by omega, hcc, hlen, hrm⟩
  | _ => simp [semSlice] at hk
end
end Go.Ab
