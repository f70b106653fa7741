/- Each operation of the abstract interpreter is met by the model's: arithmetic, comparison. -/
import Derived.Test.YtkiedolofnakoaaDoorAbOps5
namespace Go.Ab
section
variable {P : Program} {R : Type} {g : Gh} {h : Heap} {w : World}

theorem toList_bytes (b : ByteArray) : b.toList = b.data.toList := ByteArray.toList_eq b

theorem boolTy_eq {t : TypeId} (h : boolTy P t = true) : P.underlying t = some .bool := by
  unfold boolTy at h
  cases hu : P.underlying t with
  | none => simp [hu] at h
  | some d => rw [hu] at h; cases d <;> simp at h; rfl
theorem intTy_eq {t : TypeId} (h : intTy P t = true) : ∃ k, P.underlying t = some (.int k) := by
  unfold intTy at h
  cases hu : P.underlying t with
  | none => simp [hu] at h
  | some d => rw [hu] at h; cases d <;> simp at h; exact ⟨_, rfl⟩
theorem funcTy_eq {t : TypeId} (h : funcTy P t = true) : ∃ a b c, P.underlying t = some (.func a b c) := by
  unfold funcTy at h
  cases hu : P.underlying t with
  | none => simp [hu] at h
  | some d => rw [hu] at h; cases d <;> simp at h; exact ⟨_, _, _, rfl⟩
theorem structOf_eq {t : TypeId} {fs : List Field} (h : structOf P t = some fs) : ∃ a, P.underlying t = some (.struct a) ∧ a.toList = fs := by
  unfold structOf at h
  cases hu : P.underlying t with
  | none => simp [hu] at h
  | some d => rw [hu] at h; cases d <;> simp at h; exact ⟨_, rfl, h⟩

theorem beq_bool (a b : Bool) : (bif a then b else !b) = (a == b) := by cases a <;> cases b <;> rfl

theorem eqFields_sound {d : Nat} {eq : TypeId → T → T → (Bool → Option R) → Option R}
    (heq : ∀ {t x y k r u v}, eq t x y k = some r → g.VR h w x u → g.VR h w y v → ∃ b, k b = some r ∧ (Op.equalIn d t u v).run P w = .ok b w)
    {l m : List T} {xs ys : Array Value} (hl : l.length = xs.size) (hl1 : ∀ (i : Nat) (u : Value), xs[i]? = some u → u.oneCell' = true) (hlc : ∀ (i : Nat) (c : T), l[i]? = some c → ∃ u, xs[i]? = some u ∧ g.VR h w c u)
    (hm : m.length = ys.size) (hm1 : ∀ (i : Nat) (u : Value), ys[i]? = some u → u.oneCell' = true) (hmc : ∀ (i : Nat) (c : T), m[i]? = some c → ∃ u, ys[i]? = some u ∧ g.VR h w c u) :
    ∀ (fs : List Field) (k : Bool → Option R) (r : R), eqFields P eq l m fs k = some r → ∃ b, k b = some r ∧ (Op.eqFields d xs ys fs).run P w = .ok b w
  | [], k, r, hk => ⟨true, hk, by simp [Op.eqFields]⟩
  | f :: fs, k, r, hk => by
    simp only [eqFields] at hk
    rcases bif_some hk with ⟨hn, hk⟩ | ⟨hn, hk⟩
    · obtain ⟨b, h1, h2⟩ := eqFields_sound heq hl hl1 hlc hm hm1 hmc fs k r hk
      refine ⟨b, h1, ?_⟩
      simp only [Op.eqFields]
      rw [if_neg (by simpa using hn)]
      exact h2
    · obtain ⟨x, hk, u, hu, hxu⟩ := ld_part hk hl hl1 hlc
      obtain ⟨y, hk, v, hv, hyv⟩ := ld_part hk hm hm1 hmc
      obtain ⟨b, hk, hrun⟩ := heq hk hxu hyv
      simp only [Op.eqFields]
      rw [if_pos (by simpa using hn)]
      rcases bif_some hk with ⟨rfl, hk⟩ | ⟨rfl, hk⟩
      · obtain ⟨b, h1, h2⟩ := eqFields_sound heq hl hl1 hlc hm hm1 hmc fs k r hk
        exact ⟨b, h1, by simp [hu, hv, hrun, h2]⟩
      · exact ⟨false, hk, by simp [hu, hv, hrun]⟩

theorem eqIn_sound : ∀ (d n : Nat) {t : TypeId} {x y : T} {k : Bool → Option R} {r : R} {u v : Value}, eqIn P d t x y k = some r → g.VR h w x u → g.VR h w y v →
    ∃ b, k b = some r ∧ (Op.equalIn (d + n) t u v).run P w = .ok b w
  | 0, _, _, _, _, _, _, _, _, hk, _, _ => by simp [eqIn] at hk
  | d + 1, n, t, x, y, k, r, u, v, hk, hx, hy => by
    rw [show d + 1 + n = (d + n) + 1 by omega]
    cases x with
    | int kx a =>
      cases y with
      | int ky b =>
        simp only [eqIn] at hk
        obtain ⟨hc, hk'⟩ := bif_none hk
        clear hk
        have hk := hk'
        clear hk'
        simp only [Bool.and_eq_true, decide_eq_true_eq] at hc
        obtain ⟨ht, hkk⟩ := hc
        subst hkk
        obtain ⟨k', ht⟩ := intTy_eq ht
        obtain rfl := hx.int
        obtain rfl := hy.int
        exact ⟨_, hk, by rw [run_equalIn_int w (d + n) t kx k' a b ht]; rfl⟩
      | _ => simp [eqIn] at hk
    | bool a =>
      cases y with
      | bool b =>
        simp only [eqIn] at hk
        obtain ⟨ht, hk⟩ := bif_none hk
        obtain rfl := hx.bool
        obtain rfl := hy.bool
        exact ⟨_, hk, by rw [run_equalIn_bool' w (d + n) t a b (boolTy_eq ht), beq_bool]⟩
      | _ => simp [eqIn] at hk
    | str a =>
      cases y with
      | str b =>
        simp only [eqIn] at hk
        obtain ⟨ht, hk⟩ := bif_none hk
        obtain ⟨ba, rfl, ha⟩ := hx.str
        obtain ⟨bb, rfl, hb⟩ := hy.str
        refine ⟨_, hk, ?_⟩
        rw [run_equalIn_string w (d + n) t ba bb (strTy_eq ht), toList_bytes, toList_bytes, ha, hb]
        congr 1
        rw [Bool.eq_iff_iff]; simp
      | _ => simp [eqIn] at hk
    | agg l =>
      cases y with
      | agg m =>
        simp only [eqIn] at hk
        cases hs : structOf P t with
        | none => simp [hs] at hk
        | some fs =>
          rw [hs] at hk
          rcases bif_some hk with ⟨_, hk⟩ | ⟨hst, hk⟩
          · cases hk
          obtain ⟨a, hu, hfs⟩ := structOf_eq hs
          obtain ⟨cs, rfl, hl, h1, hc⟩ := hx.agg_inv
          obtain ⟨cs', rfl, hl', h1', hc'⟩ := hy.agg_inv
          have hf : P.fieldsOf t = a := by simp [Program.fieldsOf, hu]
          obtain ⟨b, h2, h3⟩ := eqFields_sound (d := d + n) (fun {t x y k r u v} hk hx hy => eqIn_sound d n hk hx hy) hl h1 hc hl' h1' hc' fs k r hk
          exact ⟨b, h2, by rw [run_equalIn_struct w (d + n) t cs cs' (by rw [hf]; exact hu) hst, hf, hfs]; exact h3⟩
      | _ => simp [eqIn] at hk
    | _ => simp [eqIn] at hk

/-- No guard where neither side is an interface value. -/
theorem own_slice {i ver off len : Nat} {cap : Option Nat} {b : Blk} {v : Value} (hb : h[i]? = some b) (hver : b.ver = ver) (hx : g.VR h w (.own i ver off len cap) v) :
    OwnOk w g.φ b i off len cap v := by
  obtain ⟨b', hb', _, _, hp⟩ := hx.own_inv
  rw [hb] at hb'
  obtain rfl := Option.some.inj hb'
  exact hp hver

theorem run_equalIn_snil (w : World) (d : Nat) {t e : TypeId} (ht : P.underlying t = some (.slice e)) (a : Option Addr) (l c : Nat) : (Op.equalIn (d + 1) t (.slice none 0 0) (.slice a l c)).run P w = .ok a.isNone w := by
  simp [Op.equalIn, run_underlying' ht]
theorem run_equalIn_snil' (w : World) (d : Nat) {t e : TypeId} (ht : P.underlying t = some (.slice e)) (a : Addr) (l c : Nat) : (Op.equalIn (d + 1) t (.slice (some a) l c) (.slice none 0 0)).run P w = .ok false w := by
  simp [Op.equalIn, run_underlying' ht]
theorem run_equalIn_fnil (w : World) (d : Nat) {t : TypeId} {a b : Array TypeId} {c : Bool} (ht : P.underlying t = some (.func a b c)) : (Op.equalIn (d + 1) t .nilFunc .nilFunc).run P w = .ok true w := by
  simp [Op.equalIn, run_underlying' ht]
theorem run_equalIn_fnil1 (w : World) (d : Nat) {t : TypeId} {a b : Array TypeId} {c : Bool} (ht : P.underlying t = some (.func a b c)) (f : FuncId) (cs : Array Value) : (Op.equalIn (d + 1) t .nilFunc (.func (.func f) #[] cs)).run P w = .ok false w := by
  simp [Op.equalIn, run_underlying' ht]
theorem run_equalIn_fnil2 (w : World) (d : Nat) {t : TypeId} {a b : Array TypeId} {c : Bool} (ht : P.underlying t = some (.func a b c)) (f : FuncId) (cs : Array Value) : (Op.equalIn (d + 1) t (.func (.func f) #[] cs) .nilFunc).run P w = .ok false w := by
  simp [Op.equalIn, run_underlying' ht]

theorem semEq_sound {op : BinOp} {t : TypeId} {x y : T} {ox oy : Operand} {u v : Value} {k : Bool → Option R} {r : R} (hop : op = .eql ∨ op = .neq) (hk : semEq P t x y h k = some r) (hx : g.VR h w x u) (hy : g.VR h w y v) :
    ∃ b, k b = some r ∧ (do eqGuard op t ox oy u v; binOp op t u v : Sem Value).run P w = .ok (.bool (if op = .eql then b else !b)) w := by
  have fin : ∀ (u v : Value) (b : Bool), (eqGuard op t ox oy u v).run P w = .ok () w → (binOp .eql t u v).run P w = .ok (.bool b) w → (binOp .neq t u v).run P w = .ok (.bool (!b)) w →
      (do eqGuard op t ox oy u v; binOp op t u v : Sem Value).run P w = .ok (.bool (if op = .eql then b else !b)) w := by
    intro u v b h1 h2 h3
    rcases hop with rfl | rfl
    · simp [h1, h2]
    · simp [h1, h3]
  have eqv : ∀ (u v : Value) (b : Bool), (Op.equalIn 10000 t u v).run P w = .ok b w → (do pure (.bool (← Op.equal t u v)) : Sem Value).run P w = .ok (.bool b) w ∧ (do pure (.bool (!(← Op.equal t u v))) : Sem Value).run P w = .ok (.bool (!b)) w := by
    intro u v b hb
    constructor <;> simp [Op.equal, Op.maxDepth, hb]
  unfold semEq at hk
  cases x with
  | int kx a =>
    cases y with
    | int ky b =>
      obtain ⟨hc, hk'⟩ := bif_none hk
      clear hk
      have hkk := of_decide_eq_true hc
      subst hkk
      obtain rfl := hx.int
      obtain rfl := hy.int
      refine ⟨_, hk', fin _ _ _ ?_ ?_ ?_⟩
      · rcases hop with rfl | rfl <;> simp [eqGuard]
      · simp [binOp, Op.intCmp]; rfl
      · simp [binOp, Op.intCmp, bne]; rfl
    | _ => simp at hk
  | str a =>
    cases y with
    | str b =>
      dsimp only at hk
      obtain ⟨ba, rfl, ha⟩ := hx.str
      obtain ⟨bb, rfl, hb⟩ := hy.str
      have e : (ba.toList == bb.toList) = decide (a = b) := by rw [toList_bytes, toList_bytes, ha, hb, Bool.eq_iff_iff]; simp
      refine ⟨_, hk, fin _ _ _ ?_ ?_ ?_⟩
      · rcases hop with rfl | rfl <;> simp [eqGuard]
      · rw [binOp_string_eql, e]; rfl
      · rw [binOp_string_neq, e]; rfl
    | _ => simp at hk
  | bool a =>
    cases y with
    | bool b =>
      dsimp only at hk
      obtain ⟨c, hc, hrun⟩ := eqIn_sound 1 9999 hk hx hy
      obtain rfl := hx.bool
      obtain rfl := hy.bool
      obtain ⟨e1, e2⟩ := eqv _ _ _ hrun
      refine ⟨_, hc, fin _ _ _ ?_ e1 e2⟩
      rcases hop with rfl | rfl <;> simp [eqGuard]
    | _ => simp at hk
  | agg a =>
    cases y with
    | agg b =>
      dsimp only at hk
      rcases bif_some hk with ⟨_, hk⟩ | ⟨hg, hk⟩
      · cases hk
      obtain ⟨c, hc, hrun⟩ := eqIn_sound 10 9990 hk hx hy
      obtain ⟨cs, rfl, _⟩ := hx.agg_inv
      obtain ⟨cs', rfl, _⟩ := hy.agg_inv
      obtain ⟨e1, e2⟩ := eqv _ _ _ hrun
      exact ⟨_, hc, fin _ _ _ (run_eqGuard_agg w op t ox oy cs cs' hg) e1 e2⟩
    | _ => simp at hk
  | nils =>
    obtain rfl := hx.nils
    cases y with
    | nils =>
      obtain ⟨ht, hk⟩ := bif_none hk
      obtain ⟨e, he⟩ := Option.isSome_iff_exists.1 ht
      obtain rfl := hy.nils
      obtain ⟨e1, e2⟩ := eqv (.slice none 0 0) (.slice none 0 0) true (run_equalIn_snil w 9999 (elemTy_eq he) _ _ _)
      exact ⟨_, hk, fin _ _ _ (by rcases hop with rfl | rfl <;> simp [eqGuard]) e1 e2⟩
    | view sz n g' cap =>
      obtain ⟨ht, hk⟩ := bif_none hk
      obtain ⟨e, he⟩ := Option.isSome_iff_exists.1 ht
      cases hy.view with
      | view _ _ _ _ a cc vs _ _ _ _ _ _ _ =>
        obtain ⟨e1, e2⟩ := eqv (.slice none 0 0) (.slice (some a) n cc) false (run_equalIn_snil w 9999 (elemTy_eq he) _ _ _)
        exact ⟨_, hk, fin _ _ _ (by rcases hop with rfl | rfl <;> simp [eqGuard]) e1 e2⟩
    | own i ver off len cap =>
      obtain ⟨ht, hk⟩ := bif_none hk
      obtain ⟨e, he⟩ := Option.isSome_iff_exists.1 ht
      obtain ⟨b, hb, hver, hk⟩ := blk_of hk
      obtain ⟨cb, sh, cc, ad, q1, rfl, _⟩ := own_slice hb hver hy
      obtain ⟨e1, e2⟩ := eqv (.slice none 0 0) (.slice (some ad) len cc) false (run_equalIn_snil w 9999 (elemTy_eq he) _ _ _)
      exact ⟨_, hk, fin _ _ _ (by rcases hop with rfl | rfl <;> simp [eqGuard]) e1 e2⟩
    | _ => simp at hk
  | view sz n g' cap =>
    cases y with
    | nils =>
      obtain ⟨ht, hk⟩ := bif_none hk
      obtain ⟨e, he⟩ := Option.isSome_iff_exists.1 ht
      obtain rfl := hy.nils
      cases hx.view with
      | view _ _ _ _ a cc vs _ _ _ _ _ _ _ =>
        obtain ⟨e1, e2⟩ := eqv (.slice (some a) n cc) (.slice none 0 0) false (run_equalIn_snil' w 9999 (elemTy_eq he) _ _ _)
        exact ⟨_, hk, fin _ _ _ (by rcases hop with rfl | rfl <;> simp [eqGuard]) e1 e2⟩
    | _ => simp at hk
  | own i ver off len cap =>
    cases y with
    | nils =>
      obtain ⟨ht, hk⟩ := bif_none hk
      obtain ⟨e, he⟩ := Option.isSome_iff_exists.1 ht
      obtain rfl := hy.nils
      obtain ⟨b, hb, hver, hk⟩ := blk_of hk
      obtain ⟨cb, sh, cc, ad, q1, rfl, _⟩ := own_slice hb hver hx
      obtain ⟨e1, e2⟩ := eqv (.slice (some ad) len cc) (.slice none 0 0) false (run_equalIn_snil' w 9999 (elemTy_eq he) _ _ _)
      exact ⟨_, hk, fin _ _ _ (by rcases hop with rfl | rfl <;> simp [eqGuard]) e1 e2⟩
    | _ => simp at hk
  | nilf =>
    obtain rfl := hx.nilf
    cases y with
    | nilf =>
      obtain ⟨ht, hk⟩ := bif_none hk
      obtain ⟨a, b, c, he⟩ := funcTy_eq ht
      obtain rfl := hy.nilf
      obtain ⟨e1, e2⟩ := eqv .nilFunc .nilFunc true (run_equalIn_fnil w 9999 he)
      exact ⟨_, hk, fin _ _ _ (by rcases hop with rfl | rfl <;> simp [eqGuard]) e1 e2⟩
    | fn f caps =>
      obtain ⟨ht, hk⟩ := bif_none hk
      obtain ⟨a, b, c, he⟩ := funcTy_eq ht
      obtain ⟨cs, rfl, _⟩ := hy.fn_inv
      obtain ⟨e1, e2⟩ := eqv .nilFunc (.func (.func f) #[] cs) false (run_equalIn_fnil1 w 9999 he f cs)
      exact ⟨_, hk, fin _ _ _ (by rcases hop with rfl | rfl <;> simp [eqGuard]) e1 e2⟩
    | _ => simp at hk
  | fn f caps =>
    cases y with
    | nilf =>
      obtain ⟨ht, hk⟩ := bif_none hk
      obtain ⟨a, b, c, he⟩ := funcTy_eq ht
      obtain rfl := hy.nilf
      obtain ⟨cs, rfl, _⟩ := hx.fn_inv
      obtain ⟨e1, e2⟩ := eqv (.func (.func f) #[] cs) .nilFunc false (run_equalIn_fnil2 w 9999 he f cs)
      exact ⟨_, hk, fin _ _ _ (by rcases hop with rfl | rfl <;> simp [eqGuard]) e1 e2⟩
    | _ => simp at hk
  | _ => cases y <;> simp at hk
end
end Go.Ab
