/- Each operation of the abstract interpreter is met by the model's: arithmetic, conversion, length. -/
import Derived.Test.YtkiedolofnakoaaDoorAbOps6
import Derived.Laws.Cover1
namespace Go.Ab
section
variable {P : Program} {R : Type} {g : Gh} {h : Heap} {w : World}

theorem semInt_sound {op : BinOp} {kx : IntKind} {a b : Int} {t : TypeId} {ox oy : Operand} {k : Kont R} {r : R} (hk : semInt op kx a b h k = some r) :
    ∃ y, k y h false = some r ∧ ∃ u, (do eqGuard op t ox oy (.int kx a) (.int kx b); binOp op t (.int kx a) (.int kx b) : Sem Value).run P w = .ok u w ∧ g.VR h w y u := by
  have fin : ∀ (y : T) (u : Value), k y h false = some r → (eqGuard op t ox oy (.int kx a) (.int kx b)).run P w = .ok () w → (binOp op t (.int kx a) (.int kx b)).run P w = .ok u w → g.VR h w y u →
      ∃ y, k y h false = some r ∧ ∃ u, (do eqGuard op t ox oy (.int kx a) (.int kx b); binOp op t (.int kx a) (.int kx b) : Sem Value).run P w = .ok u w ∧ g.VR h w y u :=
    fun y u h1 h2 h3 h4 => ⟨y, h1, u, by simp [h2, h3], h4⟩
  cases op <;> simp only [semInt] at hk
  case add => exact fin _ _ hk (by simp [eqGuard]) (by simp [binOp, Op.intArith]) (.imm _ _ (.int _ _))
  case sub => exact fin _ _ hk (by simp [eqGuard]) (by simp [binOp, Op.intArith]) (.imm _ _ (.int _ _))
  case mul => exact fin _ _ hk (by simp [eqGuard]) (by simp [binOp, Op.intArith]) (.imm _ _ (.int _ _))
  case quo =>
    rcases bif_some hk with ⟨_, hk⟩ | ⟨hb, hk⟩
    · cases hk
    have hb : b ≠ 0 := of_decide_eq_false hb
    exact fin _ _ hk (by simp [eqGuard]) (by simp [binOp, Op.intDiv, hb]) (.imm _ _ (.int _ _))
  case rem =>
    rcases bif_some hk with ⟨_, hk⟩ | ⟨hb, hk⟩
    · cases hk
    have hb : b ≠ 0 := of_decide_eq_false hb
    exact fin _ _ hk (by simp [eqGuard]) (by simp [binOp, Op.intDiv, hb]) (.imm _ _ (.int _ _))
  case and => exact fin _ _ hk (by simp [eqGuard]) (by simp [binOp, Op.intBits, bitsOf]) (.imm _ _ (.int _ _))
  case or => exact fin _ _ hk (by simp [eqGuard]) (by simp [binOp, Op.intBits, bitsOf]) (.imm _ _ (.int _ _))
  case xor => exact fin _ _ hk (by simp [eqGuard]) (by simp [binOp, Op.intBits, bitsOf]) (.imm _ _ (.int _ _))
  case andNot => exact fin _ _ hk (by simp [eqGuard]) (by simp [binOp, Op.intBits, bitsOf]) (.imm _ _ (.int _ _))
  case lss => exact fin _ _ hk (by simp [eqGuard]) (by simp [binOp, Op.intCmp]) (.imm _ _ (.bool _))
  case leq => exact fin _ _ hk (by simp [eqGuard]) (by simp [binOp, Op.intCmp]) (.imm _ _ (.bool _))
  case gtr => exact fin _ _ hk (by simp [eqGuard]) (by simp [binOp, Op.intCmp]) (.imm _ _ (.bool _))
  case geq => exact fin _ _ hk (by simp [eqGuard]) (by simp [binOp, Op.intCmp]) (.imm _ _ (.bool _))
  all_goals cases hk

theorem semStr_sound {op : BinOp} {a b : List UInt8} {ba bb : ByteArray} {t : TypeId} {ox oy : Operand} {k : Kont R} {r : R} (hk : semStr op a b h k = some r) (ha : ba.data.toList = a) (hb : bb.data.toList = b) :
    ∃ y, k y h false = some r ∧ ∃ u, (do eqGuard op t ox oy (.string ba) (.string bb); binOp op t (.string ba) (.string bb) : Sem Value).run P w = .ok u w ∧ g.VR h w y u := by
  have fin : ∀ (y : T) (u : Value), k y h false = some r → (eqGuard op t ox oy (.string ba) (.string bb)).run P w = .ok () w → (binOp op t (.string ba) (.string bb)).run P w = .ok u w → g.VR h w y u →
      ∃ y, k y h false = some r ∧ ∃ u, (do eqGuard op t ox oy (.string ba) (.string bb); binOp op t (.string ba) (.string bb) : Sem Value).run P w = .ok u w ∧ g.VR h w y u :=
    fun y u h1 h2 h3 h4 => ⟨y, h1, u, by simp [h2, h3], h4⟩
  have e1 : Op.bytesLess ba.toList bb.toList = Op.bytesLess a b := by rw [toList_bytes, toList_bytes, ha, hb]
  have e2 : (ba.toList == bb.toList) = decide (a = b) := by rw [toList_bytes, toList_bytes, ha, hb, Bool.eq_iff_iff]; simp
  cases op <;> simp only [semStr] at hk
  case add =>
    obtain ⟨hle, hk⟩ := bif_none hk
    have hle := ble_le hle
    have s1 := str_bytes ha
    have s2 := str_bytes hb
    refine fin _ (.string (ba ++ bb)) hk (by simp [eqGuard]) ?_ (.imm _ _ (.str _ _ ?_))
    · rw [binOp_string_add]
      exact run_string_add_sum w ba bb (by omega)
    · rw [ByteArray.data_append, Array.toList_append, ha, hb]
  case lss => exact fin _ _ hk (by simp [eqGuard]) (by rw [binOp_string_lss, e1]; rfl) (.imm _ _ (.bool _))
  case leq => exact fin _ _ hk (by simp [eqGuard]) (by rw [binOp_string_leq, e1, e2]; rfl) (.imm _ _ (.bool _))
  case gtr => exact fin _ _ hk (by simp [eqGuard]) (by rw [binOp_string_gtr, e1, e2]; rfl) (.imm _ _ (.bool _))
  case geq => exact fin _ _ hk (by simp [eqGuard]) (by rw [binOp_string_geq, e1]; rfl) (.imm _ _ (.bool _))
  all_goals cases hk

theorem semBin_sound {op : BinOp} {t : TypeId} {x y : T} {ox oy : Operand} {u v : Value} {k : Kont R} {r : R} (hk : semBin P op t x y h k = some r) (hx : g.VR h w x u) (hy : g.VR h w y v) :
    ∃ z, k z h false = some r ∧ ∃ c, (do eqGuard op t ox oy u v; binOp op t u v : Sem Value).run P w = .ok c w ∧ g.VR h w z c := by
  have arith : semArith op x y h k = some r →
      ∃ z, k z h false = some r ∧ ∃ c, (do eqGuard op t ox oy u v; binOp op t u v : Sem Value).run P w = .ok c w ∧ g.VR h w z c := by
    intro hk
    unfold semArith at hk
    cases x with
    | int kx a =>
      cases y with
      | int ky b =>
        obtain ⟨hc, hk'⟩ := bif_none hk
        have hkk := of_decide_eq_true hc
        subst hkk
        obtain rfl := hx.int
        obtain rfl := hy.int
        exact semInt_sound hk'
      | _ => simp at hk
    | str a =>
      cases y with
      | str b =>
        obtain ⟨ba, rfl, ha⟩ := hx.str
        obtain ⟨bb, rfl, hb⟩ := hy.str
        exact semStr_sound hk ha hb
      | _ => simp at hk
    | _ => cases y <;> simp at hk
  have shift : (op = .shl ∨ op = .shr) → semShiftT op x y h k = some r →
      ∃ z, k z h false = some r ∧ ∃ c, (do eqGuard op t ox oy u v; binOp op t u v : Sem Value).run P w = .ok c w ∧ g.VR h w z c := by
    intro hop hk
    unfold semShiftT at hk
    cases x with
    | int kx a =>
      cases y with
      | int ky b =>
        simp only [semShift] at hk
        obtain ⟨hc, hk'⟩ := bif_none hk
        have hc := of_decide_eq_true hc
        obtain rfl := hx.int
        obtain rfl := hy.int
        have hn : ¬ b < 0 := by omega
        rcases hop with rfl | rfl
        · exact ⟨_, hk', _, by simp [eqGuard, binOp, Op.shift, hn], .imm _ _ (.int _ _)⟩
        · exact ⟨_, hk', _, by simp [eqGuard, binOp, Op.shift, hn], .imm _ _ (.int _ _)⟩
      | _ => simp at hk
    | _ => cases y <;> simp at hk
  cases op <;> simp only [semBin] at hk
  case eql =>
    obtain ⟨b, hb, hrun⟩ := semEq_sound (ox := ox) (oy := oy) (.inl rfl) hk hx hy
    exact ⟨_, hb, _, hrun, .imm _ _ (.bool _)⟩
  case neq =>
    obtain ⟨b, hb, hrun⟩ := semEq_sound (ox := ox) (oy := oy) (.inr rfl) hk hx hy
    exact ⟨_, hb, _, hrun, by simp only [reduceCtorEq, if_false]; exact .imm _ _ (.bool _)⟩
  case shl => exact shift (.inl rfl) hk
  case shr => exact shift (.inr rfl) hk
  all_goals exact arith hk

theorem semUn_sound {op : UnOp} {x : T} {u : Value} {k : Kont R} {r : R} (hk : semUn op x h k = some r) (hx : g.VR h w x u) :
    ∃ z, k z h false = some r ∧ ∃ c, (Op.unary op u).run P w = .ok c w ∧ g.VR h w z c := by
  unfold semUn at hk
  cases op with
  | not =>
    cases x with
    | bool b =>
      obtain rfl := hx.bool
      exact ⟨_, hk, _, by simp [Op.unary], .imm _ _ (.bool _)⟩
    | _ => simp at hk
  | neg =>
    cases x with
    | int kx a =>
      obtain rfl := hx.int
      exact ⟨_, hk, _, by simp [Op.unary, Op.intArith], .imm _ _ (.int _ _)⟩
    | _ => simp at hk
  | _ => cases x <;> simp at hk

theorem bytesOf_sound : ∀ (l : List (List T)) (k : List UInt8 → Option R) (r : R), bytesOf l k = some r → ∃ ns : List Int, k (ns.map fun n => UInt8.ofNat n.toNat) = some r ∧ l = ns.map fun n => [T.int .u8 n]
  | [], k, r, hk => ⟨[], hk, rfl⟩
  | e :: l, k, r, hk => by
    simp only [bytesOf] at hk
    cases he : byteOf e with
    | none => rw [he] at hk; cases hk
    | some n =>
      rw [he] at hk
      have e1 : e = [T.int .u8 n] := by
        unfold byteOf at he
        split at he
        · simp only [Option.some.injEq] at he; rw [he]
        · cases he
      subst e1
      obtain ⟨ns, h1, h2⟩ := bytesOf_sound l _ r hk
      exact ⟨n :: ns, h1, by simp [h2]⟩

theorem fold_bytes (ns : List Int) : ∀ b : ByteArray, (ns.foldl (fun r n => r.push (UInt8.ofNat n.toNat)) b).data.toList = b.data.toList ++ ns.map fun n => UInt8.ofNat n.toNat := by
  induction ns with
  | nil => intro b; simp
  | cons n ns ih =>
    intro b
    rw [List.foldl_cons, ih]
    have : (b.push (UInt8.ofNat n.toNat)).data.toList = b.data.toList ++ [UInt8.ofNat n.toNat] := by
      show (b.data.push _).toList = _
      simp
    rw [this]
    simp

theorem bytes_run {b off n c : Nat} {gg : Nat → List T} {k : List UInt8 → Option R} {r : R} (hk : bytesOf (elemsOf gg n) k = some r)
    (hc : ∀ j, j < n → CellsAt g h w b (off + j) (gg j)) :
    ∃ s, k s = some r ∧ ∃ ba : ByteArray, (Conv.bytesToString (.slice (some ⟨b, off, none⟩) n c)).run P w = .ok (.string ba) w ∧ ba.data.toList = s := by
  obtain ⟨ns, h1, h2⟩ := bytesOf_sound _ _ _ hk
  refine ⟨_, h1, _, run_bytesToString w _ n c ns ?_, ?_⟩
  · have hn : ns.length = n := by have := congrArg List.length h2; simp [elemsOf] at this; exact this.symm
    have := run_loadCells_list (P := P) w ⟨b, off, none⟩ (ns.map (Value.int .u8)) (fun j v hj => by
      rw [add_none]
      simp only [List.getElem?_map, Option.map_eq_some_iff] at hj
      obtain ⟨m, hm, rfl⟩ := hj
      have hjn : j < n := by
        rcases Nat.lt_or_ge j ns.length with hq | hq
        · omega
        · simp [List.getElem?_eq_none hq] at hm
      have e : gg j = [T.int .u8 m] := by
        have := congrArg (·[j]?) h2
        simp only [elemsOf, List.getElem?_map, List.getElem?_range hjn, Option.map_some, hm, Option.some.injEq] at this
        exact this
      obtain ⟨u, hu, hr⟩ := hc j hjn 0 (.int .u8 m) (by rw [e]; rfl)
      rw [hr.int] at hu
      exact hu.1)
    rw [← hn]
    simpa using this
  · rw [fold_bytes]; simp

theorem semConvert_sound {src dst : TypeId} {x : T} {u : Value} {k : Kont R} {r : R} (hk : semConvert P src dst x h k = some r) (hr : HR g h w) (hx : g.VR h w x u) (hs : ∃ d, P.underlying src = some d) :
    ∃ z, k z h false = some r ∧ ∃ c, (convert src dst u).run P w = .ok c w ∧ g.VR h w z c := by
  obtain ⟨ds, hs⟩ := hs
  unfold semConvert at hk
  cases x with
  | int kx n =>
    dsimp only at hk
    cases hd : P.underlying dst with
    | none => simp [hd] at hk
    | some d =>
      rw [hd] at hk
      cases d with
      | int kd =>
        obtain rfl := hx.int
        exact ⟨_, hk, _, by simp [convert, run_underlying' hs, run_underlying' hd, Conv.intToInt], .imm _ _ (.int _ _)⟩
      | _ => simp at hk
  | str s =>
    dsimp only at hk
    cases hd : P.underlying dst with
    | none => simp [hd] at hk
    | some d =>
      rw [hd] at hk
      cases d with
      | string =>
        obtain ⟨b, rfl, hb⟩ := hx.str
        exact ⟨_, hk, .string b, by simp [convert, run_underlying' hs, run_underlying' hd], .imm _ _ (.str _ _ hb)⟩
      | _ => simp at hk
  | nils =>
    dsimp only at hk
    rw [hs] at hk
    cases hd : P.underlying dst with
    | none => cases ds <;> simp [hd] at hk
    | some d =>
      rw [hd] at hk
      cases ds with
      | slice e =>
        cases d with
        | string =>
          dsimp only at hk
          cases he : P.underlying e with
          | none => simp [he] at hk
          | some de =>
            rw [he] at hk
            match de, hk with
            | .int .u8, hk =>
              obtain rfl := hx.nils
              exact ⟨_, hk, .string .empty, by rw [run_convert_bytes_string w src dst e none 0 0 hs he hd]; rfl, .imm _ _ (.str _ _ rfl)⟩
        | _ => simp at hk
      | _ => simp at hk
  | view sz n gg cap =>
    dsimp only at hk
    rw [hs] at hk
    cases hd : P.underlying dst with
    | none => cases ds <;> simp [hd] at hk
    | some d =>
      rw [hd] at hk
      cases ds with
      | slice e =>
        cases d with
        | string =>
          dsimp only at hk
          cases he : P.underlying e with
          | none => simp [he] at hk
          | some de =>
            rw [he] at hk
            match de, hk with
            | .int .u8, hk =>
              obtain ⟨hz, hk⟩ := bif_none hk
              have hz : sz = 1 := by simpa using hz
              subst hz
              cases hx.view with
              | view _ _ _ _ a cc vs hsp hcap hn hU hl hcl hv =>
                rcases Nat.eq_zero_or_pos n with hn0 | hn0
                · subst hn0
                  simp only [elemsOf, List.range_zero, List.map_nil, bytesOf] at hk
                  refine ⟨_, hk, .string .empty, ?_, .imm _ _ (.str _ _ rfl)⟩
                  rw [run_convert_bytes_string w src dst e _ 0 cc hs he hd]
                  simp [Conv.bytesToString, loadCells, loadCellsFrom]
                · obtain ⟨s, h1, ba, h2, h3⟩ := bytes_run (P := P) (g := g) (h := h) (w := w) (b := a.block) (off := a.off) (c := cc) hk (fun j hj o c ho => ⟨vs j o, by have := hcl j o c hj ho; rwa [Nat.mul_one] at this, .imm _ _ (hv j o c hj ho)⟩)
                  refine ⟨_, h1, .string ba, ?_, .imm _ _ (.str _ _ h3)⟩
                  rw [run_convert_bytes_string w src dst e _ n cc hs he hd, addr_eta (hsp (by omega))]
                  exact h2
        | _ => simp at hk
      | _ => simp at hk
  | own i ver off len cap =>
    dsimp only at hk
    rw [hs] at hk
    cases hd : P.underlying dst with
    | none => cases ds <;> simp [hd] at hk
    | some d =>
      rw [hd] at hk
      cases ds with
      | slice e =>
        cases d with
        | string =>
          dsimp only at hk
          cases he : P.underlying e with
          | none => simp [he] at hk
          | some de =>
            rw [he] at hk
            match de, hk with
            | .int .u8, hk =>
              obtain ⟨b, hb, hver, hk⟩ := blk_of hk
              obtain ⟨hc, hk⟩ := bif_none hk
              simp only [Bool.and_eq_true, beq_iff_eq] at hc
              obtain ⟨hz, hle⟩ := hc
              have hle := ble_le hle
              obtain ⟨cb, sh, cc, ad, e1, rfl, es, e2, e3, e4, e5, e6⟩ := own_slice hb hver hx
              obtain ⟨cb', sh', arr, e', hok⟩ := hr.blk i b hb
              rw [hok.φ] at e1
              obtain ⟨rfl, rfl⟩ := Prod.mk.inj (Option.some.inj e1)
              by_cases h0 : 0 < cc
              · have had := e2 h0
                subst had
                obtain ⟨s, h1, ba, h2, h3⟩ := bytes_run (P := P) (g := g) (h := h) (w := w) (b := cb') (off := sh' + off * b.sz) (c := cc) hk (fun j hj o c ho => by
                  have := hok.cellsAt (j := off + j) (by omega) o c ho
                  rw [hz] at this ⊢
                  simpa [Nat.add_assoc] using this)
                refine ⟨_, h1, .string ba, ?_, .imm _ _ (.str _ _ h3)⟩
                rw [run_convert_bytes_string w src dst e _ len cc hs he hd]
                exact h2
              · have hl0 : len = 0 := by omega
                subst hl0
                simp only [elemsOf, List.range_zero, List.map_nil, bytesOf] at hk
                refine ⟨_, hk, .string .empty, ?_, .imm _ _ (.str _ _ rfl)⟩
                rw [run_convert_bytes_string w src dst e _ 0 cc hs he hd]
                simp [Conv.bytesToString, loadCells, loadCellsFrom]
        | _ => simp at hk
      | _ => simp at hk
  | _ => simp at hk

theorem semLen_sound {t ty : TypeId} {x : T} {u : Value} {k : Kont R} {r : R} {ts : Array TypeId} (hk : semLen P t x h k = some r) (hx : g.VR h w x u) (ht : ts[0]? = some t) :
    ∃ z, k z h false = some r ∧ ∃ c, (Builtin.len_ ts ty #[u]).run P w = .ok c w ∧ g.VR h w z c := by
  unfold semLen at hk
  cases x with
  | str s =>
    obtain ⟨hs, hk⟩ := bif_none hk
    obtain ⟨b, rfl, hb⟩ := hx.str
    refine ⟨_, hk, goInt b.size, by simp [Builtin.len_, ht, run_underlying' (strTy_eq hs)], ?_⟩
    rw [str_bytes hb]; exact .imm _ _ (.int _ _)
  | nils =>
    obtain ⟨hs, hk⟩ := bif_none hk
    obtain ⟨e, he⟩ := Option.isSome_iff_exists.1 hs
    obtain rfl := hx.nils
    exact ⟨_, hk, goInt 0, by simp [Builtin.len_, ht, run_underlying' (elemTy_eq he)], .imm _ _ (.int _ _)⟩
  | view sz n gg cap =>
    obtain ⟨hs, hk⟩ := bif_none hk
    obtain ⟨e, he⟩ := Option.isSome_iff_exists.1 hs
    cases hx.view with
    | view _ _ _ _ a cc vs _ _ _ _ _ _ _ => exact ⟨_, hk, goInt n, by simp [Builtin.len_, ht, run_underlying' (elemTy_eq he)], .imm _ _ (.int _ _)⟩
  | own i ver off len cap =>
    obtain ⟨hs, hk⟩ := bif_none hk
    obtain ⟨e, he⟩ := Option.isSome_iff_exists.1 hs
    obtain ⟨b, hb, hver, hk⟩ := blk_of hk
    obtain ⟨cb, sh, cc, ad, e1, rfl, _⟩ := own_slice hb hver hx
    exact ⟨_, hk, goInt len, by simp [Builtin.len_, ht, run_underlying' (elemTy_eq he)], .imm _ _ (.int _ _)⟩
  | agg l =>
    dsimp only at hk
    cases ha : arrayOf P t with
    | none => simp [ha] at hk
    | some p =>
      obtain ⟨n, e⟩ := p
      rw [ha] at hk
      obtain ⟨cs, rfl, _⟩ := hx.agg_inv
      exact ⟨_, hk, goInt n, by simp [Builtin.len_, ht, run_underlying' (arrayOf_eq ha)], .imm _ _ (.int _ _)⟩
  | _ => simp at hk

theorem semCap_sound {t ty : TypeId} {x : T} {u : Value} {k : Kont R} {r : R} {ts : Array TypeId} (hk : semCap P t x h k = some r) (hx : g.VR h w x u) (ht : ts[0]? = some t) :
    ∃ z, k z h false = some r ∧ ∃ c, (Builtin.cap_ ts ty #[u]).run P w = .ok c w ∧ g.VR h w z c := by
  unfold semCap at hk
  obtain ⟨hs, hk⟩ := bif_none hk
  obtain ⟨e, he⟩ := Option.isSome_iff_exists.1 hs
  cases x with
  | nils =>
    obtain rfl := hx.nils
    exact ⟨_, hk, goInt 0, by simp [Builtin.cap_, ht, run_underlying' (elemTy_eq he)], .imm _ _ (.int _ _)⟩
  | view sz n gg cap =>
    cases cap with
    | none => simp at hk
    | some c =>
      cases hx.view with
      | view _ _ _ _ a cc vs _ hcap _ _ _ _ _ =>
        obtain rfl := hcap c rfl
        exact ⟨_, hk, goInt _, by simp [Builtin.cap_, ht, run_underlying' (elemTy_eq he)], .imm _ _ (.int _ _)⟩
  | own i ver off len cap =>
    cases cap with
    | none => simp at hk
    | some c =>
      obtain ⟨b, hb, hver, hk⟩ := blk_of hk
      obtain ⟨cb, sh, cc, ad, e1, rfl, _, _, _, e4, _⟩ := own_slice hb hver hx
      obtain rfl := (e4 c rfl).1
      exact ⟨_, hk, goInt _, by simp [Builtin.cap_, ht, run_underlying' (elemTy_eq he)], .imm _ _ (.int _ _)⟩
  | _ => simp at hk

theorem semMin2_sound {mx : Bool} {ty : TypeId} {ts : Array TypeId} {x y : T} {u v : Value} {k : Kont R} {r : R} (hk : semMin2 mx x y h k = some r) (hx : g.VR h w x u) (hy : g.VR h w y v) :
    ∃ z, k z h false = some r ∧ ∃ c, (if mx then Builtin.max_ ts ty #[u, v] else Builtin.min_ ts ty #[u, v]).run P w = .ok c w ∧ g.VR h w z c := by
  unfold semMin2 at hk
  cases x with
  | int kx a =>
    cases y with
    | int ky b =>
      obtain ⟨hc, hk⟩ := bif_none hk
      obtain rfl := hx.int
      obtain rfl := hy.int
      refine ⟨_, hk, _, ?_, .imm _ _ (.int _ _)⟩
      cases mx
      · simp [Builtin.min_, Builtin.min2, Bool.cond_eq_ite]
      · simp [Builtin.max_, Builtin.max2, Bool.cond_eq_ite]
    | _ => simp at hk
  | _ => cases y <;> simp at hk

theorem semNil_sound {x : T} {u : Value} {k : Kont R} {r : R} (hk : semNil x h k = some r) (hx : g.VR h w x u) :
    k x h false = some r ∧ ((∃ a, u = .pointer (some a)) ∨ ∃ f cs, u = .func (.func f) #[] cs) := by
  unfold semNil at hk
  cases x with
  | vp cells =>
    obtain ⟨b, o, rfl, _⟩ := vp_cellsAt hx
    exact ⟨hk, .inl ⟨_, rfl⟩⟩
  | ptr i ver j o =>
    obtain ⟨b, hb, hver, hk⟩ := blk_of hk
    obtain ⟨b', hb', _, _, hp⟩ := hx.ptr_inv
    rw [hb] at hb'
    obtain rfl := Option.some.inj hb'
    obtain ⟨cb, sh, e1, rfl⟩ := hp hver
    exact ⟨hk, .inl ⟨_, rfl⟩⟩
  | fn f caps =>
    obtain ⟨cs, rfl, _⟩ := hx.fn_inv
    exact ⟨hk, .inr ⟨_, _, rfl⟩⟩
  | _ => simp at hk
end
end Go.Ab
