/- Each operation of the abstract interpreter is met by the model's: fields, indexes, arithmetic, conversion. -/
import Derived.Test.YtkiedolofnakoaaDoorAbOps4
namespace Go.Ab
section
variable {P : Program} {R : Type} {g : Gh} {h : Heap} {w : World}

theorem fieldOf_eq {t : TypeId} {f off : Nat} {ty : TypeId} (hf : fieldOf P t f = some (off, ty)) :
    ∃ fs x, P.underlying t = some (.struct fs) ∧ fs[f]? = some x ∧ x.offset = off ∧ x.type = ty ∧ known P ty = true ∧ szTy P ty ≠ 0 := by
  unfold fieldOf at hf
  cases hu : P.underlying t with
  | none => simp [hu] at hf
  | some d =>
    rw [hu] at hf
    cases d with
    | struct fs =>
      dsimp only at hf
      cases hx : fs[f]? with
      | none => simp [hx] at hf
      | some x =>
        rw [hx] at hf
        obtain ⟨hc, hf⟩ := bif_none hf
        simp only [Bool.and_eq_true, Bool.not_eq_true', beq_eq_false_iff_ne] at hc
        simp only [Option.some.injEq, Prod.mk.injEq] at hf
        obtain ⟨rfl, rfl⟩ := hf
        exact ⟨fs, x, rfl, hx, rfl, rfl, hc.1, hc.2⟩
    | _ => simp at hf

/-- A part of a value. -/
theorem ld_part {t : TypeId} {l : List T} {cs : Array Value} {off : Nat} {k : T → Option R} {r : R} (hk : ld P t (l.drop off) k = some r) (hl : l.length = cs.size)
    (h1 : ∀ (i : Nat) (u : Value), cs[i]? = some u → u.oneCell' = true) (hc : ∀ (i : Nat) (c : T), l[i]? = some c → ∃ u, cs[i]? = some u ∧ g.VR h w c u) :
    ∃ x, k x = some r ∧ ∃ v, (part t cs off).run P w = .ok v w ∧ g.VR h w x v := by
  unfold ld at hk
  cases hu : P.underlying t with
  | none => simp [hu] at hk
  | some d =>
    rw [hu] at hk
    dsimp only at hk
    obtain ⟨i, hi⟩ := info_of_underlying hu
    cases ha : aggTy P t with
    | true =>
      simp only [ha, cond_true] at hk
      obtain ⟨hle, hk⟩ := bif_none hk
      have hle := ble_le hle
      refine ⟨_, hk, .agg (cs.extract off (off + szTy P t)), ?_, ?_⟩
      · unfold part
        simp only [Sem.run_bind, run_isAgg hu, Result.andThen_ok, ha, if_true, run_sizeOf' hi]
        rfl
      · simp only [List.length_drop] at hle
        refine VR.mk_agg (by simp; omega) ?_ ?_
        · intro j u hj
          rw [Array.getElem?_extract] at hj
          split at hj
          · exact h1 _ u hj
          · simp at hj
        · intro j c hj
          rw [List.getElem?_take] at hj
          split at hj
          · rename_i hlt
            rw [List.getElem?_drop] at hj
            obtain ⟨u, hu', hr⟩ := hc _ c hj
            refine ⟨u, ?_, hr⟩
            rw [Array.getElem?_extract, if_pos (by
              have : off + j < cs.size := by
                rcases Nat.lt_or_ge (off + j) cs.size with hq | hq
                · exact hq
                · rw [Array.getElem?_eq_none hq] at hu'; cases hu'
              omega)]
            exact hu'
          · simp at hj
    | false =>
      simp only [ha, cond_false] at hk
      cases hd : l.drop off with
      | nil => rw [hd] at hk; simp at hk
      | cons c l' =>
        rw [hd] at hk
        refine ⟨c, hk, ?_⟩
        have hc0 : l[off]? = some c := by
          have := congrArg (·[0]?) hd
          simpa [List.getElem?_drop] using this
        obtain ⟨u, hu', hr⟩ := hc _ c hc0
        refine ⟨u, ?_, hr⟩
        unfold part
        simp only [Sem.run_bind, run_isAgg hu, Result.andThen_ok, ha, Bool.false_eq_true, if_false, hu']
        rfl

theorem semField_sound {t : TypeId} {x : T} {f : Nat} {v : Value} {k : Kont R} {r : R} (hk : semField P t x f h k = some r) (hx : g.VR h w x v) :
    ∃ y, k y h false = some r ∧ ∃ u, (Instr.field t v f).run P w = .ok u w ∧ g.VR h w y u := by
  unfold semField at hk
  cases x with
  | agg l =>
    cases hf : fieldOf P t f with
    | none => simp [hf] at hk
    | some p =>
      obtain ⟨off, ty⟩ := p
      rw [hf] at hk
      obtain ⟨fs, x, hu, hx', rfl, rfl, hkn, hnz⟩ := fieldOf_eq hf
      obtain ⟨cs, rfl, hl, h1, hc⟩ := hx.agg_inv
      obtain ⟨y, hy, u, hrun, hr⟩ := ld_part (g := g) (h := h) (w := w) (P := P) hk hl h1 hc
      refine ⟨y, hy, u, ?_, hr⟩
      simp [Instr.field, run_underlying' hu, hx', asAgg, hrun]
  | _ => simp at hk

theorem semFieldAddr_sound {t : TypeId} {x : T} {f : Nat} {v : Value} {k : Kont R} {r : R} (hk : semFieldAddr P t x f h k = some r) (hx : g.VR h w x v) :
    ∃ y, k y h false = some r ∧ ∃ u, (Instr.fieldAt t v f).run P w = .ok u w ∧ g.VR h w y u := by
  unfold semFieldAddr at hk
  cases hf : fieldOf P t f with
  | none => cases x <;> simp [hf] at hk
  | some p =>
    obtain ⟨off, ty⟩ := p
    obtain ⟨fs, x', hu, hx', rfl, rfl, hkn, hnz⟩ := fieldOf_eq hf
    have hrun : ∀ a : Addr, (fieldPlace a x').run P w = .ok (a.add x'.offset) w := by
      intro a
      simp [fieldPlace, run_size hkn, hnz]
    rw [hf] at hk
    cases x with
    | ptr i ver j o =>
      obtain ⟨b, hb, hver, hk⟩ := blk_of hk
      obtain ⟨b', hb', _, _, hp⟩ := hx.ptr_inv
      rw [hb] at hb'
      obtain rfl := Option.some.inj hb'
      obtain ⟨cb, sh, e1, rfl⟩ := hp hver
      refine ⟨_, hk, .pointer (some ((⟨cb, sh + j * b.sz + o, none⟩ : Addr).add x'.offset)), ?_, ?_⟩
      · simp [Instr.fieldAt, Instr.sureAddr, run_underlying' hu, hx', hrun]
      · rw [add_none]
        exact .ptr _ _ _ _ b _ hb (Nat.le_of_eq hver.symm) rfl fun _ => ⟨cb, sh, e1, by rw [Nat.add_assoc]⟩
    | vp cells =>
      obtain ⟨b, o, rfl, hc⟩ := vp_cellsAt hx
      refine ⟨_, hk, .pointer (some ((⟨b, o, none⟩ : Addr).add x'.offset)), ?_, ?_⟩
      · simp [Instr.fieldAt, Instr.sureAddr, run_underlying' hu, hx', hrun]
      · rw [add_none]
        cases hx.vp with
        | vp _ a vs hs hU hc hv =>
          refine .imm _ _ (.vp _ _ (fun n => vs (x'.offset + n)) rfl (fun hp => hU (by simp at hp; omega)) (fun n c hn => ?_) (fun n c hn => ?_))
          · rw [List.getElem?_drop] at hn
            have := hc _ c hn
            dsimp only at this ⊢
            rw [Nat.add_assoc]; exact this
          · rw [List.getElem?_drop] at hn
            exact hv _ c hn
    | _ => simp at hk

theorem not_tiny {a b : Prop} [Decidable a] (h : a) : (if a then b else False) ↔ b := by simp [h]

theorem semIndexAddr_sound {t : TypeId} {x i : T} {v vi : Value} {k : Kont R} {r : R} (hk : semIndexAddr P t x i h k = some r) (hx : g.VR h w x v) (hi : g.VR h w i vi) :
    ∃ y, k y h false = some r ∧ ∃ u, (Instr.indexAt t v vi).run P w = .ok u w ∧ g.VR h w y u := by
  unfold semIndexAddr at hk
  cases i with
  | int kk i =>
    obtain rfl := hi.int
    cases x with
    | own b ver off len cap =>
      dsimp only at hk
      cases he : elemTy P t with
      | none => simp [he] at hk
      | some e =>
        rw [he] at hk
        obtain ⟨blk, hb, hver, hk⟩ := blk_of hk
        obtain ⟨hc, hk⟩ := bif_none hk
        simp only [Bool.and_eq_true, beq_iff_eq] at hc
        obtain ⟨hkn, hsz⟩ := hc
        obtain ⟨hc, hk⟩ := bif_none hk
        simp only [Bool.and_eq_true, decide_eq_true_eq] at hc
        obtain ⟨b', hb', _, _, hp⟩ := hx.own_inv
        rw [hb] at hb'
        obtain rfl := Option.some.inj hb'
        obtain ⟨cb, sh, cc, ad, e1, rfl, es, e2, e3, e4, e5, e6⟩ := hp hver
        have had := e2 (by omega)
        subst had
        have hk : k (.ptr b ver (off + i.toNat) 0) h false = some r := by
          rcases bif_some hk with ⟨_, hk⟩ | ⟨_, hk⟩
          · exact disp_some (by omega) hk
          · exact hk
        refine ⟨_, hk, .pointer (some ((⟨cb, sh + off * blk.sz, none⟩ : Addr).add (i.toNat * szTy P e))), ?_, ?_⟩
        · simp [Instr.indexAt, asIntOf, run_underlying' (elemTy_eq he), hc.1, hc.2, run_size hkn]
        · rw [add_none]
          exact .ptr _ _ _ _ blk _ hb (Nat.le_of_eq hver.symm) rfl fun _ => ⟨cb, sh, e1, by rw [← hsz, Nat.add_mul]; simp [Nat.add_assoc]⟩
    | view sz n g' cap =>
      dsimp only at hk
      cases he : elemTy P t with
      | none => simp [he] at hk
      | some e =>
        rw [he] at hk
        obtain ⟨hc, hk⟩ := bif_none hk
        simp only [Bool.and_eq_true, beq_iff_eq] at hc
        obtain ⟨hkn, hsz⟩ := hc
        obtain ⟨hc, hk⟩ := bif_none hk
        simp only [Bool.and_eq_true, decide_eq_true_eq] at hc
        cases hx.view with
        | view _ _ _ _ a cc vs hs hcap hn hU hl hcl hv =>
          refine ⟨_, hk, .pointer (some (a.add (i.toNat * szTy P e))), ?_, ?_⟩
          · simp [Instr.indexAt, asIntOf, run_underlying' (elemTy_eq he), hc.1, hc.2, run_size hkn]
          · rw [add_eta a (hs (by omega))]
            have hlt : i.toNat < n := by omega
            refine .imm _ _ (.vp _ _ (vs i.toNat) rfl (fun _ => hU (by omega)) (fun o c ho => ?_) (fun o c ho => hv _ o c hlt ho))
            rw [← hsz]
            exact hcl _ o c hlt ho
    | ptr b ver j o =>
      dsimp only at hk
      cases ha : arrayOf P t with
      | none => simp [ha] at hk
      | some p =>
        obtain ⟨n, e⟩ := p
        rw [ha] at hk
        obtain ⟨hc, hk⟩ := bif_none hk
        simp only [Bool.and_eq_true, decide_eq_true_eq] at hc
        obtain ⟨⟨hkn, h0⟩, hlt⟩ := hc
        obtain ⟨blk, hb, hver, hk⟩ := blk_of hk
        obtain ⟨b', hb', _, _, hp⟩ := hx.ptr_inv
        rw [hb] at hb'
        obtain rfl := Option.some.inj hb'
        obtain ⟨cb, sh, e1, rfl⟩ := hp hver
        have hk := pickAt_some (by omega) hk
        refine ⟨_, hk, .pointer (some ((⟨cb, sh + j * blk.sz + o, none⟩ : Addr).add (i.toNat * szTy P e))), ?_, ?_⟩
        · simp [Instr.indexAt, Instr.sureAddr, asIntOf, run_underlying' (arrayOf_eq ha), h0, hlt, run_size hkn]
        · rw [add_none]
          exact .ptr _ _ _ _ blk _ hb (Nat.le_of_eq hver.symm) rfl fun _ => ⟨cb, sh, e1, by rw [Nat.add_assoc]⟩
    | vp cells =>
      dsimp only at hk
      cases ha : arrayOf P t with
      | none => simp [ha] at hk
      | some p =>
        obtain ⟨n, e⟩ := p
        rw [ha] at hk
        obtain ⟨hc, hk⟩ := bif_none hk
        simp only [Bool.and_eq_true, decide_eq_true_eq] at hc
        obtain ⟨⟨hkn, h0⟩, hlt⟩ := hc
        have hk := pickAt_some (by omega) hk
        cases hx.vp with
        | vp _ a vs hs hU hcl hv =>
          refine ⟨_, hk, .pointer (some (a.add (i.toNat * szTy P e))), ?_, ?_⟩
          · simp [Instr.indexAt, Instr.sureAddr, asIntOf, run_underlying' (arrayOf_eq ha), h0, hlt, run_size hkn]
          · rw [add_eta a hs]
            refine .imm _ _ (.vp _ _ (fun m => vs (i.toNat * szTy P e + m)) rfl (fun hp => hU (by simp at hp; omega)) (fun m c hm => ?_) (fun m c hm => ?_))
            · rw [List.getElem?_drop] at hm
              have := hcl _ c hm
              dsimp only
              rw [Nat.add_assoc]; exact this
            · rw [List.getElem?_drop] at hm
              exact hv _ c hm
    | _ => simp at hk
  | _ => simp at hk

theorem semIndex_sound {t : TypeId} {x i : T} {v vi : Value} {k : Kont R} {r : R} (hk : semIndex P t x i h k = some r) (hx : g.VR h w x v) (hi : g.VR h w i vi) :
    ∃ y, k y h false = some r ∧ ∃ u, (Instr.index t v vi).run P w = .ok u w ∧ g.VR h w y u := by
  unfold semIndex at hk
  cases x with
  | str s =>
    cases i with
    | int kk i =>
      dsimp only at hk
      obtain ⟨hs, hk⟩ := bif_none hk
      obtain ⟨hc, hk⟩ := bif_none hk
      simp only [Bool.and_eq_true, decide_eq_true_eq] at hc
      obtain rfl := hi.int
      obtain ⟨b, rfl, hb⟩ := hx.str
      refine ⟨_, hk, .int .u8 ((s.getD i.toNat 0).toNat : Int), ?_, .imm _ _ (.int _ _)⟩
      have hsz := str_bytes hb
      have hlt : i.toNat < b.size := by omega
      have e : b[i.toNat]? = some (s.getD i.toNat 0) := by
        have h1 : b[i.toNat]? = some b[i.toNat] := getElem?_pos b i.toNat hlt
        rw [h1]
        congr 1
        have h2 : b[i.toNat] = b.data[i.toNat] := rfl
        rw [h2]
        subst hb
        rw [List.getD_eq_getElem?_getD, Array.getElem?_toList, Array.getElem?_eq_getElem hlt]
        rfl
      simp [Instr.index, asIntOf, run_underlying' (strTy_eq hs), hc.1, e]
    | _ => simp at hk
  | agg l =>
    cases i with
    | int kk i =>
      dsimp only at hk
      cases ha : arrayOf P t with
      | none => simp [ha] at hk
      | some p =>
        obtain ⟨n, e⟩ := p
        rw [ha] at hk
        obtain ⟨hc, hk⟩ := bif_none hk
        simp only [Bool.and_eq_true, decide_eq_true_eq] at hc
        obtain ⟨⟨hkn, h0⟩, hlt⟩ := hc
        have hk := pickAt_some (by omega) hk
        obtain rfl := hi.int
        obtain ⟨cs, rfl, hl, h1, hc⟩ := hx.agg_inv
        obtain ⟨y, hy, u, hrun, hr⟩ := ld_part (g := g) (h := h) (w := w) (P := P) hk hl h1 hc
        refine ⟨y, hy, u, ?_, hr⟩
        simp [Instr.index, asIntOf, run_underlying' (arrayOf_eq ha), h0, hlt, run_size hkn, hrun]
    | _ => simp at hk
  | _ => cases i <;> simp at hk

theorem semExtract_sound {x : T} {ix : Nat} {v : Value} {k : Kont R} {r : R} (hk : semExtract x ix h k = some r) (hx : g.VR h w x v) :
    ∃ y, k y h false = some r ∧ ∃ u, (Instr.extract v ix).run P w = .ok u w ∧ g.VR h w y u := by
  cases x with
  | tup l =>
    simp only [semExtract] at hk
    cases hl : l[ix]? with
    | none => simp [hl] at hk
    | some y =>
      rw [hl] at hk
      obtain ⟨cs, rfl, hlen, hc⟩ := hx.tup_inv
      obtain ⟨u, hu, hr⟩ := hc ix y hl
      exact ⟨y, hk, u, by simp [Instr.extract, hu], hr⟩
  | _ => simp [semExtract] at hk
end
end Go.Ab
