/- The abstract interpreter hands on one result, or none, whatever stands behind it. -/
import Derived.Test.YtkiedolofnakoaaDoorAbDef
namespace Go.Ab

abbrev Det3 (f : ∀ R : Type, Kont R → Option R) : Prop := Det (A := T × Heap × Bool) fun R k => f R fun y h w => k (y, h, w)

section
variable {A B : Type}
theorem det_none : Det (A := A) fun _ _ => none := .inl fun _ _ => rfl
theorem det_ret (a : A) : Det (A := A) fun _ k => k a := .inr ⟨a, fun _ _ => rfl⟩
theorem det_bif {x y : ∀ R : Type, (A → Option R) → Option R} (c : Bool) (hx : Det x) (hy : Det y) : Det fun R k => bif c then x R k else y R k := by
  cases c
  · exact hy
  · exact hx
theorem det_if {x : ∀ R : Type, (A → Option R) → Option R} (c : Bool) (hx : Det x) : Det fun R k => bif c then x R k else none := det_bif c hx det_none
theorem det_disp {f : Nat → ∀ R : Type, (A → Option R) → Option R} (hf : ∀ j, Det (f j)) (i : Nat) : ∀ n, Det fun R k => disp n i fun j => f j R k
  | 0 => det_none
  | 1 => hf 0
  | n + 2 => by
    simp only [disp]
    exact det_bif _ (hf _) (det_disp hf i (n + 1))
theorem det_pickAt {f : Nat → ∀ R : Type, (A → Option R) → Option R} (hf : ∀ j, Det (f j)) (n i : Nat) : Det fun R k => pickAt n i fun j => f j R k := by
  unfold pickAt
  exact det_bif _ (det_disp hf i n) (hf i)
theorem det_bind {f : ∀ R : Type, (A → Option R) → Option R} {g : A → ∀ R : Type, (B → Option R) → Option R} (hf : Det f) (hg : ∀ a, Det (g a)) : Det fun R k => f R fun a => g a R k := by
  rcases hf with h | ⟨a, h⟩
  · exact .inl fun R k => h R _
  · rcases hg a with h2 | ⟨b, h2⟩
    · exact .inl fun R k => (h R _).trans (h2 R k)
    · exact .inr ⟨b, fun R k => (h R _).trans (h2 R k)⟩
theorem det_bind2' {D : Type} {f : ∀ R : Type, (A → B → Option R) → Option R} {g : A → B → ∀ R : Type, (D → Option R) → Option R} (hf : Det (A := A × B) fun R k => f R fun a b => k (a, b))
    (hg : ∀ a b, Det (g a b)) : Det fun R k => f R fun a b => g a b R k := by
  rcases hf with h | ⟨p, h⟩
  · exact .inl fun R k => h R fun q => g q.1 q.2 R k
  · rcases hg p.1 p.2 with h2 | ⟨b, h2⟩
    · exact .inl fun R k => (h R fun q => g q.1 q.2 R k).trans (h2 R k)
    · exact .inr ⟨b, fun R k => (h R fun q => g q.1 q.2 R k).trans (h2 R k)⟩
theorem det_bind3 {C D : Type} {f : ∀ R : Type, (A → B → C → Option R) → Option R} {g : A → B → C → ∀ R : Type, (D → Option R) → Option R} (hf : Det (A := A × B × C) fun R k => f R fun a b c => k (a, b, c))
    (hg : ∀ a b c, Det (g a b c)) : Det fun R k => f R fun a b c => g a b c R k := by
  rcases hf with h | ⟨p, h⟩
  · exact .inl fun R k => h R fun q => g q.1 q.2.1 q.2.2 R k
  · rcases hg p.1 p.2.1 p.2.2 with h2 | ⟨b, h2⟩
    · exact .inl fun R k => (h R fun q => g q.1 q.2.1 q.2.2 R k).trans (h2 R k)
    · exact .inr ⟨b, fun R k => (h R fun q => g q.1 q.2.1 q.2.2 R k).trans (h2 R k)⟩
end

section
variable (P : Program) (h : Heap)

theorem ld_det (t : TypeId) (cells : List T) : Det fun R k => ld (R := R) P t cells k := by
  unfold ld
  cases P.underlying t with
  | none => exact det_none
  | some d =>
    refine det_bif _ (det_if _ (det_ret _)) ?_
    cases cells with
    | nil => exact det_none
    | cons c l => exact det_ret c
attribute [local irreducible] ld
theorem withBlk_det (i ver : Nat) : Det fun R k => withBlk (R := R) h i ver k := by
  unfold withBlk
  cases h[i]? with
  | none => exact det_none
  | some b => exact det_if _ (det_ret b)
attribute [local irreducible] withBlk
theorem semLoad_det (t : TypeId) (v : T) : Det3 fun R k => semLoad (R := R) P t v h k := by
  cases v with
  | vp cells => exact det_bind (ld_det P t cells) fun x => det_ret (x, h, false)
  | ptr i ver j o => exact det_bind (withBlk_det h i ver) fun b => det_if _ (det_bind (ld_det P t _) fun x => det_ret (x, h, false))
  | _ => exact det_none
theorem semStore_det (t : TypeId) (a v : T) : Det3 fun R k => semStore (R := R) P t a v h k := by
  cases a with
  | ptr i ver j o => exact det_bind (withBlk_det h i ver) fun b => det_if _ (det_ret (_, _, _))
  | _ => exact det_none
theorem semAlloc_det (cells : List T) : Det3 fun R k => semAlloc (R := R) cells h k := det_ret (_, _, _)
theorem fillAll_det (pl : Nat → Option (Nat × Nat)) : ∀ (parts : List (Nat × T)) (cells : List T), Det fun R k => fillAll (R := R) pl cells parts k
  | [], cells => det_ret cells
  | (i, v) :: rest, cells => by
    simp only [fillAll]
    cases pl i with
    | none => exact det_none
    | some p => exact det_if _ (fillAll_det pl rest _)
attribute [local irreducible] fillAll
theorem semBuild_det (t : TypeId) (parts : List (Nat × T)) : Det3 fun R k => semBuild (R := R) P t parts h k := by
  unfold semBuild
  cases P.underlying t with
  | none => exact det_none
  | some d =>
    cases d with
    | struct fs => exact det_if _ (det_bind (fillAll_det _ _ _) fun l => det_ret (_, _, _))
    | array n e => exact det_if _ (det_bind (fillAll_det _ _ _) fun l => det_ret (_, _, _))
    | _ => exact det_none
theorem setElems_det (sz : Nat) : ∀ (parts : List (Nat × T)) (elems : List (List T)), Det fun R k => setElems (R := R) sz elems parts k
  | [], elems => det_ret elems
  | _ :: rest, _ => det_if _ (setElems_det sz rest _)
attribute [local irreducible] setElems
theorem semBuildSlice_det (t : TypeId) (len : Nat) (parts : List (Nat × T)) : Det3 fun R k => semBuildSlice (R := R) P t len parts h k := by
  unfold semBuildSlice
  cases elemTy P t with
  | none => exact det_none
  | some e => exact det_if _ (det_bind (setElems_det _ _ _) fun l => det_ret (_, _, _))
theorem semMake_det (t : TypeId) (l c : T) : Det3 fun R k => semMake (R := R) P t l c h k := by
  unfold semMake
  cases elemTy P t with
  | none => exact det_none
  | some e =>
    cases l with
    | int kl l =>
      cases c with
      | int kc c => exact det_if _ (det_if _ (det_ret (_, _, _)))
      | _ => exact det_none
    | _ => exact det_none
theorem optInt_det (x : Option T) (d : Int) : Det fun R k => optInt (R := R) x d k := by
  cases x with
  | none => exact det_ret d
  | some x =>
    cases x with
    | int kk i => exact det_ret i
    | _ => exact det_none
attribute [local irreducible] optInt
theorem bounds_det (len : Nat) (cap : Option Nat) (lo hi mx : Option T) : Det (A := Nat × Nat × Option Nat) fun R k => bounds (R := R) len cap lo hi mx fun a b c => k (a, b, c) := by
  unfold bounds
  refine det_bind (optInt_det lo 0) fun l => det_bind (optInt_det hi _) fun hh => ?_
  cases mx with
  | none => exact det_if _ (det_ret (_, _, _))
  | some m =>
    cases m with
    | int kk m =>
      cases hi with
      | none => exact det_none
      | some _ => exact det_if _ (det_ret (_, _, _))
    | _ => exact det_none
attribute [local irreducible] bounds
theorem semSlice_det (t : TypeId) (x : T) (lo hi mx : Option T) : Det3 fun R k => semSlice (R := R) P t x lo hi mx h k := by
  cases x with
  | str s =>
    cases mx with
    | some _ => exact det_none
    | none => exact det_if _ (det_bind3 (bounds_det _ _ _ _ _) fun _ _ _ => det_ret (_, _, _))
  | nils =>
    simp only [semSlice]
    cases elemTy P t with
    | none => exact det_none
    | some e => exact det_if _ (det_bind3 (bounds_det _ _ _ _ _) fun _ _ _ => det_ret (_, _, _))
  | view sz n g cap =>
    simp only [semSlice]
    cases elemTy P t with
    | none => exact det_none
    | some e => exact det_if _ (det_bind3 (bounds_det _ _ _ _ _) fun _ _ _ => det_if _ (det_ret (_, _, _)))
  | own i ver off len cap =>
    simp only [semSlice]
    cases elemTy P t with
    | none => exact det_none
    | some e => exact det_bind (withBlk_det h i ver) fun b => det_if _ (det_bind3 (bounds_det _ _ _ _ _) fun _ _ _ => det_ret (_, _, _))
  | _ => exact det_none
theorem semField_det (t : TypeId) (x : T) (f : Nat) : Det3 fun R k => semField (R := R) P t x f h k := by
  unfold semField
  cases x with
  | agg l =>
    cases fieldOf P t f with
    | none => exact det_none
    | some p => exact det_bind (ld_det P _ _) fun v => det_ret (v, h, false)
  | _ => exact det_none
theorem semFieldAddr_det (t : TypeId) (x : T) (f : Nat) : Det3 fun R k => semFieldAddr (R := R) P t x f h k := by
  unfold semFieldAddr
  cases x with
  | ptr i ver j o =>
    cases fieldOf P t f with
    | none => exact det_none
    | some p => exact det_bind (withBlk_det h i ver) fun _ => det_ret (_, _, _)
  | vp cells =>
    cases fieldOf P t f with
    | none => exact det_none
    | some p => exact det_ret (_, _, _)
  | _ => exact det_none
theorem semIndexAddr_det (t : TypeId) (x i : T) : Det3 fun R k => semIndexAddr (R := R) P t x i h k := by
  unfold semIndexAddr
  cases i with
  | int kk i =>
    cases x with
    | own b ver off len cap =>
      dsimp only
      cases elemTy P t with
      | none => exact det_none
      | some e => exact det_bind (withBlk_det h b ver) fun blk => det_if _ (det_if _ (det_bif _ (det_disp (fun j => det_ret (T.ptr b ver j 0, h, false)) _ _) (det_ret (_, _, _))))
    | view sz n g cap =>
      dsimp only
      cases elemTy P t with
      | none => exact det_none
      | some e => exact det_if _ (det_if _ (det_ret (_, _, _)))
    | ptr b ver j o =>
      dsimp only
      cases arrayOf P t with
      | none => exact det_none
      | some p => exact det_if _ (det_bind (withBlk_det h b ver) fun _ => det_pickAt (fun i => det_ret (T.ptr b ver j (o + i * szTy P p.2), h, false)) _ _)
    | vp cells =>
      dsimp only
      cases arrayOf P t with
      | none => exact det_none
      | some p => exact det_if _ (det_pickAt (fun i => det_ret (T.vp (cells.drop (i * szTy P p.2)), h, false)) _ _)
    | _ => exact det_none
  | _ => exact det_none
theorem semIndex_det (t : TypeId) (x i : T) : Det3 fun R k => semIndex (R := R) P t x i h k := by
  unfold semIndex
  cases x with
  | str s =>
    cases i with
    | int kk i => exact det_if _ (det_if _ (det_ret (_, _, _)))
    | _ => exact det_none
  | agg l =>
    cases i with
    | int kk i =>
      dsimp only
      cases arrayOf P t with
      | none => exact det_none
      | some p => exact det_if _ (det_pickAt (fun i => det_bind (ld_det P _ _) fun v => det_ret (v, h, false)) _ _)
    | _ => exact det_none
  | _ => cases i <;> exact det_none
theorem semExtract_det (x : T) (i : Nat) : Det3 fun R k => semExtract (R := R) x i h k := by
  cases x with
  | tup l =>
    simp only [semExtract]
    cases l[i]? with
    | none => exact det_none
    | some v => exact det_ret (_, _, _)
  | _ => exact det_none
theorem eqFields_det {eq : ∀ R : Type, TypeId → T → T → (Bool → Option R) → Option R} (heq : ∀ t x y, Det fun R k => eq R t x y k) (l m : List T) : ∀ fs, Det fun R k => eqFields (R := R) P (eq R) l m fs k
  | [] => det_ret true
  | f :: fs => by
    have ih := eqFields_det heq l m fs
    simp only [eqFields]
    exact det_bif _ ih (det_bind (ld_det P _ _) fun a => det_bind (ld_det P _ _) fun b => det_bind (heq _ a b) fun r => det_bif r ih (det_ret false))
theorem eqIn_det : ∀ (d : Nat) (t : TypeId) (x y : T), Det fun R k => eqIn (R := R) P d t x y k
  | 0, _, _, _ => det_none
  | d + 1, t, x, y => by
    cases x with
    | int kx a => cases y with | int ky b => exact det_if _ (det_ret _) | _ => exact det_none
    | bool a => cases y with | bool b => exact det_if _ (det_ret _) | _ => exact det_none
    | str a => cases y with | str b => exact det_if _ (det_ret _) | _ => exact det_none
    | agg l =>
      cases y with
      | agg m =>
        simp only [eqIn]
        cases structOf P t with
        | none => exact det_none
        | some fs => exact det_bif _ det_none (eqFields_det P (fun t x y => eqIn_det d t x y) l m fs)
      | _ => exact det_none
    | _ => exact det_none
attribute [local irreducible] eqIn
theorem semEq_det (t : TypeId) (x y : T) : Det fun R k => semEq (R := R) P t x y h k := by
  unfold semEq
  cases x with
  | int kx a => cases y with | int ky b => exact det_if _ (det_ret _) | _ => exact det_none
  | str a => cases y with | str b => exact det_ret _ | _ => exact det_none
  | bool a => cases y with | bool b => exact eqIn_det P 1 t _ _ | _ => exact det_none
  | agg a => cases y with | agg b => exact det_bif _ det_none (eqIn_det P 10 t _ _) | _ => exact det_none
  | nils => cases y with
    | nils => exact det_if _ (det_ret _)
    | view _ _ _ _ => exact det_if _ (det_ret _)
    | own i ver _ _ _ => exact det_if _ (det_bind (withBlk_det h i ver) fun _ => det_ret _)
    | _ => exact det_none
  | view _ _ _ _ => cases y with | nils => exact det_if _ (det_ret _) | _ => exact det_none
  | own i ver _ _ _ => cases y with | nils => exact det_if _ (det_bind (withBlk_det h i ver) fun _ => det_ret _) | _ => exact det_none
  | nilf => cases y with | nilf => exact det_if _ (det_ret _) | fn _ _ => exact det_if _ (det_ret _) | _ => exact det_none
  | fn _ _ => cases y with | nilf => exact det_if _ (det_ret _) | _ => exact det_none
  | _ => cases y <;> exact det_none
attribute [local irreducible] semEq
theorem semInt_det (op : BinOp) (kx : IntKind) (a b : Int) : Det3 fun R k => semInt (R := R) op kx a b h k := by
  cases op <;> first | exact det_ret (_, _, _) | exact det_bif _ det_none (det_ret (_, _, _)) | exact det_none
theorem semStr_det (op : BinOp) (a b : List UInt8) : Det3 fun R k => semStr (R := R) op a b h k := by
  cases op <;> first | exact det_ret (_, _, _) | exact det_if _ (det_ret (_, _, _)) | exact det_none
theorem semShift_det (op : BinOp) (kx : IntKind) (a b : Int) : Det3 fun R k => semShift (R := R) op kx a b h k := by
  unfold semShift
  cases op <;> first | exact det_if _ (det_ret (_, _, _)) | exact det_if _ det_none
theorem semArith_det (op : BinOp) (x y : T) : Det3 fun R k => semArith (R := R) op x y h k := by
  unfold semArith
  cases x with
  | int kx a => cases y with | int ky b => exact det_if _ (semInt_det h op kx a b) | _ => exact det_none
  | str a => cases y with | str b => exact semStr_det h op a b | _ => exact det_none
  | _ => cases y <;> exact det_none
theorem semShiftT_det (op : BinOp) (x y : T) : Det3 fun R k => semShiftT (R := R) op x y h k := by
  unfold semShiftT
  cases x with
  | int kx a => cases y with | int ky b => exact semShift_det h op kx a b | _ => exact det_none
  | _ => cases y <;> exact det_none
theorem semBin_det (op : BinOp) (t : TypeId) (x y : T) : Det3 fun R k => semBin (R := R) P op t x y h k := by
  cases op
  case eql => exact det_bind (semEq_det P h t x y) fun b => det_ret (_, _, _)
  case neq => exact det_bind (semEq_det P h t x y) fun b => det_ret (_, _, _)
  case shl => exact semShiftT_det h _ x y
  case shr => exact semShiftT_det h _ x y
  all_goals exact semArith_det h _ x y
theorem semUn_det (op : UnOp) (x : T) : Det3 fun R k => semUn (R := R) op x h k := by
  unfold semUn
  cases op <;> cases x <;> first | exact det_ret (_, _, _) | exact det_none
theorem bytesOf_det : ∀ l : List (List T), Det fun R k => bytesOf (R := R) l k
  | [] => det_ret []
  | e :: l => by
    have ih := bytesOf_det l
    simp only [bytesOf]
    cases byteOf e with
    | none => exact det_none
    | some n => exact det_bind (f := fun R k => bytesOf (R := R) l k) ih fun m => det_ret _

attribute [local irreducible] bytesOf
theorem semConvert_det (a b : TypeId) (x : T) : Det3 fun R k => semConvert (R := R) P a b x h k := by
  unfold semConvert
  cases x with
  | int kx n =>
    dsimp only
    cases P.underlying b with
    | none => exact det_none
    | some d => cases d <;> first | exact det_ret (_, _, _) | exact det_none
  | str s =>
    dsimp only
    cases P.underlying b with
    | none => exact det_none
    | some d => cases d <;> first | exact det_ret (_, _, _) | exact det_none
  | nils =>
    dsimp only
    cases P.underlying a with
    | none => exact det_none
    | some da =>
      cases P.underlying b with
      | none => cases da <;> exact det_none
      | some db =>
        cases da with
        | slice e =>
          cases db with
          | string =>
            dsimp only
            cases P.underlying e with
            | none => exact det_none
            | some de =>
              cases de with
              | int kk => cases kk <;> first | exact det_ret (_, _, _) | exact det_none
              | _ => exact det_none
          | _ => exact det_none
        | _ => exact det_none
  | view sz n g cap =>
    dsimp only
    cases P.underlying a with
    | none => exact det_none
    | some da =>
      cases P.underlying b with
      | none => cases da <;> exact det_none
      | some db =>
        cases da with
        | slice e =>
          cases db with
          | string =>
            dsimp only
            cases P.underlying e with
            | none => exact det_none
            | some de =>
              cases de with
              | int kk => cases kk <;> first | exact det_if _ (det_bind (bytesOf_det _) fun l => det_ret (_, _, _)) | exact det_none
              | _ => exact det_none
          | _ => exact det_none
        | _ => exact det_none
  | own i ver off len cap =>
    dsimp only
    cases P.underlying a with
    | none => exact det_none
    | some da =>
      cases P.underlying b with
      | none => cases da <;> exact det_none
      | some db =>
        cases da with
        | slice e =>
          cases db with
          | string =>
            dsimp only
            cases P.underlying e with
            | none => exact det_none
            | some de =>
              cases de with
              | int kk => cases kk <;> first | exact det_bind (withBlk_det h i ver) fun _ => det_if _ (det_bind (bytesOf_det _) fun l => det_ret (_, _, _)) | exact det_none
              | _ => exact det_none
          | _ => exact det_none
        | _ => exact det_none
  | _ => exact det_none
theorem semCall_det (K : Orc) (f : T) (args : List T) : Det3 fun R k => semCall (R := R) K f args h k := by
  cases f with
  | fn f caps =>
    refine det_bif _ ?_ ?_
    · exact det_bind2' (K.refDet f (args ++ caps) h) fun v h' => det_ret (v, h', true)
    · exact det_bind (K.valDet f _) fun r => det_ret (_, _, _)
  | _ => exact det_none
theorem source_det (sz : Nat) (x : T) : Det (A := Nat × (Nat → List T) × Bool) fun R k => source (R := R) sz x h fun a b c => k (a, b, c) := by
  unfold source
  cases x with
  | nils => exact det_ret (_, _, _)
  | view sz' n g cap => exact det_if _ (det_ret (_, _, _))
  | own i ver off len cap => exact det_bind (withBlk_det h i ver) fun b => det_if _ (det_ret (_, _, _))
  | str s => exact det_if _ (det_ret (_, _, _))
  | _ => exact det_none
attribute [local irreducible] source
theorem semAppend_det (t : TypeId) (s x : T) : Det3 fun R k => semAppend (R := R) P t s x h k := by
  unfold semAppend
  cases elemTy P t with
  | none => exact det_none
  | some e =>
    refine det_if _ (det_bind3 (source_det h _ x) fun m gx fl => ?_)
    cases s with
    | nils => exact det_bif _ (det_ret (_, _, _)) (det_if _ (det_ret (_, _, _)))
    | view sz n g cap =>
      refine det_if _ (det_bif _ (det_ret (_, _, _)) ?_)
      cases cap with
      | none => exact det_none
      | some c => exact det_if _ (det_ret (_, _, _))
    | own i ver off len cap =>
      refine det_bind (withBlk_det h i ver) fun b => det_if _ (det_bif _ (det_ret (_, _, _)) (det_if _ ?_))
      cases cap with
      | none => exact det_ret (_, _, _)
      | some c => exact det_bif _ (det_if _ (det_ret (_, _, _))) (det_ret (_, _, _))
    | _ => exact det_none
theorem semCopy_det (t : TypeId) (d x : T) : Det3 fun R k => semCopy (R := R) P t d x h k := by
  unfold semCopy
  cases elemTy P t with
  | none => exact det_none
  | some e =>
    refine det_if _ (det_bind3 (source_det h _ x) fun m gx fl => ?_)
    cases d with
    | nils => exact det_ret (_, _, _)
    | own i ver off len cap => exact det_bind (withBlk_det h i ver) fun b => det_if _ (det_ret (_, _, _))
    | _ => exact det_none
theorem semLen_det (t : TypeId) (x : T) : Det3 fun R k => semLen (R := R) P t x h k := by
  unfold semLen
  cases x with
  | str s => exact det_if _ (det_ret (_, _, _))
  | nils => exact det_if _ (det_ret (_, _, _))
  | view _ _ _ _ => exact det_if _ (det_ret (_, _, _))
  | own i ver _ _ _ => exact det_if _ (det_bind (withBlk_det h i ver) fun _ => det_ret (_, _, _))
  | agg l =>
    dsimp only
    cases arrayOf P t with
    | none => exact det_none
    | some p => exact det_ret (_, _, _)
  | _ => exact det_none
theorem semCap_det (t : TypeId) (x : T) : Det3 fun R k => semCap (R := R) P t x h k := by
  refine det_if _ ?_
  cases x with
  | nils => exact det_ret (_, _, _)
  | view _ _ _ cap => cases cap with | none => exact det_none | some c => exact det_ret (_, _, _)
  | own i ver _ _ cap => cases cap with | none => exact det_none | some c => exact det_bind (withBlk_det h i ver) fun _ => det_ret (_, _, _)
  | _ => exact det_none
theorem semMin2_det (mx : Bool) (x y : T) : Det3 fun R k => semMin2 (R := R) mx x y h k := by
  unfold semMin2
  cases x with
  | int kx a => cases y with | int ky b => exact det_if _ (det_ret (_, _, _)) | _ => exact det_none
  | _ => cases y <;> exact det_none
theorem semNil_det (x : T) : Det3 fun R k => semNil (R := R) x h k := by
  cases x with
  | vp _ => exact det_ret (_, _, _)
  | fn _ _ => exact det_ret (_, _, _)
  | ptr i ver _ _ => exact det_bind (withBlk_det h i ver) fun _ => det_ret (_, _, _)
  | _ => exact det_none
theorem semBuiltin_det (b : Builtin) (ts : List TypeId) (args : List T) : Det3 fun R k => semBuiltin (R := R) P b ts args h k := by
  match b, ts, args with
  | .len, t :: _, [x] => exact semLen_det P h t x
  | .cap, t :: _, [x] => exact semCap_det P h t x
  | .append, t :: tx :: _, [s, x] => exact det_if _ (semAppend_det P h t s x)
  | .copy, t :: _, [d, x] => exact semCopy_det P h t d x
  | .min, _, [x, y] => exact semMin2_det h false x y
  | .max, _, [x, y] => exact semMin2_det h true x y
  | b, ts, args =>
    unfold semBuiltin
    split
    · exact semLen_det P h _ _
    · exact semCap_det P h _ _
    · exact det_if _ (semAppend_det P h _ _ _)
    · exact semCopy_det P h _ _ _
    · exact semMin2_det h false _ _
    · exact semMin2_det h true _ _
    · exact det_none
end
end Go.Ab
