/- The abstract interpreter hands on one result, or none: steps, regions, code. -/
import Derived.Test.YtkiedolofnakoaaDoorAbDet
namespace Go.Ab
section
variable (P : Program) (K : Orc) (Gl : Nat → Option (List T)) (prom : List Nat) (nt : Nat)

theorem semOp_det (op : Op) (e : Operand → T) (h : Heap) : Det3 fun R k => semOp (R := R) P K op e h k := by
  unfold semOp
  split
  · exact det_ret (_, _, _)
  · exact det_ret (_, _, _)
  · split
    · exact det_bif _ (det_ret (_, _, _)) (det_ret (_, _, _))
    · exact det_none
  · exact det_if _ (semAlloc_det h _)
  · exact det_if _ (semAlloc_det h _)
  · exact semBuild_det P h _ _
  · exact semBuildSlice_det P h _ _ _
  · exact semLoad_det P h _ _
  · exact semStore_det P h _ _ _
  · exact semNil_det h _
  · exact semBin_det P h _ _ _ _
  · exact semUn_det h _ _
  · exact det_if _ (semConvert_det P h _ _ _)
  · exact det_if _ (det_ret (_, _, _))
  · exact semMake_det P h _ _ _
  · exact semSlice_det P h _ _ _ _ _
  · exact semFieldAddr_det P h _ _ _
  · exact semField_det P h _ _ _
  · exact semIndexAddr_det P h _ _ _
  · exact semIndex_det P h _ _ _
  · exact semExtract_det h _ _
  · exact semCall_det h K _ _
  · exact semBuiltin_det P h _ _ _
  · exact det_none

theorem parted_det (v : T) : Det fun R k => parted (A := R) v k := by
  cases v with
  | bool b => exact det_bif b (det_ret _) (det_ret _)
  | _ => exact det_ret _

abbrev DetS (f : ∀ R : Type, (Eff → FP → Option R) → Option R) : Prop := Det (A := Eff × FP) fun R k => f R fun s fp => k (s, fp)

theorem done_det (o : Oper) (s : St) (v : T) (hp : Option Heap) (rs : List Nat) (rd wr : Bool) : DetS fun R k => done (R := R) nt o s v hp rs rd wr k := by
  unfold done
  cases o.dst with
  | none => exact det_ret (_, _)
  | some d => exact det_if _ (det_bind (parted_det v) fun v => det_ret (_, _))
theorem doneLoc_det (o : Oper) (t off : Nat) (rs : List Nat) : DetS fun R k => doneLoc (R := R) prom nt o t off rs k := by
  unfold doneLoc
  cases o.dst with
  | none => exact det_none
  | some d => exact det_if _ (det_ret (_, _))

attribute [local irreducible] semOp parted done doneLoc ld

theorem plainStep_det (o : Oper) (s : St) : DetS fun R k => plainStep (R := R) P K Gl prom nt o s k := by
  unfold plainStep
  exact det_bif _ (det_bind3 (semOp_det P K _ _ _) fun _ _ wr => det_bif wr det_none (done_det nt _ _ _ _ _ _ _)) (det_bind3 (semOp_det P K _ _ _) fun _ _ _ => done_det nt _ _ _ _ _ _ _)

attribute [local irreducible] plainStep

theorem opStep_det (o : Oper) (s : St) : DetS fun R k => opStep (R := R) P K Gl prom nt o s k := by
  unfold opStep
  split
  · cases o.dst with
    | none => exact det_none
    | some d => exact det_bif _ (det_if _ (done_det nt _ _ _ _ _ _ _)) (plainStep_det P K Gl prom nt o s)
  · cases o.dst with
    | none => exact det_none
    | some d => exact det_bif _ (det_if _ (done_det nt _ _ _ _ _ _ _)) (plainStep_det P K Gl prom nt o s)
  · split
    · split
      · exact det_bind (ld_det P _ _) fun v => done_det nt _ _ _ _ _ _ _
      · exact det_none
    · exact plainStep_det P K Gl prom nt o s
  · split
    · split
      · exact det_if _ (det_ret (_, _))
      · exact det_none
    · exact plainStep_det P K Gl prom nt o s
  · split
    · split
      · split
        · exact doneLoc_det prom nt _ _ _ _
        · exact det_none
      · exact det_none
    · exact plainStep_det P K Gl prom nt o s
  · split
    · split
      · split
        · split
          · exact det_if _ (det_pickAt (fun j => doneLoc_det prom nt _ _ _ _) _ _)
          · exact det_none
        · exact det_none
      · exact det_none
    · exact plainStep_det P K Gl prom nt o s
  · split
    · split
      · exact doneLoc_det prom nt _ _ _ _
      · exact det_none
    · exact plainStep_det P K Gl prom nt o s
  · exact plainStep_det P K Gl prom nt o s

attribute [local irreducible] opStep

theorem det_bind2 {A B D : Type} {f : ∀ R : Type, (A → B → Option R) → Option R} {g : A → B → ∀ R : Type, (D → Option R) → Option R} (hf : Det (A := A × B) fun R k => f R fun a b => k (a, b))
    (hg : ∀ a b, Det (g a b)) : Det fun R k => f R fun a b => g a b R k := by
  rcases hf with h | ⟨p, h⟩
  · exact .inl fun R k => h R fun q => g q.1 q.2 R k
  · rcases hg p.1 p.2 with h2 | ⟨b, h2⟩
    · exact .inl fun R k => (h R fun q => g q.1 q.2 R k).trans (h2 R k)
    · exact .inr ⟨b, fun R k => (h R fun q => g q.1 q.2 R k).trans (h2 R k)⟩

theorem guarded_det (ops : List Oper) (o : Oper) (s : St) : DetS fun R k => guarded (R := R) P K Gl prom nt ops o s k := by
  unfold guarded
  split
  · exact opStep_det P K Gl prom nt o s
  · split
    · exact det_none
    · split
      · exact det_bif _ det_none (det_bif _ (det_bind2 (opStep_det P K Gl prom nt o s) fun s' fp => det_ret (_, _)) (done_det nt _ _ _ _ _ _ _))
      · exact det_bif _ det_none (done_det nt _ _ _ _ _ _ _)
      · exact det_none

attribute [local irreducible] guarded

abbrev DetL (f : ∀ R : Type, (St → List FP → Option R) → Option R) : Prop := Det (A := St × List FP) fun R k => f R fun s fp => k (s, fp)

theorem runOps_det (ops : List Oper) : ∀ (l : List Oper) (s : St), DetL fun R k => runOps (R := R) P K Gl prom nt ops l s k
  | [], s => det_ret (s, [])
  | o :: l, s => by
    simp only [runOps]
    exact det_bind2 (guarded_det P K Gl prom nt ops o s) fun f fp => det_bind2 (runOps_det ops l (f.app s)) fun s'' fps => det_ret (_, _)

attribute [local irreducible] runOps

variable (live : Nat → Bool → List Nat)
def RecDet (rec : Rec) : Prop := ∀ b vs h, Det (A := Ex × List T × Heap) fun R k => rec R b vs h fun e vs h => k (e, vs, h)
abbrev DetE (f : ∀ R : Type, (Ex → St → Option R) → Option R) : Prop := Det (A := Ex × St) fun R k => f R fun e s => k (e, s)

theorem exK_det {rec : Rec} (hrec : RecDet rec) : ∀ (c : Code) (s : St), DetE fun R k => exK (R := R) P K Gl prom nt live rec c s k
  | .skip, s => det_ret (_, _)
  | .label _, s => det_ret (_, _)
  | .region id ops draw, s => by
    simp only [exK]
    exact det_bind2 (runOps_det P K Gl prom nt ops.toList ops.toList _) fun s' fps => det_if _ (det_bif _ (det_if _ (det_ret (_, _))) (det_ret (_, _)))
  | .seq a b, s => by
    simp only [exK]
    refine det_bind2 (exK_det hrec a s) fun e s' => ?_
    cases e with
    | normal => exact exK_det hrec b s'
    | _ => exact det_ret (_, _)
  | .cond c a b, s => by
    simp only [exK]
    split
    · exact det_bif _ (exK_det hrec a s) (exK_det hrec b s)
    · exact det_none
  | .block id b, s => by
    simp only [exK]
    refine det_bind2 (exK_det hrec b s) fun e s' => ?_
    cases e with
    | exit i => exact det_bif _ (det_ret (_, _)) (det_ret (_, _))
    | _ => exact det_ret (_, _)
  | .loop b, s => by
    simp only [exK]
    exact det_bind3 (hrec b _ s.h) fun e vs h => det_ret (_, _)
  | .exit id, s => det_ret (_, _)
  | .ret, s => det_ret (_, _)
  | .scope _, _ => det_none
  | .goto _, _ => det_none
  | .refuse _, _ => det_none
  | .rangeFunc .., _ => det_none

theorem recOf_det (f : Code → List T → Heap → Option (Ex × List T × Heap)) : RecDet (recOf f) := fun b vs h => by
  unfold recOf
  cases f b vs h with
  | none => exact det_none
  | some p => exact det_ret p

theorem loopN_det : ∀ n, RecDet (loopN P K Gl prom nt live n)
  | 0 => fun b vs h => det_none
  | n + 1 => fun b vs h => by
    simp only [loopN]
    refine det_bind2 (exK_det P K Gl prom nt live (loopN_det n) b _) fun e s' => ?_
    cases e with
    | normal => exact loopN_det n b _ _
    | _ => exact det_ret (_, _, _)

theorem semLoad_det' (t : TypeId) (v : T) (h : Heap) : Det fun R k => semLoad (R := R) P t v h fun v _ _ => k v :=
  det_bind3 (semLoad_det P h t v) fun v _ _ => det_ret v
theorem resOf_det (s : St) (r : ResultVar) : Det fun R k => resOf (R := R) P Gl prom s r k := by
  cases r with
  | tmp t => exact det_ret _
  | cell a ty =>
    simp only [resOf]
    split
    · split
      · exact ld_det P _ _
      · exact det_none
    · exact semLoad_det' P _ _ _
theorem resAll_det (s : St) : ∀ l : List ResultVar, Det fun R k => resAll (R := R) P Gl prom s l k
  | [] => det_ret []
  | r :: l => by
    simp only [resAll]
    exact det_bind (resOf_det P Gl prom s r) fun v => det_bind (resAll_det s l) fun vs => det_ret _
end

end Go.Ab
