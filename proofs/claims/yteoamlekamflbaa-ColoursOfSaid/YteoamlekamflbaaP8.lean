/- A part of the proof: nothing is assumed. -/
import Derived.Test.YteoamlekamflbaaP4
set_option linter.all false
namespace Go.Ab
theorem exTr {R:Type} {c:Bool} {x y:Option R} {P:R->Prop} (hc:c = true) (h:∃ q,x = some q/\P q):∃ q,(bif c then x else y) = some q/\P q:=by rw [hc]; exact h
theorem exFa {R:Type} {c:Bool} {x y:Option R} {P:R->Prop} (hc:¬ c = true) (h:∃ q,y = some q/\P q):∃ q,(bif c then x else y) = some q/\P q:=by
 rw [Bool.not_eq_true] at hc
 rw [hc]; exact h
theorem exTr2 {R S:Type} {c:Bool} {x y:Option (R × S)} {r:R} {P:S->Prop} (hc:c = true) (h:∃ q,x = some (r,q)/\P q):∃ q,(bif c then x else y) = some (r,q)/\P q:=by rw [hc]; exact h
theorem exFa2 {R S:Type} {c:Bool} {x y:Option (R × S)} {r:R} {P:S->Prop} (hc:¬ c = true) (h:∃ q,y = some (r,q)/\P q):∃ q,(bif c then x else y) = some (r,q)/\P q:=by
 rw [Bool.not_eq_true] at hc
 rw [hc]; exact h
theorem by_tree {R:Type} {x t:Option R} {G:Prop} (ht:x = t) (h:∃ q,t = some q/\(x = some q->G)):G:=by
 obtain ⟨q,h1,h2⟩:=h
 exact h2 (ht.trans h1)
theorem one_of {j:Nat} (h:j<1):j = 0:=by omega
theorem WeakTo.canonS {Gl:Nat->Option (List T)} {prom:List Nat} {nt:Nat} {l:List Nat} {k:Nat} {vs vs':List T} {h h2 h':Heap} (σ:List Nat) (ho:orderOkC k σ h = true) (hv:vs.map (ren σ h) = vs') (hh:renH σ h = h2) (hs:SameBlks h2 h'):WeakTo Gl prom nt l k vs h vs' h' :=
 .trans (.canon σ ho) (by rw [hv,hh]; exact .same hs)
section
variable {P:Program} {Gl:Nat->Option (List T)}
noncomputable def decF (q:Prop):Bool:=@decide q (Classical.propDecidable _)
theorem decF_iff {q:Prop}:decF q = true ↔ q:=by simp [decF]
noncomputable def callF (p:List T->T->Prop) (F:List T->Option T) (args:List T):Tree:=match F args with
 | some r=>.ite (decF (p args r)) (.ret r) .none
 | none=>.none
theorem callF_told {f:FuncId} {p:List T->T->Prop} {F:List T->Option T} (hp:p = ToldOk P Gl f):∀ args r,(callF p F args).run some = some r->ToldOk P Gl f args r:=by
 intro args r hr
 unfold callF at hr
 split at hr
 ·simp only [Tree.run] at hr
  obtain ⟨hc,hr⟩:=bif_none hr
  obtain rfl:=Option.some.inj hr
  have:=decF_iff.1 hc
  rw [hp] at this
  exact this
 ·cases hr
theorem callF_yes {f:FuncId} {p:List T->T->Prop} (hp:p = ToldOk P Gl f) {a:List T} {r:T} (t:ToldOk P Gl f a r):decF (p a r) = true:=decF_iff.2 (by rw [hp]; exact t)
noncomputable def refF (p:List T->Heap->T->Heap->Prop) (F:List T->Heap->Option (T × Heap)) (args:List T) (h:Heap):HTree:=match F args h with
 | some (r,h')=>.ite (decF (p args h r h')) (.ret r h') .none
 | none=>.none
theorem refF_told {f:FuncId} {p:List T->Heap->T->Heap->Prop} {F:List T->Heap->Option (T × Heap)} (hp:p = ToldRef P Gl f):∀ args h r h',(refF p F args h).run (fun v h=>some (v,h)) = some (r,h')->ToldRef P Gl f args h r h':=by
 intro args h r h' hr
 unfold refF at hr
 split at hr
 ·simp only [HTree.run] at hr
  obtain ⟨hc,hr⟩:=bif_none hr
  simp only [Option.some.injEq,Prod.mk.injEq] at hr
  obtain ⟨rfl,rfl⟩:=hr
  have:=decF_iff.1 hc
  rw [hp] at this
  exact this
 ·cases hr
theorem refF_yes {f:FuncId} {p:List T->Heap->T->Heap->Prop} (hp:p = ToldRef P Gl f) {a:List T} {h:Heap} {r:T} {h':Heap} (t:ToldRef P Gl f a h r h'):decF (p a h r h') = true:=decF_iff.2 (by rw [hp]; exact t)
theorem is_ref (P:Program) (Gl:Nat->Option (List T)) (f:FuncId):∃ p:List T->Heap->T->Heap->Prop,p = ToldRef P Gl f:=⟨_,rfl⟩
theorem is_val (P:Program) (Gl:Nat->Option (List T)) (f:FuncId):∃ p:List T->T->Prop,p = ToldOk P Gl f:=⟨_,rfl⟩
end
end Go.Ab

