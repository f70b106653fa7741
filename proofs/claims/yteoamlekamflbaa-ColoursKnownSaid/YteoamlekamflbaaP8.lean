/- A part of the proof: nothing is assumed. -/
import Derived.Test.YteoamlekamflbaaP4
set_option linter.all false
namespace Go.Ab
theorem ql4{R:Type}{c:Bool}{x y:Option R}{P:R->Prop}(hc:c=true)(h:∃q,x=some q/\P q):∃q,(bif c then x else y)=some q/\P q:=by rw[hc];exact h
theorem ql5{R:Type}{c:Bool}{x y:Option R}{P:R->Prop}(hc:¬c=true)(h:∃q,y=some q/\P q):∃q,(bif c then x else y)=some q/\P q:=by
 rw[Bool.not_eq_true] at hc;rw[hc];exact h
theorem qi9{R S:Type}{c:Bool}{x y:Option (R×S)}{r:R}{P:S->Prop}(hc:c=true)(h:∃q,x=some (r,q)/\P q):∃q,(bif c then x else y)=some (r,q)/\P q:=by rw[hc];exact h
theorem ql6{R S:Type}{c:Bool}{x y:Option (R×S)}{r:R}{P:S->Prop}(hc:¬c=true)(h:∃q,y=some (r,q)/\P q):∃q,(bif c then x else y)=some (r,q)/\P q:=by
 rw[Bool.not_eq_true] at hc;rw[hc];exact h
theorem qkj{R:Type}{x t:Option R}{G:Prop}(ht:x=t)(h:∃q,t=some q/\(x=some q->G)):G:=by
 obtain⟨q,h1,h2⟩:=h;exact h2 (ht.trans h1)
theorem Yb{j:Nat}(h:j<1):j=0:=by omega
theorem WeakTo.canonS{Gl:Nat->Option (List T)}{prom:List Nat}{nt:Nat}{l:List Nat}{k:Nat}{vs vs':List T}{h h2 h':qg}(σ:List Nat)(ho:KF k σ h=true)(hv:vs.map (ren σ h)=vs')(hh:qcc σ h=h2)(hs:SameBlks h2 h'):WeakTo Gl prom nt l k vs h vs' h' :=
 .trans (.canon σ ho) (by rw[hv,hh];exact .same hs)
section
variable {P:Program} {Gl:Nat->Option (List T)}
noncomputable def qF(q:Prop):Bool:=@decide q (Classical.propDecidable _)
theorem Yc{q:Prop}:qF q=true↔q:=by simp[qF]
noncomputable def qL(p:List T->T->Prop)(F:List T->Option T)(args:List T):Tree:=match F args with
 |some r=>.ite (qF (p args r)) (.ret r) .none
 |none=>.none
theorem qj{f:FuncId}{p:List T->T->Prop}{F:List T->Option T}(hp:p=ToldOk P Gl f):∀args r,(qL p F args).run some=some r->ToldOk P Gl f args r:=by
 intro args r hr;unfold qL at hr;split at hr
 ·simp only[Tree.run] at hr;obtain⟨hc,hr⟩:=qu hr;obtain rfl:=Option.some.inj hr;have:=Yc.1 hc;rw[hp] at this;exact this
 ·cases hr
theorem qp{f:FuncId}{p:List T->T->Prop}(hp:p=ToldOk P Gl f){a:List T}{r:T}(t:ToldOk P Gl f a r):qF (p a r)=true:=Yc.2 (by rw[hp];exact t)
noncomputable def qa4(p:List T->qg->T->qg->Prop)(F:List T->qg->Option (T×qg))(args:List T)(h:qg):HTree:=match F args h with
 |some (r,h')=>.ite (qF (p args h r h')) (.ret r h') .none
 |none=>.none
theorem zf{f:FuncId}{p:List T->qg->T->qg->Prop}{F:List T->qg->Option (T×qg)}(hp:p=ToldRef P Gl f):∀args h r h',(qa4 p F args h).run (fun v h=>some (v,h))=some (r,h')->ToldRef P Gl f args h r h':=by
 intro args h r h' hr;unfold qa4 at hr;split at hr
 ·simp only[HTree.run] at hr;obtain⟨hc,hr⟩:=qu hr;simp only[Option.some.injEq,Prod.mk.injEq] at hr;obtain⟨rfl,rfl⟩:=hr;have:=Yc.1 hc;rw[hp] at this;exact this
 ·cases hr
theorem Qe{f:FuncId}{p:List T->qg->T->qg->Prop}(hp:p=ToldRef P Gl f){a:List T}{h:qg}{r:T}{h':qg}(t:ToldRef P Gl f a h r h'):qF (p a h r h')=true:=Yc.2 (by rw[hp];exact t)
theorem ZO(P:Program)(Gl:Nat->Option (List T))(f:FuncId):∃p:List T->qg->T->qg->Prop,p=ToldRef P Gl f:=⟨_,rfl⟩
theorem qD(P:Program)(Gl:Nat->Option (List T))(f:FuncId):∃p:List T->T->Prop,p=ToldOk P Gl f:=⟨_,rfl⟩
end
end Go.Ab

