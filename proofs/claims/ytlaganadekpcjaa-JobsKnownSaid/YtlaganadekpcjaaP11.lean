/- A part of the proof: nothing is assumed. -/
import Derived.Test.YtlaganadekpcjaaP7
import Derived.Test.YtlaganadekpcjaaP9
set_option linter.all false
namespace Go.Ab
variable {P:Program} {Gl:Nat->Option (List T)}
noncomputable def propF (p:List T->Prop) (a:List T):Bool:=@decide (p a) (Classical.propDecidable _)
theorem propF_iff {p:List T->Prop} {a:List T}:propF p a = true ↔ p a:=by simp [propF]
noncomputable def callP (p:List T->Prop) (r:T) (args:List T):Tree:=.ite (propF p args) (.ret r) .none
theorem callP_told {f:FuncId} {p:List T->Prop} {r0:T} (h:∀ a,p a->ToldOk P Gl f a r0):∀ args r,(callP p r0 args).run some = some r->ToldOk P Gl f args r:=by
 intro args r hr
 unfold callP at hr
 simp only [Tree.run] at hr
 obtain ⟨hc,hr⟩:=bif_none hr
 obtain rfl:=Option.some.inj hr
 exact h _ (propF_iff.1 hc)
theorem told_pred (P:Program) (Gl:Nat->Option (List T)) (f:FuncId) (r:T):∃ p:List T->Prop,p = fun z=>ToldOk P Gl f z r:=⟨_,rfl⟩
theorem told_predT {f:FuncId} {r:T} {p:List T->Prop} (h:p = fun z=>ToldOk P Gl f z r):∀ a,p a->ToldOk P Gl f a r:=fun a ha=>by rw [h] at ha; exact ha
theorem pred_yes {f:FuncId} {r:T} {p:List T->Prop} (h:p = fun z=>ToldOk P Gl f z r) {a:List T} (t:ToldOk P Gl f a r):propF p a = true:=propF_iff.2 (by rw [h]; exact t)
end Go.Ab

