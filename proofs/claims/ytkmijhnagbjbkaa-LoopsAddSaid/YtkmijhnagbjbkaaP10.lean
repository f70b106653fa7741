/- A part of the proof: nothing is assumed. -/
import Derived.Test.YtkmijhnagbjbkaaP4
set_option linter.all false
namespace Go.Ab
def strip0:T->T
 | .new x=>x
 | x=>x
def strip:T->T
 | .agg l=>.agg (l.map strip0)
 | x=>strip0 x
theorem resTo_strip0 (x:T):ResTo x (strip0 x):=by cases x <;> first | exact .newv _ | exact .refl _
theorem resToL_strip:∀ l:List T,ResToL l (l.map strip0)
 | []=>.nil
 | x :: l=>.cons (resTo_strip0 x) (resToL_strip l)
theorem ToldOk.strip {P:Program} {Gl:Nat->Option (List T)} {f:FuncId} {args:List T} {r:T} (t:ToldOk P Gl f args r):ToldOk P Gl f args (Ab.strip r):=by
 cases r with
 | agg l=>exact t.aggTo (resToL_strip l)
 | _=>exact t.resTo (resTo_strip0 _)
theorem obind (o:Option T):o.bind some = o:=by cases o <;> rfl
def inlW (P:Program) (G:Nat->Option (List T)) (A:FuncId->Ann) (B C:FuncId->Bool) (m:Nat):Nat->Orc
 | 0=>noneO
 | n+1=>{ byRef:=fun e=>!(B e),val:=fun e args _ k=>(bif B e then (bif C e then (stepV P G A (inlW P G A B C m n) m e args).map (fun r=>strip (frz r)) else stepV P G A (inlW P G A B C m n) m e args) else none).bind k,ref:=fun e args h R k=>runR P G A (inlW P G A B C m n) (recN P G A (inlW P G A B C m n) m e) e args h k,valDet:=fun e args=>(match bif B e then (bif C e then (stepV P G A (inlW P G A B C m n) m e args).map (fun r=>strip (frz r)) else stepV P G A (inlW P G A B C m n) m e args) else none with | some r=>.inr ⟨r,fun _ _=>rfl⟩ | none=>.inl fun _ _=>rfl),refDet:=fun e args h=>runR_det (recN_det P G A (inlW P G A B C m n) m e) e args h }
theorem inlW_ok {P:Program} {G:Nat->Option (List T)} {A:FuncId->Ann} {B C:FuncId->Bool} (hm:P.follows .mixedOrders = true) (hn:namesOk P = true) (m:Nat):∀ n,OrcOk P G (inlW P G A B C m n)
 | 0=>none_ok
 | n+1=>by
  have h0:=inlW_ok (G:=G) (A:=A) (B:=B) (C:=C) hm hn m n
  have key:∀ e args r,(inlW P G A B C m (n+1)).val e args T some = some r->ToldOk P G e args r:=fun e args r hx=>by
   simp only [inlW] at hx
   rw [obind] at hx
   cases hb:B e with
   | false=>rw [hb,cond_false] at hx; cases hx
   | true =>
    rw [hb,cond_true] at hx
    cases hc:C e with
    | false=>rw [hc,cond_false] at hx; exact stepV_told hm hn h0 hx
    | true =>
     rw [hc,cond_true] at hx
     obtain ⟨r0,h1,rfl⟩:=Option.map_eq_some_iff.1 hx
     exact (stepV_told hm hn h0 h1).frz.strip
  refine ⟨fun e hx=>?_,fun e args r hx w U cargs hU hgl ha=>(key e args r hx).calls w U cargs hU hgl ha,fun e args h r h' hx g w cargs hr hno hgl ha=>?_⟩
  ·rcases hx with ⟨args,r,hx⟩ | ⟨args,h,⟨r,h'⟩,hx⟩
   ·exact (key e args r hx).enters
   ·exact runR_enters hn hx
  ·exact runR_calls hm h0 (recN_ok hm h0 m e) hx hr hno hgl ha
end Go.Ab

