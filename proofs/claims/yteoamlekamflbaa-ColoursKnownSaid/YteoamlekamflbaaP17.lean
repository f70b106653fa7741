/- A part of the proof: nothing is assumed. -/
import Derived.Test.YteoamlekamflbaaP4
import Derived.Test.YteoamlekamflbaaP12
set_option linter.all false
namespace Go.Ab
def qe9:T->T
 |.new x=>x
 |x=>x
def strip:T->T
 |.agg l=>.agg (l.map qe9)
 |x=>qe9 x
theorem JZ(x:T):ResTo x (qe9 x):=by cases x<;>first|exact .newv _|exact .refl _
theorem J0:∀l:List T,ResToL l (l.map qe9)
 |[]=>.nil
 |x::l=>.cons (JZ x) (J0 l)
theorem ToldOk.strip{P:Program}{Gl:Nat->Option (List T)}{f:FuncId}{args:List T}{r:T}(t:ToldOk P Gl f args r):ToldOk P Gl f args (Ab.strip r):=by
 cases r with
 |agg l=>exact t.aggTo (J0 l)
 |_=>exact t.resTo (JZ _)
theorem qj7(o:Option T):o.bind some=o:=by cases o<;>rfl
def qcU(P:Program)(G:Nat->Option (List T))(A:FuncId->Ann)(B C:FuncId->Bool)(m:Nat):Nat->Orc
 |0=>qk
 |n+1=>{ byRef:=fun e=>!(B e),val:=fun e args _ k=>(bif B e then(bif C e then(QU P G A (qcU P G A B C m n) m e args).map (fun r=>strip (frz r)) else QU P G A (qcU P G A B C m n) m e args) else none).bind k,ref:=fun e args h R k=>Jc P G A (qcU P G A B C m n) (qbq P G A (qcU P G A B C m n) m e) e args h k,valDet:=fun e args=>(match bif B e then(bif C e then(QU P G A (qcU P G A B C m n) m e args).map (fun r=>strip (frz r)) else QU P G A (qcU P G A B C m n) m e args) else none with|some r=>.inr ⟨r,fun _ _=>rfl⟩|none=>.inl fun _ _=>rfl),refDet:=fun e args h=>qb5 (Zf P G A (qcU P G A B C m n) m e) e args h }
theorem qhR{P:Program}{G:Nat->Option (List T)}{A:FuncId->Ann}{B C:FuncId->Bool}(hm:P.follows .mixedOrders=true)(hn:Zq P=true)(m:Nat):∀n,OrcOk P G (qcU P G A B C m n)
 |0=>qf
 |n+1=>by
  have h0:=qhR (G:=G) (A:=A) (B:=B) (C:=C) hm hn m n;have key:∀e args r,(qcU P G A B C m (n+1)).val e args T some=some r->ToldOk P G e args r:=fun e args r hx=>by
   simp only[qcU] at hx;rw[qj7] at hx;cases hb:B e with
   |false=>rw[hb,cond_false] at hx;cases hx
   |true =>
    rw[hb,cond_true] at hx;cases hc:C e with
    |false=>rw[hc,cond_false] at hx;exact qP hm hn h0 hx
    |true =>
     rw[hc,cond_true] at hx;obtain⟨r0,h1,rfl⟩:=Option.map_eq_some_iff.1 hx;exact(qP hm hn h0 h1).frz.strip
  refine⟨fun e hx=>?_,fun e args r hx w U cargs hU hgl ha=>(key e args r hx).calls w U cargs hU hgl ha,fun e args h r h' hx g w cargs hr hno hgl ha=>?_,fun e he=>by cases he⟩
  ·rcases hx with⟨args,r,hx⟩|⟨args,h,⟨r,h'⟩,hx⟩
   ·exact(key e args r hx).enters
   ·exact yr hn hx
  ·exact kF hm h0 (yH hm h0 m e) hx hr hno hgl ha
section
variable {P:Program} {Gl:Nat->Option (List T)} {K:Orc} {R:Type} {prom:List Nat} {nt:Nat} {live:Nat->Bool->List Nat}
end
section
variable (P:Program) (K:Orc) (G:Nat->Option (List T)) (prom:List Nat) (nt:Nat) (live:Nat->Bool->List Nat)
end
section
variable {P:Program} {K:Orc} {Gl:Nat->Option (List T)} {prom:List Nat} {nt:Nat} {live:Nat->Bool->List Nat}
end
section
variable (P:Program) (G:Nat->Option (List T)) (A:FuncId->Ann) (sq:FuncId->List T->Option (List (List T)))
end
section
variable {P:Program} {G:Nat->Option (List T)} {A:FuncId->Ann} {sq:FuncId->List T->Option (List (List T))}
end
def ii(n:Int):T:=.int .i64 n
def uu(n:Int):T:=.int .u8 n
def qnu(c:Option Nat):Option Nat->Bool
 |none=>true
 |some m=>match c with|some k=>Nat.beq k m|none=>false
def qiE(p:T->T->Bool):List T->List T->Bool
 |[],[]=>true
 |a::l,b::m=>p a b&&qiE p l m
 |_,_=>false
def qhS:T->T->Bool
 |_,.undef=>true
 |.bool a,.bool b=>a==b
 |.int k a,.int k' b=>decide (k=k')&&decide (a=b)
 |.str a,.str b=>decide (a=b)
 |.nils,.nils=>true
 |.nilp,.nilp=>true
 |.nilf,.nilf=>true
 |.nilm,.nilm=>true
 |.nili,.nili=>true
 |.nils,.view _ 0 _ none=>true
 |.nils,.view _ 0 _ (some 0)=>true
 |_,_=>false
def simB:Nat->T->T->Bool
 |0,x,y=>qhS x y
 |d+1,x,y=>match x,y with
  |.view sz n g c,.view sz' n' g' c'=>Nat.beq n n'&&Nat.beq sz sz'&&qnu c c'&&(List.range n).all fun j=>qiE (simB d) (g j) (g' j)
  |.agg l,.agg m=>qiE (simB d) l m
  |x,y=>qhS x y
theorem jc{p:T->T->Bool}(h:∀a b,p a b=true->Sim a b):∀{l m:List T},qiE p l m=true->Sims l m
 |[],[],_=>.nil
 |[],_::_,hh=>by cases hh
 |_::_,[],hh=>by cases hh
 |a::l,b::m,hh=>by
  simp only[qiE,Bool.and_eq_true] at hh;exact .cons (h a b hh.1) (jc h hh.2)
theorem qdY(x y:T)(h:qhS x y=true):Sim x y:=by
 unfold qhS at h;split at h
 ·exact .undef _
 ·obtain rfl:=eq_of_beq h;exact .refl _
 ·simp only[Bool.and_eq_true,decide_eq_true_eq] at h;obtain⟨rfl,rfl⟩:=h;exact .refl _
 ·obtain rfl:=of_decide_eq_true h;exact .refl _
 ·exact .refl _
 ·exact .refl _
 ·exact .refl _
 ·exact .refl _
 ·exact .refl _
 ·intro w U v hv;cases hv;exact .vnil _ _ _ (.inl rfl)
 ·intro w U v hv;cases hv;exact .vnil _ _ _ (.inr rfl)
 ·cases h
theorem qcV:∀(d:Nat) (x y:T),simB d x y=true->Sim x y
 |0,x,y,h=>qdY x y h
 |d+1,x,y,h=>by
  simp only[simB] at h;split at h
  ·rename_i sz n g c sz' n' g' c';simp only[Bool.and_eq_true] at h;obtain⟨⟨⟨h1,h2⟩,h3⟩,h4⟩:=h;obtain rfl:=Nat.eq_of_beq_eq_true h1;obtain rfl:=Nat.eq_of_beq_eq_true h2;refine .view ?_ fun j hj=>jc (qcV d) (List.all_eq_true.1 h4 j (List.mem_range.2 hj));unfold qnu at h3;split at h3
   ·exact .inr rfl
   ·split at h3
    ·exact .inl (by rw[Nat.eq_of_beq_eq_true h3])
    ·cases h3
  ·exact .agg (jc (qcV d) h)
  ·exact qdY _ _ h
def qnv:T->Bool
 |.fresh ..|.freshm _|.new _=>false
 |_=>true
section
variable {w:World} {B:Nat} {U:Nat->Prop} {P:Program} {Gl:Nat->Option (List T)}
theorem RT0.imm{x:T}{v:Value}{X:List Nat}(hi:qnv x=true)(h:RT0 w B U x v X):VI w U x v/\X=[]:=by
 cases h with
 |vi _ _ hv=>exact⟨hv,rfl⟩
 |_=>cases hi
theorem isAgg(x:T):(∃l,x = .agg l)∨∀l,x≠.agg l:=by
 cases x<;>first|exact .inl ⟨_,rfl⟩|exact .inr fun l h=>by cases h
end
abbrev qhk:=List (FuncId×List T×T)
def qj8(d:Nat):qhk->FuncId->List T->Option T
 |[],_,_=>none
 |(f,a,r)::l,g,b=>bif Nat.beq f g&&qiE (simB d) b a then some r else qj8 d l g b
def qfa(P:Program)(Gl:Nat->Option (List T)):qhk->Prop
 |[]=>True
 |(f,a,r)::l=>ToldOk P Gl f a r/\qfa P Gl l
theorem qax{P:Program}{Gl:Nat->Option (List T)}{d:Nat}:∀{l:qhk} {f:FuncId} {b:List T} {r:T},qfa P Gl l->qj8 d l f b=some r->ToldOk P Gl f b r
 |[],_,_,_,_,h=>by cases h
 |(f,a,x)::l,g,b,r,hl,h=>by
  simp only[qj8] at h;rcases qH h with⟨hc,h2⟩|⟨_,h2⟩
  ·simp only[Bool.and_eq_true] at hc;obtain rfl:=Nat.eq_of_beq_eq_true hc.1;obtain rfl:=Option.some.inj h2;exact hl.1.sim (jc (qcV d) hc.2)
  ·exact qax hl.2 h2
def qge(l:qhk)(f:FuncId):Bool:=l.any fun e=>Nat.beq e.1 f
def KL(d:Nat)(l:qhk)(K:Orc):Orc where
 byRef e:=bif qge l e then false else K.byRef e
 val e args R k:=bif qge l e then(qj8 d l e args).bind k else K.val e args R k
 ref e args h R k:=bif qge l e then none else K.ref e args h R k
 valDet e args:=qV _ (match qj8 d l e args with|some r=>.inr ⟨r,fun _ _=>rfl⟩|none=>.inl fun _ _=>rfl) (K.valDet e args)
 refDet e args h:=qV _ (.inl fun _ _=>rfl) (K.refDet e args h)
 ro e:=bif qge l e then false else K.ro e
theorem qgf{P:Program}{Gl:Nat->Option (List T)}{d:Nat}{l:qhk}{K:Orc}(hl:qfa P Gl l)(hK:OrcOk P Gl K):OrcOk P Gl (KL d l K):=by
 refine⟨fun e hx=>?_,fun e args r hx w U cargs hU hgl ha=>?_,fun e args h r h' hx g w cargs hr hno hgl ha=>?_,fun e he args h r h' hx=>?_⟩
 all_goals cases hk:qge l e
 ·simp only[KL,hk,cond_false] at hx;exact hK.enters e hx
 ·simp only[KL,hk,cond_true] at hx;rcases hx with⟨args,r,hx⟩|⟨args,h,r,hx⟩
  ·rw[qj7] at hx;exact(qax hl hx).enters
  ·cases hx
 ·simp only[KL,hk,cond_false] at hx;exact hK.val e args r hx w U cargs hU hgl ha
 ·simp only[KL,hk,cond_true] at hx;rw[qj7] at hx;exact(qax hl hx).calls w U cargs hU hgl ha
 ·simp only[KL,hk,cond_false] at hx;exact hK.ref e args h r h' hx g w cargs hr hno hgl ha
 ·simp only[KL,hk,cond_true] at hx;cases hx
 ·simp only[KL,hk,cond_false] at he hx;exact hK.ro e he args h r h' hx
 ·simp only[KL,hk,cond_true] at he;cases he
end Go.Ab

