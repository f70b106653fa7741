/- A part of the proof: nothing is assumed. -/
import Derived.Test.YtfcpfihblbbelaaGreatDoorP5
set_option linter.all false
namespace Go.Ab
def vw(sz:Nat)(cap:Option Nat)(l:List (List T)):T:=.view sz l.length (fun j=>l.getD j []) cap
def ii(n:Int):T:=.int .i64 n
def uu(n:Int):T:=.int .u8 n
def qik(c:Option Nat):Option Nat->Bool
 |none=>true
 |some m=>match c with|some k=>Nat.beq k m|none=>false
def qbp(p:T->T->Bool):List T->List T->Bool
 |[],[]=>true
 |a::l,b::m=>p a b&&qbp p l m
 |_,_=>false
def qe7:T->T->Bool
 |_,.undef=>true
 |.bool a,.bool b=>a==b
 |.int k a,.int k' b=>decide (k=k')&&decide (a=b)
 |.str a,.str b=>decide (a=b)
 |.nils,.nils=>true
 |.nilp,.nilp=>true
 |.nilf,.nilf=>true
 |.nilm,.nilm=>true
 |.nili,.nili=>true
 |.nils,.view _ 0 _ none=>true
 |.nils,.view _ 0 _ (some 0)=>true
 |_,_=>false
def simB:Nat->T->T->Bool
 |0,x,y=>qe7 x y
 |d+1,x,y=>match x,y with
  |.view sz n g c,.view sz' n' g' c'=>Nat.beq n n'&&Nat.beq sz sz'&&qik c c'&&(List.range n).all fun j=>qbp (simB d) (g j) (g' j)
  |.agg l,.agg m=>qbp (simB d) l m
  |x,y=>qe7 x y
theorem kW{p:T->T->Bool}(h:∀a b,p a b=true->Sim a b):∀{l m:List T},qbp p l m=true->Sims l m
 |[],[],_=>.nil
 |[],_::_,hh=>by cases hh
 |_::_,[],hh=>by cases hh
 |a::l,b::m,hh=>by
  simp only[qbp,Bool.and_eq_true] at hh;exact .cons (h a b hh.1) (kW h hh.2)
theorem qb0(x y:T)(h:qe7 x y=true):Sim x y:=by
 unfold qe7 at h;split at h
 ·exact .undef _
 ·obtain rfl:=eq_of_beq h;exact .refl _
 ·simp only[Bool.and_eq_true,decide_eq_true_eq] at h;obtain⟨rfl,rfl⟩:=h;exact .refl _
 ·obtain rfl:=of_decide_eq_true h;exact .refl _
 ·exact .refl _
 ·exact .refl _
 ·exact .refl _
 ·exact .refl _
 ·exact .refl _
 ·intro w U v hv;cases hv;exact .vnil _ _ _ (.inl rfl)
 ·intro w U v hv;cases hv;exact .vnil _ _ _ (.inr rfl)
 ·cases h
theorem kD:∀(d:Nat) (x y:T),simB d x y=true->Sim x y
 |0,x,y,h=>qb0 x y h
 |d+1,x,y,h=>by
  simp only[simB] at h;split at h
  ·rename_i sz n g c sz' n' g' c';simp only[Bool.and_eq_true] at h;obtain⟨⟨⟨h1,h2⟩,h3⟩,h4⟩:=h;obtain rfl:=Nat.eq_of_beq_eq_true h1;obtain rfl:=Nat.eq_of_beq_eq_true h2;refine .view ?_ fun j hj=>kW (kD d) (List.all_eq_true.1 h4 j (List.mem_range.2 hj));unfold qik at h3;split at h3
   ·exact .inr rfl
   ·split at h3
    ·exact .inl (by rw[Nat.eq_of_beq_eq_true h3])
    ·cases h3
  ·exact .agg (kW (kD d) h)
  ·exact qb0 _ _ h
def qe8:T->Bool
 |.fresh ..|.freshm _|.new _=>false
 |_=>true
def qdS(d:Nat):T->T->Bool
 |.new x,y=>simB d x y&&qe8 y
 |x,y=>qe8 x&&qe8 y&&simB d x y
def qdT(d:Nat)(x y:T):Bool:=match x with
 |.agg l=>(match y with|.agg m=>qbp (qdS d) l m|_=>false)
 |x=>(match y with|.agg _=>false|y=>qdS d x y)
def resB(d:Nat)(x y:T):Bool:=match x with
 |.tup l=>(match y with|.tup m=>qbp (qdT d) l m|_=>false)
 |x=>(match y with|.tup _=>false|y=>qdT d x y)
section
variable {w:World} {B:Nat} {U:Nat->Prop} {P:Program} {Gl:Nat->Option (List T)}
theorem RT0.imm{x:T}{v:Value}{X:List Nat}(hi:qe8 x=true)(h:RT0 w B U x v X):VI w U x v/\X=[]:=by
 cases h with
 |vi _ _ hv=>exact⟨hv,rfl⟩
 |_=>cases hi
theorem qdU{d:Nat}{x y:T}(h:qdS d x y=true){v:Value}{X:List Nat}(hx:RT0 w B U x v X):RT0 w B U y v X:=by
 unfold qdS at h;split at h
 ·simp only[Bool.and_eq_true] at h;cases hx with
  |vi _ _ hv=>cases hv
  |nw _ _ hv=>exact .vi _ _ (kD d _ _ h.1 _ _ _ (hv.keep fun b hb=>⟨hb.1,rfl⟩))
 ·simp only[Bool.and_eq_true] at h;obtain⟨h1,rfl⟩:=hx.imm h.1.1;exact .vi _ _ (kD d _ _ h.2 _ _ _ h1)
theorem qa5{Q:T->Value->List Nat->Prop}{p:T->T->Bool}(hp:∀x y v X,p x y=true->Q x v X->Q y v X):∀{l m:List T} {vs:List Value} {X:List Nat},qbp p l m=true->RTL Q l vs X->RTL Q m vs X
 |[],[],vs,X,_,h=>h
 |[],_::_,_,_,h,_=>by cases h
 |_::_,[],_,_,h,_=>by cases h
 |a::l,b::m,vs,X,h,hx=>by
  simp only[qbp,Bool.and_eq_true] at h;cases hx with
  |cons _ _ _ _ _ _ h0 h1=>exact .cons _ _ _ _ _ _ (hp _ _ _ _ h.1 h0) (qa5 hp h.2 h1)
theorem qgj{d:Nat}{x y:T}(hx:∀l,x≠.agg l)(hy:∀l,y≠.agg l):qdT d x y=qdS d x y:=by
 cases x<;>cases y<;>first|rfl|exact absurd rfl (hx _)|exact absurd rfl (hy _)
theorem qgW{d:Nat}{x y:T}(hx:∀l,x≠.tup l)(hy:∀l,y≠.tup l):resB d x y=qdT d x y:=by
 cases x<;>cases y<;>first|rfl|exact absurd rfl (hx _)|exact absurd rfl (hy _)
theorem qgk{x:T}{v:Value}{X:List Nat}(hx:∀l,x≠.agg l):RT1 w B U x v X=RT0 w B U x v X:=by
 cases x<;>first|rfl|exact absurd rfl (hx _)
theorem qgl{x:T}{v:Value}{X:List Nat}(hx:∀l,x≠.tup l):RT2 w B U x v X=RT1 w B U x v X:=by
 cases x<;>first|rfl|exact absurd rfl (hx _)
theorem isAgg(x:T):(∃l,x = .agg l)∨∀l,x≠.agg l:=by
 cases x<;>first|exact .inl ⟨_,rfl⟩|exact .inr fun l h=>by cases h
theorem qhm(x:T):(∃l,x = .tup l)∨∀l,x≠.tup l:=by
 cases x<;>first|exact .inl ⟨_,rfl⟩|exact .inr fun l h=>by cases h
theorem qdV{d:Nat}{x y:T}(h:qdT d x y=true){v:Value}{X:List Nat}(hx:RT1 w B U x v X):RT1 w B U y v X:=by
 rcases isAgg x with⟨l,rfl⟩|q1<;>rcases isAgg y with⟨m,rfl⟩|q2
 ·obtain⟨cs,h1,h2,h3⟩:=hx;exact⟨cs,h1,h2,qa5 (Q:=RT0 w B U) (fun _ _ _ _ a b=>qdU a b) h h3⟩
 ·cases y<;>first|cases h|exact absurd rfl (q2 _)
 ·cases x<;>first|cases h|exact absurd rfl (q1 _)
 ·rw[qgj q1 q2] at h;rw[qgk q1] at hx;rw[qgk q2];exact qdU h hx
theorem qgX{d:Nat}{x y:T}(h:resB d x y=true){v:Value}{X:List Nat}(hx:RT2 w B U x v X):RT2 w B U y v X:=by
 rcases qhm x with⟨l,rfl⟩|q1<;>rcases qhm y with⟨m,rfl⟩|q2
 ·obtain⟨cs,h1,h3⟩:=hx;exact⟨cs,h1,qa5 (Q:=RT1 w B U) (fun _ _ _ _ a b=>qdV a b) h h3⟩
 ·cases y<;>first|cases h|exact absurd rfl (q2 _)
 ·cases x<;>first|cases h|exact absurd rfl (q1 _)
 ·rw[qgW q1 q2] at h;rw[qgl q1] at hx;rw[qgl q2];exact qdV h hx
theorem ToldOk.resB{f:FuncId}{args:List T}{d:Nat}{r r2:T}(t:ToldOk P Gl f args r)(h:Ab.resB d r r2=true):ToldOk P Gl f args r2 :=
 ⟨t.enters,fun w U cargs hU hgl ha=>(t.calls w U cargs hU hgl ha).mono fun e w' ⟨v,q1,q2⟩=>⟨v,q1,by
  obtain⟨h0,U',X,h1,h2,h3,h4,h5⟩:=q2;exact⟨h0,U',X,h1,h2,h3,h4,qgX h h5⟩⟩⟩
theorem QT{f:FuncId}{args:List T}{o:Option T}(ho:∀r,o=some r->ToldOk P Gl f args r){d:Nat}{r2:T}(h:(match o with|some r=>Ab.resB d r r2|none=>false)=true):ToldOk P Gl f args r2:=by
 cases o with
 |some r=>exact(ho r rfl).resB h
 |none=>cases h
end
abbrev qbq:=List (FuncId×List T×T)
def qgm(d:Nat):qbq->FuncId->List T->Option T
 |[],_,_=>none
 |(f,a,r)::l,g,b=>bif Nat.beq f g&&qbp (simB d) b a then some r else qgm d l g b
def KR(P:Program)(Gl:Nat->Option (List T)):qbq->Prop
 |[]=>True
 |(f,a,r)::l=>ToldOk P Gl f a r/\KR P Gl l
theorem Jj{P:Program}{Gl:Nat->Option (List T)}{d:Nat}:∀{l:qbq} {f:FuncId} {b:List T} {r:T},KR P Gl l->qgm d l f b=some r->ToldOk P Gl f b r
 |[],_,_,_,_,h=>by cases h
 |(f,a,x)::l,g,b,r,hl,h=>by
  simp only[qgm] at h;rcases qk h with⟨hc,h2⟩|⟨_,h2⟩
  ·simp only[Bool.and_eq_true] at hc;obtain rfl:=Nat.eq_of_beq_eq_true hc.1;obtain rfl:=Option.some.inj h2;exact hl.1.sim (kW (kD d) hc.2)
  ·exact Jj hl.2 h2
def qdW(l:qbq)(f:FuncId):Bool:=l.any fun e=>Nat.beq e.1 f
def yl(d:Nat)(l:qbq)(K:Orc):Orc where
 byRef e:=bif qdW l e then false else K.byRef e
 val e args R k:=bif qdW l e then(qgm d l e args).bind k else K.val e args R k
 ref e args h R k:=bif qdW l e then none else K.ref e args h R k
 valDet e args:=qv _ (match qgm d l e args with|some r=>.inr ⟨r,fun _ _=>rfl⟩|none=>.inl fun _ _=>rfl) (K.valDet e args)
 refDet e args h:=qv _ (.inl fun _ _=>rfl) (K.refDet e args h)
 ro e:=bif qdW l e then false else K.ro e
theorem y9{P:Program}{Gl:Nat->Option (List T)}{d:Nat}{l:qbq}{K:Orc}(hl:KR P Gl l)(hK:OrcOk P Gl K):OrcOk P Gl (yl d l K):=by
 refine⟨fun e hx=>?_,fun e args r hx w U cargs hU hgl ha=>?_,fun e args h r h' hx g w cargs hr hno hgl ha=>?_,fun e he args h r h' hx=>?_⟩
 all_goals cases hk:qdW l e
 ·simp only[yl,hk,cond_false] at hx;exact hK.enters e hx
 ·simp only[yl,hk,cond_true] at hx;rcases hx with⟨args,r,hx⟩|⟨args,h,r,hx⟩
  ·rw[qe0] at hx;exact(Jj hl hx).enters
  ·cases hx
 ·simp only[yl,hk,cond_false] at hx;exact hK.val e args r hx w U cargs hU hgl ha
 ·simp only[yl,hk,cond_true] at hx;rw[qe0] at hx;exact(Jj hl hx).calls w U cargs hU hgl ha
 ·simp only[yl,hk,cond_false] at hx;exact hK.ref e args h r h' hx g w cargs hr hno hgl ha
 ·simp only[yl,hk,cond_true] at hx;cases hx
 ·simp only[yl,hk,cond_false] at he hx;exact hK.ro e he args h r h' hx
 ·simp only[yl,hk,cond_true] at he;cases he
end Go.Ab

