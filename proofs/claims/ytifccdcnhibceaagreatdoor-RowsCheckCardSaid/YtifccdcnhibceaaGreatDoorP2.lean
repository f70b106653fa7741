/- A part of the proof: nothing is assumed. -/
import Derived.Test.YtifccdcnhibceaaGreatDoorP1
import Derived.Orders
import Derived.OrdersIn
import Derived.TacticsIn
import Derived.RangeFuncLeaves
import Derived.RangeFuncRecord
import Derived.OpenShut
import Derived.Deep.DeepHandedRow
import Derived.Lib.LaidTab
import Derived.RangeFuncIn
import Derived.RangeFuncSeq
import Derived.RangeFuncOwn
set_option linter.all false
namespace Go.Ab
section
variable {P:Program} {R:Type} {g:Gh} {h:qa} {w:World}
def Tu:∀{l:t8},zW l=true->l.Nodup
 |[],_=>List.nodup_nil
 |a::l,hn=>by
  simp only[zW,wd] at hn;exact xu.2 ⟨rx,Tu hn.2⟩
def zc(g:Gh)(i:Nat):Option Nat:=(g.φ i).map (·.1)
def YL(g:Gh)(w:World)(B:Nat)(all:t8)(b:Nat):Prop:=g.U b∨(B<=b/\b<w.heap.size/\b∉all.filterMap (zc g))
def qgG(hr:HR g h w)(B:Nat)(hB:B<=g.base)(all:t8)(x:∀j,j∈all->∃b,h[j]?=some b):Reads g h w all (YL g w B all):=by
 refine⟨λb d=>.inl d,λi b cb E d D o=>.inr ?_⟩;have e:=hr.mE d o;have:=hr.own _ _ e;refine⟨ab,this.2,λr=>?_⟩;obtain⟨j,s,a⟩:=List.mem_filterMap.1 r;obtain⟨H,f⟩:=x j s;unfold zc at a;obtain⟨⟨u,k⟩,A,a⟩:=wT.1 a;dsimp only at a;subst a;have C:=hr.mE f A;have:=C;rw[e] at this;grind
def Tv(hr:HR g h w){B:Nat}(hB:B<=g.base){all:t8}(aZ:∀j,j∈all->∃b,h[j]?=some b){ok:Bool}{x:T}{v:Value}(hx:g.VR h w x v) :
 ∃X,g4 w B (YL g w B all) (JX ok all h x) v X/\X.Sublist ((kP x).filterMap (zc g))/\(ok=false->X=[]):=by
 have J:=qgG hr B hB all aZ;have other:(∀i aj a len cap,x≠.own i aj a len cap)->(∀i aj,x≠.mp i aj)->∃X,g4 w B (YL g w B all) (JX ok all h x) v X/\X.Sublist ((kP x).filterMap (zc g))/\(ok=false->X=[]):=by
  intro iu NL;have e:JX ok all h x=bif aF x then x else resolve 4 all h x:=by
   cases x<;>first|rfl|exact absurd rfl (NL _ _)|grind
  rw[e];refine⟨[],.vi _ _ ?_,xx _,λ_=>rfl⟩;cases hi:aF x with
  |true=>exact(yf hi hx).av (IR J.u)
  |false=>exact Zg hr J 4 x v hx
 cases x with
 |own i aj a len cap =>
  simp only[JX];cases ok with
  |false=>exact⟨[],.vi _ _ (.undef _),xx _,λ_=>rfl⟩
  |true =>
   simp only[wp];cases C:h[i]? with
   |none=>exact⟨[],.vi _ _ (.undef _),xx _,λ_=>rfl⟩
   |some b =>
    dsimp only;cases L:b.mp with
    |some m=>exact⟨[],.vi _ _ (.undef _),xx _,λ_=>rfl⟩
    |none =>
    simp only[vW,wQ];cases r:(b.aj==aj&&Nat.ble (a+len) b.n) with
    |false=>exact⟨[],.vi _ _ (.undef _),xx _,λ_=>rfl⟩
    |true =>
     simp only[wd,vm] at r;have bz:=Qr r.2;rcases zP C r.1 hx with⟨cb,sh,cc,ad,s,rfl,es,e2,e3,V,e5,e6,e7⟩|⟨q1,q2,rfl,rfl,Y,rfl⟩
     rotate_left
     .simp only[wp];rw[show b.n-0=0 by omega];exact⟨[],.CE _ _ _ _ Y,xx _,λ_=>rfl⟩
     obtain⟨D,ig,N,e',d⟩:=hr.dZ i b C L (.inr (by rw[s];simp));rw[d.φ] at s;obtain⟨rfl,rfl⟩:=xa (we s);have dD:=Kv d.heap e6;simp only[wp];refine⟨[D],.fresh _ _ _ _ _ _ D (ig+a*b.sz) cc ad N e' es e2 e3 (λm Q=>⟨(V m Q).1,by have:=(V m Q).2;omega⟩) ab (λr=>by have:=e7 r;omega) d.heap ?_ ?_ ?_ ?_ ?_,?_,λk=>by cases k⟩
     .have h1:=d.room;have h2:(b.n-a)*b.sz=b.n*b.sz-a*b.sz:=Nat.sub_mul _ _ _;have h3:a*b.sz<=b.n*b.sz:=wI _ ab;omega
     .rw[vb] at dD;omega
     .intro j S;cases b.flat with
      |true=>exact d.len _ ab
      |false=>simp only[wq,wW];exact d.len _ ab
     .intro j o c S f;cases M:b.flat with
      |true =>
       rw[M] at f;simp only[wp] at f;obtain⟨u,A,I,H⟩:=d.cell (a+j) o c ab f;rw[vb,←vX] at A;exact⟨u,A,I,yk (d.flat M _ ab _ (wx f)) H⟩
      |false =>
       rw[M] at f;simp only[wq] at f;obtain⟨c0,h0,rfl⟩:=QE f;obtain⟨u,A,I,H⟩:=d.cell (a+j) o c0 ab h0;rw[vb,←vX] at A;exact⟨u,A,I,Zg hr J 3 _ _ H⟩
     .intro U j S c E;rw[U] at E;simp only[wp] at E;exact d.flat U _ ab c E
     .simp[kP,zc,d.φ]
 |mp i aj =>
  simp only[JX];cases ok with
  |false=>exact⟨[],.vi _ _ (.undef _),xx _,λ_=>rfl⟩
  |true =>
   simp only[wp];cases C:h[i]? with
   |none=>exact⟨[],.vi _ _ (.undef _),xx _,λ_=>rfl⟩
   |some b =>
    dsimp only;cases r:(b.aj==aj) with
    |false=>exact⟨[],.vi _ _ (.undef _),xx _,λ_=>rfl⟩
    |true =>
     have aC:b.aj=aj:=by grind
     simp only[wp];cases L:b.mp with
     |none=>exact⟨[],.vi _ _ (.undef _),xx _,λ_=>rfl⟩
     |some m =>
      obtain⟨b',W,_,_,hq⟩:=hx.iD;rw[C] at W;obtain rfl:=we W;obtain⟨cb,s,rfl⟩:=hq aC;obtain⟨D,O,o2,Z⟩:=hr.mp i b m C L;rw[O] at s;obtain⟨rfl,_⟩:=xa (we s);exact⟨[D],.x7 m D Z,by simp[kP,zc,O],λk=>by cases k⟩
 |_=>exact other (λ_ _ _ _ _ k=>by cases k) (λ_ _ k=>by cases k)
def nk.map{Q}{ok}{f}{pl}:∀{l:t7} {vs:List Value},l.length=vs.length →
 (∀(i:Nat) (x:T),l[i]?=some x->∃v,vs[i]?=some v/\∃X,(Q (f x) v X/\(ok=false->X=[]))/\X.Sublist (pl x))->∃X,nk Q (l.map f) vs X/\X.Sublist (l.flatMap pl)/\(ok=false->X=[])
 |[],[],_,_=>⟨[],.nil,aq,λ_=>rfl⟩
 |x::l,v::vs,a,hx=>by
  obtain⟨e,B,X,⟨o,s⟩,u⟩:=hx 0 x rfl;obtain rfl:v=e:=by grind
  obtain⟨Y,k,A,r⟩:=nk.map (pl:=pl) (l:=l) (vs:=vs) rx (λi x j=>hx (i+1) x j);exact⟨X++Y,.cons _ _ _ _ _ _ o k,rx,λd=>by rw[s d,r d];rfl⟩
 |[],_::_,a,_=>by grind
 |_::_,[],a,_=>rx
def ka{α β γ}(l:List α)(f)(p:β->Option γ):(l.flatMap λx=>(f x).filterMap p)=(l.flatMap f).filterMap p:=by
 induction l with
 |nil=>rfl
 |cons x l a=>grind
def NM{U}{Q}(d:∀c u,VI w U c u->Q c u []):∀(l:t7) (us:List Value),l.length=us.length->(∀(i:Nat) (c:T),l[i]?=some c->∃u,us[i]?=some u/\VI w U c u)->nk Q l us []
 |[],[],_,_=>.nil
 |c::l,u::us,o,a=>by
  obtain⟨u',k,j⟩:=a 0 c rfl;obtain rfl:u=u':=by grind
  exact .cons _ _ [] _ _ [] (d _ _ j) (NM d l us rx (λi c f=>a (i+1) c f))
 |[],_::_,e,_=>by grind
 |_::_,[],e,_=>rx
def g4.EL{B}{U}{y:T}{v:Value}{X}(d:g4 w B U y v X):mj w B U y v X:=by
 cases y with
 |agg l =>
  cases d with|vi _ _ a =>
  cases a with|agg _ e f r o s a =>
  exact⟨e,rfl,o,NM (λc u j=>.vi c u j) l e.toList (by omega) (λi c k=>⟨f i,rx,a i c k⟩)⟩
 |_=>exact d
def mj.Tw{B}{U}{y:T}{v:Value}{X}(d:mj w B U y v X):oV w B U y v X:=by
 cases y with
 |aJ l =>
  cases (show g4 w B U (.aJ l) v X from d) with|vi _ _ a =>
  cases a with|aJ _ e f o r a =>
  exact⟨e,rfl,NM (λc u j=>(g4.vi c u j).EL) l e.toList (by omega) (λi c k=>⟨f i,rx,a i c k⟩)⟩
 |_=>exact d
def Tx(hr:HR g h w){B:Nat}(hB:B<=g.base){all:t8}(s:∀j,j∈all->∃b,h[j]?=some b){ok}{x:T}{v:Value}(hx:g.VR h w x v) :
 ∃X,mj w B (YL g w B all) (EB ok all h x) v X/\X.Sublist ((Cs x).filterMap (zc g))/\(ok=false->X=[]):=by
 cases x with
 |agg l =>
  obtain⟨d,rfl,N,E,C⟩:=hx.bN;have a:∀(i:Nat) (x:T),l[i]?=some x->∃v,d.toList[i]?=some v/\∃X,(g4 w B (YL g w B all) (JX ok all h x) v X/\(ok=false->X=[]))/\X.Sublist ((kP x).filterMap (zc g)):=by
   intro i x A;obtain⟨u,M,I⟩:=C i x A;obtain⟨X,o,k,e⟩:=Tv hr hB s (ok:=ok) I;grind
  obtain⟨X,D,r,H⟩:=nk.map (Q:=g4 w B (YL g w B all)) (ok:=ok) (f:=JX ok all h) (pl:=λx=>(kP x).filterMap (zc g)) (l:=l) (vs:=d.toList) (by omega) a;exact⟨X,⟨d,rfl,E,D⟩,by rw[ka] at r;exact r,H⟩
 |_ =>
  obtain⟨X,o,k,e⟩:=Tv hr hB s (ok:=ok) hx;exact⟨X,o.EL,k,e⟩
def Ty{x:T}{v}(hx:g.VR h w x v):∀j,j∈kP x->∃b,h[j]?=some b:=by
 intro j a;cases x with
 |own i aj d len cap =>
  obtain rfl:j=i:=by simpa [kP] using a
  obtain⟨b,e,_⟩:=hx.dK;grind
 |mp i aj =>
  obtain rfl:j=i:=by simpa [kP] using a
  obtain⟨b,e,_⟩:=hx.iD;grind
 |_=>simp[kP] at a
def Tz{x:T}{v}(hx:g.VR h w x v):∀j,j∈Cs x->∃b,h[j]?=some b:=by
 intro j a;cases x with
 |agg l =>
  obtain⟨x,o,k⟩:=xQ.1 (a);obtain⟨i,d⟩:=xo.1 o;obtain⟨B,rfl,s,A,e⟩:=hx.bN;obtain⟨u,r,f⟩:=e i x d;exact Ty f j k
 |_=>exact Ty hx j a
def qlq{x:T}{v}(hx:g.VR h w x v):∀j,j∈ZP x->∃b,h[j]?=some b:=by
 intro j a;cases x with
 |aJ l =>
  obtain⟨x,o,k⟩:=xQ.1 (a);obtain⟨i,d⟩:=xo.1 o;obtain⟨A,rfl,s,e⟩:=hx.ng;obtain⟨u,r,f⟩:=e i x d;exact Tz f j k
 |_=>exact Tz hx j a
def KR(p:Nat->Option Nat):∀{l:t8},l.Nodup->(∀i,i∈l->∀j,j∈l->∀b,p i=some b->p j=some b->i=j)->(l.filterMap p).Nodup
 |[],_,_=>List.nodup_nil
 |a::l,hn,f=>by
  have hn:=xu.1 hn;have k:=KR p hn.2 (λi e j d=>f i (by simp[e]) j (by simp[d]));grind
def JJ(hr:HR g h w){B:Nat}(hB:B<=g.base){x:T}{v}(hx:g.VR h w x v) :
 ∃X,oV w B (YL g w B (ZP x)) (kQ h x) v X/\X.Nodup/\∀b,b∈X->B<=b/\b<w.heap.size/\¬YL g w B (ZP x) b:=by
 have r:=qlq hx;have NP:(∀l,x≠.aJ l)->∃X,oV w B (YL g w B (ZP x)) (kQ h x) v X/\X.Sublist ((ZP x).filterMap (zc g))/\(zW (ZP x)=false->X=[]):=by
  intro iu;have e1:kQ h x=EB (zW (ZP x)) (ZP x) h x:=by cases x<;>first|rfl|grind
  have e2:Cs x=ZP x:=by cases x<;>first|rfl|grind
  obtain⟨X,U,S,O⟩:=Tx hr hB r (ok:=zW (ZP x)) hx;rw[e1];exact⟨X,U.Tw,by rw[←e2];exact S,O⟩
 have e:∃X,oV w B (YL g w B (ZP x)) (kQ h x) v X/\X.Sublist ((ZP x).filterMap (zc g))/\(zW (ZP x)=false->X=[]):=by
  cases x with
  |aJ l =>
   obtain⟨M,rfl,hl,hc⟩:=hx.ng;have o:∀(i:Nat) (y:T),l[i]?=some y->∃v,M.toList[i]?=some v/\∃X,(mj w B (YL g w B (ZP (.aJ l))) (EB (zW (ZP (.aJ l))) (ZP (.aJ l)) h y) v X/\(zW (ZP (.aJ l))=false->X=[]))/\X.Sublist ((Cs y).filterMap (zc g)):=by
    intro i y I;obtain⟨u,hu,cX⟩:=hc i y I;obtain⟨X,U,S,O⟩:=Tx hr hB r (ok:=zW (ZP (.aJ l))) cX;grind
   obtain⟨X,J,k,L⟩:=nk.map (Q:=mj w B (YL g w B (ZP (.aJ l)))) (ok:=zW (ZP (.aJ l))) (f:=EB (zW (ZP (.aJ l))) (ZP (.aJ l)) h) (pl:=λx=>(Cs x).filterMap (zc g)) (l:=l) (vs:=M.toList) (by omega) o;exact⟨X,⟨M,rfl,J⟩,by rw[ka] at k;exact k,L⟩
  |_=>exact NP (λl Z=>by cases Z)
 obtain⟨X,J,k,L⟩:=e;refine⟨X,J,?_,λb hb=>?_⟩
 .cases hn:zW (ZP x) with
  |false=>rw[L hn];grind
  |true =>
   refine k.nodup (KR _ (Tu hn) λi I j H b d a=>?_);obtain⟨x1,E⟩:=r i I;obtain⟨x2,D⟩:=r j H;unfold zc at d a;obtain⟨⟨cb,V⟩,N,d⟩:=wT.1 d;obtain⟨⟨gF,ig⟩,Ge,a⟩:=wT.1 a;dsimp only at d a;have A:=hr.mE E N;have BQ:=hr.mE D Ge;have:=A;rw[d,←a,BQ] at this;grind
 .have Y:=k.subset hb;obtain⟨j,H,s⟩:=List.mem_filterMap.1 Y;obtain⟨bj,a⟩:=r j H;unfold zc at s;obtain⟨⟨cb,V⟩,N,s⟩:=wT.1 s;dsimp only at s;subst s;have A:=hr.mE a N;have W:=hr.own _ _ A;refine⟨ab,W.2,λC=>?_⟩;rcases C with C|⟨_,_,C⟩
  .have:=(hr.u _ C).2;rw[A] at this;cases this
  grind
def Jo{safe}{x:T}(hx:ZS x=true):(Z4 safe h x).2=h:=by
 cases x<;>first|rfl|(simp[ZS] at hx;done)
def Jp{safe}:∀{l:t7} {h:qa},l.all ZS=true->(Yw safe h l).2=h
 |[],_,_=>rfl
 |x::l,h,a=>by
  simp only[xS,wd] at a;have d:=Jo (h:=h) (safe:=safe) a.1;simp only[Yw];rw[d];exact Jp a.2
def Jq{safe}{x:T}{h:qa}(hx:ZT x=true):(yO safe h x).2=h:=by
 cases x with
 |agg l=>exact Jp (hx)
 |_=>exact Jo hx
def jt{safe}:∀{l:t7} {h:qa},l.all ZT=true->(ZD safe h l).2=h
 |[],_,_=>rfl
 |x::l,h,a=>by
  simp only[xS,wd] at a;have d:=Jq (h:=h) (safe:=safe) a.1;simp only[ZD];rw[d];exact jt a.2
def qdV{safe}{x:T}{h:qa}(hx:Kl x=true):(Zw safe h x).2=h:=by
 cases x with
 |aJ l=>exact jt (show l.all ZT=true from hx)
 |_=>exact Jq hx
end
def Tr.fb:∀(d:Nat) (t:Tr) (i j:Nat) (v:T),i<2 ^ d->j<2 ^ d->Tr.get d (Tr.set d t i v) j=if j=i then v else Tr.get d t j
 |0,t,i,j,v,C,B=>by
  have E:i=0:=by omega
  have D:j=0:=by omega
  subst E;subst D;cases t<;>rfl
 |d+1,t,i,j,v,C,B=>by
  have H:2 ^ (d+1)=2*2 ^ d:=by rw[Nat.pow_succ];omega
  have u:=λt=>Tr.fb d t (i/2) (j/2) v ab ab;have A:∀(d k:Nat),Tr.get d .nil k = .undef:=by intro d k;cases d<;>rfl
  have L:∀(x:T) (k:Nat),Tr.get (d+1) (.leaf x) k = .undef:=λ_ _=>rfl;cases f:(i%2==0)<;>cases o:(j%2==0)
  all_goals
   have J:i%2=0∨i%2=1:=by omega
   have I:j%2=0∨j%2=1:=by omega
   simp only[vm,xA,ne_eq] at f o;cases t with
   |node l r =>
    simp only[Tr.set,Tr.get,vm,vo,f,o,vZ,vn,u]
    try (by_cases e:j/2=i/2
         ·rw[wl e,wl ab]
         grind)
    try rw[wh ab]
   |nil =>
    simp only[Tr.set,Tr.get,vm,vo,f,o,vZ,vn,u,A]
    try (by_cases e:j/2=i/2
         ·rw[wl e,wl ab]
         grind)
    try rw[wh ab]
   |leaf x =>
    simp only[Tr.set,Tr.get,vm,vo,f,o,vZ,vn,u,A]
    try (by_cases e:j/2=i/2
         ·rw[wl e,wl ab]
         grind)
    try rw[wh ab]
def Gf{s:St}{t}(h:t<1024):s.at t=s.env.get QS t:=by
 unfold St.at
 rw[show Nat.blt t 1024=true from xb h];rfl
def CF{s:St}{t}(h:¬t<1024):s.at t = .undef:=by
 unfold St.at
 cases d:Nat.blt t 1024 with
 |true=>exact absurd (Qe d) h
 |false=>rfl
def EM{s s':St}{d}{v:T}(he:s'.env=s.env.set QS d v)(f:d<1024)(t:Nat):s'.at t=if t=d then v else s.at t:=by
 by_cases e:t<1024
 .rw[Gf e,Gf e,he];exact Tr.fb 10 s.env d t v f e
 .rw[CF e,CF e,wh ab]
structure mR(g:Gh)(h:qa)(w:World)(t:Nat)(v:Value)(cells:t7)(cb:Nat)(arr:Array Value)(e:TypeId):Prop where
 ptr:v = .pointer (some ⟨cb,0,none⟩)
 own:g.own cb=some (.inr t)
 heap:w.heap[cb]?=some (.cells arr e (0,0))
 len:cells.length<=arr.size
 cell:∀(o:Nat) (c:T),cells[o]?=some c->∃u:Value,arr[o]?=some u/\u.oneCell'=true/\g.VR h w c u
def Ja(D:Nat):Deferred:={ target:=.collected D,args:=#[] }
def Marks(g:Gh)(w:World)(ds:List Deferred):Prop:=g.low<=w.heap.size/\∃l:t8,ds=l.map Ja/\l.Nodup/\∀D∈l,g.low<=D/\g.own D=none/\¬g.U D/\w.heap[D]?=some (.deferred (some []))
def QY{w:World}{b}{o}(h:w.heap[b]?=some o):b<w.heap.size:=(Array.getElem?_eq_some_iff.1 h).1
def Marks.nil{g:Gh}{w:World}(h:g.low<=w.heap.size):Marks g w []:=⟨h,[],rfl,.nil,λD h=>by cases h⟩
def Marks.to{g g':Gh}{w w':World}{ds}(h:Marks g w ds)(I:w.heap.size<=w'.heap.size)(k:∀b,b<w.heap.size->g'.own b=g.own b)(A:∀b,b<w.heap.size->g.own b=none->w'.heap[b]?=w.heap[b]?)
 (f:g'.bs=g.bs) (C:∀b,g'.U b->g.U b∨w.heap.size<=b):Marks g' w' ds:=by
 obtain⟨H,l,x,u,r⟩:=h;refine⟨by rw[show g'.low=g.low from vA Prod.snd f];omega,l,x,u,λD o=>?_⟩;obtain⟨j,e,B,d⟩:=r D o;have i:=QY d;refine⟨by rw[show g'.low=g.low from vA Prod.snd f];exact j,(k D i).trans e,λE=>?_,(A D i e).trans d⟩;grind
structure SR(Gl:t9)(aa:t8)(nt:Nat)(g:Gh)(s:St)(a:Act)(w:World):Prop where
 hr:HR g s.h w
 defers:Marks g w a.defers
 size:a.tmps.size=nt
 nt:nt<=1024
 tmps:∀t,t∉aa->g.VR s.h w (s.at t) (a.tmps.getD t undef)
 eW:∀t,t∈aa->∀cells,s.at t = .ag cells->∃cb arr e,mR g s.h w t (a.tmps.getD t undef) cells cb arr e
 loc:∀d t o,s.loc d=some (t,o)->t∈aa/\d∉aa/\∃cb,a.tmps.getD t undef = .pointer (some ⟨cb,0,none⟩)/\a.tmps.getD d undef = .pointer (some ⟨cb,o,none⟩)
 eQ:∀gl cells,Gl gl=some cells->VI w g.U (.vp cells) (.pointer (some ⟨gl,0,none⟩))
 used:∀d t o,s.loc d=some (t,o)->s.used t=true
structure dy(g:Gh)(h:qa)(w:World)(g':Gh)(h':qa)(w':World):Prop where
 av:Zn g h w g' h' w'
 size:w.heap.size<=w'.heap.size
 own:∀b,b<w.heap.size->g'.own b=g.own b
 os:w'.os=w.os
 tape:w'.tape=w.tape
 output:fi w' w
 same:∀b,b<w.heap.size->g.own b=none->w'.heap[b]?=w.heap[b]?
 bs:g'.bs=g.bs
 u:∀b,g'.U b->g.U b∨w.heap.size<=b
 u':∀b,g.U b->g'.U b
def dy.base{g g'}{h h'}{w w'}(f:dy g h w g' h' w'):g'.base=g.base:=vA Prod.fst f.bs
def dy.low{g g'}{h h'}{w w'}(f:dy g h w g' h' w'):g'.low=g.low:=vA Prod.snd f.bs
def dy.marks{g g':Gh}{h h':qa}{w w'}{ds:List Deferred}(f:dy g h w g' h' w')(m:Marks g w ds):Marks g' w' ds:=m.to f.size f.own f.same f.bs f.u
def mF.marks{g g':Gh}{w w':World}{ds}(f:mF g w g' w')(m:Marks g w ds):Marks g' w' ds:=m.to f.size f.own (λb e hn=>f.same b e (λi d=>by rw[hn] at d;cases d)) f.bs f.u
def dy.refl(g)(h)(w):dy g h w g h w:=⟨.refl _ _ _ _,wc _,λ_ _=>rfl,rfl,rfl,.refl _,λ_ _ _=>rfl,rfl,λ_ h=>.inl h,λ_ h=>h⟩
def dy.trans{g i g2}{h h1 h2}{w f e:World}(a:dy g h w i h1 f)(b:dy i h1 f g2 h2 e):dy g h w g2 h2 e:=by
 refine⟨a.av.trans b.av,wM a.size b.size,λk d=>(b.own k (by have:=a.size;omega)).trans (a.own k d),b.os.trans a.os,b.tape.trans a.tape,b.output.trans a.output,λk d hn=>?_,b.bs.trans a.bs,λk d=>?_,λk d=>b.u' k (a.u' k d)⟩
 .rw[b.same k (by have:=a.size;omega) (by rw[a.own k d];exact hn),a.same k d hn]
 .rcases b.u k d with h1|h1
  .exact a.u k h1
  .exact .inr (wM a.size h1)
def mF.TA{g g'}{h h'}{w w'}(f:mF g w g' w')(k:Zn g h w g' h' w'):dy g h w g' h' w' :=
 ⟨k,f.size,f.own,f.os,f.tape,f.output,λb d hn=>f.same b d (λi e=>by rw[hn] at e;cases e),f.bs,f.u,λb d=>(k.u b d).1⟩
section
variable {P:Program} {Gl:t9} {aa:t8} {nt:Nat} {g:Gh} {s:St} {a:Act} {w:World}
def SR.ev(d:SR Gl aa nt g s a w)(x:Operand):g.VR s.h w (ev Gl aa s x) (a.eval x):=by
 cases x with
 |tmp t =>
  simp only[Ab.ev,Act.eval];cases r:aa.contains t with
  |true=>exact .aF _ _ (.undef _)
  |false=>exact d.tmps t rx
 |const v =>
  simp only[Ab.ev,Act.eval];cases o:Iv v with
  |true=>exact .aF _ _ (SV v o)
  |false=>exact .aF _ _ (.undef _)
 |func f=>exact .aF _ _ (.fn f [] #[] (λ_=>undef) rfl (λi c j=>rx) (λi c j=>rx))
 |global e =>
  simp only[Ab.ev,Act.eval];cases k:Gl e with
  |none=>exact .aF _ _ (.undef _)
  |some cells=>exact .aF _ _ (d.eQ e cells k)
def zq(a:Act)(d)(v)(e:d<a.tmps.size)(t:Nat):(a.put (some d) v).tmps.getD t undef=if t=d then v else a.tmps.getD t undef:=by
 simp only[Act.put,wG];grind
def NQ(a:Act)(d)(v):(a.put d v).tmps.size=a.tmps.size:=by cases d<;>simp[Act.put]
def zd(a:Act)(d)(v):(a.put d v).defers=a.defers:=by cases d<;>rfl
def mR.av{h h'}{g'}{w'}{t}{v}{cells}{cb}{arr:Array Value}{e:TypeId}(d:mR g h w t v cells cb arr e)(j:Zn g h w g' h' w')
 (i:g'.own cb=g.own cb) (k:w'.heap[cb]?=w.heap[cb]?):mR g' h' w' t v cells cb arr e :=
 ⟨d.ptr,i.trans d.own,k.trans d.heap,d.len,λo c f=>by
  obtain⟨u,A,x,r⟩:=d.cell o c f;exact⟨u,A,x,r.av j⟩⟩
abbrev St.lay(s:St)(d:Nat)(v:T)(h:Option qa):St:=(⟨some (d,v),some (d,none),h⟩:dJ).eP s
def IV{s:St}{d:Nat}{v:T}{h}{e t o:Nat}(f:(s.lay d v h).loc e=some (t,o)):s.loc e=some (t,o)/\e≠d:=by
 simp only[dJ.eP,Yq,vo] at f;grind
def SR.done(f:SR Gl aa nt g s a w){d:Nat}(S:d<nt){x:T}{h':qa}{v:Value}{w':World}{g':Gh}(hr:HR g' h' w')(hx:g'.VR h' w' x v)(B:Zn g s.h w g' h' w')(C:mF g w g' w'){hp:Option qa}(he:hp.getD s.h=h')(H:s.used d=false) :
 SR Gl aa nt g' (s.lay d x hp) (a.put (some d) v) w':=by
 subst he;have X:d<1024:=by have:=f.nt;omega
 have j:d<a.tmps.size:=by rw[f.size];exact S
 have eF:=EM (s:=s) (s':=s.lay d x hp) (d:=d) (v:=x) rfl X;refine⟨hr,by rw[zd];exact C.marks f.defers,by rw[NQ];exact f.size,f.nt,λt r=>?_,λt r cells k=>?_,λe t o A=>?_,λW cells R=>(f.eQ W cells R).av B.u,λe t o A=>f.used e t o (IV A).1⟩
 .rw[eF,zq a d v j];split
  .exact hx
  .exact(f.tmps t r).av B
 .rw[eF] at k;rw[zq a d v j];split at k
  .subst k;exact absurd hx VR.eo
  .rename_i Y;rw[wh Y];obtain⟨cb,E,e,D⟩:=f.eW t r cells k;have L:=qP D.heap;exact⟨cb,E,e,D.av B (C.own cb L) (C.same cb L (λi I=>by rw[D.own] at I;cases I))⟩
 .obtain⟨J,V⟩:=IV A;have U:t≠d:=by rintro rfl;rw[f.used e t o J] at H;cases H
  obtain⟨Q,O,cb,N,M⟩:=f.loc e t o J;refine⟨Q,O,cb,?_,?_⟩
  .rw[zq a d v j,wh U];exact N
  .rw[zq a d v j,wh V];exact M
def SR.Af(d:SR Gl aa nt g s a w){h':qa}{v}{w':World}{g':Gh}(hr:HR g' h' w')(j:Zn g s.h w g' h' w')(k:mF g w g' w'){hp:Option qa}(he:hp.getD s.h=h') :
 SR Gl aa nt g' ((⟨none,none,hp⟩:dJ).eP s) (a.put none v) w':=by
 subst he;refine⟨hr,k.marks d.defers,d.size,d.nt,λt f=>(d.tmps t f).av j,λt f cells C=>?_,d.loc,λD cells B=>(d.eQ D cells B).av j.u,d.used⟩;obtain⟨cb,r,e,o⟩:=d.eW t f cells C;have A:=qP o.heap;exact⟨cb,r,e,o.av j (k.own cb A) (k.same cb A (λi x=>by rw[o.own] at x;cases x))⟩
def HR.other{h}(hr:HR g h w){w'}{cb t:Nat}{arr:Array Value}{e:TypeId}(O:w.heap.size<=w'.heap.size)(H:∀k,k<w.heap.size->k≠cb->w'.heap[k]?=w.heap[k]?)
 (M:w'.heap[cb]?=some (.cells arr e (0,0))) (D:g.own cb=some (.inr t)∨w.heap.size<=cb) (W:∀n,room w cb n->n<=arr.size) (Q:w'.os=w.os) (V:w'.tape=w.tape) (S:fi w' w) :
 ∃g':Gh,g'.own cb=some (.inr t)/\(∀k,k≠cb->g'.own k=g.own k)/\HR g' h w'/\Zn g h w g' h w'/\dy g h w g' h w':=by
 let g':Gh:={ g with own:=λk=>if k=cb then some (.inr t) else g.own k }
 have Z:eR w g.U w' g.U:=by
  intro k d;obtain⟨B,C⟩:=hr.u k d;grind
 have J:Zn g h w g' h w':=by
  refine⟨Z,λk x hx=>⟨x,hx,wc _,λ_=>⟨rfl,rfl,rfl⟩⟩,λk n N=>?_⟩;by_cases d:k=cb
  .subst d;exact⟨arr,e,M,W n N⟩
  .obtain⟨a',e',B,C⟩:=N;exact⟨a',e',by rw[H k (qP B) d];exact B,C⟩
 refine⟨g',by simp[g'],λk d=>rx,?_,J,?_⟩
 .refine⟨λk x hx dt=>?_,λk d=>?_,λk o i=>?_,wM hr.base O,λk o i=>?_,λk j i=>?_,λk x m hx X=>?_⟩
  .rcases hr.dS k x hx dt with⟨I,R,fj,e2,r⟩|q
   rotate_left
   .grind
   refine .inl ?_;have E:I≠cb:=by
    rintro rfl;rcases D with f|f
    .rw[r.own] at f;cases f
    .have:=qP r.heap;omega
   refine⟨I,R,fj,e2,r.φ,by simp[g',E,r.own],by rw[H I (qP r.heap) E];exact r.heap,r.room,r.len,λj o c Y A=>?_,r.flat⟩;obtain⟨v,B,C,h3⟩:=r.cell j o c Y A;exact⟨v,B,C,h3.av J⟩
  ·obtain⟨B,C⟩:=hr.u k d;grind
  .by_cases d:k=cb
   .subst d;refine⟨?_,qP M⟩;rcases D with f|f
    .exact(hr.own k _ f).1
    .exact wM hr.base f
   .simp only[g',d,vn] at i;exact⟨(hr.own k o i).1,by have:=(hr.own k o i).2;omega⟩
  .by_cases d:k=cb
   .grind
   .simp only[g',d,vn] at i;exact hr.fK i (H k (hr.own k o i).2 d)
  .by_cases d:k=cb
   .grind
   .simp only[g',d,vn] at i;exact hr.lt k j i
  ·have E:∀c,g.own c=some (.inl k)->c≠cb:=by
    rintro c A rfl;rcases D with f|f
    ·rw[A] at f;cases f
    ·have:=(hr.own _ _ A).2;omega
   exact hr.fh hx X rfl (λc A=>rx) λc A i=>H c A (E c i)
 .refine⟨J,O,λk d=>?_,Q,V,S,λk d hn=>?_,rfl,λ_ d=>.inl d,λ_ d=>d⟩
  .by_cases L:k=cb
   .subst L;rcases D with f|f
    .simp[g',f]
    .omega
   .simp[g',L]
  grind
def SR.box(f:SR Gl aa nt g s a w){d}(Y:d<nt)(hp:d∈aa)(x:s.used d=false){cells:t7}{vs:Array Value}{e:TypeId}(C:cells.length=vs.size)
 (h1:∀(i:Nat) (u:Value),vs[i]?=some u->u.oneCell'=true) (Z:∀(i:Nat) (c:T),cells[i]?=some c->∃u,vs[i]?=some u/\g.VR s.h w c u) :
 ∃g',SR Gl aa nt g' (s.lay d (.ag cells) none) (a.put (some d) (.pointer (some ⟨w.heap.size,0,none⟩))) (w.alloc (.cells vs e))/\dy g s.h w g' s.h (w.alloc (.cells vs e)):=by
 obtain⟨g',V,U,dq,r,J⟩:=f.hr.other (w':=w.alloc (.cells vs e)) (cb:=w.heap.size) (t:=d) aq (λk r _=>RowKit.Below.heap_alloc _ _ _ r) (zo w _) (.inr (wc _))
  (λn hn=>by obtain⟨a',L,A,_⟩:=hn;have:=qP A;omega) rfl rfl ⟨rfl,wc _⟩
 refine⟨g',?_,J⟩;have Gg:d<1024:=by have:=f.nt;omega
 have B:d<a.tmps.size:=by rw[f.size];exact Y
 have eF:=EM (s:=s) (s':=s.lay d (.ag cells) none) (d:=d) (v:=.ag cells) rfl Gg;refine⟨dq,by rw[zd];exact J.marks f.defers,by rw[NQ];exact f.size,f.nt,λt E=>?_,λt E j D=>?_,λe t o C=>?_,λgl cells X=>(f.eQ gl cells X).av r.u,λe t o C=>f.used e t o (IV C).1⟩
 .have N:t≠d:=by grind
  rw[eF,zq a d _ B,wh N,wh N];exact(f.tmps t E).av r
 .rw[eF] at D;rw[zq a d _ B];split at D
  ·rename_i I;subst I;obtain rfl:=T.ag.inj D;rw[wl rfl];exact⟨w.heap.size,vs,e,rfl,V,zo w _,ab,λo c W=>by
    obtain⟨u,x,cX⟩:=Z o c W;exact⟨u,x,h1 o u x,cX.av r⟩⟩
  .rename_i I;rw[wh I];obtain⟨cb,H,L,M⟩:=f.eW t E j D;have aM:=qP M.heap;exact⟨cb,H,L,M.av r (U cb ab) (RowKit.Below.heap_alloc _ _ _ aM)⟩
 .obtain⟨A,S⟩:=IV C;have R:t≠d:=by rintro rfl;rw[f.used e t o A] at x;cases x
  obtain⟨Q,O,cb,q6,q7⟩:=f.loc e t o A;refine⟨Q,O,cb,?_,?_⟩
  .rw[zq a d _ B,wh R];exact q6
  .rw[zq a d _ B,wh S];exact q7
def SR.DL(f:SR Gl aa nt g s a w){t}(hp:t∈aa){cells cells':t7}(L:s.at t = .ag cells){cb:Nat}{arr arr':Array Value}{e:TypeId}(j:mR g s.h w t (a.tmps.getD t undef) cells cb arr e)
 (dY:arr'.size=arr.size) (aY:cells'.length<=arr.size) (Y:∀(o:Nat) (c:T),cells'[o]?=some c->∃u:Value,arr'[o]?=some u/\u.oneCell'=true/\g.VR s.h w c u) :
 ∃g',SR Gl aa nt g' ((⟨some (t,.ag cells'),none,none⟩:dJ).eP s) (a.put none undef) (w.setRow cb arr')/\dy g s.h w g' s.h (w.setRow cb arr'):=by
 have I:=Yl w cb arr arr' e j.heap;obtain⟨g',S,R,dq,x,J⟩:=f.hr.other (w':=w.setRow cb arr') (cb:=cb) (t:=t) (by simp_all) (λk _ i=>setRow_other w cb k _ i) I (.inl j.own)
  (λn hn=>by rw[dY];exact Kv j.heap hn) rfl rfl ⟨rfl,wc _⟩
 refine⟨g',?_,J⟩;have C:t<1024:=by
  rcases wu t 1024 with H|H
  .exact H
  .rw[CF ab] at L;cases L
 have eF:=EM (s:=s) (s':=(⟨some (t,.ag cells'),none,none⟩:dJ).eP s) (d:=t) (v:=.ag cells') rfl C;refine⟨dq,J.marks f.defers,f.size,f.nt,λr D=>?_,λr D DM A=>?_,f.loc,λW cells V=>(f.eQ W cells V).av x.u,f.used⟩
 .have i:r≠t:=by grind
  rw[eF,wh i];exact(f.tmps r D).av x
 .rw[eF] at A;split at A
  ·rename_i M;subst M;obtain rfl:=T.ag.inj A;exact⟨cb,arr',e,j.ptr,S,I,ab,λo c U=>by
    obtain⟨u,Q,O,N⟩:=Y o c U;exact⟨u,Q,O,N.av x⟩⟩
  ·rename_i M;obtain⟨B,X,Z,E⟩:=f.eW r D DM A;have i:B≠cb:=by
    rintro rfl;have:=j.own;rw[E.own] at this;grind
   exact⟨B,X,Z,E.av x (R B i) (setRow_other w cb B _ i)⟩
def SR.DN(i:SR Gl aa nt g s a w){d t o cb}(J:d<nt)(hp:t∈aa)(N:d∉aa)(I:a.tmps.getD t undef = .pointer (some ⟨cb,0,none⟩)) :
 SR Gl aa nt g ((⟨some (d,.undef),some (d,some (t,o)),none⟩:dJ).eP s) (a.put (some d) (.pointer (some ⟨cb,o,none⟩))) w:=by
 have O:d<1024:=by have:=i.nt;omega
 have r:d<a.tmps.size:=by rw[i.size];exact J
 have M:t≠d:=by grind
 have eF:=EM (s:=s) (s':=(⟨some (d,.undef),some (d,some (t,o)),none⟩:dJ).eP s) (d:=d) (v:=.undef) rfl O;have B:∀e f j,((⟨some (d,.undef),some (d,some (t,o)),none⟩:dJ).eP s).loc e=some (f,j)->(e=d/\f=t/\j=o)∨(e≠d/\s.loc e=some (f,j)):=by
  intro e f j k;simp only[dJ.eP,Yq,vo] at k;grind
 refine⟨i.hr,by rw[zd];exact i.defers,by rw[NQ];exact i.size,i.nt,λf u=>?_,λf u cells A=>?_,λe f j k=>?_,i.eQ,λe f j k=>?_⟩
 .rw[eF,zq a d _ r];split
  .exact .aF _ _ (.undef _)
  .exact i.tmps f u
 .have x:f≠d:=by grind
  rw[eF,wh x] at A;rw[zq a d _ r,wh x];exact i.eW f u cells A
 .rcases B e f j k with⟨rfl,rfl,rfl⟩|⟨he,k⟩
  .refine⟨hp,N,cb,?_,?_⟩
   .rw[zq a e _ r,wh M];exact I
   .rw[zq a e _ r,wl rfl]
  .obtain⟨H,E,L,D,C⟩:=i.loc e f j k;refine⟨H,E,L,?_,?_⟩
   .rw[zq a d _ r,wh rx];exact D
   .rw[zq a d _ r,wh he];exact C
 .simp only[dJ.eP,yu,vo];split
  .rfl
  .rename_i hx;rcases B e f j k with⟨rfl,rfl,rfl⟩|⟨he,k⟩
   .grind
   .exact i.used e f j k
end
section
variable {P:Program} {k:TypeId}
def kE{t}{d}(e:P.underlying t=some d)(f:ZQ P t=false){cs:Array Value}{off:Nat}{v:Value}(a:cs[off]?=some v)(w:World):(part t cs off).run P w = .ok v w:=by
 unfold part;simp only[Sem.run_bind,kX e,Result.andThen_ok,f,xG,vn,a,Sem.run_pure]
def mS(P:Program):Nat->List Field->List (Option IntKind)->Prop
 |_,[],[]=>True
 |i,f::fs,x::l=>f.offset=i/\f.name≠"_"/\P.underlying f.type=some (match x with|some q=>.int q|none=>.bool)/\mS P (i+1) fs l
 |_,_,_=>False
def NR:∀{fs:List Field} {i:Nat} {l:List (Option IntKind)},FQ P i fs=some l->mS P i fs l
 |[],i,l,h=>by
  simp only[FQ,wj] at h;subst h;trivial
 |f::fs,i,l,h=>by
  simp only[FQ] at h;obtain⟨a,h⟩:=qo h;simp only[wd,vm,wR,xA,ne_eq] at a;split at h
  .rename_i q g e d;obtain rfl:=we h;exact⟨a.1.1,a.1.2,e,NR d⟩
  .rename_i g e d;obtain rfl:=we h;exact⟨a.1.1,a.1.2,e,NR d⟩
  .cases h
def mS.CG{i}{f}{fs}{x}{l}(h:mS P i (f::fs) (x::l)):ZQ P f.type=false:=by
 unfold ZQ;rw[h.2.2.1];cases x<;>rfl
def TC(w:World)(d:Nat)(xs e:Array Value):∀(fs:List Field) (i:Nat) (l:List (Option IntKind)),mS P i fs l->Yy l (xs.toList.drop i)->Yy l (e.toList.drop i) →
 ∃r:Bool,(Op.eqFields (d+1) xs e fs).run P w = .ok r w/\(r=true↔xs.toList.drop i=e.toList.drop i)
 |[],i,l,h,hx,g=>by
  cases l with
  |cons=>exact h.elim
  |nil =>
   refine⟨true,by rfl,?_⟩;cases j:xs.toList.drop i with
   |cons=>rw[j] at hx;exact hx.elim
   |nil =>
    cases o:e.toList.drop i with
    |cons=>rw[o] at g;exact g.elim
    |nil=>simp
 |f::fs,i,l,h,hx,g=>by
  cases l with
  |nil=>exact h.elim
  |cons x l =>
   have E:=h.CG;obtain⟨D,R,s,Q⟩:=h;cases j:xs.toList.drop i with
   |nil=>rw[j] at hx;exact hx.elim
   |cons u L =>
    cases o:e.toList.drop i with
    |nil=>rw[o] at g;exact g.elim
    |cons v J =>
     rw[j] at hx;rw[o] at g;have I:xs[i]?=some u:=by
      have:=vA (λl=>l[0]?) j;grind
     have H:e[i]?=some v:=by
      have:=vA (λl=>l[0]?) o;grind
     have C:xs.toList.drop (i+1)=L:=by rw[←List.drop_drop,j];rfl
     have B:e.toList.drop (i+1)=J:=by rw[←List.drop_drop,o];rfl
     obtain⟨r,S,M⟩:=TC w d xs e fs (i+1) l Q (by rw[C];exact hx.2) (by rw[B];exact g.2);rw[C,B] at M;have O:(part f.type xs f.offset).run P w = .ok u w:=kE s E (by rw[D];exact I) w;have N:(part f.type e f.offset).run P w = .ok v w:=kE s E (by rw[D];exact H) w;have A:∃c:Bool,(Op.equalIn (d+1) f.type u v).run P w = .ok c w/\(c=true↔u=v):=by
      cases x with
      |some q =>
       obtain⟨a,rfl⟩:=hx.1;obtain⟨b,rfl⟩:=g.1;exact⟨a==b,by simp[Op.equalIn,qq s],aq⟩
      |none =>
       obtain⟨a,rfl⟩:=hx.1;obtain⟨b,rfl⟩:=g.1;exact⟨a==b,by simp[Op.equalIn,qq s],aq⟩
     obtain⟨c,A,U⟩:=A;simp only[Op.eqFields,R,ne_eq,not_false_eq_true,vZ,Sem.run_bind,O,N,A,Result.andThen_ok];cases c with
     |false=>simp_all
     |true=>grind
def qlr(w:World)(o:Bool){fs:Array Field}(E:P.underlying k=some (.struct fs)){l:List (Option IntKind)}(e:mS P 0 fs.toList l){cs:Array Value}(H:Yy l cs.toList):(Instr.checkKey o 10000 k (.agg cs)).run P w = .ok () w:=by
 rw[show 10000=9999+1 from rfl,Instr.checkKey];simp only[Sem.run_bind,run_underlying E,Result.andThen_ok];rw[←Array.forIn_toList];have d:Yy l (cs.toList.drop 0):=by grind
 clear H;generalize fs.toList=L at e;generalize 0=i at e d
 induction L generalizing i l with
 |nil=>simp
 |cons f L D =>
  cases l with
  |nil=>exact e.elim
  |cons x l =>
   have N:=e.CG;obtain⟨M,J,j,I⟩:=e;cases g:cs.toList.drop i with
   |nil=>rw[g] at d;exact d.elim
   |cons u A =>
    rw[g] at d;have r:cs[i]?=some u:=by
     have:=vA (λl=>l[0]?) g;grind
    have s:cs.toList.drop (i+1)=A:=by rw[←List.drop_drop,g];rfl
    have C:(part f.type cs f.offset).run P w = .ok u w:=kE j N (by rw[M];exact r) w;have B:(Instr.checkKey o 9999 f.type u).run P w = .ok () w:=by
     cases x with
     |some q=>obtain⟨a,rfl⟩:=d.1;rw[show 9999=9998+1 from rfl,Instr.checkKey];simp[run_underlying j]
     |none=>obtain⟨a,rfl⟩:=d.1;rw[show 9999=9998+1 from rfl,Instr.checkKey];simp[run_underlying j]
    simp only[List.forIn_cons,Sem.run_bind,J,ne_eq,not_false_eq_true,vZ,Result.andThen_ok,C,B,Sem.run_pure];exact D (i+1) I (by rw[s];exact d.2)
def TD(w){fs}(a:P.underlying k=some (.struct fs))(o:P.stoodInHeld k=false){l:List (Option IntKind)}(g:mS P 0 fs.toList l){cs:Array Value}(C:Yy l cs.toList) :
 ∀(es:List MapEntry) (i:Nat),(∀e∈es,EH (.row l) e.key) →
  ((Instr.findAsking k (.agg cs) es i).run P w = .ok none w/\∀e∈es,e.key≠.agg cs)∨∃j e,(Instr.findAsking k (.agg cs) es i).run P w = .ok (some (i+j,e.val)) w/\es[j]?=some e/\e.key = .agg cs
 |[],i,_=>.inl ⟨by rfl,aq⟩
 |e::es,i,A=>by
  obtain⟨ds,x,B⟩:=A e aq;have u:P.fieldsOf k=fs:=by simp[Program.fieldsOf,a]
  obtain⟨r,hr,f⟩:=TC w 9998 cs ds fs.toList 0 l g rx rx;have he:(Op.equal k (.agg cs) e.key).run P w = .ok r w:=by
   rw[x,Op.equal,show Op.maxDepth=9999+1 from rfl,run_equalIn_struct w 9999 k cs ds (by rw[u];exact a) o,u];exact hr
  have f:r=true↔e.key = .agg cs:=by
   rw[f,x];constructor
   .intro q;have:ds=cs:=Array.ext' (by simpa using q.symm);rw[this]
   grind
  cases r with
  |true =>
   exact .inr ⟨0,e,by simp[Instr.findAsking,he],rfl,f.1 rfl⟩
  |false =>
   have I:e.key≠.agg cs:=λq=>by grind
   rcases TD w a o g C es (i+1) (λy s=>A y (by simp[s])) with⟨d,E⟩|⟨j,H,d,E,D⟩
   .refine .inl ⟨by simp[Instr.findAsking,he,d],λy s=>?_⟩;grind
   .exact .inr ⟨j+1,H,by simp[Instr.findAsking,he,d];omega,rx,D⟩
def TE:∀{l:List (Option IntKind)} {us vs:List Value},Yy l us->Yy l vs->us.map BL=vs.map BL->us=vs
 |[],[],[],_,_,_=>rfl
 |x::l,u::us,v::vs,e,d,h=>by
  simp at h;have:=TE e.2 d.2 h.2;subst this;cases x with
  |some q =>
   obtain⟨a,rfl⟩:=e.1;obtain⟨b,rfl⟩:=d.1;have:a=b:=h.1;rw[this]
  |none =>
   obtain⟨a,rfl⟩:=e.1;obtain⟨b,rfl⟩:=d.1;cases a<;>cases b<;>simp_all [BL]
 |[],_::_,_,h,_,_=>h.elim
 |[],[],_::_,_,h,_=>h.elim
 |_::_,[],_,h,_,_=>h.elim
 |_::_,_::_,[],_,h,_=>h.elim
def TF(n):∀{l:List (Option IntKind)} {us:List Value},Yy l us->((us.zip us).all λp=>Instr.sameBits n p.1 p.2)=true
 |[],[],_=>rfl
 |x::l,u::us,h=>by
  simp only[List.zip_cons_cons,xS,wd];refine⟨?_,TF n h.2⟩;cases x with
  |some q=>obtain⟨a,rfl⟩:=h.1;cases n<;>simp[Instr.sameBits]
  |none=>obtain⟨a,rfl⟩:=h.1;cases n<;>simp[Instr.sameBits]
 |[],_::_,h=>h.elim
 |_::_,[],h=>h.elim
def qls{fs}(f:P.underlying k=some (.struct fs))(s:P.stoodInHeld k=false){l:List (Option IntKind)}(i:mS P 0 fs.toList l):nC P k (EH (.row l)) where
 inj:=by
  rintro a b ⟨d,rfl,hx⟩ ⟨C,rfl,u⟩ h;rw[Array.ext' (TE hx u h)]
 check:=by
  rintro w A v ⟨d,rfl,hx⟩;exact qlr w A f i hx
 find:=by
  rintro w x ⟨d,rfl,hx⟩ es h;have hn:∀es:List MapEntry,Instr.findNow (.struct fs) (.agg d) es 0=some none/\es=[]∨Instr.findNow (.struct fs) (.agg d) es 0=none:=by
   intro es;cases es with
   |nil=>exact .inl ⟨rfl,rfl⟩
   |cons e es=>exact .inr rfl
  rcases hn es with⟨g,rfl⟩|g
  .exact .inl ⟨by simp[Instr.findKey,run_underlying f,g],aq⟩
  .have B:(Instr.findKey k (.agg d) es).run P w=(Instr.findAsking k (.agg d) es 0).run P w:=by simp[Instr.findKey,run_underlying f,g]
   rcases TD w f s i hx es 0 h with⟨r,o⟩|⟨j,e,r,o,D⟩
   .exact .inl ⟨B.trans r,o⟩
   grind
 stays:=by
  rintro w v ⟨d,rfl,hx⟩;unfold Instr.keyThatStays;rw[wl (by rw[show 10000=9999+1 from rfl,Instr.sameBits];simpa using TF 9999 hx)];rfl
end
open Go.ChangeMaps (setBlock heap_setBlock_same heap_setBlock_other)
section
variable {P:Program} {R:Type} {g:Gh} {h:qa} {w:World}
def qc0{r:R}:∀{fs:List (Option IntKind)} {l:t7} {us:List Value} {k:List Int->Option R},l.length=us.length->(∀(i:Nat) (c:T),l[i]?=some c->∃u,us[i]?=some u/\g.VR h w c u)->zy fs l k=some r →
 ∃m,k m=some r/\Yy fs us/\us.map BL=m:=by
 intro fs
 induction fs with
 |nil =>
  intro l us k H d a;cases l with
  |nil =>
   cases us with
   |nil=>exact⟨[],a,trivial,rfl⟩
   |cons u us=>grind
  |cons x l=>simp[zy] at a
 |cons f fs A =>
  intro l us k H d a;cases l with
  |nil=>cases f<;>simp[zy] at a
  |cons x l =>
   cases us with
   |nil=>grind
   |cons u us =>
    obtain⟨u',I,C⟩:=d 0 x rfl;obtain rfl:u=u':=by grind
    have s:l.length=us.length:=by grind
    have B:∀(i:Nat) (c:T),l[i]?=some c->∃u,us[i]?=some u/\g.VR h w c u:=λi c L=>d (i+1) c rx;cases f with
    |some D =>
     cases x with
     |int q n =>
      obtain⟨J,E⟩:=qo a;obtain rfl:q=D:=by grind
      obtain⟨m,o,j,e⟩:=A s B E;obtain rfl:=C.int;exact⟨n::m,o,⟨⟨n,rfl⟩,j⟩,by simp[BL,e]⟩
     |_=>simp[zy] at a
    |none =>
     cases x with
     |bool b =>
      obtain⟨m,o,j,e⟩:=A s B a;obtain rfl:=C.bool;exact⟨_,o,⟨⟨b,rfl⟩,j⟩,by simp[BL,e]⟩
     |_=>simp[zy] at a
def yy{ks}{x:T}{v}{k}{r:R}(a:jL ks x k=some r)(hx:g.VR h w x v):EH ks v/\k (qT v)=some r:=by
 unfold jL at a;split at a
 .obtain⟨B,s⟩:=qo a;rename_i q o n;obtain rfl:o=q:=by simpa using B
  obtain rfl:=hx.int;exact⟨⟨n,rfl⟩,s⟩
 .rename_i fs l;obtain⟨d,rfl,E,J,D⟩:=hx.bN;obtain⟨m,j,f,e⟩:=qc0 (us:=d.toList) (by simpa using E) (λi c C=>by obtain⟨u,A,H⟩:=D i c C;exact⟨u,by simpa using A,H⟩) a;exact⟨⟨d,rfl,f⟩,by rw[show qT (.agg d)=m from e];exact j⟩
 grind
def HR.DO(hr:HR g h w){i}{b}(N:h[i]?=some b){m m':bk}(hm:b.mp=some m){cb:Nat}(o1:g.φ i=some (cb,0))(I:g.own cb=some (.inl i)){es:Array MapEntry}{c:Nat}
 (al:gM (setBlock w cb (.map es c)) cb m') (s:∃es c,w.heap[cb]?=some (.map es c)) :
 HR g (h.set i { b with mp:=some m' }) (setBlock w cb (.map es c))/\Zn g h w g (h.set i { b with mp:=some m' }) (setBlock w cb (.map es c))/\mF g w g (setBlock w cb (.map es c)):=by
 obtain⟨S,c0,s⟩:=s;have sG:=qC N;have r:∀k,k≠cb->(setBlock w cb (.map es c)).heap[k]?=w.heap[k]?:=λk a=>heap_setBlock_other s _ a;have A:(setBlock w cb (.map es c)).heap.size=w.heap.size:=by simp[setBlock]
 have J:Zn g h w g (h.set i { b with mp:=some m' }) (setBlock w cb (.map es c)):=by
  refine⟨λk a=>⟨a,r k ?_⟩,λk x hx=>?_,λk n W=>?_⟩
  .rintro rfl;have:=(hr.u _ a).2;rw[I] at this;grind
  .grind
  .obtain⟨Z,V,D,C⟩:=W;refine⟨Z,V,?_,C⟩;rw[r k]
   .exact D
   grind
 refine⟨⟨λk x hx H=>?_,λk a=>⟨by rw[A];exact(hr.u k a).1,(hr.u k a).2⟩,λk o d=>⟨(hr.own k o d).1,by rw[A];exact(hr.own k o d).2⟩,by rw[A];exact hr.base,λk o d=>?_,λk j d=>by rw[ue];exact hr.lt k j d,λk x mm hx H=>?_⟩,J,?_⟩
 .by_cases a:k=i
  .grind
  .rw[vd (λe=>a e.symm)] at hx;rcases hr.dS k x hx H with⟨E,L,Q,U,f⟩|q
   rotate_left
   .grind
   refine .inl ?_;have Y:E≠cb:=by
    rintro rfl;have:=f.heap;rw[s] at this;grind
   refine⟨E,L,Q,U,f.φ,f.own,by rw[r E Y];exact f.heap,f.room,f.len,λj o c M B=>?_,f.flat⟩;obtain⟨v,D,C,O⟩:=f.cell j o c M B;exact⟨v,D,C,O.av J⟩
 .by_cases a:k=cb
  .subst a;rw[I] at d;exact .inr ⟨i,es,c,(we d).symm,heap_setBlock_same s _⟩
  .exact hr.fK d (r k a)
 .by_cases a:k=i
  .grind
  .rw[vd (λe=>a e.symm)] at hx;refine hr.fh hx H rfl (λ_ B=>B) λX _ ru=>r X ?_;grind
 .refine⟨by rw[A];omega,λ_ _=>rfl,rfl,rfl,⟨rfl,wc _⟩,λk a uM=>r k ?_,rfl,λ_ a=>.inl a,λk a t d=>?_⟩
  .grind
  .have:=(hr.own k _ d).2;omega
def yR{t}{x:T}{v}{k}{r:R}(a:Y4 P t x h k=some r)(hr:HR g h w)(hx:g.VR h w x v) :
 ∃i b m f e cb,k i b m=some r/\h[i]?=some b/\b.mp=some m/\g.φ i=some (cb,0)/\g.own cb=some (.inl i)/\gM w cb m/\v = .map (some cb)/\JZ P t=some (f,m.ks,m.q)/\P.underlying t=some (.map f e)/\P.underlying e=some (.int m.q)/\ID P f=some m.ks ∧
  (∀u:World,(zeroValue e).run P u = .ok (.int m.q 0) u)/\(∃aj,x = .mp i aj/\b.aj=aj):=by
 unfold Y4 at a;cases x with
 |mp i aj =>
  dsimp only at a;unfold y9 at a;cases o:h[i]? with
  |none=>grind
  |some b =>
   rw[o] at a;dsimp only at a;obtain⟨hv,a⟩:=qo a;have E:b.aj=aj:=by grind
   cases s:b.mp with
   |none=>grind
   |some m =>
    rw[s] at a;dsimp only at a;cases d:JZ P t with
    |none=>grind
    |some p =>
     obtain⟨f,ks,q⟩:=p;rw[d] at a;dsimp only at a;obtain⟨j,N⟩:=qo a;simp only[wd,wm] at j;obtain⟨J,I⟩:=j;subst J I;clear a;obtain⟨b',D,_,_,j⟩:=hx.iD;rw[o] at D;obtain rfl:=we D;obtain⟨cb,C,rfl⟩:=j E;obtain⟨W,B,M,L⟩:=hr.mp i b m o s;rw[B] at C;obtain⟨rfl,_⟩:=xa (we C);have V:=d;unfold JZ at d;split at d
     .rename_i Q e U;split at d
      .rename_i Y O he H;obtain⟨hz,d⟩:=qo d;simp only[wj,wA] at d;obtain⟨rfl,rfl,rfl⟩:=d;refine⟨i,b,m,Q,e,W,N,o,s,B,M,L,rfl,rfl,U,he,H,λu=>?_,aj,rfl,E⟩;unfold So at hz;cases A:P.info? e with
       |none=>simp[A] at hz
       |some S =>
        rw[A] at hz;dsimp only at hz;split at hz
        .rename_i Z z X;simp only[wd,wm] at hz;obtain⟨rfl,rfl⟩:=hz;simp[zeroValue,typeInfo,A,X]
        .cases hz
      .cases d
     grind
 |_=>simp at a
def Gj{k}{ks}(h:ID P k=some ks):nC P k (EH ks):=by
 unfold ID at h;split at h
 .rename_i q a;obtain rfl:=we h;exact qll a
 .rename_i fs a;obtain⟨e,h⟩:=qo h;split at h
  .rename_i l d;obtain rfl:=we h;exact qls a rx (NR d)
  .cases h
 .cases h
def qbg{t}{k}{r:R}(a:Z9 P t h k=some r)(hr:HR g h w) :
 ∃y h',k y h' true=some r/\∃v w',(Instr.makeMap t none).run P w = .ok v w'/\ij g h w y h' v w':=by
 unfold Z9 at a;split at a
 .rename_i kt ks q ht;have A:∀k,k<w.heap.size->(w.alloc (.map #[] 0)).heap[k]?=w.heap[k]?:=λk a=>RowKit.Below.heap_alloc _ _ _ a;have Y:(w.alloc (.map #[] 0)).heap.size=w.heap.size+1:=by simp
  refine⟨_,_,a,.map (some w.heap.size),w.alloc (.map #[] 0),rfl,?_⟩
  let d:Gh:={ g with φ:=λk=>if k=h.length then some (w.heap.size,0) else g.φ k,own:=λk=>if k=w.heap.size then some (.inl h.length) else g.own k }
  have J:Zn g h w d (h++[yX 0 (.made ks q)]) (w.alloc (.map #[] 0)):=by
   refine⟨λk a=>⟨a,A k (hr.u k a).1⟩,λk x hx=>?_,λk n X=>?_⟩
   .have a:=qC hx;exact⟨x,by rw[wy a];exact hx,wc _,λ_=>⟨rfl,rfl,by simp[d,vB a]⟩⟩
   .obtain⟨Z,W,s,B⟩:=X;exact⟨Z,W,by rw[A k (qP s)];exact s,B⟩
  have I:∀c o,g.own c=some o->c≠w.heap.size:=λc o i=>by have:=(hr.own c o i).2;omega
  have E:(h++[yX 0 (.made ks q)])[h.length]?=some (yX 0 (.made ks q)):=YC h _;have L:∀{k:Nat} {x:ap},(h++[yX 0 (.made ks q)])[k]?=some x->¬k<h.length->k=h.length/\x=yX 0 (.made ks q):=by
   intro k x hx a;have:=qC hx;simp at this;obtain rfl:k=h.length:=by omega
   rw[E] at hx;exact⟨rfl,(we hx).symm⟩
  refine⟨d,⟨λk x hx C=>?_,λk a=>?_,λk o e=>?_,by rw[Y];exact Nat.le_succ_of_le hr.base,λk o e=>?_,λk j e=>?_,λk x m hx C=>?_⟩,?_,J,?_⟩
  .by_cases a:k<h.length
   .rw[wy a] at hx;rcases hr.dS k x hx C with⟨H,O,U,V,f⟩|⟨N,M⟩
    rotate_left
    .exact .inr ⟨by simp[d,vB a,N],M⟩
    refine .inl ?_;refine⟨H,O,U,V,by simp[d,vB a,f.φ],by simp[d,I _ _ f.own,f.own],by rw[A H (qP f.heap)];exact f.heap,f.room,f.len,λj o c Q i=>?_,f.flat⟩;obtain⟨v,s,B,S⟩:=f.cell j o c Q i;exact⟨v,s,B,S.av J⟩
   .obtain⟨_,rfl⟩:=L hx a;cases C
  .obtain⟨s,B⟩:=hr.u k a;exact⟨ab,by simp[d,vB s,B]⟩
  .by_cases a:k=w.heap.size
   .subst a;exact⟨hr.base,ab⟩
   .simp only[d,a,vn] at e;exact⟨(hr.own k o e).1,by have:=(hr.own k o e).2;omega⟩
  .by_cases a:k=w.heap.size
   .subst a;simp only[d,vZ,wj] at e;exact .inr ⟨_,_,_,e.symm,zo w _⟩
   .simp only[d,a,vn] at e;exact hr.fK e (A k (hr.own k o e).2)
  .rw[wC,xM];by_cases a:k=w.heap.size
   .subst a;simp only[d,vZ,wj,Sum.inl.injEq] at e;omega
   .simp only[d,a,vn] at e;have:=hr.lt k j e;omega
  .by_cases a:k<h.length
   .rw[wy a] at hx;exact hr.fh hx C (by simp[d,vB a]) (λc i=>by simp[d,I _ _ i,i]) λc i _=>A c i
   .obtain⟨rfl,rfl⟩:=L hx a;obtain rfl:=we C;exact⟨w.heap.size,by simp[d],by simp[d],cL.made w ks q⟩
  .exact .mp _ _ _ _ E (wc _) rfl λ_=>⟨w.heap.size,by simp[d],rfl⟩
  .refine⟨ab,λk a=>by simp[d,vB a],rfl,rfl,⟨rfl,wc _⟩,λk a _=>A k a,rfl,λ_ a=>.inl a,λk a t=>?_⟩;by_cases D:k=w.heap.size
   .simp[d,D]
   .simp only[d,D,vn];intro e;have:=(hr.own k _ e).2;omega
 grind
def VR.pair{x y:T}{u v}(hx:g.VR h w x u)(a:g.VR h w y v):g.VR h w (.aJ [x,y]) (.tuple #[u,v]):=by
 refine VR.iE aq λi c d=>?_
 match i with
 |0=>grind
 |1=>grind
 |i+2=>grind
def qb6{t:TypeId}{x key:T}{c:Bool}{d f:Value}{k:Qg R}{r:R}(a:QX P t x key c h k=some r)(hr:HR g h w)(hx:g.VR h w x d)(A:g.VR h w key f) :
 ∃y,k y h false=some r/\∃u,(Instr.lookup t d f c).run P w = .ok u w/\g.VR h w y u:=by
 unfold QX Z5 at a;obtain⟨i,b,m,E,e,cb,a,J,I,D,C,o,rfl,H,s,he,j,hz,_⟩:=yR a hr hx;obtain⟨B,a⟩:=yy a A;refine⟨_,a,_,cL.look o (Gj j) s (hz w) B c,?_⟩;cases c with
 |true=>exact VR.pair (.aF _ _ (.int _ _)) (.aF _ _ (.bool _))
 |false=>exact .aF _ _ (.int _ _)
def Kw(hr:HR g h w){i}{b}(u:h[i]?=some b){m m':bk}(s:b.mp=some m){cb:Nat}(o:g.φ i=some (cb,0))(k:g.own cb=some (.inl i))(a:gM w cb m){es:Array MapEntry}
 (F:gC (EH m.ks) m.q m' es) (r:m'.q=m.q) (d:m'.ks=m.ks) {x:T} {v:Value} (hx:∀(w':World) (h':qa),g.VR h' w' x v) :
 ij g h w x (h.set i { b with mp:=some m' }) v (setBlock w cb (.map es m'.clock)):=by
 obtain⟨j,f,e⟩:=hr.DO u s (m':=m') o k (es:=es) (c:=m'.clock) (by unfold gM;rw[r,d];exact cL.after a.heap F) a.heap;exact⟨g,j,hx _ _,f,e⟩
def qb7{t:TypeId}{x key z:T}{j o f:Value}{k:Qg R}{r:R}(a:Yj P t x key z h k=some r)(hr:HR g h w)(hx:g.VR h w x j)(J:g.VR h w key o)(N:g.VR h w z f) :
 ∃h',k .undef h' true=some r/\∃w',(Instr.mapUpdate t j o f).run P w = .ok () w'/\ij g h w .undef h' undef w':=by
 unfold Yj at a;split at a
 .rename_i A n;obtain rfl:=N.int;unfold Z5 at a;obtain⟨i,b,m,O,e,cb,a,I,H,C,B,s,rfl,Q,E,he,u,hz,_⟩:=yR a hr hx;obtain⟨M,a⟩:=yy a J;obtain⟨d,D⟩:=qo a;have d:A=m.q:=by simpa using d
  subst d;obtain⟨es,L,F⟩:=cL.update s (Gj u) E M n;exact⟨_,D,_,L,Kw hr I H C B s F rfl rfl λ_ _=>.aF _ _ (.undef _)⟩
 grind
def qc1{t:TypeId}{x key:T}{d f:Value}{k:Qg R}{r:R}(a:yQ P t x key h k=some r)(hr:HR g h w)(hx:g.VR h w x d)(D:g.VR h w key f) :
 ∃y h',k y h' true=some r/\∃v w',(Instr.mapEntry t d f).run P w = .ok v w'/\ij g h w y h' v w':=by
 unfold yQ Z5 at a;obtain⟨i,b,m,I,e,cb,a,C,B,u,s,j,rfl,J,A,he,o,hz,_⟩:=yR a hr hx;obtain⟨H,a⟩:=yy a D;obtain⟨es,E,F⟩:=cL.entry j (Gj o) A (hz w) H;refine⟨_,_,a,_,_,E,Kw hr C B u s j F rfl rfl λ_ _=>VR.pair (.aF _ _ (.int _ _)) (.aF _ _ (.int _ _))⟩
def Jb{t:TypeId}{x st z:T}{f vs d:Value}{k:Qg R}{r:R}(a:zO P t x st z h k=some r)(hr:HR g h w)(hx:g.VR h w x f)(J:g.VR h w st vs)(Q:g.VR h w z d) :
 ∃h',k .undef h' true=some r/\∃w',(Instr.entryStore t f vs d).run P w = .ok () w'/\ij g h w .undef h' undef w':=by
 unfold zO at a;split at a
 .rename_i ks n S u;obtain rfl:=Q.int;obtain rfl:=J.int;obtain⟨i,b,m,U,e,cb,a,N,L,H,E,j,rfl,W,V,he,A,hz,_⟩:=yR a hr hx;split at a
  .rename_i l s M;obtain⟨o,I⟩:=qo a;simp only[wd,wm] at o;obtain⟨⟨D,C⟩,B⟩:=o;subst D C B;obtain⟨es,O,F⟩:=cL.store (t:=t) j (Gj A) M u;exact⟨_,I,_,O,Kw hr N L H E j F rfl rfl λ_ _=>.aF _ _ (.undef _)⟩
  .cases a
 grind
def qb8{t a ty:TypeId}{x key:T}{s u:Value}{k:Qg R}{r:R}(o:kR P t a x key h k=some r)(hr:HR g h w)(hx:g.VR h w x s)(O:g.VR h w key u) :
 ∃y h',k y h' true=some r/\∃v w',(Builtin.delete_ #[t,a] ty #[s,u]).run P w = .ok v w'/\ij g h w y h' v w':=by
 unfold kR at o;split at o
 .rename_i S p d;obtain⟨f,B⟩:=qo o;obtain rfl:S=a:=by simpa using f
  unfold Z5 at B;obtain⟨i,b,m,I,e,cb,U,N,L,H,E,A,rfl,C,J,he,D,hz,_⟩:=yR B hr hx;rw[d] at C;obtain⟨rfl,rfl⟩:=xa (we C);obtain⟨V,j⟩:=yy U O;obtain⟨es,Q,F⟩:=cL.drop A (Gj D) J V ty;exact⟨_,_,j,_,_,Q,Kw hr N L H E A F rfl rfl λ_ _=>VR.iE (l:=[]) (cs:=#[]) rfl λi c M=>by simp at M⟩
 grind
end
def yl(Gl:t9)(w:World)(U:Nat->Prop):Prop:=∀a cells,Gl a=some cells->VI w U (.vp cells) (.pointer (some ⟨a,0,none⟩))
def IZ(w:World)(U:Nat->Prop)(args:t7)(aE:Array Value):Prop:=args.length=aE.size/\∀(i:Nat) (x:T),args[i]?=some x->∃v,aE[i]?=some v/\VI w U x v
def dz(g:Gh)(h:qa)(w:World)(args:t7)(aE:Array Value):Prop:=args.length=aE.size/\∀(i:Nat) (x:T),args[i]?=some x->∃v,aE[i]?=some v/\g.VR h w x v
def JK(g:Gh):Prop:=∀b t,g.own b≠some (.inr t)
structure aS(P:Program)(Gl:t9)(K:bv):Prop where
 enters:∀f,(∃args r,K.val f args T some=some r)∨(∃args h r,K.ref f args h (T×qa) (λv h=>some (v,h))=some r)->∃fn,P.funcs[f]?=some fn/\fn.body.isNone=false/\(fn.name=="runtime.NumGoroutine")=false
 val:∀f args r,K.val f args T some=some r->∀(w:World) (U:Nat->Prop) (aE:Array Value),(∀b,U b->b<w.heap.size)->yl Gl w U->IZ w U args aE →
  Calls P f aE w λe w'=>∃v,e = .returned v/\RV w U r v w'
 ref:∀f args h r h',K.ref f args h (T×qa) (λv h=>some (v,h))=some (r,h')->∀(g:Gh) (w:World) (aE:Array Value),HR g h w->JK g->yl Gl w g.U->dz g h w args aE →
  Calls P f aE w λe w'=>∃v,e = .returned v/\ij g h w r h' v w'
 ro:∀f,K.ro f=true->∀args h r h',K.ref f args h (T×qa) (λv h=>some (v,h))=some (r,h')->h'=h
section
variable {P:Program} {Gl:t9} {K:bv} {R:Type} {g:Gh} {h:qa} {w:World}
def dz.append{args j:t7}{aE k}(d:dz g h w args aE)(f:dz g h w j k):dz g h w (args++j) (aE++k):=by
 refine⟨by simp[d.1,f.1],λi x a=>?_⟩;rw[List.getElem?_append] at a;split at a
 .rename_i r;obtain⟨v,e,hr⟩:=d.2 i x a;grind
 .rename_i o;obtain⟨v,e,hr⟩:=f.2 _ x a;exact⟨v,by rw[Array.getElem?_append_right (by rw[←d.1];omega),←d.1];exact e,hr⟩
def TH{x:T}{h'}{v}{w':World}(hr:HR g h w)(O:ij { g with own:=λb=>match g.own b with|some (.inl i)=>some (.inl i)|_=>none } h w x h' v w'):ij g h w x h' v w':=by
 obtain⟨C,s,hx,J,f⟩:=O
 let k:Gh:={ C with own:=λb=>if b<w.heap.size then g.own b else C.own b }
 have Q:∀b i,b<w.heap.size->C.own b=some (.inl i)->g.own b=some (.inl i):=by
  intro b i r a;rw[f.own b r] at a;grind
 refine⟨k,⟨λi b D N=>?_,λb r=>?_,λb o a=>?_,?_,λb o a=>?_,λb j a=>?_,λi b m D I=>?_⟩,hx,J,⟨f.size,λb r=>rx,f.os,f.tape,f.output,λb r hn=>f.same b r (λi L=>?_),f.bs,f.u,λb r t=>?_⟩⟩
 .rcases s.dS i b D N with⟨cb,H,B,e,A⟩|q
  rotate_left
  .grind
  refine .inl ⟨cb,H,B,e,A.φ,?_,A.heap,A.room,A.len,A.cell,A.flat⟩;by_cases d:cb<w.heap.size
  .simp only[k,d,vZ];exact Q cb i d A.own
  .simp only[k,d,vn];exact A.own
 .obtain⟨M,W⟩:=s.u b r;refine⟨M,?_⟩;by_cases d:b<w.heap.size
  .simp only[k,d,vZ];rcases f.u b r with E|E
   .exact(hr.u b E).2
   .omega
  grind
 .by_cases d:b<w.heap.size
  .simp only[k,d,vZ] at a;exact⟨by show C.base<=b;rw[f.base];exact(hr.own b o a).1,by have:=f.size;omega⟩
  .simp only[k,d,vn] at a;exact s.own b o a
 .exact s.base
 .by_cases d:b<w.heap.size
  .simp only[k,d,vZ] at a;cases o with
   |inl i=>exact s.cells b (.inl i) (by rw[f.own b d];simp[a])
   |inr t =>
    obtain⟨B,e,q⟩:=hr.box a;refine .inl ⟨B,e,(f.same b d λi L=>?_).trans q⟩;grind
  .simp only[k,d,vn] at a;exact s.cells b o a
 .by_cases d:b<w.heap.size
  .simp only[k,d,vZ] at a;exact s.lt b j (by rw[f.own b d];simp[a])
  .simp only[k,d,vn] at a;exact s.lt b j a
 .obtain⟨cb,V,U,S⟩:=s.mp i b m D I;grind
 .grind
 .simp only[k,Nat.not_lt.2 r,vn];exact f.new b r t
def HR.iH(hr:HR g h w):HR { g with own:=λb=>match g.own b with|some (.inl i)=>some (.inl i)|_=>none } h w:=by
 refine⟨λi b k C=>?_,λb B=>?_,λb o a=>?_,hr.base,λb o a=>?_,λb i a=>?_,λi b m k x=>hr.fh k x rfl (λc A=>by simp[A]) λ_ _ _=>rfl⟩
 .rcases hr.dS i b k C with⟨cb,s,r,e,d⟩|q
  rotate_left
  .grind
  exact .inl ⟨cb,s,r,e,d.φ,by simp[d.own],d.heap,d.room,d.len,d.cell,d.flat⟩
 .obtain⟨E,D⟩:=hr.u b B;grind
 .dsimp only at a;split at a
  .rename_i j f;exact hr.own b _ f
  grind
 .dsimp only at a;split at a
  .rename_i j f;cases a;exact hr.cells b _ f
  grind
 .dsimp only at a;split at a
  .rename_i j f;obtain rfl:j=i:=by simpa using a
   exact hr.lt b j f
  grind
def Yc{o}{a}{f}{aE}{Φ:Value->World->Prop}(k:(execOp a.eval o).run P w = .ok (.enter f aE) w)
 (i:Calls P f aE w λe w'=>∃v,e = .returned v/\Φ v w'):Yz P o a w Φ:=by
 intro ro n next Q hn
 refine⟨λ_ _=>trivial,?_⟩;rw[Yk k aq,Oper.uponIn_enter];refine⟨(λd=>by simp[QM] at d),?_⟩;have j:CallsIn (QM ro) (n-1) P f aE w λe w'=>∃v,e = .returned v/\Φ v w':=callsIn_wide.2 i;refine j.mono λe w' r=>?_;grind
def qdW(s:aS P Gl K){o:Oper}{a:Act}{of:Operand}{A:Array Operand}{ts:Array TypeId}(ho:o.op = .call { callee:=.value of,args:=A,argTypes:=ts })
 {f:T} {args:t7} {k:Qg R} {r:R} (d:Km K f args h k=some r) (hr:HR g h w) (S:yl Gl w g.U) (hf:g.VR h w f (a.eval of)) (ha:dz g h w args (A.map a.eval)) :
 ∃y h' wr,k y h' wr=some r/\(wr=false->h'=h)/\Yz P o a w (ij g h w y h'):=by
 cases f with
 |fn f M =>
  obtain⟨I,iv,nX,Bc⟩:=hf.gZ;have J:dz g h w (args++M) (A.map a.eval++I):=ha.append ⟨nX,Bc⟩
  have Z:(∃fn,P.funcs[f]?=some fn/\fn.body.isNone=false/\(fn.name=="runtime.NumGoroutine")=false)->(execOp a.eval o).run P w = .ok (.enter f (A.map a.eval++I)) w:=by
   rintro⟨fn,h1,h2,h3⟩;unfold execOp;rw[ho]
   have IJ:¬fn.name = "runtime.NumGoroutine":=by grind
   have py:¬fn.body=none:=by grind
   simp[Go.resolve,iv,Deferred.ofValue,invoke,callFunc,h1,py,IJ]
  simp only[Km] at d;rcases qw d with⟨L,d⟩|⟨L,d⟩
  .rcases qw d with⟨ru,d⟩|⟨_,d⟩
   .obtain⟨⟨v,h'⟩,d,H⟩:=qM (K.dw f (args++M) h) (k:=λp=>k p.1 h false) d;have j:=H (T×qa) some;obtain rfl:=s.ro f ru _ _ v h' j;refine⟨_,_,_,d,λ_=>rfl,?_⟩;have C:=s.ref f _ _ v _ j _ w (A.map a.eval++I) hr.iH (λb t=>by dsimp only;split<;>simp) S J;exact Yc (Z (s.enters f (.inr ⟨_,_,_,j⟩))) (C.mono λe w' ⟨B,E,D⟩=>⟨B,E,TH hr D⟩)
   .obtain⟨⟨v,h'⟩,d,H⟩:=qM (K.dw f (args++M) h) (k:=λp=>k p.1 p.2 true) d;have j:=H (T×qa) some;refine⟨_,_,_,d,(λO=>by cases O),?_⟩;have C:=s.ref f _ h v h' j _ w (A.map a.eval++I) hr.iH (λb t=>by dsimp only;split<;>simp) S J;exact Yc (Z (s.enters f (.inr ⟨_,_,_,j⟩))) (C.mono λe w' ⟨B,E,D⟩=>⟨B,E,TH hr D⟩)
  .obtain⟨V,d,H⟩:=qM (K.dv f ((args++M).map (zr h))) d
   .have j:=H T some;refine⟨_,_,_,d,λO=>?_,?_⟩
    .have:Kl V=true:=by grind
     exact qdV this
    .have Gk:=Z (s.enters f (.inl ⟨_,_,j⟩));cases hs:(args++M).all aF with
     |true =>
      have H:=wD.1 hs;have C:=s.val f _ V j w g.U (A.map a.eval++I) (λb L=>(hr.u b L).1) S ⟨by simpa using J.1,λi x Y=>by
       obtain⟨N,Q,rfl⟩:=QE Y;obtain⟨v,X,W⟩:=J.2 i N Q;have DQ:=H N (wx Q);refine⟨v,X,?_⟩;simp only[zr,DQ,wp];exact yf DQ W⟩
      exact Yc Gk (C.mono λe w' ⟨B,E,D⟩=>⟨B,E,Ts hr D (λ_=>rfl)⟩)
     |false =>
      have C:=s.val f _ V j w (λb=>b<w.heap.size) (A.map a.eval++I) (λb L=>L) (λgl cells hg=>(S gl cells hg).av (IR (NG hr).u)) ⟨by simpa using J.1,λi x Y=>by
       obtain⟨N,Q,rfl⟩:=QE Y;obtain⟨v,X,W⟩:=J.2 i N Q;exact⟨v,X,qdU hr W⟩⟩
      exact Yc Gk (C.mono λe w' ⟨B,E,D⟩=>⟨B,E,Ts hr D (λO=>by cases O)⟩)
 |_=>simp[Km] at d
def ze{o}{a}{s}{v}{w'}{y:T}{h'}(he:execOp a.eval o=(do pure (.value (←s))))(e:s.run P w = .ok v w')(d:ij g h w y h' v w'):Yz P o a w (ij g h w y h') :=
 Zo (by rw[he];simp[e]) d
def qlt{ops:List Operand}{e}{a}(he:∀x,g.VR h w (e x) (a x)):∀(i:Nat) (x:T),(ops.map e)[i]?=some x->∃v,(ops.map a)[i]?=some v/\g.VR h w x v:=by
 grind
def NS{ops:Array Operand}{e}{a}(he:∀x,g.VR h w (e x) (a x)):dz g h w (ops.toList.map e) (ops.map a):=by
 refine⟨aq,λi x d=>?_⟩;grind
def NT{ps:Array (Nat×Operand)}{e:Operand->T}{a:Operand->Value}(he:∀x,g.VR h w (e x) (a x)) :
 ∀(n:Nat) (p:Nat×T),(ps.toList.map λp=>(p.1,e p.2))[n]?=some p->∃q:Nat×Value,(ps.map λp=>(p.1,a p.2)).toList[n]?=some q/\q.1=p.1/\g.VR h w p.2 q.2:=by
 intro n p hn;rw[wE] at hn;cases d:ps.toList[n]? with
 |none=>grind
 |some o =>
  rw[d] at hn;obtain rfl:=we hn;simp_all
def NU{x:Option Operand}{e}{a}(he:∀x,g.VR h w (e x) (a x)):Bb g h w (x.map e) (x.map a):=by
 cases x with
 |none=>exact .inl ⟨rfl,rfl⟩
 |some x=>exact .inr ⟨_,_,rfl,rfl,he x⟩
def qbi{o}{a:Act}{b:Builtin}{f:Array Operand}{ts:Array TypeId}(Z:o.op = .call { callee:=.builtin b,args:=f,argTypes:=ts })
 {args:t7} {k:Qg R} {r:R} (H:Zc P b ts.toList args h k=some r) (hr:HR g h w) (Q:dz g h w args (f.map a.eval)) :
 ∃y h' wr,k y h' wr=some r/\(wr=false->h'=h)/\Yz P o a w (ij g h w y h'):=by
 have one:∀{x:T},args=[x]->∃u,f.map a.eval = #[u]/\g.VR h w x u:=by
  rintro x rfl;obtain⟨v,O,D⟩:=Q.2 0 x rfl;refine⟨v,?_,D⟩;have X:(f.map a.eval).size=1:=Q.1.symm;apply Array.ext (by simp[X]);intro i V _;have:i=0:=by omega
  subst this;rw[wK V] at O;simpa using we O
 have two:∀{x y:T},args=[x,y]->∃u v,f.map a.eval = #[u,v]/\g.VR h w x u/\g.VR h w y v:=by
  rintro x y rfl;obtain⟨u,j,B⟩:=Q.2 0 x rfl;obtain⟨v,O,D⟩:=Q.2 1 y rfl;refine⟨u,v,?_,B,D⟩;have X:(f.map a.eval).size=2:=Q.1.symm;apply Array.ext (by simp[X]);intro i V _;have:i=0∨i=1:=by omega
  rcases this with rfl|rfl
  .rw[wK V] at j;simpa using we j
  .rw[wK V] at O;simpa using we O
 have Bg:∀(s:Sem Value),builtin b ts o.type (f.map λ|.const _=>true|_=>false) (f.map a.eval)=(do pure (.value (←s)))->execOp a.eval o=(do pure (.value (←s))):=by
  intro s W;unfold execOp;rw[Z];show(do let d ←Go.resolve a.eval { callee:=.builtin b,args:=f,argTypes:=ts } o.type;invoke d.target d.args)=_;exact W
 have A:∀{s:Sem Value} {y:T} {h':qa} {v:Value} {w':World},builtin b ts o.type (f.map λ|.const _=>true|_=>false) (f.map a.eval)=(do pure (.value (←s)))->s.run P w = .ok v w'->ij g h w y h' v w'->Yz P o a w (ij g h w y h') :=
  λW C I=>ze (Bg _ W) C I
 have N:∀{t:TypeId} {l:List TypeId},ts.toList=t::l->ts[0]?=some t:=by
  intro t l he;rw[←vD,he];rfl
 unfold Zc at H;split at H
 .rename_i t l x E;obtain⟨u,j,B⟩:=one rfl;obtain⟨z,hz,c,C,L⟩:=S9 (ty:=o.type) H B (N E);exact⟨z,h,false,hz,λ_=>rfl,A (s:=Builtin.len_ ts o.type (f.map a.eval)) rfl (by rw[j];exact C) (.pure hr L)⟩
 .rename_i t l x E;obtain⟨u,j,B⟩:=one rfl;obtain⟨z,hz,c,C,L⟩:=Ta (ty:=o.type) H B (N E);exact⟨z,h,false,hz,λ_=>rfl,A (s:=Builtin.cap_ ts o.type (f.map a.eval)) rfl (by rw[j];exact C) (.pure hr L)⟩
 ·rename_i t M l s x E;obtain⟨u,v,j,B,D⟩:=two rfl;obtain⟨hx,H⟩:=qo H;obtain⟨z,h',wr,hz,U,c,w',C,I⟩:=qb5 (tx:=M) (ty:=o.type) H hx hr B D;refine⟨z,h',wr,hz,U,A (s:=Builtin.append_ ts o.type (f.map a.eval)) rfl ?_ I⟩;rw[j];have e:Builtin.append_ ts o.type #[u,v]=Builtin.append_ #[t,M] o.type #[u,v]:=by
   unfold Builtin.append_;have S:ts[0]?=(#[t,M]:Array TypeId)[0]?:=N E;have e1:ts[1]?=(#[t,M]:Array TypeId)[1]?:=by rw[←vD,E];rfl
   rw[S,e1]
  rw[e];exact C
 ·rename_i t l d x E;obtain⟨u,v,j,B,D⟩:=two rfl;obtain⟨z,h',wr,hz,U,c,w',C,I⟩:=qdT (tx:=t) (ty:=o.type) H hr B D;refine⟨z,h',wr,hz,U,A (s:=Builtin.copy_ ts o.type (f.map a.eval)) rfl ?_ I⟩;rw[j];have e:Builtin.copy_ ts o.type #[u,v]=Builtin.copy_ #[t,t] o.type #[u,v]:=by
   unfold Builtin.copy_;have S:ts[0]?=(#[t,t]:Array TypeId)[0]?:=N E;rw[S]
  rw[e];exact C
 ·rename_i t l d E;obtain⟨u,j,B⟩:=one rfl;obtain⟨z,h',wr,hz,U,c,w',C,I⟩:=qcX (ty:=o.type) H hr B;refine⟨z,h',wr,hz,U,A (s:=Builtin.clear_ ts o.type (f.map a.eval)) rfl ?_ I⟩;rw[j];have e:Builtin.clear_ ts o.type #[u]=Builtin.clear_ #[t] o.type #[u]:=by
   unfold Builtin.clear_;have S:ts[0]?=(#[t]:Array TypeId)[0]?:=N E;rw[S]
  rw[e];exact C
 .rename_i x y;obtain⟨u,v,j,B,D⟩:=two rfl;obtain⟨z,hz,c,C,L⟩:=yx (ty:=o.type) (ts:=ts) H B D;exact⟨z,h,false,hz,λ_=>rfl,A (s:=Builtin.min_ ts o.type (f.map a.eval)) rfl (by rw[j];exact C) (.pure hr L)⟩
 .rename_i x y;obtain⟨u,v,j,B,D⟩:=two rfl;obtain⟨z,hz,c,C,L⟩:=yx (ty:=o.type) (ts:=ts) H B D;exact⟨z,h,false,hz,λ_=>rfl,A (s:=Builtin.max_ ts o.type (f.map a.eval)) rfl (by rw[j];exact C) (.pure hr L)⟩
 ·rename_i t Y x y E;obtain⟨u,v,j,B,D⟩:=two rfl;obtain⟨z,h',hz,c,w',C,I⟩:=qb8 (ty:=o.type) H hr B D;refine⟨z,h',true,hz,(λhh=>by cases hh),A (s:=Builtin.delete_ ts o.type (f.map a.eval)) rfl ?_ I⟩;rw[j];have e:Builtin.delete_ ts o.type #[u,v]=Builtin.delete_ #[t,Y] o.type #[u,v]:=by
   have:ts = #[t,Y]:=by apply Array.ext';rw[E]
   rw[this]
  rw[e];exact C
 grind
def qib{o}{ρ}{t}{ps}(a:o.op = .build t ps):execOp ρ o=(do pure (.value (←Instr.build t (ps.map λp=>(p.1,ρ p.2))))):=by
 unfold execOp;rw[a]
def KT{o}{ρ}{t}{len}{ps}(a:o.op = .buildSlice t len ps):execOp ρ o=(do pure (.value (←Instr.buildSlice t len (ps.map λp=>(p.1,ρ p.2))))):=by
 unfold execOp;rw[a]
set_option maxHeartbeats 1000000 in
def TI(hK:aS P Gl K){o:Oper}{a:Act}{e:Operand->T}{k:Qg R}{r:R}(A:Qh P K o.op e h k=some r)(hr:HR g h w)(di:yl Gl w g.U)(he:∀x,g.VR h w (e x) (a.eval x)) :
 ∃y h' wr,k y h' wr=some r/\(wr=false->h'=h)/\Yz P o a w (ij g h w y h'):=by
 have H:∀{s:Sem Value},execOp a.eval o=(do pure (.value (←s)))->(∃y,k y h false=some r/\∃u,s.run P w = .ok u w/\g.VR h w y u)->∃y h' wr,k y h' wr=some r/\(wr=false->h'=h)/\Yz P o a w (ij g h w y h'):=by
  rintro s I ⟨y,B,u,E,od⟩;exact⟨y,h,false,B,λ_=>rfl,ze I E (.pure hr od)⟩
 have KP:∀(x:Operand),execOp a.eval o=pure (.value (a.eval x))->k (e x) h false=some r->∃y h' wr,k y h' wr=some r/\(wr=false->h'=h)/\Yz P o a w (ij g h w y h') :=
  λx I A=>⟨e x,h,false,A,λ_=>rfl,Zo (by rw[I];rfl) (.pure hr (he x))⟩
 unfold Qh at A;split at A
 .rename_i x j;exact KP x (by unfold execOp;rw[j]) A
 .rename_i x j;exact KP x (by unfold execOp;rw[j]) A
 .rename_i c x y j;cases M:e c with
  |bool t =>
   rw[M] at A;have O:=he c;rw[M] at O;have O:=O.bool;rcases qw A with⟨rfl,A⟩|⟨rfl,A⟩
   .exact⟨e x,h,false,A,λ_=>rfl,Zo (v:=a.eval x) (by unfold execOp;rw[j];simp[O,asBool]) (.pure hr (he x))⟩
   .exact⟨e y,h,false,A,λ_=>rfl,Zo (v:=a.eval y) (by unfold execOp;rw[j];simp[O,asBool]) (.pure hr (he y))⟩
  |_=>simp[M] at A
 .rename_i J j;obtain⟨hz,A⟩:=qo A;obtain⟨z,hz,cz,nG,iW,Z,Y⟩:=Zx (P:=P) (g:=g) (h:=h) (w:=w) hz;obtain⟨y,h',B,D⟩:=qb4 (e:=J) A hr nG Z Y;exact⟨y,h',true,B,(λC=>by cases C),ze (s:=Instr.alloc J true (.tuple #[])) (by unfold execOp;rw[j]) (by simp[Instr.alloc,hz,newVar,newRow]) D⟩
 .rename_i J x j;obtain⟨M,A⟩:=qo A;obtain⟨c1,c2,c3⟩:=(he x).eS M;obtain⟨y,h',B,D⟩:=jo (e:=J) A hr c1 c2 c3;exact⟨y,h',true,B,(λC=>by cases C),ze (s:=Instr.box J (a.eval x)) (by unfold execOp;rw[j]) (by simp[Instr.box,newVar,newRow]) D⟩
 .rename_i t ps j;exact H (qib j) (qcR A aq (NT he))
 .rename_i t len ps j;obtain⟨y,h',B,v,w',E,D⟩:=j9 (bc:=ps.map λp=>(p.1,a.eval p.2)) A hr aq (NT he);exact⟨y,h',true,B,(λC=>by cases C),ze (KT j) E D⟩
 .rename_i t x j;exact H (s:=Instr.loadAt t (a.eval x)) (by unfold execOp;rw[j]) (ku A hr (he x))
 .rename_i t x v j;obtain⟨h',B,w',E,D⟩:=qcO A hr (he x) (he v);refine⟨_,h',true,B,(λC=>by cases C),jm ?_ D⟩;unfold execOp;rw[j];simp[E]
 .rename_i x j;obtain⟨B,S⟩:=Tb A (he x);refine⟨_,h,false,B,λ_=>rfl,Zo (v:=a.eval x) ?_ (.pure hr (he x))⟩;unfold execOp;rw[j];rcases S with⟨ad,S⟩|⟨f,cs,S⟩<;>simp[S]
 .rename_i Q t x y J j;exact H (s:=do eqGuard Q t x y (a.eval x) (a.eval y);binOp Q t (a.eval x) (a.eval y)) (by unfold execOp;rw[j]) (S3 A (he x) (he y))
 .rename_i Q t x j;exact H (s:=Op.unary Q (a.eval x)) (by unfold execOp;rw[j]) (qgC A (he x))
 .rename_i L W x j;cases I:P.underlying L with
  |none=>simp[I] at A
  |some d =>
   simp only[I,Option.isSome_some,wp] at A;exact H (s:=convert L W (a.eval x)) (by unfold execOp;rw[j]) (kY A hr (he x) ⟨d,I⟩)
 .rename_i f first cap j
  obtain⟨V,A⟩:=qo A;have V:first = #[]:=by simpa using V
  subst V;obtain⟨q1,q2⟩:=NS (ops:=cap) he;exact⟨_,h,false,A,λ_=>rfl,ze (s:=Instr.makeFunc (.func f) ((#[]:Array Operand).map a.eval) (cap.map a.eval)) (by unfold execOp;rw[j]) (by simp[Instr.makeFunc]) (.pure hr (VR.ow q1 q2))⟩
 .rename_i t l c j;obtain⟨y,h',B,v,w',E,D⟩:=qdR A hr (he l) (he c);exact⟨y,h',true,B,(λC=>by cases C),ze (s:=Instr.makeSlice t (a.eval l) (a.eval c)) (by unfold execOp;rw[j]) E D⟩
 .rename_i t x lo hi mx j;exact H (s:=Instr.sliceAt t (a.eval x) (lo.map a.eval) (hi.map a.eval) (mx.map a.eval)) (by unfold execOp;rw[j]) (jq A (he x) (NU he) (NU he) (NU he))
 .rename_i t x f j;exact H (s:=Instr.fieldAt t (a.eval x) f) (by unfold execOp;rw[j]) (YH A (he x))
 .rename_i t x f j;exact H (s:=Instr.field t (a.eval x) f) (by unfold execOp;rw[j]) (qcS A (he x))
 .rename_i t x i j;exact H (s:=Instr.indexAt t (a.eval x) (a.eval i)) (by unfold execOp;rw[j]) (YI A (he x) (he i))
 .rename_i t x i j;exact H (s:=Instr.index t (a.eval x) (a.eval i)) (by unfold execOp;rw[j]) (qcT A (he x) (he i))
 .rename_i x i j;exact H (s:=Instr.extract (a.eval x) i) (by unfold execOp;rw[j]) (qa9 A (he x))
 .rename_i t j;obtain⟨y,h',B,v,w',E,D⟩:=qbg A hr;exact⟨y,h',true,B,(λC=>by cases C),ze (s:=Instr.makeMap t none) (by unfold execOp;rw[j];rfl) E D⟩
 .rename_i t x i c j;exact H (s:=Instr.lookup t (a.eval x) (a.eval i) c) (by unfold execOp;rw[j]) (qb6 A hr (he x) (he i))
 .rename_i t x i v j;obtain⟨h',B,w',E,D⟩:=qb7 A hr (he x) (he i) (he v);refine⟨_,h',true,B,(λC=>by cases C),jm ?_ D⟩;unfold execOp;rw[j];simp[E]
 .rename_i t x i j;obtain⟨y,h',B,v,w',E,D⟩:=qc1 A hr (he x) (he i);exact⟨y,h',true,B,(λC=>by cases C),ze (s:=Instr.mapEntry t (a.eval x) (a.eval i)) (by unfold execOp;rw[j]) E D⟩
 .rename_i t x st v j;obtain⟨h',B,w',E,D⟩:=Jb A hr (he x) (he st) (he v);refine⟨_,h',true,B,(λC=>by cases C),jm ?_ D⟩;unfold execOp;rw[j];simp[E]
 .rename_i f N X j;exact qdW hK j A hr di (he f) (NS he)
 .rename_i b N X j;exact qbi j A hr (NS he)
 grind
def qpO{U}{φ}{x:T}{v}(hx:VR w U φ [] x v):VI w U x v:=by
 generalize I:([]:qa)=J at hx
 induction hx with
 |aF x v e=>exact e
 |own i aj E len cap b v B D A C=>grind
 |ptr i aj j o b v B D A C=>grind
 |mp i aj b v B D A C=>grind
 |fn f H u d k s e a=>exact .fn f H u d k s (λi c r=>a i c r)
 |agg l u d k A s e a=>exact .agg l u d k A s (λi c r=>a i c r)
 |aJ l u d k s e a=>exact .aJ l u d k s (λi c r=>a i c r)
 |iface t x v e a=>exact .iface t x v a
def HR.empty(hr:HR g h w):HR { g with own:=λ_=>none } [] w:=⟨λi b d=>rx,λb d=>⟨(hr.u b d).1,rfl⟩,λb o a=>(by cases a),hr.base,λb o a=>(by cases a),λb i a=>(by cases a),λi b m d=>rx⟩
def qft{o:Oper}{a:Act}{e:Operand->T}{k:Qg R}{r:R}(I:DA o.op=true)(D:(o.op.operands.toList.all λx=>aF (e x))=true)(A:Qh P K o.op e [] k=some r)(hr:HR g h w)(he:∀x,g.VR h w (e x) (a.eval x)) :
 ∃y wr,k y [] wr=some r/\∃v,(execOp a.eval o).run P w = .ok (.value v) w/\g.VR h w y v:=by
 have aZ:=wD.1 D;have H:∀x,x∈o.op.operands.toList->g.VR [] w (e x) (a.eval x):=λx hx=>.aF _ _ (yf (aZ x hx) (he x));have J:∀{s:Sem Value},execOp a.eval o=(do pure (.value (←s)))->(∃y,k y [] false=some r/\∃u,s.run P w = .ok u w/\g.VR [] w y u)->∃y wr,k y [] wr=some r/\∃v,(execOp a.eval o).run P w = .ok (.value v) w/\g.VR h w y v:=by
  rintro s S ⟨y,L,u,az,od⟩;exact⟨y,false,L,u,by rw[S];simp[az],.aF _ _ (qpO od)⟩
 have EO:∀{x:Option Operand},(∀y,x=some y->y∈o.op.operands.toList)->Bb g [] w (x.map e) (x.map a.eval):=by
  intro x hx;cases x with
  |none=>exact .inl ⟨rfl,rfl⟩
  |some x=>exact .inr ⟨_,_,rfl,rfl,H x (hx x rfl)⟩
 unfold Qh at A;split at A
 all_goals first|(cases A;done)|(rename_i j;rw[j] at I;simp[DA] at I;done)|skip
 .rename_i t x j;exact J (s:=Instr.loadAt t (a.eval x)) (by unfold execOp;rw[j]) (ku (g:={ g with own:=λ_=>none }) A hr.empty (H x (by rw[j];simp[Op.operands])))
 .rename_i x j;obtain⟨L,C⟩:=Tb A (H x (by rw[j];simp[Op.operands]));refine⟨_,false,L,a.eval x,?_,he x⟩;unfold execOp;rw[j];rcases C with⟨ad,C⟩|⟨f,cs,C⟩<;>simp[C]
 .rename_i op t x y W j;exact J (s:=do eqGuard op t x y (a.eval x) (a.eval y);binOp op t (a.eval x) (a.eval y)) (by unfold execOp;rw[j]) (S3 A (H x (by rw[j];simp[Op.operands])) (H y (by rw[j];simp[Op.operands])))
 .rename_i U dst x j;cases S:P.underlying U with
  |none=>grind
  |some d =>
   simp only[S,Option.isSome_some,wp] at A;exact J (s:=convert U dst (a.eval x)) (by unfold execOp;rw[j]) (kY (g:={ g with own:=λ_=>none }) A hr.empty (H x (by rw[j];simp[Op.operands])) ⟨d,S⟩)
 ·rename_i t x lo D mx j;exact J (s:=Instr.sliceAt t (a.eval x) (lo.map a.eval) (D.map a.eval) (mx.map a.eval)) (by unfold execOp;rw[j]) (jq A (H x (by rw[j];simp[Op.operands]))
   (EO (λy L=>by rw[j,L];simp[Op.operands])) (EO (λy L=>by rw[j,L];simp[Op.operands])) (EO (λy L=>by rw[j,L];simp[Op.operands])))
 .rename_i t x f j;exact J (s:=Instr.fieldAt t (a.eval x) f) (by unfold execOp;rw[j]) (YH A (H x (by rw[j];simp[Op.operands])))
 .rename_i t x i j;exact J (s:=Instr.indexAt t (a.eval x) (a.eval i)) (by unfold execOp;rw[j]) (YI A (H x (by rw[j];simp[Op.operands])) (H i (by rw[j];simp[Op.operands])))
 ·rename_i b B E j;have O:dz g [] w (B.toList.map e) (B.map a.eval):=by
   refine⟨aq,λi x D=>?_⟩;rw[wE] at D;cases X:B.toList[i]? with
   |none=>simp[X] at D
   |some y =>
    rw[X] at D;obtain rfl:=we D;refine⟨a.eval y,by rw[Array.getElem?_map,←vD,X];rfl,H y ?_⟩;rw[j];have:=wx X;simpa [Op.operands,Call.operands] using this
  have Y:∀(s:Sem Value),builtin b E o.type (B.map λ|.const _=>true|_=>false) (B.map a.eval)=(do pure (.value (←s)))->execOp a.eval o=(do pure (.value (←s))):=by
   intro s S;unfold execOp;rw[j];show(do let d ←Go.resolve a.eval { callee:=.builtin b,args:=B,argTypes:=E } o.type;invoke d.target d.args)=_;exact S
  have Gn:∀{x:T},B.toList.map e=[x]->∃u,B.map a.eval = #[u]/\g.VR [] w x u:=by
   intro x hx;rw[hx] at O;obtain⟨v,V,N⟩:=O.2 0 x rfl;refine⟨v,?_,N⟩;have h1:(B.map a.eval).size=1:=O.1.symm;apply Array.ext (by simp[h1]);intro i D _;have:i=0:=by omega
   subst this;rw[wK D] at V;simpa using we V
  have fj:∀{x y:T},B.toList.map e=[x,y]->∃u v,B.map a.eval = #[u,v]/\g.VR [] w x u/\g.VR [] w y v:=by
   intro x y hx;rw[hx] at O;obtain⟨u,C,M⟩:=O.2 0 x rfl;obtain⟨v,V,N⟩:=O.2 1 y rfl;refine⟨u,v,?_,M,N⟩;have h1:(B.map a.eval).size=2:=O.1.symm;apply Array.ext (by simp[h1]);intro i D _;have:i=0∨i=1:=by omega
   rcases this with rfl|rfl
   .rw[wK D] at C;simpa using we C
   .rw[wK D] at V;simpa using we V
  have tl:∀{t:TypeId} {l:List TypeId},E.toList=t::l->E[0]?=some t:=by
   intro t l he;rw[←vD,he];rfl
  unfold Zc at A;split at A
  .rename_i t l x Z Q;obtain⟨u,C,M⟩:=Gn Q;exact J (Y (Builtin.len_ E o.type (B.map a.eval)) rfl) (by rw[C];exact S9 (ty:=o.type) A M (tl Z))
  .rename_i t l x Z Q;obtain⟨u,C,M⟩:=Gn Q;exact J (Y (Builtin.cap_ E o.type (B.map a.eval)) rfl) (by rw[C];exact Ta (ty:=o.type) A M (tl Z))
  .rw[j] at I;simp[DA] at I
  .rw[j] at I;simp[DA] at I
  .rw[j] at I;simp[DA] at I
  .rename_i x y Q;obtain⟨u,v,C,M,N⟩:=fj Q;exact J (Y (Builtin.min_ E o.type (B.map a.eval)) rfl) (by rw[C];exact yx (ty:=o.type) (ts:=E) A M N)
  .rename_i x y Q;obtain⟨u,v,C,M,N⟩:=fj Q;exact J (Y (Builtin.max_ E o.type (B.map a.eval)) rfl) (by rw[C];exact yx (ty:=o.type) (ts:=E) A M N)
  .rw[j] at I;simp[DA] at I
  grind
def qgJ{a}(d:M8 a=true)(e:Operand->T)(h h':qa)(k:Bool->T->Option R):Qh P K a e h (λy _ wr=>k wr y)=Qh P K a e h' (λy _ wr=>k wr y):=by
 cases a<;>first|rfl|(simp[M8] at d;done)|skip
 case makeFunc fn first cap=>cases fn<;>rfl
end
def CI(P:Program)(Gl:t9)(aa:t8)(nt:Nat)(o:Oper)(a:Act)(w:World)(g:Gh)(h:qa)(s':St):Prop :=
 ∀(ro:Option Nat) (n:Nat) (next:Act->World->Prop) (Q:Exit->Act->World->Prop),(∀d w' e,SR Gl aa nt e s' d w'->dy g h w e s'.h w'->d.defers=a.defers->next d w')->o.wpIn (QM ro) n P a w next Q
section
variable {P:Program} {Gl:t9} {K:bv} {R:Type} {aa:t8} {nt:Nat} {g:Gh} {s:St} {a:Act} {w:World}
def JL{h0}{o}{v}{w'}{s'}{g'}(h:(execOp a.eval o).run P w = .ok (.value v) w')(d:SR Gl aa nt g' s' (a.put o.dst v) w')(e:dy g h0 w g' s'.h w'):CI P Gl aa nt o a w g h0 s':=by
 intro ro n next Q hn
 refine⟨λ_ _=>trivial,?_⟩;rw[Yk h aq];exact hn _ _ g' d e (zd _ _ _)
def qki{h0}{o}{w'}{s'}{g'}(h:(execOp a.eval o).run P w = .ok .skip w')(d:SR Gl aa nt g' s' (a.put o.dst undef) w')(e:dy g h0 w g' s'.h w'):CI P Gl aa nt o a w g h0 s':=by
 intro ro n next Q hn
 refine⟨λ_ _=>trivial,?_⟩;rw[Yk h aq];exact hn _ _ g' d e (zd _ _ _)
def kZ{A}{v:T}{k}{r:A}(h:EE v k=some r):k v=some r:=by
 cases v with
 |bool b=>cases b<;>exact h
 |_=>exact h
def k8{o}{v:T}{h'}{hp}{rs}{rd wr}{k:dJ->FP->Option R}{r:R}(e:done nt o s v hp rs rd wr k=some r)(E:SR Gl aa nt g s a w)(he:hp.getD s.h=h')(D:Yz P o a w (ij g s.h w v h')) :
 ∃f H,k f H=some r/\CI P Gl aa nt o a w g s.h (f.eP s):=by
 unfold done at e;cases u:o.dst with
 |none =>
  rw[u] at e;refine⟨_,_,e,λro n next Q hn=>D ro n next Q λI w' B=>?_⟩;obtain⟨x,A,hx,j,i⟩:=B;rw[u];subst he;exact hn _ _ x (E.Af A j i rfl) (i.TA j) rfl
 |some d =>
  rw[u] at e;obtain⟨C,e⟩:=qo e;simp only[wd,wR] at C;refine⟨_,_,kZ e,λro n next Q hn=>D ro n next Q λI w' B=>?_⟩;obtain⟨x,A,hx,j,i⟩:=B;rw[u];subst he;exact hn _ _ x (E.done (Qe C.1) A hx j i rfl C.2) (i.TA j) (zd _ _ _)
def QH(u:aS P Gl K){o}{k}{r:R}(d:Qi P K Gl aa nt o s k=some r)(e:SR Gl aa nt g s a w) :
 ∃f x,k f x=some r/\CI P Gl aa nt o a w g s.h (f.eP s):=by
 unfold Qi at d;rcases qw d with⟨hn,d⟩|⟨_,d⟩
 .rcases vI _ _▸hn with B|hm
  .rw[qgJ (P:=P) (K:=K) B (Ab.ev Gl aa s) [] s.h (λwr v=>bif wr then none else done nt o s v none (Qz o.op) false false k)] at d;obtain⟨y,h',wr,d,j,i⟩:=TI u d e.hr e.eQ e.ev;rcases qw d with⟨_,d⟩|⟨hw,d⟩
   .cases d
   obtain rfl:=j hw;exact k8 d e rfl i
  .simp only[wd] at hm;obtain⟨y,wr,d,v,C,A⟩:=qft hm.1 hm.2 d e.hr e.ev;rcases qw d with⟨_,d⟩|⟨_,d⟩
   .cases d
   exact k8 d e rfl (Zo C (.pure e.hr A))
 ·obtain⟨y,h',wr,d,j,i⟩:=TI u d e.hr e.eQ e.ev;obtain⟨f,x,E,D⟩:=k8 d e (by
   cases wr with
   |true=>rfl
   |false=>exact(j rfl).symm) i
  grind
def Kx{x}{t off}(f:base aa s x=some (t,off))(k:SR Gl aa nt g s a w){cells}(r:s.at t = .ag cells) :
 t∈aa/\∃cb arr e,mR g s.h w t (a.tmps.getD t undef) cells cb arr e/\a.eval x = .pointer (some ⟨cb,off,none⟩):=by
 cases x with
 |tmp d =>
  simp only[base] at f;cases o:aa.contains d with
  |true =>
   rw[o] at f;simp only[wp,wj,wA] at f;obtain⟨rfl,rfl⟩:=f;have i:d∈aa:=by grind
   obtain⟨cb,arr,e,j⟩:=k.eW d i cells r;exact⟨i,cb,arr,e,j,j.ptr⟩
  |false =>
   rw[o] at f;simp only[wq] at f;obtain⟨i,_,cb,A,u⟩:=k.loc d t off f;obtain⟨B,arr,e,j⟩:=k.eW t i cells r;have:=j.ptr;rw[A] at this;simp only[Value.pointer.injEq,wj,Addr.mk.injEq,and_true] at this;subst this;exact⟨i,cb,arr,e,j,u⟩
 |_=>cases f
def qic{x}{t off}(k:base aa s x=some (t,off))(f:SR Gl aa nt g s a w){cells}(j:s.at t = .ag cells) :
 t∈aa/\∃cb,a.tmps.getD t undef = .pointer (some ⟨cb,0,none⟩)/\a.eval x = .pointer (some ⟨cb,off,none⟩):=by
 obtain⟨i,cb,r,e,o,d⟩:=Kx k f j;exact⟨i,cb,o.ptr,d⟩
def mR.gy{h}{t}{v}{cells}{cb}{arr}{e}(d:mR g h w t v cells cb arr e):eu g h w cb 0 cells:=by
 intro o c f;obtain⟨u,k,j,i⟩:=d.cell o c f;exact⟨u,⟨by simp[World.cell?,d.heap,k],j⟩,i⟩
def Ky{o:Oper}{x}{t off A:Nat}{rs}{k:dJ->FP->Option R}{r:R}{cells:t7}(C:s.at t = .ag cells)(e:z9 aa nt o t A rs k=some r)(D:base aa s x=some (t,off))(j:SR Gl aa nt g s a w)
 (J:∀cb,a.eval x = .pointer (some ⟨cb,off,none⟩)->(execOp a.eval o).run P w = .ok (.value (.pointer (some ⟨cb,A,none⟩))) w):∃f I,k f I=some r/\CI P Gl aa nt o a w g s.h (f.eP s):=by
 unfold z9 at e;cases i:o.dst with
 |none=>rw[i] at e;cases e
 |some d =>
  rw[i] at e;obtain⟨u,e⟩:=qo e;simp only[wd,wR] at u;obtain⟨B,cb,H,E⟩:=qic D j C;refine⟨_,_,e,JL (g':=g) (J cb E) ?_ (dy.refl _ _ _)⟩;rw[i];exact j.DN (Qe u.1) B rx H
def TJ(O:aS P Gl K){o:Oper}{k:dJ->FP->Option R}{r:R}(j:zZ P K Gl aa nt o s k=some r)(C:SR Gl aa nt g s a w) :
 ∃f fp,k f fp=some r/\CI P Gl aa nt o a w g s.h (f.eP s):=by
 unfold zZ at j;split at j
 .rename_i I x E;cases H:o.dst with
  |none=>rw[H] at j;cases j
  |some d =>
   rw[H] at j;rcases qw j with⟨Z,j⟩|⟨Z,j⟩
   .obtain⟨B,j⟩:=qo j;obtain⟨X,c2,c3⟩:=(C.ev x).eS B;unfold done at j;rw[H] at j;obtain⟨M,j⟩:=qo j;simp only[wd,wR] at M;obtain⟨Q,W,L⟩:=C.box (e:=I) (Qe M.1) (by simpa using Z) M.2 X c2 c3;refine⟨_,_,kZ j,JL (g':=Q) ?_ (by rw[H];exact W) L⟩;unfold execOp;rw[E];rfl
   .exact QH O j C
 .rename_i I E;cases H:o.dst with
  |none=>rw[H] at j;cases j
  |some d =>
   rw[H] at j;rcases qw j with⟨Z,j⟩|⟨Z,j⟩
   .obtain⟨hz,j⟩:=qo j;obtain⟨z,hz,S,nG,iW,rA,sa⟩:=Zx (P:=P) (g:=g) (h:=s.h) (w:=w) hz;unfold done at j;rw[H] at j;obtain⟨M,j⟩:=qo j;simp only[wd,wR] at M;obtain⟨Q,W,L⟩:=C.box (e:=I) (Qe M.1) rx M.2 nG rA sa;refine⟨_,_,kZ j,JL (g':=Q) ?_ (by rw[H];exact W) L⟩;unfold execOp;rw[E];simp[Instr.alloc,hz,newVar,newRow]
   .exact QH O j C
 .rename_i I x E;cases D:base aa s x with
  |none=>rw[D] at j;exact QH O j C
  |some p =>
   obtain⟨t,A⟩:=p;rw[D] at j;dsimp only at j;cases B:s.at t with
   |ag cells =>
    rw[B] at j;obtain⟨hm,cb,arr,e,U,J⟩:=Kx D C B;obtain⟨y,j,u,V,od⟩:=IL j (U.gy.drop A);rw[wo] at V;refine k8 j C rfl (ze (s:=Instr.loadAt I (a.eval x)) (by unfold execOp;rw[E]) ?_ (.pure C.hr od));rw[J];simp[Instr.loadAt,Instr.sureAddr,V]
   |_=>rw[B] at j;cases j
 .rename_i I x v E;cases D:base aa s x with
  |none=>rw[D] at j;exact QH O j C
  |some p =>
   obtain⟨t,A⟩:=p;rw[D] at j;dsimp only at j;cases B:s.at t with
   |ag cells =>
    rw[B] at j;cases H:o.dst with
    |some d=>rw[H] at j;cases j
    |none =>
     rw[H] at j;obtain⟨Y,j⟩:=qo j;simp only[wd,vm] at Y;obtain⟨⟨⟨S,dY⟩,al⟩,bz⟩:=Y;have bz:=Qr bz;obtain⟨hm,cb,arr,e,U,J⟩:=Kx D C B;obtain⟨X,c2,c3⟩:=(C.ev v).eS al;have aY:=U.len;have gn:A+(a.eval v).cells.size<=arr.size:=by rw[←X,dY];omega
     have rq:A+(a.eval v).cells.toList.length<=arr.size:=by omega
     have V:=SY (P:=P) (w:=w) (v:=a.eval v) S (by rw[←X,dY]) U.heap gn c2;have sJ:A+(Ab.ev Gl aa s v).cells.length<=cells.length:=by rw[dY];exact bz
     obtain⟨Q,W,L⟩:=C.DL hm B U (arr':=(arr.toList.take A++(a.eval v).cells.toList++arr.toList.drop (A+(a.eval v).cells.toList.length)).toArray) (cells':=yZ cells A (Ab.ev Gl aa s v).cells)
      (Zp arr _ _ rq) (by rw[kw _ _ _ sJ];exact aY) (λi c N=>by
       rw[JF _ _ _ _ sJ] at N;rw[IM arr _ _ _ rq];by_cases lC:A<=i/\i<A+(Ab.ev Gl aa s v).cells.length
       .rw[wl lC] at N;rw[wl (by simp only[xz,←X];exact lC)];grind
       .rw[wh lC] at N;rw[wh rx];exact U.cell i c N)
     refine⟨_,_,j,qki (g':=Q) ?_ (by rw[H];exact W) L⟩;unfold execOp;rw[E];simp only[J,Instr.storeAt,Instr.sureAddr,Sem.run_bind,Sem.run_pure,Result.andThen_ok,V]
   |_=>rw[B] at j;cases j
 .rename_i I x f E;cases D:base aa s x with
  |none=>rw[D] at j;exact QH O j C
  |some p =>
   obtain⟨t,A⟩:=p;rw[D] at j;dsimp only at j;cases B:s.at t with
   |ag cells =>
    rw[B] at j;dsimp only at j;cases L:Zj P I f with
    |none=>rw[L] at j;cases j
    |some q =>
     obtain⟨fo,fty⟩:=q;rw[L] at j;obtain⟨fs,x',hu,oA,rfl,rfl,S,IN⟩:=JG L;refine Ky B j D C (λcb J=>?_);unfold execOp;rw[E];have V:∀ad:Addr,(fieldPlace ad x').run P w = .ok (ad.add x'.offset) w:=by
      intro ad;simp[fieldPlace,Qj S,IN]
     simp[J,Instr.fieldAt,Instr.sureAddr,qq hu,oA,V,QQ]
   |_=>rw[B] at j;cases j
 .rename_i I x i E;cases D:base aa s x with
  |none=>rw[D] at j;exact QH O j C
  |some p =>
   obtain⟨t,A⟩:=p;rw[D] at j;dsimp only at j;cases B:s.at t with
   |ag cells =>
    rw[B] at j;dsimp only at j;cases N:Ab.ev Gl aa s i with
    |int ki i' =>
     rw[N] at j;cases ha:QT P I with
     |none=>rw[ha] at j;cases j
     |some q =>
      obtain⟨n,e⟩:=q;rw[ha] at j;obtain⟨Y,j⟩:=qo j;simp only[wd,wm] at Y;obtain⟨⟨S,h0⟩,M⟩:=Y;have I1:=C.ev i;rw[N] at I1;have I1:=I1.int;have j:=Zb ab j;refine Ky B j D C (λcb J=>?_);unfold execOp;rw[E];simp[J,I1,Instr.indexAt,Instr.sureAddr,asIntOf,qq (yg ha),h0,M,Qj S,QQ]
    |_=>rw[N] at j;cases j
   |_=>rw[B] at j;cases j
 .rename_i x E;cases D:base aa s x with
  |none=>rw[D] at j;exact QH O j C
  |some p =>
   obtain⟨t,A⟩:=p;rw[D] at j;dsimp only at j;cases B:s.at t with
   |ag cells =>
    rw[B] at j;refine Ky B j D C (λcb J=>?_);unfold execOp;rw[E];simp[J]
   |_=>rw[B] at j;cases j
 .exact QH O j C
end
section
variable {P:Program} {Gl:t9} {K:bv} {R:Type} {aa:t8} {nt:Nat} {g:Gh} {s:St} {a:Act} {w:World}
def TK(P:Program)(Gl:t9)(aa:t8)(nt:Nat)(ops:Array Oper)(o:Oper)(a:Act)(w:World)(g:Gh)(h:qa)(s':St):Prop :=
 ∀(ro:Option Nat) (n:Nat) (next:Act->World->Prop) (Q:Exit->Act->World->Prop),(∀d w' e,SR Gl aa nt e s' d w'->dy g h w e s'.h w'->d.defers=a.defers->next d w') →
  if Region.wanted o (yielded ops a.tmps) then o.wpIn (QM ro) n P a w next Q else next (a.put o.dst undef) w
def qfu{o}{k}{r:R}(e:Zl P Gl aa nt o s k=some r)(d:SR Gl aa nt g s a w) :
 ∃f u,k f u=some r/\CI P Gl aa nt o a w g s.h (f.eP s):=by
 unfold Zl at e;split at e
 .rename_i t len ps j;obtain⟨y,i,v,w',A,x⟩:=qam e d.hr aq (NT d.ev);exact k8 i d rfl (ze (KT j) A x)
 grind
def qfv(W:aS P Gl K){ops}{o}{k}{r:R}(i:zw P K Gl aa nt ops.toList o s k=some r)(u:SR Gl aa nt g s a w) :
 ∃f I,k f I=some r/\TK P Gl aa nt ops o a w g s.h (f.eP s):=by
 unfold zw at i;cases J:o.guard with
 |none =>
  rw[J] at i;obtain⟨M,I,S,O⟩:∃f I,k f I=some r/\CI P Gl aa nt o a w g s.h _:=by
   rcases qw i with⟨_,i⟩|⟨_,i⟩
   .exact qfu i u
   .exact TJ W i u
  exact⟨M,I,S,λro n next Q hn=>by rw[wl (by simp[Region.wanted,J])];exact O ro n next Q hn⟩
 |some p =>
  obtain⟨j,want⟩:=p;rw[J] at i;dsimp only at i;cases C:ZJ ops.toList j with
  |none=>rw[C] at i;cases i
  |some E =>
   rw[C] at i;dsimp only at i;cases eF:s.at E with
   |bool b =>
    rw[eF] at i;dsimp only at i;rcases qw i with⟨_,i⟩|⟨Y,i⟩
    .cases i
    have A:=u.tmps E rx;rw[eF] at A;have A:=A.bool;have N:yielded ops a.tmps j=some b:=by
     have B:(ops[j]?).bind (·.dst)=some E:=by
      unfold ZJ at C;rw[vD] at C;grind
     unfold yielded;rw[B];simp only[Option.bind_some];have D:E<a.tmps.size:=by
      rcases wu E a.tmps.size with H|H
      .exact H
      .rw[wG,xm H] at A;cases A
     rw[wG,wK D] at A;rw[wK D];simp only[xw] at A;rw[A]
    have hw:Region.wanted o (yielded ops a.tmps)=(b==want):=by simp[Region.wanted,J,N]
    have Z:(bif b then want else !want)=(b==want):=Nv b want;rw[Z] at i;rcases qw i with⟨U,i⟩|⟨U,i⟩
    .obtain⟨M,I,S,O⟩:=TJ W i u;exact⟨M,_,S,λro n next Q hn=>by rw[wl (by rw[hw];exact U)];exact O ro n next Q hn⟩
    .unfold done at i;have L:¬Region.wanted o (yielded ops a.tmps)=true:=by rw[hw,U];simp
     cases B:o.dst with
     |none =>
      rw[B] at i;refine⟨_,_,i,λ_ _ next Q hn=>?_⟩;rw[wh L];refine hn _ _ g ?_ (dy.refl _ _ _) (zd _ _ _);rw[B];exact u.Af u.hr (.refl _ _ _ _) (.refl _ _ λb o e=>(u.hr.own b o e).2) rfl
     |some d =>
      rw[B] at i;obtain⟨D,i⟩:=qo i;refine⟨_,_,kZ i,λ_ _ next Q hn=>?_⟩;rw[wh L];refine hn _ _ g ?_ (dy.refl _ _ _) (zd _ _ _);rw[B];simp only[wd,wR] at D;exact u.done (Qe D.1) u.hr (.aF _ _ (.gone _ (λb h=>by cases h))) (.refl _ _ _ _) (.refl _ _ λb o e=>(u.hr.own b o e).2) rfl D.2
   |gone =>
    rw[eF] at i;dsimp only at i;rcases qw i with⟨_,i⟩|⟨Y,i⟩
    .cases i
    have A:=u.tmps E rx;rw[eF] at A;have N:yielded ops a.tmps j=none:=by
     have B:(ops[j]?).bind (·.dst)=some E:=by
      unfold ZJ at C;rw[vD] at C;cases V:ops[j]? with
      |none=>rw[V] at C;cases C
      |some o'=>rw[V] at C;exact C
     unfold yielded;rw[B];simp only[Option.bind_some];rcases wu E a.tmps.size with H|H
     .rw[wG,wK H] at A;rw[wK H];simp only[xw] at A;have X:=A.gone;generalize a.tmps[E]=x at X;cases x<;>first|rfl|exact absurd rfl (X _)
     grind
    have hw:Region.wanted o (yielded ops a.tmps)=false:=by simp[Region.wanted,J,N]
    have L:¬Region.wanted o (yielded ops a.tmps)=true:=by rw[hw];simp
    unfold done at i;cases B:o.dst with
    |none =>
     rw[B] at i;refine⟨_,_,i,λ_ _ next Q hn=>?_⟩;rw[wh L];refine hn _ _ g ?_ (dy.refl _ _ _) (zd _ _ _);rw[B];exact u.Af u.hr (.refl _ _ _ _) (.refl _ _ λb o e=>(u.hr.own b o e).2) rfl
    |some d =>
     rw[B] at i;obtain⟨D,i⟩:=qo i;refine⟨_,_,kZ i,λ_ _ next Q hn=>?_⟩;rw[wh L];refine hn _ _ g ?_ (dy.refl _ _ _) (zd _ _ _);rw[B];simp only[wd,wR] at D;exact u.done (Qe D.1) u.hr (.aF _ _ (.gone _ (λb h=>by cases h))) (.refl _ _ _ _) (.refl _ _ λb o e=>(u.hr.own b o e).2) rfl D.2
   |_=>rw[eF] at i;cases i
def ey(P:Program)(K:bv)(Gl:t9)(aa:t8)(nt:Nat)(ops:List Oper)(o:Oper)(s:St)(f:dJ)(d:FP):Prop :=
 ∀(R:Type) (k:dJ->FP->Option R),zw P K Gl aa nt ops o s k=k f d
def TL{ops}{o}{k}{r:R}(e:zw P K Gl aa nt ops o s k=some r):∃f d,k f d=some r/\ey P K Gl aa nt ops o s f d:=by
 obtain⟨⟨f,d⟩,j,i⟩:=qM (jk P K Gl aa nt ops o s) (k:=λp=>k p.1 p.2) e;exact⟨f,d,j,λR k=>i R λp=>k p.1 p.2⟩
def ey.goes(i:aS P Gl K){ops}{o}{f}{d}(h:ey P K Gl aa nt ops.toList o s f d)(e:SR Gl aa nt g s a w):TK P Gl aa nt ops o a w g s.h (f.eP s):=by
 obtain⟨u,j,r,k⟩:=qfv i (h (dJ×FP) λf d=>some (f,d)) e;grind
inductive dG(P:Program)(K:bv)(Gl:t9)(aa:t8)(nt:Nat)(ops:List Oper):List Oper->St->St->List FP->Prop where
 |nil (s:St):dG P K Gl aa nt ops [] s s []
 |cons {o:Oper} {l:List Oper} {s s':St} {f:dJ} {fp:FP} {fH:List FP} (h:ey P K Gl aa nt ops o s f fp) (t:dG P K Gl aa nt ops l (f.eP s) s' fH):dG P K Gl aa nt ops (o::l) s s' (fp::fH)
def k9{ops}:∀(l:List Oper) {s:St} {k:St->List FP->Option R} {r:R},y5 P K Gl aa nt ops l s k=some r->∃s' fH,k s' fH=some r/\dG P K Gl aa nt ops l s s' fH
 |[],s,k,r,d=>⟨s,[],d,.nil s⟩
 |o::l,s,k,r,d=>by
  simp only[y5] at d;obtain⟨f,j,d,i⟩:=TL d;obtain⟨s',fH,d,e⟩:=k9 l d;exact⟨s',j::fH,d,.cons i e⟩
def dG.goes(o:aS P Gl K){ops}{l:List Oper}{s s'}{fH}(h:dG P K Gl aa nt ops.toList l s s' fH):∀{g:Gh} {a:Act} {w:World},SR Gl aa nt g s a w →
 ∀(ro:Option Nat) (n:Nat) (Q:Exit->Act->World->Prop),(∀d w' g',SR Gl aa nt g' s' d w'->dy g s.h w g' s'.h w'->d.defers=a.defers->Q .normal d w')->wpListIn (QM ro) n P ops Q l a w:=by
 induction h with
 |nil s=>exact λe ro n Q hn=>hn _ _ _ e (dy.refl _ _ _) rfl
 |cons r E k =>
  intro g a w e ro n Q hn;unfold wpListIn;have:=r.goes o e ro n _ Q (λd w' g' A B j=>k A ro n Q λC f x u i D=>hn C f x u (B.trans i) (D.trans j));split at this
  .grind
  .rename_i hw;rw[wh hw];exact⟨λ_ _=>trivial,this⟩
end
section
variable {P:Program} {K:bv} {Gl:t9} {aa:t8} {nt:Nat} {s s1 s':St} {f:dJ} {fp:FP}
def qdX{o}(d:Zl P Gl aa nt o s two=some (f,fp))(g:ie s s1 fp):Zl P Gl aa nt o s1 two=some (f,fp):=by
 unfold Zl at d ⊢;split at d
 ·rename_i t len ps a;rw[a];obtain⟨y,j,x⟩:=qM (ZA P t len (ps.toList.map λp=>(p.1,ev Gl aa s p.2))) (k:=λv=>done nt o s v none (Qz o.op) false false two) d;obtain⟨u,B,A,i⟩:=Zd (s1:=s1) j;have he:(ps.toList.map λp=>(p.1,ev Gl aa s1 p.2))=ps.toList.map λp=>(p.1,ev Gl aa s p.2):=ve λp e=>by
   rw[kW λt r=>g.at' t ?_];rw[u];refine xQ.2 ⟨p.2,?_,r⟩;rw[a];simp only[Op.operands]
   first
    |(simp only[uo,wY];exact⟨p,e,rfl⟩)
    |(simp;exact⟨p.1,by simpa using e⟩)
  rw[he];have:=x _ λv=>done nt o s1 v none (Qz o.op) false false two;rw[a] at this i;rw[this];exact i g.used
 omega
def TM{o}(d:∀t∈Qz o.op,t∈fp.rs)(i:ie s s1 fp):jc Gl aa s1 o=jc Gl aa s o:=by
 unfold jc;cases g:o.op with
 |buildSlice t len ps =>
  dsimp only;have he:∀p∈ps.toList,ev Gl aa s1 p.2=ev Gl aa s p.2:=λp a=>by
   refine kW λt e=>i.at' t (d t (xQ.2 ⟨p.2,?_,e⟩));rw[g];simp only[Op.operands]
   first
    |(simp only[uo,wY];exact⟨p,a,rfl⟩)
    |(simp;exact⟨p.1,by simpa using a⟩)
  rw[Bool.eq_iff_iff,wD,wD];grind
 |_=>rfl
def qid{o}(a:Zl P Gl aa nt o s two=some (f,fp)):∀t∈Qz o.op,t∈fp.rs:=by
 unfold Zl at a;split at a
 .rename_i t len ps i;obtain⟨y,d,x⟩:=qM (ZA P t len (ps.toList.map λp=>(p.1,ev Gl aa s p.2))) (k:=λv=>done nt o s v none (Qz o.op) false false two) a;obtain⟨g,u,r,j⟩:=Zd (s1:=s) d;exact λt e=>g▸e
 grind
def qie{o}(a:zZ P K Gl aa nt o s two=some (f,fp))(e:ie s s1 fp):jc Gl aa s1 o=jc Gl aa s o:=by
 cases d:o.op with
 |buildSlice t len ps =>
  unfold zZ at a;rw[d] at a;dsimp only at a;exact TM (Qt (s1:=s1) a).1 e
 |_=>simp only[jc,d]
def qdY{ops}{o:Oper}(a:zw P K Gl aa nt ops o s two=some (f,fp))(d:ie s s1 fp):zw P K Gl aa nt ops o s1 two=some (f,fp):=by
 unfold zw at a ⊢;cases C:o.guard with
 |none =>
  rw[C] at a;dsimp only at a ⊢;cases hz:(Sp K.cJ ops o&&jc Gl aa s o) with
  |true =>
   rw[hz] at a;rw[TM (qid a) d,hz];exact qdX a d
  |false =>
   rw[hz] at a;rw[qie a d,hz];exact SP a d
 |some p =>
  obtain⟨j,want⟩:=p;rw[C] at a;dsimp only at a ⊢;cases B:ZJ ops j with
  |none=>rw[B] at a;cases a
  |some g =>
   rw[B] at a;dsimp only at a ⊢;cases eF:s.at g with
   |bool b =>
    rw[eF] at a;dsimp only at a;cases r:aa.contains g with
    |true=>rw[r] at a;cases a
    |false =>
     rw[r] at a;simp only[wq] at a;cases hw:(bif b then want else !want) with
     |true =>
      rw[hw] at a;simp only[wp] at a;obtain⟨⟨M,J⟩,i,H⟩:=qM (ye P K Gl aa nt o s) (k:=λp=>two p.1 { p.2 with rs:=g::p.2.rs }) a;simp only[wj,wA] at i;obtain⟨rfl,rfl⟩:=i;have u:ie s s1 J:=⟨λe he=>d.at' e (wX _ he),λe he=>d.loc e (wX _ he),d.used,d.heap,d.w4⟩;have E:=SP (H _ λp=>two p.1 p.2) u;rw[d.at' g vO,eF];simp only[wq,wp,hw];obtain⟨q,A,D⟩:=qM (ye P K Gl aa nt o s1) (k:=λp=>two p.1 p.2) E;obtain⟨L,I⟩:=q;simp only[wj,wA] at A;obtain⟨rfl,rfl⟩:=A;exact D _ λp=>two p.1 { p.2 with rs:=g::p.2.rs }
     |false =>
      rw[hw] at a;simp only[wq] at a;obtain⟨i,_,_,x⟩:=Zd (s1:=s1) a;rw[d.at' g (i▸vO),eF];simp only[wq,hw];exact x d.used
   |gone =>
    rw[eF] at a;dsimp only at a;cases r:aa.contains g with
    |true=>rw[r] at a;cases a
    |false =>
     rw[r] at a;simp only[wq] at a;obtain⟨i,_,_,x⟩:=Zd (s1:=s1) a;rw[d.at' g (i▸vO),eF];simp only[wq];exact x d.used
   |_=>rw[eF] at a;cases a
def ey.congr{ops}{o:Oper}(h:ey P K Gl aa nt ops o s f fp)(a:ie s s1 fp):ey P K Gl aa nt ops o s1 f fp:=by
 obtain⟨i,d,g,e⟩:=TL (qdY (h _ two) a);grind
structure Fits(f:dJ)(fp:FP):Prop where
 slot:∀d v,f.slot=some (d,v)->d∈fp.ws/\d<1024
 place:∀d p,f.place=some (d,p)->d∈fp.ws/\∀t o,p=some (t,o)->t∈fp.rs
 heap:∀h,f.heap=some h->fp.wr=true
def ZL(k:nt<=1024){o}{v:T}{hp:Option qa}{rs:t8}{rd wr:Bool}(hw:∀h,hp=some h->wr=true)(a:done nt o s v hp rs rd wr two=some (f,fp)):Fits f fp:=by
 unfold done at a;cases g:o.dst with
 |none =>
  rw[g] at a;simp only[wj,wA] at a;obtain⟨rfl,rfl⟩:=a;exact⟨λd v h=>(by cases h),λd v h=>(by cases h),hw⟩
 |some d =>
  rw[g] at a;dsimp only at a;cases e:(Nat.blt d nt&&!s.used d) with
  |false=>rw[e] at a;cases a
  |true =>
   rw[e] at a;simp only[wp,zE,wj,wA] at a;obtain⟨rfl,rfl⟩:=a;simp only[wd] at e;have:=Qe e.1;refine⟨λi j h=>?_,λi p h=>?_,hw⟩
   .simp only[wj,wA] at h;obtain⟨rfl,_⟩:=h;exact⟨aq,ab⟩
   grind
def TN(x:nt<=1024){o}{v:T}{hp:Option qa}{rs:t8}{rd wr:Bool}{rb wb:Option Nat×Bool}(hw:∀h,hp=some h->wr=true)(r:done nt o s v hp rs rd wr (λf fp=>two f { fp with rb:=rb,wb:=wb })=some (f,fp)) :
 Fits f fp/\f.heap=hp/\fp.wb=wb:=by
 obtain⟨⟨A,B⟩,j,u⟩:=qM (ZV nt o s v hp rs rd wr) (k:=λp=>two p.1 { p.2 with rb:=rb,wb:=wb }) r;simp only[wj,wA] at j;obtain⟨rfl,rfl⟩:=j;have a:=u _ λp=>two p.1 p.2;have e:=ZL x hw a;refine⟨⟨e.slot,e.place,e.heap⟩,?_,rfl⟩;unfold done at a;cases g:o.dst with
 |none =>
  rw[g] at a;simp only[wj,wA] at a;rw[←a.1]
 |some d =>
  rw[g] at a;dsimp only at a;cases i:(Nat.blt d nt&&!s.used d) with
  |false=>rw[i] at a;cases a
  |true =>
   rw[i] at a;simp only[wp,zE,wj,wA] at a;rw[←a.1]
def lk(s:St)(f:dJ)(fp:FP):Prop:=(∀h i,f.heap=some h->fp.wb.1=some i->∀j:Nat,j≠i->h[j]?=s.h[j]?)/\(∀h,f.heap=some h->fp.wb.2=true->∀j,Ba h j=Ba s.h j)
def lk.no{s:St}{f:dJ}{fp:FP}(h:fp.wb=(none,false)):lk s f fp:=⟨λ_ i _ hw=>(by rw[h] at hw;cases hw),λ_ _ hw=>(by rw[h] at hw;cases hw)⟩
def lk.TP{s:St}{f:dJ}{fp:FP}(h:f.heap=none):lk s f fp:=⟨λ_ i a=>(by rw[h] at a;cases a),λ_ a=>(by rw[h] at a;cases a)⟩
def kF{h}{b:ap}{j:Nat}(a:j≠h.length):(h++[b])[j]?=h[j]?:=by
 grind
def JM{h:qa}{b}{i j:Nat}(a:j≠i):(h.set i b)[j]?=h[j]?:=vd (λq=>a q.symm)
def k3{y a:T}{h h2:qa}{w d:Bool}(h0:some (y,h,w)=some (a,h2,d)):y=a/\h=h2:=by
 grind
def qb9{t}{u x:T}{h:qa}{y:T}{h':qa}{wr:Bool}{i:Nat}(r:Z8 P t u x h (λy h w=>some (y,h,w))=some (y,h',wr))(B:ED y=some i):∀j:Nat,j≠i->h'[j]?=h[j]?:=by
 intro j D;have C:∀{A v o l:Nat} {c:Option Nat},T.own A v o l c=y->A=i:=λe=>by subst e;simpa [ED] using B
 unfold Z8 at r;cases he:qZ P t with
 |none=>rw[he] at r;cases r
 |some e =>
  rw[he] at r;dsimp only at r;obtain⟨_,r⟩:=Qc r;obtain⟨⟨m,H,I⟩,r,_⟩:=qM (f:=λR k=>Y3 (R:=R) ((Ql P e).all qK) (qS P e) x h λa b c=>k (a,b,c)) (jh _ _ _ x) (k:=λp=>match u with
  |.ae=>bif p.1==0 then some (T.ae,h,false)
   else bif Kn P e p.1 then some (T.own h.length 0 0 p.1 none,h++[⟨0,qS P e,p.1,p.2.1,Qd p.1 p.2.1 p.2.2,false,none⟩],true) else none
  |.view sz n g cap=>bif sz==qS P e then bif p.1==0 then some (u,h,false) else match cap with
   |some c=>bif Nat.blt c (n+p.1)&&Kn P e (n+p.1) then
    some (.own h.length 0 0 (n+p.1) none,h++[IB ((Ql P e).all qK) sz n p.1 g p.2.1 (Qd p.1 p.2.1 p.2.2)],true) else none
   |none=>none
   else none
  |.own i aj d len cap=>Qf h i aj λb=>bif (b.sz==qS P e)&&Nat.ble (d+len) b.n then
   bif p.1==0 then some (u,h,false) else
   bif Kn P e (len+p.1) then
    match cap with
    |some c=>bif Nat.ble (len+p.1) c then
     bif Nat.ble (d+len+p.1) b.n then
      some (.own i aj d (len+p.1) cap,h.set i { b with get:=λj=>bif Nat.ble (d+len) j&&Nat.blt j (d+len+p.1) then p.2.1 (j-(d+len)) else b.get j,flat:=b.flat&&Qd p.1 p.2.1 p.2.2 },true)
     else none
     else some (.own h.length 0 0 (len+p.1) none,h++[QB 0 b.sz len p.1 (λj=>b.get (d+j)) p.2.1 (b.flat&&Qd p.1 p.2.1 p.2.2)],true)
    |none=>bif Nat.ble (d+len+p.1) b.n then
     some (.own i aj d (len+p.1) none,h.set i { b with get:=λj=>bif Nat.ble (d+len) j&&Nat.blt j (d+len+p.1) then p.2.1 (j-(d+len)) else b.get j,flat:=b.flat&&Qd p.1 p.2.1 p.2.2 },true)
     else some (.own i (aj+1) 0 (len+p.1) none,h.set i (QB (aj+1) b.sz len p.1 (λj=>b.get (d+j)) p.2.1 (b.flat&&Qd p.1 p.2.1 p.2.2)),true)
   else none
   else none
  |_=>none) r
  dsimp only at r;cases u with
  |ae =>
   grind
  |view sz n g cap =>
   grind
  |own A aj d len cap =>
   dsimp only at r;obtain⟨b,E,J,L,r⟩:=Y8 r;grind
  |_=>cases r
def TQ{R}{t:TypeId}{x:T}{h:qa}{k:Nat->ap->bk->Option R}{r:R}(a:Y4 P t x h k=some r):∃i b m,k i b m=some r/\Je x=some i:=by
 unfold Y4 at a;cases x with
 |mp i aj =>
  dsimp only at a;unfold y9 at a;cases g:h[i]? with
  |none=>rw[g] at a;cases a
  |some b =>
   rw[g] at a;dsimp only at a;obtain⟨_,a⟩:=Qc a;cases e:b.mp with
   |none=>rw[e] at a;cases a
   |some m =>
    rw[e] at a;dsimp only at a;cases d:JZ P t with
    |none=>rw[d] at a;cases a
    |some p =>
     obtain⟨j,ks,q⟩:=p;rw[d] at a;dsimp only at a;obtain⟨_,a⟩:=Qc a;exact⟨i,b,m,a,rfl⟩
 |_=>cases a
def TS{R}{t:TypeId}{x key:T}{h:qa}{k:Nat->ap->bk->List Int->Option R}{r:R}(a:Z5 P t x key h k=some r):∃i b m l,k i b m l=some r/\Je x=some i:=by
 unfold Z5 at a;obtain⟨i,b,m,a,d⟩:=TQ a;obtain⟨l,a,_⟩:=qM (Y6 m.ks key) a;grind
def ju{D:Op}{e:Operand->T}{h:qa}{y:T}{h':qa}{wr:Bool}{i:Nat}(d:Qh P K D e h (λy h w=>some (y,h,w))=some (y,h',wr))(g:kS D e h y=some i):∀j:Nat,j≠i->h'[j]?=h[j]?:=by
 intro j E;cases D with
 |store t a v =>
  simp only[kS] at g;cases hx:e a with
  |ptr u aj N o =>
   rw[hx] at g;obtain rfl:u=i:=by simpa [jb] using g
   simp only[Qh,K2,hx] at d;obtain⟨b,O,Q,R,d⟩:=Ze d;grind
  |_=>rw[hx] at g;cases g
 |buildSlice t len C =>
  obtain rfl:h.length=i:=by simpa [kS] using g
  simp only[Qh,zM] at d;cases he:qZ P t with
  |none=>rw[he] at d;cases d
  |some M =>
   rw[he] at d;dsimp only at d;obtain⟨_,d⟩:=Qc d;obtain⟨H,d,_⟩:=qM (Ya _ _ _) (k:=λH=>some (T.own h.length 0 0 len (some len),h++[⟨0,qS P M,len,λj=>H.getD j [],H.all (·.all qK),Nat.ble len 8,none⟩],true)) d;grind
 |alloc J =>
  obtain rfl:h.length=i:=by simpa [kS] using g
  simp only[Qh] at d;obtain⟨_,d⟩:=Qc d;unfold Yi at d;split at d
  .grind
  .obtain⟨_,rfl⟩:=k3 d;grind
 |box J x =>
  obtain rfl:h.length=i:=by simpa [kS] using g
  simp only[Qh] at d;obtain⟨_,d⟩:=Qc d;obtain⟨_,rfl⟩:=k3 d;grind
 |makeMap t L =>
  obtain rfl:h.length=i:=by simpa [kS] using g
  cases L with
  |some x=>cases d
  |none =>
   grind[Z9,Qh]
 |mapUpdate t x key v =>
  have g:Je (e x)=some i:=g;simp only[Qh,Yj] at d;split at d
  .obtain⟨u,b,m,l,d,A⟩:=TS d;obtain⟨_,d⟩:=Qc d;obtain⟨_,rfl⟩:=k3 d;rw[A] at g;obtain rfl:=we g;exact JM E
  grind
 |mapEntry t x key =>
  have g:Je (e x)=some i:=g;simp only[Qh,yQ] at d;obtain⟨u,b,m,l,d,A⟩:=TS d;grind
 |entryStore t x st v =>
  have g:Je (e x)=some i:=g;simp only[Qh,zO] at d;split at d
  .obtain⟨u,b,m,d,A⟩:=TQ d;split at d
   .obtain⟨_,d⟩:=Qc d;obtain⟨_,rfl⟩:=k3 d;rw[A] at g;obtain rfl:=we g;exact JM E
   .cases d
  grind
 |call c =>
  obtain⟨r,I,B⟩:=c;cases r with
  |builtin b =>
   cases b with
   |append =>
    have g:ED y=some i:=g;simp only[Qh,Zc] at d;split at d
    all_goals first
     |contradiction
     |(cases d;done)
     |(obtain⟨_,d⟩:=Qc d;exact qb9 d g j E)
   |_=>cases g
  |_=>cases g
 |_=>cases g
def qlv{A}{c:Bool}{x y z:A}(h:(bif c then x else y)=z):x=z∨y=z:=by
 grind
def qgN{safe}{h:qa}{x:T}{i aj off len:Nat}{cap:Option Nat}{h':qa}(a:yO safe h x=(.own i aj off len cap,h')):∀j:Nat,j≠h.length->h'[j]?=h[j]?:=by
 intro j d;cases x with
 |agg l=>simp only[yO,wA] at a;grind
 |fresh flat sz n g len cap =>
  grind[Z4,yO]
 |iC m=>simp only[yO,Z4,wA] at a;grind
 |_=>simp only[yO,Z4,wA] at a;rw[←a.2]
def qgO{safe}{h:qa}{x:T}{i aj off len:Nat}{cap:Option Nat}{h':qa}(a:Zw safe h x=(.own i aj off len cap,h')):∀j:Nat,j≠h.length->h'[j]?=h[j]?:=by
 cases x with
 |aJ l=>simp only[Zw,wA] at a;grind
 |_=>simp only[Zw] at a;exact qgN a
def qfw{A}{e:Operand->T}{h:qa}{y:T}{h':qa}{wr:Bool}{i:Nat}(d:Qh P K A e h (λy h w=>some (y,h,w))=some (y,h',wr))(a:zY K A e h y wr=some i):∀j:Nat,j≠i->h'[j]?=h[j]?:=by
 cases A with
 |call c =>
  obtain⟨o,args,u⟩:=c;cases o with
  |value f =>
   simp only[zY] at a;simp only[Qh] at d;cases B:e f with
   |fn g D =>
    rw[B] at a d;dsimp only at a;rcases qw a with⟨_,a⟩|⟨C,a⟩
    .cases a
    .simp only[vf] at C;simp only[Km,C.1,wq] at d;obtain⟨J,d,_⟩:=qM (K.dv g _) (k:=λr=>some ((Zw ((args.toList.map e++D).all aF) h r).1,(Zw ((args.toList.map e++D).all aF) h r).2,!(Kl r))) d;simp only[wj,wA] at d;obtain⟨I,H,_⟩:=d;split at a
     .obtain⟨x,E⟩:=Qc a;have x:=vm.1 x;obtain rfl:=we E;subst x;exact qgO (Prod.ext I H)
     grind
   |_=>rw[B] at a;cases a
  |builtin b=>exact ju d a
  |invoke r m=>exact ju d a
 |_=>exact ju d a
def Kz(r:nt<=1024){o}{t off:Nat}{rs:t8}(a:z9 aa nt o t off rs two=some (f,fp)):Fits f fp:=by
 unfold z9 at a;cases i:o.dst with
 |none=>rw[i] at a;cases a
 |some d =>
  rw[i] at a;dsimp only at a;cases g:(Nat.blt d nt&&!aa.contains d) with
  |false=>rw[g] at a;cases a
  |true =>
   rw[g] at a;simp only[wp,wj,wA] at a;obtain⟨rfl,rfl⟩:=a;simp only[wd] at g;have:=Qe g.1;refine⟨λj k h=>?_,λj p h=>?_,λh e=>by cases e⟩
   .simp only[wj,wA] at h;obtain⟨rfl,_⟩:=h;exact⟨aq,ab⟩
   grind
def QI(g:nt<=1024){o}(a:Qi P K Gl aa nt o s two=some (f,fp)):Fits f fp:=by
 unfold Qi at a;cases hn:JA o.op (ev Gl aa s) with
 |true =>
  rw[hn] at a;simp only[wp] at a;obtain⟨⟨y,h',wr⟩,d,_⟩:=qM (Zm P K o.op (ev Gl aa s) []) (k:=λp=>bif p.2.2 then none else done nt o s p.1 none (Qz o.op) false false two) a;cases wr with
  |true=>cases d
  |false=>exact ZL g (λh e=>by cases e) d
 |false =>
  rw[hn] at a;simp only[wq] at a;obtain⟨⟨y,h',wr⟩,d,_⟩:=qM (Zm P K o.op (ev Gl aa s) s.h) (k:=λp=>done nt o s p.1 (bif p.2.2 then some p.2.1 else none) (Qz o.op) (QJ K o.op (ev Gl aa s)) p.2.2 λf fp=>two f { fp with rb:=(zL o.op (ev Gl aa s),Jf o.op),wb:=(zY K o.op (ev Gl aa s) s.h p.1 p.2.2,Ct o.op) }) a;refine(TN g (λh e=>?_) d).1;grind
def YM(i:nt<=1024){o}{v:T}{hp:Option qa}{rs:t8}{rd wr:Bool}(a:done nt o s v hp rs rd wr two=some (f,fp)):fp.wb=(none,false):=by
 unfold done at a;cases e:o.dst with
 |none =>
  rw[e] at a;simp only[wj,wA] at a;rw[←a.2]
 |some d =>
  rw[e] at a;dsimp only at a;cases g:(Nat.blt d nt&&!s.used d) with
  |false=>rw[g] at a;cases a
  |true =>
   rw[g] at a;simp only[wp,zE,wj,wA] at a;rw[←a.2]
def qkj{g:Op}{e:Operand->T}{h:qa}{y:T}{h':qa}{wr:Bool}(a:Qh P K g e h (λy h w=>some (y,h,w))=some (y,h',wr))(A:Ct g=true):∀j:Nat,Ba h' j=Ba h j:=by
 intro j;cases g with
 |mapEntry t x i =>
  cases hx:e x with
  |mp ii aj =>
   simp only[Qh,hx,yQ,Z5,Y4,y9] at a;cases d:h[ii]? with
   |none=>rw[d] at a;cases a
   |some b =>
    rw[d] at a;dsimp only at a;obtain⟨_,a⟩:=Qc a;cases k:b.mp with
    |none=>rw[k] at a;cases a
    |some m =>
     rw[k] at a;dsimp only at a;cases o:JZ P t with
     |none=>rw[o] at a;cases a
     |some p =>
      obtain⟨C,ks,q⟩:=p;rw[o] at a;dsimp only at a;obtain⟨_,a⟩:=Qc a;obtain⟨l,a,_⟩:=qM (Y6 m.ks (e i)) a;obtain⟨_,rfl⟩:=k3 a;have B:ii<h.length:=(xK.1 d).1;unfold Ba;by_cases r:j=ii
      .subst r;rw[wZ B,d];simp only[xg,k,bk.entry,bk.put,wj,wA,true_and];funext z;cases u:gi z l with
       |true=>rw[jK.1 u];rfl
       |false=>rfl
      grind
  |_=>(simp only[Qh,hx,yQ,Z5,Y4] at a;cases a)
 |_=>cases A
def QD(x:nt<=1024){o:Oper}(a:Qi P K Gl aa nt o s two=some (f,fp)):lk s f fp:=by
 unfold Qi at a;cases hn:JA o.op (ev Gl aa s) with
 |true =>
  rw[hn] at a;simp only[wp] at a;obtain⟨⟨y,h',wr⟩,d,_⟩:=qM (Zm P K o.op (ev Gl aa s) []) (k:=λp=>bif p.2.2 then none else done nt o s p.1 none (Qz o.op) false false two) a;cases wr with
  |true=>cases d
  |false=>exact .no (YM x d)
 |false =>
  rw[hn] at a;simp only[wq] at a;obtain⟨⟨y,h',wr⟩,d,A⟩:=qM (Zm P K o.op (ev Gl aa s) s.h) (k:=λp=>done nt o s p.1 (bif p.2.2 then some p.2.1 else none) (Qz o.op) (QJ K o.op (ev Gl aa s)) p.2.2 λf fp=>two f { fp with rb:=(zL o.op (ev Gl aa s),Jf o.op),wb:=(zY K o.op (ev Gl aa s) s.h p.1 p.2.2,Ct o.op) }) a;obtain⟨_,u,r⟩:=TN x (λh e=>rx) d;refine⟨λh i g hw j B=>?_,λh g hw j=>?_⟩
  .rw[r] at hw;have:=qfw (P:=P) (K:=K) (A _ some) hw j B;rw[u] at g;grind
  .rw[r] at hw;have:=qkj (P:=P) (K:=K) (A _ some) hw j;rw[u] at g;grind
def TT(g:nt<=1024){o}(a:zZ P K Gl aa nt o s two=some (f,fp)):Fits f fp:=by
 have k:∀h,(none:Option qa)=some h->false=true:=λh e=>by cases e
 unfold zZ at a;split at a
 .cases i:o.dst with
  |none=>rw[i] at a;cases a
  |some d =>
   rw[i] at a;rcases qw a with⟨_,a⟩|⟨_,a⟩
   .exact ZL g k (qo a).2
   .exact QI g a
 .cases i:o.dst with
  |none=>rw[i] at a;cases a
  |some d =>
   rw[i] at a;rcases qw a with⟨_,a⟩|⟨_,a⟩
   .exact ZL g k (qo a).2
   .exact QI g a
 .split at a
  .split at a
   .obtain⟨v,x,_⟩:=qM (ZU P _ _) a;exact ZL g k x
   grind
  .exact QI g a
 .split at a
  .rename_i t u _;split at a
   .rename_i cells j i;have a:=(qo a).2;simp only[wj,wA] at a;obtain⟨rfl,rfl⟩:=a;refine⟨λA B h=>?_,λA p h=>(by cases h),λh e=>by cases e⟩;simp only[wj,wA] at h;obtain⟨rfl,_⟩:=h;refine⟨aq,?_⟩;rcases wu t 1024 with r|r
    .exact r
    .rw[CF ab] at j;cases j
   grind
  .exact QI g a
 .split at a
  .split at a
   .split at a
    .exact Kz g a
    .cases a
   grind
  .exact QI g a
 .split at a
  .split at a
   .split at a
    .split at a
     .obtain⟨j,a⟩:=qo a;simp only[wd,wm] at j;exact Kz g (Zb ab a)
     .cases a
    .cases a
   grind
  .exact QI g a
 .split at a
  .split at a
   .exact Kz g a
   grind
  .exact QI g a
 .exact QI g a
def TU(e:nt<=1024){o:Oper}(a:zZ P K Gl aa nt o s two=some (f,fp)):lk s f fp:=by
 have loc:∀{t g:Nat} {rs:t8},z9 aa nt o t g rs two=some (f,fp)->lk s f fp:=λ{t g rs} a=>by
  refine .TP ?_;unfold z9 at a;grind
 have r:∀{v:T} {rs:t8},done nt o s v none rs false false two=some (f,fp)->lk s f fp:=λ{v rs} a=>.no (YM e a);unfold zZ at a;split at a
 .cases i:o.dst with
  |none=>rw[i] at a;cases a
  |some d =>
   rw[i] at a;rcases qw a with⟨_,a⟩|⟨_,a⟩
   .grind
   .exact QD e a
 .cases i:o.dst with
  |none=>rw[i] at a;cases a
  |some d =>
   rw[i] at a;rcases qw a with⟨_,a⟩|⟨_,a⟩
   .grind
   .exact QD e a
 .split at a
  .split at a
   .obtain⟨v,k,_⟩:=qM (ZU P _ _) a;exact r k
   grind
  .exact QD e a
 .split at a
  .rename_i t g _;split at a
   .rename_i cells j i;have a:=(qo a).2;simp only[wj,wA] at a;obtain⟨rfl,rfl⟩:=a;exact .TP rfl
   grind
  .exact QD e a
 .split at a
  .grind
  .exact QD e a
 .split at a
  .split at a
   .split at a
    .split at a
     .obtain⟨j,a⟩:=qo a;simp only[wd,wm] at j;exact loc (Zb ab a)
     .cases a
    .cases a
   grind
  .exact QD e a
 .split at a
  .grind
  .exact QD e a
 .exact QD e a
def TV(g:nt<=1024){o}(a:Zl P Gl aa nt o s two=some (f,fp)):Fits f fp/\fp.wb=(none,false):=by
 unfold Zl at a;split at a
 .obtain⟨y,d,_⟩:=qM (ZA P _ _ _) (k:=λv=>done nt o s v none (Qz o.op) false false two) a;exact⟨ZL g (λh e=>by cases e) d,YM g d⟩
 grind
def ey.fits(g:nt<=1024){ops}{o:Oper}(h:ey P K Gl aa nt ops o s f fp):Fits f fp:=by
 have a:=h _ two;unfold zw at a;split at a
 .rcases qw a with⟨_,a⟩|⟨_,a⟩
  .exact(TV g a).1
  .exact TT g a
 .split at a
  .cases a
  .split at a
   .rcases qw a with⟨_,a⟩|⟨_,a⟩
    .cases a
    .rcases qw a with⟨_,a⟩|⟨_,a⟩
     .obtain⟨⟨x,A⟩,j,u⟩:=qM (ye P K Gl aa nt o s) (k:=λp=>two p.1 { p.2 with rs:=_::p.2.rs }) a;simp only[wj,wA] at j;obtain⟨rfl,rfl⟩:=j;have i:=TT g (u _ λp=>two p.1 p.2);exact⟨i.slot,λd p e=>⟨(i.place d p e).1,λt o r=>wX _ ((i.place d p e).2 t o r)⟩,i.heap⟩
     .exact ZL g (λh e=>by cases e) a
   .rcases qw a with⟨_,a⟩|⟨_,a⟩
    .cases a
    .exact ZL g (λh e=>by cases e) a
   grind
def ey.CJ(d:nt<=1024){ops:List Oper}{o:Oper}(h:ey P K Gl aa nt ops o s f fp):lk s f fp:=by
 have a:=h _ two;unfold zw at a;split at a
 .rcases qw a with⟨_,a⟩|⟨_,a⟩
  .exact .no (TV d a).2
  .exact TU d a
 .split at a
  .cases a
  .split at a
   .rcases qw a with⟨_,a⟩|⟨_,a⟩
    .cases a
    .rcases qw a with⟨_,a⟩|⟨_,a⟩
     .obtain⟨⟨j,r⟩,e,i⟩:=qM (ye P K Gl aa nt o s) (k:=λp=>two p.1 { p.2 with rs:=_::p.2.rs }) a;simp only[wj,wA] at e;obtain⟨rfl,rfl⟩:=e;have g:=TU d (i _ λp=>two p.1 p.2);exact g
     .exact .no (YM d a)
   .rcases qw a with⟨_,a⟩|⟨_,a⟩
    .cases a
    .exact .no (YM d a)
   grind
structure gG(s s1:St):Prop where
 at':∀e,s1.at e=s.at e
 loc:∀e,s1.loc e=s.loc e
 used:∀e,s1.used e=s.used e
 h:s1.h=s.h
def gG.refl(s):gG s s:=⟨λ_=>rfl,λ_=>rfl,λ_=>rfl,rfl⟩
def gG.trans{a b c}(x:gG a b)(y:gG b c):gG a c:=⟨λe=>(y.at' e).trans (x.at' e),λe=>(y.loc e).trans (x.loc e),λe=>(y.used e).trans (x.used e),y.h.trans x.h⟩
def gG.symm{a b}(x:gG a b):gG b a:=⟨λe=>(x.at' e).symm,λe=>(x.loc e).symm,λe=>(x.used e).symm,x.h.symm⟩
def gG.tj{s s1}(x:gG s s1)(fp:FP):ie s s1 fp:=⟨λe _=>x.at' e,λe _=>x.loc e,λe _=>x.used e,λ_=>x.h,λ_=>.inl x.h⟩
def JN(f:dJ)(s)(e:∀d v,f.slot=some (d,v)->d<1024)(t:Nat):(f.eP s).at t=match f.slot with|some (d,v)=>if t=d then v else s.at t|none=>s.at t:=by
 cases a:f.slot with
 |none=>simp[St.at,dJ.eP,Iu,a]
 |some p =>
  obtain⟨d,v⟩:=p;exact EM (s:=s) (s':=f.eP s) (by simp[dJ.eP,Iu,a]) (e d v a) t
def gG.eP{s s1}(x:gG s s1){f:dJ}(a:∀d v,f.slot=some (d,v)->d<1024):gG (f.eP s) (f.eP s1):=by
 refine⟨λe=>?_,λe=>?_,λe=>?_,?_⟩
 .rw[JN f s a,JN f s1 a];cases f.slot with
  |none=>exact x.at' e
  |some p=>simp only[x.at' e]
 .simp only[dJ.eP];cases f.place with
  |none=>exact x.loc e
  |some p=>simp only[Yq,x.loc e]
 .simp only[dJ.eP];cases f.place with
  |none=>exact x.used e
  |some p =>
   obtain⟨d,q⟩:=p;cases q with
   |none=>exact x.used e
   |some q=>simp only[yu,x.used e]
 grind[x.h,dJ.eP]
def jv{a b}(h:Jg a b=false):∀x∈a,x∉b:=by
 intro x hx d;unfold Jg at h;rw[List.any_eq_false] at h;grind
def I3(w r:Option Nat×Bool):Prop:=(∃i j:Nat,w.1=some i/\r.1=some j/\i≠j)∨(w.2=true/\r.2=true)
def Fits.tj{f:dJ}{fp q:FP}(a:Fits f fp)(h1:Jg fp.ws q.rs=false)(h2:Jg q.ws fp.rs=false)(C:fp.wr=true->q.wr=false/\(q.rd=true->I3 fp.wb q.rb))(s:St)(hw:lk s f fp):ie s (f.eP s) q:=by
 have w:=jv h1;have u:=jv h2;refine⟨λe he=>?_,λe he=>?_,λd I=>?_,λg=>?_,λg=>?_⟩
 .rw[JN f s λd v h=>(a.slot d v h).2];cases D:f.slot with
  |none=>rfl
  |some p =>
   obtain⟨d,v⟩:=p;have:=(a.slot d v D).1;grind
 .simp only[dJ.eP];cases k:f.place with
  |none=>rfl
  |some p =>
   obtain⟨d,v⟩:=p;have:=(a.place d v k).1;have B:e≠d:=by grind
   simp only[Yq,vo,vm,wh B]
 .simp only[dJ.eP];cases k:f.place with
  |none=>rfl
  |some p =>
   obtain⟨H,v⟩:=p;cases v with
   |none=>rfl
   |some v =>
    obtain⟨t,o⟩:=v;have:=(a.place H _ k).2 t o rfl;have B:d≠t:=by grind
    simp only[yu,vo,vm,wh B]
 .simp only[dJ.eP];cases hx:f.heap with
  |none=>rfl
  |some x =>
   rw[(C (a.heap x hx)).1] at g;cases g
 .cases hx:f.heap with
  |none=>left;simp only[dJ.eP,hx];rfl
  |some x =>
   rcases (C (a.heap x hx)).2 g with⟨i,j,A,r,E⟩|⟨A,r⟩
   .right;left;refine⟨j,r,?_⟩;simp only[dJ.eP,hx];exact hw.1 x i hx A j (λq=>E q.symm)
   .right;right;refine⟨r,?_⟩;simp only[dJ.eP,hx];exact hw.2 x hx A
def TW{w r:Option Nat×Bool}(h:IE w r=true):I3 w r:=by
 obtain⟨w,e⟩:=w;obtain⟨r,rv⟩:=r;unfold IE at h;rw[vI] at h;rcases h with h|h
 .split at h
  .rename_i i j d a;exact .inl ⟨i,j,d,a,rx⟩
  .cases h
 .rw[wd] at h;exact .inr h
def TX{a b:FP}(h:J0 a b=false):Jg a.ws b.rs=false/\Jg a.ws b.ws=false/\Jg b.ws a.rs=false/\(a.wr=true->b.wr=false/\(b.rd=true->I3 a.wb b.rb))/\(b.wr=true->a.wr=false/\(a.rd=true->I3 b.wb a.rb)):=by
 simp only[J0,vf] at h;obtain⟨⟨⟨⟨o,k⟩,j⟩,d⟩,e⟩:=h;refine⟨o,k,j,λi=>?_,λg=>?_⟩
 .rw[i] at d;simp only[wQ,vf] at d;refine⟨d.1,λhr=>?_⟩;have:=d.2;rw[hr] at this;exact TW rx
 .rw[g] at e d;simp only[wQ,Bool.true_or,Bool.and_true] at e d;refine⟨d,λhr=>?_⟩;rw[hr] at e;exact TW rx
def qlw{f1 f2}{B A:FP}(h1:Fits f1 B)(h2:Fits f2 A)(L:J0 B A=false)(s:St):gG (f2.eP (f1.eP s)) (f1.eP (f2.eP s)):=by
 obtain⟨U,N,S,M,R⟩:=TX L;have w:=jv N;refine⟨λe=>?_,λe=>?_,λe=>?_,?_⟩
 .rw[JN f1 _ λd v h=>(h1.slot d v h).2,JN f2 _ λd v h=>(h2.slot d v h).2,JN f2 _ λd v h=>(h2.slot d v h).2,JN f1 _ λd v h=>(h1.slot d v h).2];cases i:f1.slot with
  |none=>rfl
  |some x =>
   cases g:f2.slot with
   |none=>rfl
   |some r =>
    obtain⟨a,o⟩:=x;obtain⟨j,k⟩:=r;have D:=(h1.slot a o i).1;have C:=(h2.slot j k g).1;grind
 .simp only[dJ.eP];cases i:f1.place with
  |none=>rfl
  |some x =>
   cases g:f2.place with
   |none=>rfl
   |some r =>
    obtain⟨a,o⟩:=x;obtain⟨j,k⟩:=r;have D:=(h1.place a o i).1;have C:=(h2.place j k g).1;have V:a≠j:=by rintro rfl;exact w a D C
    simp only[Yq,vo,vm];grind
 ·simp only[dJ.eP];have key:∀(u:Nat->Bool) (p q:Option (Nat×Option (Nat×Nat))),yu (yu u p) q e=yu (yu u q) p e:=by
   intro u p q;rcases p with _|⟨a,_|⟨J,Q⟩⟩<;>rcases q with _|⟨j,_|⟨I,O⟩⟩<;>simp only[yu]
   cases (e==J)<;>cases (e==I)<;>rfl
  grind
 .simp only[dJ.eP];cases i:f1.heap with
  |none=>rfl
  |some H =>
   cases g:f2.heap with
   |none=>rfl
   |some E =>
    have:=(M (h1.heap H i)).1;rw[h2.heap E g] at this;grind
def dG.same(o:nt<=1024){ops l:List Oper}{s s':St}{fH:List FP}(h:dG P K Gl aa nt ops l s s' fH):∀{s1:St},gG s s1->∃a,dG P K Gl aa nt ops l s1 a fH/\gG s' a:=by
 induction h with
 |nil s=>exact λx=>⟨_,.nil _,x⟩
 |cons g r k =>
  intro s1 x;obtain⟨a,j,i⟩:=k (x.eP λd v e=>((g.fits o).slot d v e).2);exact⟨a,.cons (g.congr (x.tj _)) j,i⟩
def dG.Gr(k:nt<=1024){ops:List Oper}{o:Oper}{post:List Oper}{fp:FP}{Q:List FP}:∀{pre:List Oper} {u:List FP} {s s':St},pre.length=u.length->(∀q∈u,J0 q fp=false) →
 dG P K Gl aa nt ops (pre++o::post) s s' (u++fp::Q)->∃f s1,ey P K Gl aa nt ops o s f fp/\dG P K Gl aa nt ops (pre++post) (f.eP s) s1 (u++Q)/\gG s' s1
 |[],[],s,s',_,_,h=>by
  cases h with
  |cons d g=>exact⟨_,_,d,g,.refl _⟩
 |p::pre,q::u,s,s',A,I,h=>by
  cases h with
  |@cons _ _ _ _ B _ _ d g =>
   have O:=I q aq;obtain⟨M,c2,L,Z,J⟩:=TX O;obtain⟨f,s1,D,Y,X⟩:=dG.Gr k rx (λq V=>I q (by simp[V])) g;have H:=d.fits k;have E:=D.fits k;have r:=H.tj M L Z s (d.CJ k);have I5:ie (B.eP s) s fp:=⟨λe he=>(r.at' e he).symm,λe he=>(r.loc e he).symm,λe he=>(r.used e he).symm,λa=>(r.heap a).symm,λa=>(r.w4 a).elim (λh=>.inl h.symm) λh=>.inr (h.elim (λ⟨j,d,g⟩=>.inl ⟨j,d,g.symm⟩) λ⟨d,g⟩=>.inr ⟨d,λj=>(g j).symm⟩)⟩;have C:∀h,f.heap=some h->(B.eP s).h=s.h:=λh a=>by
    have C:B.heap=none:=by
     cases hx:B.heap with
     |none=>rfl
     |some x =>
      have:=(J (E.heap h a)).1;rw[H.heap x hx] at this;grind
    simp only[dJ.eP,C];rfl
   have N:=D.CJ k;have a2:=E.tj L M J s ⟨λh i a hw j W=>by
    have q:=N.1 h i a hw j W;rw[q,C h a],λh a hw j=>by
    have q:=N.2 h a hw j;rw[q,C h a]⟩
   obtain⟨R,U,S⟩:=Y.same k (qlw H E O s);exact⟨f,R,D.congr I5,.cons (d.congr a2) U,X.trans S⟩
 |[],_::_,_,_,A,_,_=>by cases A
 |_::_,[],_,_,A,_,_=>by cases A
end
inductive fQ(ops:Array Oper):Nat->Nat->Prop where
 |one {j k:Nat} {o:Oper} {e:Edge} (ho:ops[j]?=some o) (he:e∈o.after) (hb:Region.binds .any e=true) (hk:e.on=k):fQ ops j k
 |more {j m k:Nat} {o:Oper} {e:Edge} (ho:ops[j]?=some o) (he:e∈o.after) (hb:Region.binds .any e=true) (hm:e.on=m) (h:fQ ops m k):fQ ops j k
def T0{ops:Array Oper}{j:Nat}{o:Oper}{u:Array Nat}(f:ops[j]?=some o)(x:∀m k,(u.getD m 0).testBit k=true->fQ ops m k) :
 ∀(l:List Edge) (d:Nat),(∀e∈l,e∈o.after)->(∀k,d.testBit k=true->fQ ops j k)->∀k,(l.foldl (λs e=>if Region.binds .any e then s ||| 2 ^ e.on ||| u.getD e.on 0 else s) d).testBit k=true->fQ ops j k
 |[],d,_,i,k,a=>i k a
 |e::l,d,g,i,k,a=>by
  refine T0 f x l _ (λe he=>g e (wX _ he)) (λk a=>?_) k a;dsimp only at a;split at a
  .rename_i r;simp only[Nat.testBit_or,vI] at a;rcases a with (a|a)|a
   .exact i k a
   .rw[Nat.testBit_two_pow] at a;exact .one f (g e aq) r (by simpa using a)
   .exact .more f (g e aq) r rfl (x _ k a)
  grind
def T1{ops}:∀(l:List Oper) (d:Array Nat),(∀i,l[i]?=ops[d.size+i]?)->(∀m k,(d.getD m 0).testBit k=true->fQ ops m k) →
 ∀m k,((l.foldl (λ(d:Array Nat) o=>d.push (o.after.foldl (λs e=>if Region.binds .any e then s ||| 2 ^ e.on ||| d.getD e.on 0 else s) 0)) d).getD m 0).testBit k=true->fQ ops m k
 |[],d,_,h,m,k,a=>h m k a
 |o::l,d,f,h,m,k,a=>by
  have g:ops[d.size]?=some o:=by have:=f 0;grind
  refine T1 l _ (λi=>?_) (λm k a=>?_) m k a
  .have:=f (i+1);grind
  .rw[wG,Array.getElem?_push] at a;split at a
   .rename_i j;subst j;rw[←Array.foldl_toList] at a;exact T0 g h o.after.toList 0 (λe he=>by simpa using he) (λk a=>by simp at a) k a
   simp_all
def qdZ{ops}{j k}(h:((Region.before ops).getD j 0).testBit k=true):fQ ops j k:=by
 unfold Region.before at h;rw[←Array.foldl_toList] at h;exact T1 ops.toList #[] (λi=>by simp) (λm k a=>rx) j k h
def T2:∀(l:List Oper) (j:Nat),FT j l=true->∀(i:Nat) (o:Oper),l[i]?=some o->∀e∈o.after,Region.binds .any e=true->e.on<j+i
 |[],_,_,i,o,a=>by grind
 |o::l,j,h,i,f,a=>by
  simp only[FT,wd] at h;intro e he d;cases i with
  |zero =>
   simp at a;subst a;have:=wD.1 h.1 e (by simpa using he);simp_all
  |succ i =>
   have:=T2 l _ h.2 i f rx e he d;omega
def T3{before}:∀(l:List (Nat×FP)),IF before l=true->List.Pairwise (λa b=>(before.getD b.1 0).testBit a.1=true∨J0 a.2 b.2=false) l
 |[],_=>.nil
 |(i,a)::l,h=>by
  simp only[IF,wd] at h;refine xr.2 ⟨λb d=>?_,T3 l h.2⟩;have:=wD.1 h.1 b d;grind
section
variable {P:Program} {K:bv} {Gl:t9} {aa:t8} {nt:Nat} {s s1 s':St}
def gG.sr(x:gG s s1){g}{a}{w}(h:SR Gl aa nt g s a w):SR Gl aa nt g s1 a w :=
 ⟨by rw[x.h];exact h.hr,h.defers,h.size,h.nt,λt e=>by rw[x.h,x.at'];exact h.tmps t e,λt e cells i=>by rw[x.h];exact h.eW t e cells (by rw[←x.at'];exact i),
  λd t o f=>h.loc d t o (by rw[←x.loc];exact f),h.eQ,λd t o f=>by rw[x.used];exact h.used d t o (by rw[←x.loc];exact f)⟩
structure Rest(ops:Array Oper)(listed:Array Bool)(rem:t8):Prop where
 size:listed.size=ops.size
 mem:∀i,i∈rem↔listed.getD i true=false
 Ak:List.Pairwise (·<·) rem
 closed:∀j o,ops[j]?=some o->listed.getD j false=true->∀e∈o.after,Region.binds .any e=true->listed.getD e.on false=true
def Rest.behind{ops}{listed}{rem}(r:Rest ops listed rem){j k}(h:fQ ops j k):listed.getD j false=true->listed.getD k false=true:=by
 induction h with
 |one a he e i=>exact λd=>i▸r.closed _ _ a d _ he e
 |more a he e g h f=>exact λd=>f (g▸r.closed _ _ a d _ he e)
def Rest.ready{ops:Array Oper}{listed}{rem}(r:Rest ops listed rem){i k}(g:i∈Region.ready .any ops listed)(h:fQ ops i k):listed.getD k false=true:=by
 obtain⟨_,o,e,j⟩:=mem_ready.1 g;cases h with
 |one a he d u =>
  grind
 |more a he d f h =>
  obtain rfl:=we (a.symm.trans e);exact r.behind h (f▸j _ he d)
def kG{listed:Array Bool}{i}(h:listed.getD i true=false):i<listed.size/\listed.getD i false=false:=by
 grind
def T4(Z:aS P Gl K)(bp:nt<=1024){ops:Array Oper}(CL:FT 0 ops.toList=true){O:Nat->Oper}(V:∀i,i<ops.size->ops[i]?=some (O i)){F:Nat->FP}
 (hF:∀i j,i<j->j<ops.size->((Region.before ops).getD j 0).testBit i=true∨J0 (F i) (F j)=false) :
 ∀(D:Nat) {rem:t8} {listed:Array Bool} {s s1:St} {g:Gh} {a:Act} {w:World},rem.length=D->Rest ops listed rem->dG P K Gl aa nt ops.toList (rem.map O) s s1 (rem.map F)->gG s1 s'->SR Gl aa nt g s a w →
  ∀(ro:Option Nat) (n:Nat) (Q:Exit->Act->World->Prop),(∀x w' g',SR Gl aa nt g' s' x w'->dy g s.h w g' s'.h w'->x.defers=a.defers->Q .normal x w')->wpAnyIn (QM ro) n P .any ops Q D listed a w
 |0,rem,listed,s,s1,g,a,w,R,hr,M,L,N,ro,n,Q,hn=>by
  obtain rfl:=List.length_eq_zero_iff.1 R;cases M with
  |nil =>
   refine⟨?_,hn _ _ _ (L.sr N) (by rw[L.h];exact dy.refl _ _ _) rfl⟩;apply List.eq_nil_iff_forall_not_mem.2;intro i B;have:=(hr.mem i).2 (mem_ready.1 B).1;grind
 |D+1,rem,listed,s,s1,g,a,w,R,hr,M,L,N,ro,n,Q,hn=>by
  refine⟨λh0=>?_,λi B=>?_⟩
  ·
   exfalso;cases rem with
   |nil=>cases R
   |cons d rem =>
    have E:=(hr.mem d).1 aq;have u:=(kG E).1;rw[hr.size] at u;have H:=V d u;have:d∈Region.ready .any ops listed:=by
     refine mem_ready.2 ⟨E,O d,H,λe he I=>?_⟩;have J:=T2 ops.toList 0 CL d (O d) (by rw[vD];exact H) e he I;rw[wo] at J;cases r:listed.getD e.on false with
     |true=>rfl
     |false =>
      have U:e.on<listed.size:=by rw[hr.size];omega
      have:e.on∈d::rem:=(hr.mem e.on).2 (by rw[wG] at r ⊢;rw[wK U] at r ⊢;exact r);rcases wJ.1 this with C|C
      .omega
      .have:=(xr.1 hr.Ak).1 _ C;omega
    rw[h0] at this;grind
  ·have E:=(mem_ready.1 B).1;have u:=(kG E).1;rw[hr.size] at u;have H:=V i u;obtain⟨pre,post,rfl⟩:=List.append_of_mem ((hr.mem i).2 E);have X:=List.pairwise_append.1 hr.Ak;have mH:∀j∈pre,j<i:=λj k=>X.2.2 j k i aq;have nX:∀q∈pre.map F,J0 q (F i)=false:=by
    intro q hq;obtain⟨j,k,rfl⟩:=wY.1 hq;rcases hF j i (mH j k) u with J|J
    ·have C:=hr.ready B (qdZ J);have h3:=(hr.mem j).1 (xH _ k);rw[(kG h3).2] at C;cases C
    omega
   rw[vh,xt,vh,xt] at M;obtain⟨f,s2,g1,g2,g3⟩:=dG.Gr bp aq nX M;have ik:=g1.goes Z N;have tn:Rest ops (listed.setIfInBounds i true) (pre++post):=by
    refine⟨by simp[hr.size],λj=>?_,?_,λj o k Y e he I=>?_⟩
    .by_cases A:j=i
     .subst A;have hx:j<listed.size:=by rw[hr.size];exact u
      have h4:(listed.setIfInBounds j true).getD j true=true:=by
       rw[wG,Array.getElem?_setIfInBounds_self_of_lt hx];rfl
      rw[h4];have h6:=(xr.1 X.2.1).1;grind
     .rw[getD_set_ne true (Ne.symm A),←hr.mem j];simp[A]
    .grind
    .by_cases A:i=j
     .subst A;obtain⟨_,o2,EQ,aZ⟩:=mem_ready.1 B;obtain rfl:=we (k.symm.trans EQ);exact getD_set_true (aZ e he I)
     .rw[getD_set_ne false A] at Y;exact getD_set_true (hr.closed j o k Y e he I)
   have S:=λx w' g' (dE:SR Gl aa nt g' (f.eP s) x w') (bT:dy g s.h w g' (f.eP s).h w') (lQ:x.defers=a.defers) =>
    T4 Z bp CL V hF D (rem:=pre++post) (listed:=listed.setIfInBounds i true) (s1:=s2) rx tn (by rw[vh,vh];exact g2) (g3.symm.trans L) dE ro n Q
     λa2 w2 W gI tg BW=>hn a2 w2 W gI (bT.trans tg) (BW.trans lQ)
   have:=ik ro n (wpAnyIn (QM ro) n P .any ops Q D (listed.setIfInBounds i true)) Q S;unfold wpOpIn;rw[H];dsimp only;split at this
   .grind
   .rename_i hw;rw[wh hw];exact⟨λ_ _=>trivial,this⟩
end
def ZM{P}{b:Frame}{a}{k}{cs}{w}{c}:step P (lone (b.atR a (.code (.scope c)::k)) cs w) = .next (lone (b.atR a (.code c::.inScope c::k)) cs w) :=
 step_lone_go rfl
def qd0{P}{b:Frame}{a}{k}{cs}{w}{c}:step P (lone (b.atR a (.inScope c::k)) cs w) = .next (lone (b.atR a k) cs w) :=
 step_lone_go rfl
def qif{F}{n}{P}{Q}{a}{w}{c:Code}(h:c.wpIn F n P (Exit.noGoto Q) a w):(Code.scope c).wpIn F n P Q a w:=by
 intro b k s D r hr;have g:(lone (b.atR a (.code (.scope c)::k)) s w).fenced P F:=fenced_calm r hr rfl;obtain⟨e,j,i,f,d⟩:=h b (.inScope c::k) s D r hr;cases e with
 |normal=>exact⟨.normal,j,i,f,.head g ZM (StepsIn.trans d (.one (fenced_calm r hr rfl) qd0))⟩
 |exit id =>
  have hx:exitTo id (.inScope c::k)=exitTo id k:=by rfl
  exact⟨.exit id,j,i,f,λx o=>.head g ZM (d.1 x (by rw[hx];exact o)),
   λC o=>let ⟨u,B,A⟩:=d.2 C (by rw[hx];exact o);⟨u,B,.head g ZM A⟩⟩
 |goto l=>exact f.elim
 |ret=>exact⟨_,j,i,f,.of_steps (.one g ZM) d⟩
 |panic ch=>exact⟨_,j,i,f,.of_steps (.one g ZM) d⟩
 |outgrown=>exact⟨_,j,i,f,.of_steps (.one g ZM) d⟩
def Ex.out:Ex->Exit
 |.normal=>.normal
 |.exit i=>.exit i
 |.ret=>.ret
def yA{F}{A}{P}{Q}{c}(I:Nat->Act->World->Prop)(round:∀n a w,I n a w->c.wpIn F A P (Exit.then (λj w'=>∃m,m<n/\I m j w') Q) a w) :
 ∀n a w,I n a w->(Code.loop c).wpIn F A P Q a w:=by
 intro n a w E b k u J r hr;have key:∀n a w,I n a w->∃e j w',Q e j w'/\ArrivesIn (Machine.fenced P F) P (lone (b.atR a (.code c::.inLoop c::k)) u w) b k u e j w':=by
  intro n
  induction n using Nat.strongRecOn with
  |_ n C =>
   intro a w D;obtain⟨e,i,g,f,d⟩:=round n a w D b (.inLoop c::k) u J r hr;cases e with
   |normal =>
    obtain⟨m,M,s⟩:=f;obtain⟨H,L,B,o,N⟩:=C m M i g s;exact⟨H,L,B,o,.of_steps (StepsIn.trans d (.one (fenced_calm r hr rfl) stepR_inLoop)) N⟩
   |exit id=>exact⟨_,i,g,f,.pass (x:=.inLoop c) rfl (λ_ _=>.inl aq) d⟩
   |goto l=>exact⟨_,i,g,f,.pass (x:=.inLoop c) rfl (λ_ _=>.inl aq) d⟩
   |ret=>exact⟨_,i,g,f,.pass (x:=.inLoop c) rfl (λ_ _=>.inl aq) d⟩
   |panic ch=>exact⟨_,i,g,f,.pass (x:=.inLoop c) rfl (λ_ _=>.inl aq) d⟩
   |outgrown=>exact⟨_,i,g,f,.pass (x:=.inLoop c) rfl (λ_ _=>.inl aq) d⟩
 obtain⟨e,j,w',f,d⟩:=key n a w E;exact⟨e,j,w',f,.of_steps (.one (fenced_calm r hr rfl) stepR_loop) d⟩
section
variable {P:Program} {K:bv} {Gl:t9} {aa:t8} {nt:Nat} {R:Type}
def aG(P:Program)(Gl:t9)(aa:t8)(nt:Nat)(c:Code)(s:St)(e:Ex)(s':St):Prop :=
 ∀(ro:Option Nat) (n:Nat),(qv c=true->ro=none)->∀(g:Gh) (a:Act) (w:World),SR Gl aa nt g s a w->∀Q:Exit->Act->World->Prop,(∀d w' f,SR Gl aa nt f s' d w'->dy g s.h w f s'.h w'->(qv c=false->d.defers=a.defers)->Q e.out d w')->c.wpIn (QM ro) n P Q a w
def SR.bare{g}{s}{a}{w}(h:SR Gl aa nt g s a w)(env:Tr)(he:∀t,({ s with env:=env,loc:=λ_=>none,used:=λ_=>false }:St).at t=s.at t∨({ s with env:=env,loc:=λ_=>none,used:=λ_=>false }:St).at t = .undef) :
 SR Gl aa nt g { s with env:=env,loc:=λ_=>none,used:=λ_=>false } a w:=by
 refine⟨h.hr,h.defers,h.size,h.nt,λt f=>?_,λt f cells j=>?_,λd t o i=>(by cases i),h.eQ,λd t o i=>(by cases i)⟩
 .rcases he t with e|e
  .rw[e];exact h.tmps t f
  .rw[e];exact .aF _ _ (.undef _)
 .rcases he t with e|e
  .exact h.eW t f cells (by rw[←e];exact j)
  grind
def qnA(s)(h)(l)(t):(qJ l (Za s l) h).at t=s.at t∨(qJ l (Za s l) h).at t = .undef:=by
 rcases wu t 1024 with a|a
 ·rw[Gf a];have key:∀(l:t8) (e:Tr),(Tr.get QS e t=s.at t∨Tr.get QS e t = .undef)->(Tr.get QS (ya l (Za s l) e) t=s.at t∨Tr.get QS (ya l (Za s l) e) t = .undef):=by
   intro l
   induction l with
   |nil=>exact λe he=>he
   |cons i l d =>
    intro e he;refine d _ ?_;cases g:Nat.blt i 1024 with
    |false=>grind
    |true =>
     have f:=Qe g;simp only[wp];rw[show Tr.get QS (Tr.set QS e i (s.at i)) t=_ from Tr.fb 10 e i t _ f a];by_cases j:t=i
     .grind
     .rw[wh j];exact he
  exact key l .nil (.inr rfl)
 .rw[CF ab];grind
def SR.only{g}{s}{a}{w:World}(h:SR Gl aa nt g s a w)(l:t8):SR Gl aa nt g (qJ l (Za s l) s.h) a w:=by
 have:=qnA s s.h l;exact h.bare (ya l (Za s l) .nil) this
def SR.drawn{g}{s}{a}{w}(h:SR Gl aa nt g s a w)(n):SR Gl aa nt g s a { w with drawn:=n }:=by
 have x:Zn g s.h w g s.h { w with drawn:=n }:=⟨λb d=>⟨d,rfl⟩,λ_ b d=>⟨b,d,wc _,λ_=>⟨rfl,rfl,rfl⟩⟩,λ_ _ h=>h⟩;refine⟨⟨λi b d M=>?_,h.hr.u,h.hr.own,h.hr.base,h.hr.cells,h.hr.lt,λi b m d C=>h.hr.fh d C rfl (λ_ r=>r) λ_ _ _=>rfl⟩,h.defers.to (wc _) (λ_ _=>rfl) (λ_ _ _=>rfl) rfl (λ_ h=>.inl h),h.size,h.nt,λt A=>(h.tmps t A).av x,λt A cells r=>?_,h.loc,λL cells E=>(h.eQ L cells E).av x.u,h.used⟩
 .rcases h.hr.dS i b d M with⟨cb,B,f,e,k⟩|q
  rotate_left
  .grind
  refine .inl ⟨cb,B,f,e,k.φ,k.own,k.heap,k.room,k.len,λj o c D r=>?_,k.flat⟩;obtain⟨v,J,I,H⟩:=k.cell j o c D r;exact⟨v,J,I,H.av x⟩
 .obtain⟨cb,f,e,N⟩:=h.eW t A cells r;exact⟨cb,f,e,N.av x rfl rfl⟩
def T5(k:P.follows .mixedOrders=true)(H:aS P Gl K)(bp:nt<=1024){id:Nat}{ops:Array Oper}{e:Bool}{s s':St}{fH:List FP}
 (A:dG P K Gl aa nt ops.toList ops.toList { s with loc:=λ_=>none,used:=λ_=>false } s' fH) (Z:e=true->M9 ops fH=true):aG P Gl aa nt (.region id ops e) s .normal s':=by
 intro ro n _ g a w U Q hn;have D:=U.bare s.env (λt=>.inl rfl);cases e with
 |false=>exact wpIn_region_list (A.goes H D ro n Q λC w' x r h2 h3=>hn C w' x r h2 λ_=>h3)
 |true =>
  have B:=Z rfl;simp only[M9,wd] at B;have L:fH.length=ops.size:=by
   have:∀{l:List Oper} {s s':St} {fH:List FP},dG P K Gl aa nt ops.toList l s s' fH->fH.length=l.length:=by
    intro l s s' fH h
    induction h with
    |nil=>rfl
    |cons _ _ S=>simp[S]
   have:=this A;omega
  refine wpIn_region_any k ?_;have hO:∀i,i<ops.size->ops[i]?=some (ops.getD i default):=λi Y=>by
   rw[wG,wK Y];rfl
  have Gv:(List.range ops.size).map (λi=>ops.getD i default)=ops.toList:=by
   apply List.ext_getElem aq;grind
  have Gw:(List.range ops.size).map (λi=>fH.getD i ⟨[],[],false,false,(none,false),(none,false)⟩)=fH:=by
   apply List.ext_getElem (by simp[L]);grind
  have Gx:∀i j,i<j->j<ops.size->((Region.before ops).getD j 0).testBit i=true∨J0 (fH.getD i ⟨[],[],false,false,(none,false),(none,false)⟩) (fH.getD j ⟨[],[],false,false,(none,false),(none,false)⟩)=false:=by
   intro i j N X;have E:=T3 _ B.2;rw[List.pairwise_iff_getElem] at E;have hz:∀m,m<ops.size->((List.range ops.size).zip fH)[m]?=some (m,fH.getD m ⟨[],[],false,false,(none,false),(none,false)⟩):=by
    intro m k;rw[xy];refine⟨by simp[k],?_⟩;rw[wg,wi ab];rfl
   have V:((List.range ops.size).zip fH).length=ops.size:=by simp[L]
   have r:=E i j ab ab N;have J:=hz i ab;have I:=hz j X;rw[wi ab] at J I;rw[we J,we I] at r;simp_all
  refine T4 H bp (s':=s') B.1 hO Gx ops.size (rem:=List.range ops.size) (listed:=Array.replicate ops.size false) (s:=_) (s1:=s') aq ⟨aq,λi=>?_,?_,λj o _ W=>?_⟩ (by rw[Gv,Gw];exact A) (.refl _) (D.drawn _) ro n Q ?_
  .rw[xk,wG];grind
  .exact List.pairwise_lt_range
  .rw[wG] at W;grind
  .intro C w' x dE d O;refine hn C w' x dE ?_ (λ_=>O);exact⟨⟨d.av.u,d.av.dZ,d.av.rm⟩,d.size,d.own,d.os,d.tape,⟨d.output.1,d.output.2⟩,d.same,d.bs,d.u,d.u'⟩
def ll(P:Program)(Gl:t9)(aa:t8)(nt:Nat)(live:Nat->Bool->t8)(S:Code->Prop)(rec:Rec):Prop :=
 ZW rec/\∀b a h e d h',S b->rec _ b a h (λe a h=>some (e,a,h))=some (e,d,h')->aG P Gl aa nt (yc b) (qJ (live (qD b) false) a h) e (qJ (live (qD b) true) d h')
def ll.mono{live}{S}{rec}(h:ll P Gl aa nt live (λ_=>True) rec):ll P Gl aa nt live S rec :=
 ⟨h.1,λb a f e g h' _ d=>h.2 b a f e g h' trivial d⟩
def zf(M:P.follows .mixedOrders=true)(N:aS P Gl K)(O:nt<=1024){live:Nat->Bool->t8}{S:Code->Prop}{rec:Rec}(L:ll P Gl aa nt live S rec) :
 ∀(c:Code) (_:∀b∈qF c,S b) {s:St} {k:Ex->St->Option R} {r:R},ic P K Gl aa nt live rec c s k=some r->∃e s',k e s'=some r/\aG P Gl aa nt c s e s'
 |.skip,_,s,k,r,d=>⟨_,_,d,λro n _ g a w j Q hn=>wpIn_skip (hn _ _ _ j (dy.refl _ _ _) λ_=>rfl)⟩
 |.label _,_,s,k,r,d=>⟨_,_,d,λro n _ g a w j Q hn=>wpIn_label (hn _ _ _ j (dy.refl _ _ _) λ_=>rfl)⟩
 |.region id ops W,_,s,k,r,d=>by
  simp only[ic] at d;obtain⟨s',fH,d,az⟩:=k9 _ d;replace d:=(qo d).2;cases W with
  |false=>exact⟨_,_,d,T5 M N O az (λh=>by cases h)⟩
  |true =>
   simp only[wp] at d;obtain⟨ho,d⟩:=qo d;exact⟨_,_,d,T5 M N O az (λ_=>ho)⟩
 |.seq x y,I,s,k,r,d=>by
  simp only[ic] at d;obtain⟨e,s1,d,H⟩:=zf M N O L x (λb J=>I b (by simp[qF,J])) d;cases e with
  |normal =>
   obtain⟨e2,s2,d,h2⟩:=zf M N O L y (λb J=>I b (by simp[qF,J])) d;exact⟨e2,s2,d,λro n o g a w j Q hn=>wpIn_seq (H ro n (λh=>o (by simp[qv,h])) g a w j _ λD u B C A E=>h2 ro n (λh=>o (by simp[qv,h])) B D u C Q λa2 w2 g2 gI tg BW=>hn a2 w2 g2 gI (A.trans tg) λh=>by simp only[qv,vf] at h;grind)⟩
  |exit i=>exact⟨_,_,d,λro n o g a w j Q hn=>wpIn_seq (H ro n (λh=>o (by simp[qv,h])) g a w j _ λD u B C A E=>hn D u B C A λh=>by simp only[qv,vf] at h;grind)⟩
  |ret=>exact⟨_,_,d,λro n o g a w j Q hn=>wpIn_seq (H ro n (λh=>o (by simp[qv,h])) g a w j _ λD u B C A E=>hn D u B C A λh=>by simp only[qv,vf] at h;grind)⟩
 |.cond c x y,I,s,k,r,d=>by
  simp only[ic] at d;cases Y:Ab.ev Gl aa s c with
  |bool t =>
   rw[Y] at d;have iv:∀(g:Gh) (a:Act) (w:World),SR Gl aa nt g s a w->a.eval c = .bool t:=λg a w j=>by
    have:=j.ev c;rw[Y] at this;exact this.bool
   cases t with
   |true =>
    obtain⟨e,s1,d,H⟩:=zf M N O L x (λb J=>I b (by simp[qF,J])) d;exact⟨e,s1,d,λro n o g a w j Q hn=>wpIn_cond_true (iv g a w j) (H ro n (λh=>o (by simp[qv,h])) g a w j Q λD u B C A E=>hn D u B C A λh=>by simp only[qv,vf] at h;grind)⟩
   |false =>
    obtain⟨e,s1,d,H⟩:=zf M N O L y (λb J=>I b (by simp[qF,J])) d;exact⟨e,s1,d,λro n o g a w j Q hn=>wpIn_cond_false (iv g a w j) (H ro n (λh=>o (by simp[qv,h])) g a w j Q λD u B C A E=>hn D u B C A λh=>by simp only[qv,vf] at h;grind)⟩
  |_=>rw[Y] at d;cases d
 |.block id b,I,s,k,r,d=>by
  simp only[ic] at d;obtain⟨e,s1,d,H⟩:=zf M N O L b (λZ J=>I Z (by simp[qF,J])) d;cases e with
  |normal=>exact⟨_,_,d,λro n o g a w j Q hn=>wpIn_block (H ro n (λh=>o (by simp[qv,h])) g a w j _ λD u B C A E=>hn D u B C A λh=>E (by grind[qv]))⟩
  |ret=>exact⟨_,_,d,λro n o g a w j Q hn=>wpIn_block (H ro n (λh=>o (by simp[qv,h])) g a w j _ λD u B C A E=>hn D u B C A λh=>E (by grind[qv]))⟩
  |exit i =>
   dsimp only at d;rcases qw d with⟨V,d⟩|⟨V,d⟩
   .refine⟨_,_,d,λro n o g a w j Q hn=>wpIn_block (H ro n (λh=>o (by simp[qv,h])) g a w j _ λD u B C A E=>?_)⟩;have V:i=id:=by grind
    simp only[Ex.out,Exit.inBlock,wl V];exact hn D u B C A λh=>E (by grind[qv])
   .refine⟨_,_,d,λro n o g a w j Q hn=>wpIn_block (H ro n (λh=>o (by simp[qv,h])) g a w j _ λD u B C A E=>?_)⟩;have V:i≠id:=by grind
    simp only[Ex.out,Exit.inBlock,wh V];exact hn D u B C A λh=>E (by grind[qv])
 |.loop b,I,s,k,r,d=>by
  simp only[ic] at d;rcases qw d with⟨_,d⟩|⟨tY,d⟩
  .cases d
  obtain⟨⟨e,X,h⟩,d,hr⟩:=qM (L.1 b (Za s (live (qD b) false)) s.h) (k:=λp=>k p.1 (qJ (live (qD b) true) p.2.1 p.2.2)) d;have U:=L.2 b _ _ e X h (I b (by simp[qF])) (hr _ some);rw[show yc b = .loop b by simp[yc,tY]] at U;exact⟨e,_,d,λro n o g a w j Q hn=>U ro n o g a w (j.only _) Q hn⟩
 |.exit id,_,s,k,r,d=>⟨_,_,d,λro n _ g a w j Q hn=>wpIn_exit (hn _ _ _ j (dy.refl _ _ _) λ_=>rfl)⟩
 |.ret,_,s,k,r,d=>⟨_,_,d,λro n _ g a w j Q hn=>wpIn_ret (hn _ _ _ j (dy.refl _ _ _) λ_=>rfl)⟩
 |.scope b,I,s,k,r,d=>by
  simp only[ic] at d;obtain⟨e,s1,d,H⟩:=zf M N O L b (λZ J=>I Z (by simpa [qF] using J)) d;refine⟨e,s1,d,λro n o g a w j Q hn=>qif (H ro n (λh=>o (by simpa [qv] using h)) g a w j _ λD u B C A E=>?_)⟩;have:=hn D u B C A λh=>E (by grind[qv]);cases e<;>exact this
 |.goto _,_,s,k,r,d=>by grind[ic]
 |.refuse _,_,s,k,r,d=>by grind[ic]
 |.rangeFunc f ps x y,I,s,k,r,d=>by
  simp only[ic] at d;obtain⟨⟨e,X,h⟩,d,hr⟩:=qM (L.1 (.rangeFunc f ps x y) (Za s (live (qD (.rangeFunc f ps x y)) false)) s.h) (k:=λp=>k p.1 (qJ (live (qD (.rangeFunc f ps x y)) true) p.2.1 p.2.2)) d;have U:=L.2 _ _ _ e X h (I (.rangeFunc f ps x y) (by simp[qF])) (hr _ some);rw[show yc (.rangeFunc f ps x y) = .rangeFunc f ps x y by rfl] at U;exact⟨e,_,d,λro n o g a w j Q hn=>U ro n o g a w (j.only _) Q hn⟩
def qkk(N:P.follows .mixedOrders=true)(W:aS P Gl K)(bp:nt<=1024){live:Nat->Bool->t8}{b:Code}(I:Nat->t7->qa->Prop){e1:Ex}{dM:t7}{h1:qa}
 (round:∀n vs h,I n vs h->∃(rec:Rec) (S:Code->Prop),ll P Gl aa nt live S rec/\(∀b'∈qF b,S b')/\∃e s',ic (R:=Ex×St) P K Gl aa nt live rec b (qJ (live (qD b) false) vs h) (λe s=>some (e,s))=some (e,s') ∧
  ((e = .normal/\∃m,m<n/\I m (Za s' (live (qD b) false)) s'.h)∨(e≠.normal/\e=e1/\Za s' (live (qD b) true)=dM/\s'.h=h1))) :
 ∀n vs h,I n vs h->aG P Gl aa nt (.loop b) (qJ (live (qD b) false) vs h) e1 (qJ (live (qD b) true) dM h1):=by
 intro n vs h f ro D Z g0 B k J Q hn;refine yA (λm a w=>∃d h' g,I m d h'/\SR Gl aa nt g (qJ (live (qD b) false) d h') a w/\dy g0 h k g h' w/\(qv b=false->a.defers=B.defers)) (λm a w X=>?_) n B k ⟨vs,h,g0,f,J,dy.refl _ _ _,λ_=>rfl⟩;obtain⟨d,h',g,f,M,r,C⟩:=X;obtain⟨rec,S,bw,V,e,s',O,E⟩:=round m d h' f;obtain⟨Y,s2,o,L⟩:=zf N W bp bw b V O;simp only[wj,wA] at o;obtain⟨rfl,rfl⟩:=o;refine L ro D (λh=>Z (by simpa [qv] using h)) g a w M _ λa' w' u x A H=>?_;rcases E with⟨rfl,j,U,BX⟩|⟨bh,rfl,rfl,rfl⟩
 .exact⟨j,U,_,_,u,BX,x.only _,r.trans A,λh=>(H h).trans (C h)⟩
 .have:=hn a' w' u (x.only _) (r.trans A) (λh=>by grind[qv]);cases Y with
  |normal=>grind
  |exit i=>exact this
  |ret=>exact this
def I7(o:P.follows .mixedOrders=true)(r:aS P Gl K)(B:nt<=1024){live}:∀n,ll P Gl aa nt live (λ_=>True) (kT P K Gl aa nt live n):=by
 intro n
 induction n using Nat.strongRecOn with
 |_ n i =>
  refine⟨ZK P K Gl aa nt live n,λb a h x A u _ d=>?_⟩;have f:FU b=false:=by
   cases n with
   |zero=>cases d
   |succ j =>
    grind[kT]
  rw[show yc b = .loop b by simp[yc,f]];refine qkk o r B (λm a h=>m<=n/\kT P K Gl aa nt live m _ b a h (λe a h=>some (e,a,h))=some (x,A,u)) (λm a h s=>?_) n a h ⟨wc _,d⟩;obtain⟨E,d⟩:=s;cases m with
  |zero=>cases d
  |succ j =>
   refine⟨_,_,i j ab,λ_ _=>trivial,?_⟩;simp only[kT,f,wq] at d;obtain⟨⟨e,g⟩,D,C⟩:=qM (ZX P K Gl aa nt live (ZK P K Gl aa nt live j) b (qJ (live (qD b) false) a h)) (k:=λp=>match p.1 with
    |.normal=>kT P K Gl aa nt live j _ b (Za p.2 (live (qD b) false)) p.2.h λe a h=>some (e,a,h)
    |e=>some (e,Za p.2 (live (qD b) true),p.2.h)) d
   refine⟨e,g,C _ some,?_⟩;grind
end
def KA(tmps:Array Value):ResultVar->Sem Value
 |.tmp t=>pure (tmps.getD t undef)
 |.cell a t=>do loadVar t (←asAddr (tmps.getD a undef))
def T6(fn)(tmps):results fn tmps=(do let vs ←fn.results.mapM (KA tmps);pure (if h:vs.size=1 then vs[0] else .tuple vs)):=by
 rfl
section
variable {P:Program} {K:bv} {Gl:t9} {aa:t8} {nt:Nat} {R:Type} {g:Gh} {s:St} {a:Act} {w:World}
def qig{ty}{v u}(h:(Instr.loadAt ty v).run P w = .ok u w):(do loadVar ty (←asAddr v):Sem Value).run P w = .ok u w:=by
 cases v with
 |pointer p =>
  cases p with
  |some ad=>simpa [Instr.loadAt,Instr.sureAddr,asAddr] using h
  |none=>simp[Instr.loadAt,Instr.sureAddr,stuck] at h
 |_=>simp[Instr.loadAt,Instr.sureAddr,stuck] at h
def qgP(j:SR Gl aa nt g s a w){rv}{k}{r:R}(d:FV P Gl aa s rv k=some r) :
 ∃x,k x=some r/\∃v,(KA a.tmps rv).run P w = .ok v w/\g.VR s.h w x v:=by
 cases rv with
 |tmp t =>
  refine⟨_,d,_,rfl,?_⟩;have:=j.ev (.tmp t);simpa [Act.eval] using this
 |cell c L =>
  simp only[FV] at d;cases i:base aa s (.tmp c) with
  |some p =>
   obtain⟨t,f⟩:=p;rw[i] at d;dsimp only at d;cases C:s.at t with
   |ag cells =>
    rw[C] at d;obtain⟨M,cb,I,e,H,E⟩:=Kx i j C;obtain⟨y,d,u,o,B⟩:=IL d (H.gy.drop f);rw[wo] at o;have J:a.tmps.getD c undef = .pointer (some ⟨cb,f,none⟩):=by simpa [Act.eval] using E
    refine⟨y,d,u,?_,B⟩;simp[KA,J,asAddr,o]
   |_=>rw[C] at d;cases d
  |none =>
   rw[i] at d;dsimp only at d;have D:c∉aa:=by
    intro D;have:aa.contains c=true:=by grind
    simp only[base,this,wp] at i;cases i
   obtain⟨y,d,u,o,B⟩:=ku (k:=λv _ _=>k v) d j.hr (j.tmps c D);exact⟨y,d,u,qig o,B⟩
def T7(e:SR Gl aa nt g s a w):∀(l:List ResultVar) {k:t7->Option R} {r:R},jd P Gl aa s l k=some r →
 ∃xs,k xs=some r/\∃vs:List Value,(l.mapM (KA a.tmps)).run P w = .ok vs w/\xs.length=vs.length/\∀(i:Nat) (x:T),xs[i]?=some x->∃v,vs[i]?=some v/\g.VR s.h w x v
 |[],k,r,d=>⟨[],d,[],rfl,rfl,λi x f=>rx⟩
 |rv::l,k,r,d=>by
  simp only[jd] at d;obtain⟨x,d,v,u,C⟩:=qgP e d;obtain⟨xs,d,vs,o,j,B⟩:=T7 e l d;refine⟨x::xs,d,v::vs,?_,by simp[j],λi y f=>?_⟩
  .simp[List.mapM_cons,u,o]
  grind
def YN(u:SR Gl aa nt g s a w){fn}{k}{r:R}(e:YX P Gl aa fn s k=some r) :
 ∃x,k x=some r/\∃v,(results fn a.tmps).run P w = .ok v w/\g.VR s.h w x v:=by
 unfold YX at e;obtain⟨o,e,d,I,j,f⟩:=T7 u _ e;have J:(fn.results.mapM (KA a.tmps)).run P w = .ok d.toArray w:=by
  rw[Array.mapM_eq_mapM_toList];rw[map_eq_pure_bind];simp_all
 rw[T6];have B:(do let d ←fn.results.mapM (KA a.tmps);pure (if h:d.size=1 then d[0] else .tuple d):Sem Value).run P w = .ok (if h:d.toArray.size=1 then d.toArray[0] else .tuple d.toArray) w:=by
  simp_all
 have aJ:d.length≠1->k (.aJ o)=some r->∃x,k x=some r/\∃v,(do let d ←fn.results.mapM (KA a.tmps);pure (if h:d.size=1 then d[0] else .tuple d):Sem Value).run P w = .ok v w/\g.VR s.h w x v:=by
  intro E e;refine⟨_,e,_,B,?_⟩;rw[dif_neg (by omega)];exact VR.iE (by omega) (λi c H=>by
   grind)
 match o,j,f,e,aJ with
 |[x],j,f,e,_ =>
  obtain⟨v,D,C⟩:=f 0 x rfl;grind
 |[],j,f,e,aJ=>grind
 |x::y::l,j,f,e,aJ=>grind
def T8(t)(d:t<1024):∀(l:t7) (i:Nat) (e:Tr),i+l.length<=1024->Tr.get QS (je i l e) t=if i<=t/\t<i+l.length then l.getD (t-i) .undef else Tr.get QS e t
 |[],i,e,_=>by
  rw[wh aq];rfl
 |x::l,i,e,f=>by
  simp at f;simp only[je];rw[T8 t d l (i+1) _ ab];have j:Tr.get QS (Tr.set QS e i x) t=if t=i then x else Tr.get QS e t:=Tr.fb 10 e i t x ab d;rw[j];grind
def qlx(args)(h)(e:args.length<=1024)(t):(enter args h).at t=args.getD t .undef:=by
 rcases wu t 1024 with d|d
 .rw[Gf d];have:=T8 t d args 0 .nil ab;simp only[wo,wN,true_and,Nat.sub_zero] at this;rw[show(enter args h).env=je 0 args .nil from rfl,this];split
  .rfl
  .rename_i hx;rw[wg,wz ab];rfl
 .rw[CF ab,wg,wz ab];rfl
def SR.enter{args}{h}{aE}(u:g.low<=w.heap.size)(hr:HR g h w)(B:yl Gl w g.U)(j:dz g h w args aE)(C:nt<=1024)(E:args.length<=nt) :
 SR Gl aa nt g (enter args h) { tmps:=aE++Array.replicate (nt-aE.size) undef,defers:=[] } w:=by
 have D:aE.size=args.length:=j.1.symm;have eF:=qlx args h ab;have i:∀t,g.VR h w ((Ab.enter args h).at t) ((aE++Array.replicate (nt-aE.size) undef).getD t undef):=by
  intro t;rw[eF];rcases wu t args.length with e|e
  .obtain⟨v,r,k⟩:=j.2 t args[t] (by simp[e]);rw[wg,wi e,wG,uc ab,r];exact k
  .rw[wg,wz e];exact .aF _ _ (.undef _)
 refine⟨hr,Marks.nil u,rx,C,λt _=>i t,λt _ cells x=>?_,λd t o f=>(by cases f),B,λd t o f=>(by cases f)⟩;have:=i t;rw[x] at this;exact absurd this VR.eo
variable {A:FuncId->cW}
def I8(fn)(s):cZ λR k=>YX P Gl aa fn s k:=by
 refine qG (g:=λd R k=>match d with|[v]=>k v|d=>k (T.aJ d)) (SF P Gl aa s _) λd=>?_
 match d with
 |[v]=>exact qp v
 |[]=>exact qp (T.aJ [])
 |x::y::l=>exact qp (T.aJ (x::y::l))
def qly(fn)(e)(s):cZ λR k=>IG P Gl aa fn e s λv h=>k (v,h):=by
 cases e with
 |exit i=>exact qk
 |normal=>exact qG (g:=λv _ k=>k (v,s.h)) (I8 fn s) λv=>qp (v,s.h)
 |ret=>exact qG (g:=λv _ k=>k (v,s.h)) (I8 fn s) λv=>qp (v,s.h)
def qkl{rec}(d:ZW rec)(f)(fn)(c)(args)(h:qa):cZ (A:=T×qa) λi k=>FW P Gl A K rec f fn c args h λv h=>k (v,h):=by
 unfold FW;refine qy _ (zz (ZX P K Gl (A f).aa fn.ntmps (A f).live d c (enter args h)) λe s=>qly fn e s)
def N0{rec}(d:∀fn,ZW (rec fn))(f)(args)(h):cZ λe k=>jf P Gl A K rec f args h λv h=>k (v,h):=by
 unfold jf;cases P.funcs[f]? with
 |none=>exact qk
 |some fn =>
  dsimp only;cases fn.body with
  |none=>exact qk
  |some c=>exact qkl (d fn) _ _ _ _ _
def qkm{rec}(e:∀fn,ZW (rec fn)){f}{args}{h}{k:T->qa->Option R}{r:R}(d:jf P Gl A K rec f args h k=some r):∃v h',k v h'=some r/\jf P Gl A K rec f args h (λv h=>some (v,h))=some (v,h'):=by
 obtain⟨⟨v,h'⟩,j,i⟩:=qM (N0 (P:=P) (K:=K) (Gl:=Gl) (A:=A) e f args h) (k:=λp=>k p.1 p.2) d;simp_all
def SR.world(d:SR Gl aa nt g s a w){w'}{ds}(H:w.heap.size<=w'.heap.size)(C:∀b,g.U b∨g.own b≠none->w'.heap[b]?=w.heap[b]?)(Q:∀b n,room w b n->room w' b n)
 (O:Marks g w' ds):SR Gl aa nt g s { a with defers:=ds } w':=by
 have D:Zn g s.h w g s.h w':=⟨λb f=>⟨f,C b (.inl f)⟩,λi b f=>⟨b,f,wc _,λ_=>⟨rfl,rfl,rfl⟩⟩,Q⟩;refine⟨⟨λi b f Y=>?_,λb f=>⟨vg (d.hr.u b f).1 H,(d.hr.u b f).2⟩,λb o r=>⟨(d.hr.own b o r).1,vg (d.hr.own b o r).2 H⟩,wM d.hr.base H,λb o r=>d.hr.fK r (C b (.inr (by rw[r];simp))),d.hr.lt,λi b m f S=>d.hr.fh f S rfl (λ_ B=>B) λc _ B=>C c (.inr (by rw[B];simp))⟩,
  O,d.size,d.nt,λt E=>(d.tmps t E).av D,λt E cells B=>?_,d.loc,λX cells W=>(d.eQ X cells W).av D.u,d.used⟩
 .rcases d.hr.dS i b f Y with⟨cb,J,x,e,k⟩|q
  rotate_left
  .grind
  exact .inl ⟨cb,J,x,e,k.φ,k.own,(C cb (.inr (by rw[k.own];simp))).trans k.heap,k.room,k.len,λj o c V r=>by
   obtain⟨v,N,M,L⟩:=k.cell j o c V r;exact⟨v,N,M,L.av D⟩,k.flat⟩
 .obtain⟨cb,x,e,I⟩:=d.eW t E cells B;exact⟨cb,x,e,I.av D rfl (C cb (.inr (by rw[I.own];simp)))⟩
def HR.hZ{h}(hr:HR g h w)(n):HR { g with low:=n } h w :=
 ⟨λi b k o=>by
  rcases hr.dS i b k o with⟨cb,j,f,e,d⟩|q
  .exact .inl ⟨cb,j,f,e,d.φ,d.own,d.heap,d.room,d.len,d.cell,d.flat⟩
  grind,hr.u,hr.own,hr.base,hr.cells,hr.lt,hr.mp⟩
def dA:t8->World->World
 |[],w=>w
 |D::l,w=>dA l (w.putObj D (.deferred none))
def jP:∀(l:t8) (w:World),(dA l w).heap.size=w.heap.size/\(dA l w).os=w.os/\(dA l w).tape=w.tape/\fi (dA l w) w/\∀b,b∉l->(dA l w).heap[b]?=w.heap[b]?
 |[],w=>⟨rfl,rfl,rfl,.refl _,λ_ _=>rfl⟩
 |D::l,w=>by
  obtain⟨k,j,i,f,e⟩:=jP l _;refine⟨by simp only[dA];rw[k,World.putObj_size],by simp only[dA];rw[j];rfl,by simp only[dA];rw[i];rfl,by simp only[dA];exact f.trans ⟨rfl,wc _⟩,λb d=>?_⟩;simp only[wJ,not_or] at d;simp only[dA];rw[e b d.2,World.putObj_heap_other d.1]
def Zr{F:Fence}{n:Nat}{fn:Func}{tmps:Array Value}{R:Ending->World->Prop}:∀(l:t8) (w:World),l.Nodup->(∀D∈l,w.heap[D]?=some (.deferred (some []))) →
 (∃v,(results fn tmps).run P (dA l w) = .ok v (dA l w)/\R (.returned v) (dA l w))->LeavesInM F n P fn tmps R (l.map Ja) .returning w
 |[],w,_,_,h=>by simpa [LeavesInM,LeavesIn,dA] using h
 |D::l,w,hn,e,h=>by
  rw[xu] at hn;refine⟨aq,.inl ⟨D,_,rfl,run_takeDeferred (e D aq),Zr l _ hn.2 (λE d=>?_) h⟩⟩;rw[World.putObj_heap_other (by rintro rfl;exact hn.1 d)];grind
def ES(P:Program)(Gl:t9)(A:FuncId->cW)(f:FuncId)(rec:Func->Rec):Prop :=
 ∀fn c,P.funcs[f]?=some fn->fn.body=some c->fn.ntmps<=1024->ll P Gl (A f).aa fn.ntmps (A f).live (λb=>b∈qF c) (rec fn)
def KB(hm:P.follows .mixedOrders=true)(hK:aS P Gl K){f:FuncId}{rec:Func->Rec}(bw:ES P Gl A f rec){args:t7}{h h':qa}{r:T}(d:jf P Gl A K rec f args h (λv h=>some (v,h))=some (r,h'))
 {aE:Array Value} (hr:HR g h w) (X:JK g) (di:yl Gl w g.U) (ha:dz g h w args aE) :
 Calls P f aE w λe w'=>∃v,e = .returned v/\ij g h w r h' v w':=by
 unfold jf at d;cases E:P.funcs[f]? with
 |none=>rw[E] at d;cases d
 |some fn =>
  rw[E] at d;dsimp only at d;cases j:fn.body with
  |none=>rw[j] at d;cases d
  |some c =>
   rw[j] at d;dsimp only[FW] at d;obtain⟨I,d⟩:=qo d;simp only[wd] at I;have M:=Qr I.1;have bz:=Qr I.2;obtain⟨e,O,d,ik⟩:=zf hm hK M (bw fn c E j M) c (λ_ j=>j) d;have lF:=SR.enter (Gl:=Gl) (aa:=(A f).aa) (wc _) (hr.hZ w.heap.size) di ha M bz;rw[←callsIn_wide (n:=0)];refine callsIn_of_wp_marks E j trivial (ik none 0 (λ_=>rfl) _ _ w lF _ λa' w' o Z k _=>?_) rfl;have B:YX P Gl (A f).aa fn O (λv=>some (v,O.h))=some (r,h')->LeavesInM Fence.wide 0 P fn a'.tmps (λe w'=>∃v,e = .returned v/\ij g h w r h' v w') a'.defers .returning w':=by
    intro d;obtain⟨pO,l,se,uP,Q⟩:=Z.defers;obtain⟨t1,t2,t3,t4,C⟩:=jP l w';have oX:o.low=w.heap.size:=k.low;have W:∀b,o.U b∨o.own b≠none->b∉l:=by
     grind
    have S:∀b n,room w' b n->room (dA l w') b n:=by
     rintro b n ⟨N,e,L,J⟩;refine⟨N,e,?_,J⟩;rw[C b λV=>?_]
     .exact L
     grind
    have Y:=Z.world (w':=dA l w') (ds:=[]) ab (λb j=>C b (W b j)) S (Marks.nil ab);obtain⟨x,d,v,L,J⟩:=YN Y d;simp only[wj,wA] at d;obtain⟨rfl,rfl⟩:=d;rw[se];refine Zr l w' uP (λD hD=>(Q D hD).2.2.2) ⟨v,L,v,rfl,{ o with own:=λb=>match o.own b with|some (.inl i)=>some (.inl i)|_=>none,low:=g.low },(Y.hr.iH).hZ g.low,J,?_,?_⟩
    .exact k.av.trans ⟨λb j=>⟨j,C b (W b (.inl j))⟩,λi b j=>⟨b,j,wc _,λ_=>⟨rfl,rfl,rfl⟩⟩,S⟩
    .refine⟨by have:=k.size;omega,λb j=>?_,t2.trans k.os,t3.trans k.tape,t4.trans k.output,λb j hn=>?_,?_,k.u,λb j t=>by dsimp only;split<;>simp⟩
     .dsimp only;rw[k.own b j];dsimp only;cases H:g.own b with
      |none=>rfl
      |some q =>
       cases q with
       |inl i=>rfl
       |inr t=>exact absurd H (X b t)
     .rw[C b λV=>by have:=(Q b V).1;omega];refine k.same b j ?_;dsimp only;cases H:g.own b with
      |none=>rfl
      |some q =>
       cases q with
       |inl i=>grind
       |inr t=>exact absurd H (X b t)
     .have:=k.base;simp only[Gh.bs,this]
   cases e with
   |normal=>exact B d
   |ret=>exact B d
   |exit i=>cases d
def N1(M:P.follows .mixedOrders=true)(S:aS P Gl K){f:FuncId}{rec}(Z:∀fn,ZW (rec fn))(W:ES P Gl A f rec){args:t7}{r:T}(N:jf P Gl A K rec f args [] (λv h=>some (kQ h v))=some r)
 {aE:Array Value} {U:Nat->Prop} (Q:∀b,U b->b<w.heap.size) (V:yl Gl w U) (E:IZ w U args aE) :
 Calls P f aE w λe w'=>∃v,e = .returned v/\RV w U r v w':=by
 obtain⟨rv,h',Gy,L⟩:=qkm Z N;obtain rfl:=we Gy
 let g0:Gh:={ U:=U,φ:=λ_=>none,own:=λ_=>none,base:=w.heap.size,low:=0 }
 have hr:HR g0 [] w:=⟨λi b d=>rx,λb d=>⟨Q b d,rfl⟩,λb o k=>(by cases k),wc _,λb o k=>(by cases k),λb i k=>(by cases k),λi b m d=>rx⟩;refine(KB (g:=g0) M S W L hr (λb t=>by simp[g0]) V ⟨E.1,λi x O=>?_⟩).mono λe w' ⟨v,he,Y⟩=>⟨v,he,?_⟩
 .obtain⟨v,D,C⟩:=E.2 i x O;exact⟨v,D,.aF _ _ C⟩
 .obtain⟨H,I,hx,DR,j⟩:=Y;have fO:H.base=w.heap.size:=j.base;obtain⟨X,D,C,J⟩:=JJ I (B:=w.heap.size) ab hx;refine⟨⟨⟨j.os,j.tape,j.output.1,j.size,λb d=>j.same b d (λi=>by simp[g0])⟩,j.output.2⟩,YL H w' w.heap.size (ZP rv),X,λb d=>.inl (DR.u b d).1,λb d=>?_,C,J,D⟩;rcases d with d|d
  .exact⟨j.u b d,(I.u b d).1⟩
  omega
def QN(P:Program):Bool:=P.funcs.all λfn=>fn.body.isNone || !(fn.name=="runtime.NumGoroutine")
def ZN(hn:QN P=true){rec}{f}{args}{h}{k:T->qa->Option R}{r:R}(d:jf P Gl A K rec f args h k=some r):∃fn,P.funcs[f]?=some fn/\fn.body.isNone=false/\(fn.name=="runtime.NumGoroutine")=false:=by
 unfold jf at d;cases e:P.funcs[f]? with
 |none=>rw[e] at d;cases d
 |some fn =>
  rw[e] at d;dsimp only at d;cases i:fn.body with
  |none=>rw[i] at d;cases d
  |some c =>
   refine⟨fn,rfl,by rw[i];rfl,?_⟩;have:=Array.all_eq_true'.1 hn fn (xn e);rw[i] at this;grind
def YO(P)(Gl)(A)(K)(m)(f):∀fn,ZW (Cu P Gl A K m f fn):=λd=>ZK P K Gl _ _ _ m
def jQ(d:P.follows .mixedOrders=true)(e:aS P Gl K)(m)(f:FuncId):ES P Gl A f (Cu P Gl A K m f):=λ_ _ _ _ i=>(I7 d e i m).mono
def qt:bv:=⟨λ_=>false,λ_ _ _ _=>none,λ_ _ _ _ _=>none,λ_ _=>qk,λ_ _ _=>qk,λ_=>false⟩
def qm:aS P Gl qt :=
 ⟨λf hx=>(by rcases hx with⟨d,r,hx⟩|⟨d,h,r,hx⟩<;>cases hx),λf d r hx=>(by cases hx),λf d h r h' hx=>(by cases hx),λf e=>by cases e⟩
inductive oY where
 |none
 |ret (v:T)
 |ite (c:Bool) (x y:oY)
def oY.run{R:Type}:oY->(T->Option R)->Option R
 |.none,_=>Option.none
 |.ret v,k=>k v
 |.ite c x y,k=>bif c then x.run k else y.run k
def oY.Al:∀t:oY,cZ λR k=>t.run k
 |.none=>qk
 |.ret v=>qp v
 |.ite c x y=>qQ c x.Al y.Al
def bv.add(K:bv)(f:FuncId)(i:t7->oY):bv where
 cJ e:=bif e==f then false else K.cJ e
 ref:=K.ref
 val e d R k:=bif e==f then(i d).run k else K.val e d R k
 dv e d:=qQ _ (i d).Al (K.dv e d)
 dw:=K.dw
 ro:=K.ro
end
section
variable {w:World} {U:Nat->Prop}
end
section
variable {P:Program} {K:bv} {Gl:t9} {A:FuncId->cW}
end
inductive LT where
 |none
 |ret (e:Ex) (vs:t7) (h:qa)
 |ite (c:Bool) (x y:LT)
def LT.run{R:Type}:LT->(Ex->t7->qa->Option R)->Option R
 |.none,_=>Option.none
 |.ret e a h,k=>k e a h
 |.ite c x y,k=>bif c then x.run k else y.run k
def LT.Al:∀t:LT,cZ λR k=>t.run λe vs h=>k (e,vs,h)
 |.none=>qk
 |.ret e vs h=>qp (e,vs,h)
 |.ite c x y=>qQ c x.Al y.Al
def ym(P:Program)(f:FuncId)(r:Nat):Code:=match P.funcs[f]? with
 |some fn=>match fn.body with
  |some c=>((qF c).find? λb=>qD b==r).getD .skip
  |none=>.skip
 |none=>.skip
def Gz:t8->Bool
 |[]=>true
 |a::l=>!(l.contains a)&&Gz l
def QP(P:Program)(f:FuncId):Bool:=match P.funcs[f]? with
 |some fn=>match fn.body with
  |some c=>Gz ((qF c).map qD)
  |none=>true
 |none=>true
def Yd:List (Nat×(t7->qa->LT))->(Func->Rec)->Func->Rec
 |[],base,fn,R,b,d,h,k=>base fn R b d h k
 |(r,a)::l,base,fn,R,b,d,h,k=>bif qD b==r then(a d h).run k else Yd l base fn R b d h k
section
variable {P:Program} {K:bv} {Gl:t9} {A:FuncId->cW}
def ax(P:Program)(Gl:t9)(an:cW)(f:FuncId)(r:Nat)(a:t7->qa->LT):Prop :=
 ∀fn,P.funcs[f]?=some fn->fn.ntmps<=1024->∀d h e g h',(a d h).run (λe d h=>some (e,d,h))=some (e,g,h') →
  aG P Gl an.aa fn.ntmps (yc (ym P f r)) (qJ (an.live r false) d h) e (qJ (an.live r true) g h')
def jw{base:Func->Rec}(e:∀fn,ZW (base fn)):∀(l:List (Nat×(t7->qa->LT))) (fn:Func),ZW (Yd l base fn)
 |[],fn=>e fn
 |(r,a)::l,fn=>λb d h=>by
  exact qQ _ (a d h).Al (jw e l fn b d h)
def T9:∀{l:List Code} {b:Code},Gz (l.map qD)=true->b∈l->l.find? (λx=>qD x==qD b)=some b
 |[],b,_,h=>by cases h
 |a::l,b,hn,h=>by
  simp only[xt,Gz,wd] at hn;rcases wJ.1 h with rfl|h
  .simp
  ·have d:qD a≠qD b:=λe=>by
    grind
   rw[List.find?_cons_of_neg rx];exact T9 hn.2 h
def Ua{f}{fn}{c b}(a:QP P f=true)(d:P.funcs[f]?=some fn)(e:fn.body=some c)(h:b∈qF c):ym P f (qD b)=b:=by
 unfold QP at a;rw[d] at a;dsimp only at a;rw[e] at a;unfold ym;rw[d];dsimp only;rw[e];dsimp only;rw[T9 a h];rfl
def YP{f:FuncId}(s:QP P f=true){base:Func->Rec}(C:∀fn,ZW (base fn))(o:ES P Gl A f base) :
 ∀{l:List (Nat×(t7->qa->LT))},(∀p∈l,ax P Gl (A f) f p.1 p.2)->ES P Gl A f (Yd l base)
 |[],_=>o
 |(r,d)::l,j=>by
  intro fn c g k x;have D:=YP s C o (l:=l) (λp E=>j p (by simp[E])) fn c g k x;refine⟨jw C _ fn,λb i h e B h' u a=>?_⟩;simp only[Yd] at a;rcases qw a with⟨hr,a⟩|⟨_,a⟩
  .have hr:qD b=r:=by simpa using hr
   have:=j (r,d) aq fn g x i h e B h' a;dsimp only at this;rw[←hr,Ua s g k u] at this;omega
  .exact D.2 b i h e B h' u a
def Z6(P:Program)(G:t9)(A:FuncId->cW)(K:bv)(m:Nat)(f:FuncId)(l:List (Nat×(t7->qa->LT)))(args:t7):Option T :=
 jf P G A K (Yd l (Cu P G A K m f)) f args [] λv h'=>some (kQ h' v)
structure aD(P:Program)(Gl:t9)(f:FuncId)(args:t7)(r:T):Prop where
 enters:∃fn,P.funcs[f]?=some fn/\fn.body.isNone=false/\(fn.name=="runtime.NumGoroutine")=false
 calls:∀(w:World) (U:Nat->Prop) (aE:Array Value),(∀b,U b->b<w.heap.size)->yl Gl w U->IZ w U args aE →
  Calls P f aE w λe w'=>∃v,e = .returned v/\RV w U r v w'
def Qs(a:P.follows .mixedOrders=true)(hn:QN P=true)(d:aS P Gl K){m:Nat}{f}(g:QP P f=true){l:List (Nat×(t7->qa->LT))}
 (e:∀p∈l,ax P Gl (A f) f p.1 p.2) {args:t7} {r:T} (h:Z6 P Gl A K m f l args=some r):aD P Gl f args r :=
 ⟨ZN hn h,λ_ _ _ i j k=>N1 a d (jw (YO P Gl A K m f) l) (YP g (YO P Gl A K m f) (jQ a d m f) e) h i j k⟩
def qE(a:P.follows .mixedOrders=true)(hn:QN P=true)(d:aS P Gl K){m}{f}{args}{r:T}(h:QK P Gl A K m f args=some r):aD P Gl f args r :=
 ⟨ZN hn h,λ_ _ _ e g i=>N1 a d (YO P Gl A K m f) (jQ a d m f) h e g i⟩
def qr{s}(g:aS P Gl s){f}{a}(i:∀args r,(a args).run some=some r->aD P Gl f args r):aS P Gl (s.add f a):=by
 refine⟨λe hx=>?_,λe args r hx w U aE k o j=>?_,g.ref,g.ro⟩
 .rcases hx with⟨args,r,hx⟩|hx
  .rcases qw hx with⟨he,d⟩|⟨_,d⟩
   .have he:e=f:=by grind
    subst he;exact(i args r d).enters
   .exact g.enters e (.inl ⟨args,r,d⟩)
  .exact g.enters e (.inr hx)
 .simp only[bv.add] at hx;rcases qw hx with⟨he,d⟩|⟨_,d⟩
  .have he:e=f:=by grind
   subst he;exact(i args r d).calls w U aE k o j
  .exact g.val e args r d w U aE k o j
def QO(P:Program)(G:t9)(A:FuncId->cW)(K:bv)(m:Nat)(f:FuncId)(l:List (Nat×(t7->qa->LT)))(r:Nat)(vs:t7)(h:qa):Option (Ex×t7×qa) :=
 match P.funcs[f]? with
 |some fn=>ic P K G (A f).aa fn.ntmps (A f).live (Yd l (Cu P G A K m f) fn) (ym P f r) (qJ ((A f).live r false) vs h) λe a=>match e with
  |.normal=>some (.normal,Za a ((A f).live r false),a.h)
  |e=>some (e,Za a ((A f).live r true),a.h)
 |none=>none
def jy(P:Program)(f:FuncId)(r:Nat):Bool:=match P.funcs[f]? with
 |some fn=>match fn.body with
  |some c=>Gz ((qF c).map qD)&&(qF c).any λb=>qD b==r&&!(FU b)
  |none=>false
 |none=>false
def QA:∀(c:Code) {b d:Code},b∈qF c->d∈qF b->d∈qF c
 |.seq x y,b,d,a,e=>by
  simp only[qF,wS] at a ⊢;rcases a with a|a
  .exact .inl (QA x a e)
  .exact .inr (QA y a e)
 |.cond _ x y,b,d,a,e=>by
  simp only[qF,wS] at a ⊢;rcases a with a|a
  .exact .inl (QA x a e)
  .exact .inr (QA y a e)
 |.block _ x,b,d,a,e=>by
  exact QA x a e
 |.loop x,b,d,a,e=>by
  simp only[qF,wJ] at a ⊢;rcases a with rfl|a
  .grind
  .exact .inr (QA x a e)
 |.skip,_,_,a,_=>by simp[qF] at a
 |.label _,_,_,a,_=>by simp[qF] at a
 |.region ..,_,_,a,_=>by simp[qF] at a
 |.exit _,_,_,a,_=>by simp[qF] at a
 |.ret,_,_,a,_=>by simp[qF] at a
 |.scope x,b,d,a,e=>by
  exact QA x a e
 |.goto _,_,_,a,_=>by simp[qF] at a
 |.refuse _,_,_,a,_=>by simp[qF] at a
 |.rangeFunc g ps x y,b,d,a,e=>by
  simp only[qF,wJ,wS] at a ⊢;rcases a with rfl|a|a
  .simpa only[qF,wJ,wS] using e
  .exact .inr (.inl (QA x a e))
  .exact .inr (.inr (QA y a e))
def qkn{f:FuncId}{r:Nat}(a:jy P f r=true){fn}(i:P.funcs[f]?=some fn):QP P f=true/\∃c,fn.body=some c/\ym P f r∈qF c/\qD (ym P f r)=r/\yc (ym P f r) = .loop (ym P f r):=by
 unfold jy at a;rw[i] at a;dsimp only at a;cases g:fn.body with
 |none=>rw[g] at a;cases a
 |some c =>
  rw[g] at a;simp only[wd] at a;obtain⟨u,j⟩:=a;rw[List.any_eq_true] at j;obtain⟨b,k,d⟩:=j;simp only[wd,wR,vm] at d;obtain⟨d,s⟩:=d;have o:QP P f=true:=by grind[QP]
  have e:=Ua o i g k;rw[d] at e;exact⟨o,c,rfl,by rw[e];exact k,by rw[e];exact d,by rw[e];simp[yc,s]⟩
end
def mV(x y:T):Prop:=∀w U v,VI w U x v->VI w U y v
def mV.refl(x:T):mV x x:=λ_ _ _ h=>h
def mV.undef(x:T):mV x .undef:=λ_ _ v _=>.undef v
def cH(l m:t7):Prop:=l.length=m.length/\∀(i:Nat) a b,l[i]?=some a->m[i]?=some b->mV a b
def cH.refl(l:t7):cH l l:=⟨rfl,λi a b e d=>by rw[e] at d;obtain rfl:=we d;exact .refl _⟩
def cH.nil:cH [] []:=.refl _
def cH.cons{x y:T}{l m:t7}(h:mV x y)(d:cH l m):cH (x::l) (y::m):=by
 refine⟨by simp[d.1],λi a b f e=>?_⟩;cases i with
 |zero=>grind
 |succ i=>exact d.2 i a b rx rx
def cH.get{l m:t7}(h:cH l m){i:Nat}{b:T}(f:m[i]?=some b):∃a,l[i]?=some a/\mV a b:=by
 have e:i<m.length:=by
  grind
 have d:l[i]?=some (l[i]'(by rw[h.1];exact e)):=wi _;exact⟨_,d,h.2 i _ _ d f⟩
def mV.view{sz n:Nat}{g g':Nat->t7}{c e:Option Nat}(B:e=c∨e=none)(k:∀j,j<n->cH (g j) (g' j)):mV (.view sz n g c) (.view sz n g' e):=by
 intro w U v h;cases h with
 |fg _ _ _ u =>
  exact .fg _ _ _ (by rcases B with h|h<;>rw[h]<;>first|exact u|grind)
 |view _ _ _ _ a cc s f I hn C H D A =>
  refine .view sz n g' e a cc s f (λm E=>?_) hn C (λj d=>by rw[←(k j d).1];grind) (λj o x d i=>?_) (λj o x d i=>?_)
  .grind
  .obtain⟨y,r,_⟩:=(k j d).get i;grind
  .obtain⟨y,r,f⟩:=(k j d).get i;exact f _ _ _ (A j o y d r)
def mV.agg{l m:t7}(h:cH l m):mV (.agg l) (.agg m):=by
 intro w U v a;cases a with
 |agg _ o f j k r a =>
  refine .agg m o f (by rw[←h.1];exact j) k (λi c d=>?_) (λi c d=>?_)
  .obtain⟨y,e,_⟩:=h.get d;grind
  .obtain⟨y,e,g⟩:=h.get d;exact g _ _ _ (a i y e)
section
variable {P:Program} {Gl:t9} {aa:t8} {nt:Nat}
end
def aD.J3{P:Program}{Gl:t9}{f:FuncId}{args e:t7}{r:T}(h:aD P Gl f e r)(a:cH args e):aD P Gl f args r :=
 ⟨h.enters,λw U aE o s d=>h.calls w U aE o s ⟨by rw[←a.1];exact d.1,λi x hx=>by
  obtain⟨y,k,u⟩:=a.get hx;obtain⟨v,j,g⟩:=d.2 i y k;exact⟨v,j,u _ _ _ g⟩⟩⟩
def cH.rg{x:T}{l m:List T}(h:cH l m):cH (x::l) (x::m):=.cons (.refl _) h
open Go.ChangeShapes Go.WideShapes Go.ChangeAt Go.RowKit
def GB:Option TypeDesc->Bool
 |some .bool|some (.int _)|some .string|some (.struct _)|some (.array _ _)|some (.slice _)|none=>false
 |_=>true
inductive CT(P:Program){H:Type}:TypeId->t7->DataW H->Prop
 |bool (t:TypeId) (b:Bool) (ht:P.underlying t=some .bool):CT P t [.bool b] (.lit (.bool b))
 |int (t:TypeId) (k:IntKind) (n:Int) (ht:P.underlying t=some (.int k)) (hn:(Lit.int k n).wf=true):CT P t [.int k n] (.lit (.int k n))
 |str (t:TypeId) (s:List UInt8) (ht:P.underlying t=some .string) (hs:s.length<=maxLen):CT P t [.str s] (.lit (.string s))
 |ae (t e:TypeId) (ht:P.underlying t=some (.slice e)):CT P t [.ae] .nil
 |view (t e:TypeId) (n c:Nat) (g:Nat->t7) (be spare:List (DataW H)) (ht:P.underlying t=some (.slice e)) (he:be.length=n) (hs:spare.length=c-n) (hn:n<=c) (hc:c<=maxLen)
  (hg:∀j d,be[j]?=some d->CT P e (g j) d):CT P t [.view (P.cellsOf e) n g (some c)] (.slice be spare)
 |thin (t e:TypeId) (d:DataW H) (ht:P.underlying t=some (.slice e)) (h0:P.cellsOf e=0):CT P t [.undef] d
 |struct (t:TypeId) (fs:Array Field) (parts:List t7) (ds:List (DataW H)) (ht:P.underlying t=some (.struct fs)) (h1:parts.length=fs.size) (h2:ds.length=fs.size)
  (hp:∀(i:Nat) f p d,fs[i]?=some f->parts[i]?=some p->ds[i]?=some d->CT P f.type p d):CT P t parts.flatten (.agg ds)
 |array (t e:TypeId) (n:Nat) (parts:List t7) (ds:List (DataW H)) (ht:P.underlying t=some (.array n e)) (h1:parts.length=n) (h2:ds.length=n)
  (hp:∀(i:Nat) p d,parts[i]?=some p->ds[i]?=some d->CT P e p d):CT P t parts.flatten (.agg ds)
 |Bh (t:TypeId) (d:DataW H) (ht:GB (P.underlying t)=true):CT P t [.undef] d
def bO(w:World)(U:Nat->Prop)(ts:t7)(cs:List Value):Prop :=
 ts.length=cs.length/\∀(i:Nat) (c:T),ts[i]?=some c->∃v,cs[i]?=some v/\VI w U c v/\v.oneCell'=true
def bO.nil{w}{U}:bO w U [] []:=⟨rfl,λi c h=>rx⟩
def bO.one{w}{U}{c:T}{v}(h:VI w U c v)(h1:v.oneCell'=true):bO w U [c] [v] :=
 ⟨rfl,λi x hx=>by
  grind⟩
def bO.append{w}{U:Nat->Prop}{a b:t7}{c d:List Value}(h:bO w U a c)(h':bO w U b d):bO w U (a++b) (c++d):=by
 refine⟨by simp[h.1,h'.1],λi x hx=>?_⟩;rcases wu i a.length with e|e
 .rw[wy e] at hx;rw[wy (by rw[←h.1];exact e)];exact h.2 i x hx
 .rw[wH e] at hx;rw[wH (by rw[←h.1];exact e),←h.1];exact h'.2 _ x hx
def bO.flatten{w:World}{U:Nat->Prop}:∀{ps:List t7} {a:List (List Value)},ps.length=a.length->(∀(i:Nat) p q,ps[i]?=some p->a[i]?=some q->bO w U p q)->bO w U ps.flatten a.flatten
 |[],[],_,_=>.nil
 |p::ps,q::a,d,h=>by
  exact(h 0 p q rfl rfl).append (bO.flatten rx λi p q f e=>h (i+1) p q rx rx)
 |[],_::_,d,_=>by grind
 |_::_,[],d,_=>rx
def jz{α}:∀(sz:t8) (cs:List α),cs.length=sz.sum->((List.range sz.length).map λi=>(cs.drop (sz.take i).sum).take (sz.getD i 0)).flatten=cs
 |[],cs,h=>by grind
 |s::sz,cs,h=>by
  have a:=jz sz (cs.drop s) rx;rw[vc,List.range_succ_eq_map,xt,List.flatten_cons,List.map_map];have e:(List.map ((λi=>(cs.drop (List.take i (s::sz)).sum).take ((s::sz).getD i 0))∘Nat.succ) (List.range sz.length))=(List.range sz.length).map λi=>((cs.drop s).drop (sz.take i).sum).take (sz.getD i 0):=by
   simp_all
  rw[e,a];simp
section
variable {H:Type} {enc:TypeId×Value->H} {P:Program} {w:World} {base:Nat} {spare:Nat->Bool} {held:Bool}
def N3(a:laidOutB P=true){t}(d:isVar P t=true):rowFine P t=true:=by
 simp only[laidOutB,wd] at a;have e:=a.1.1;simp only[isVar,wd,wm] at d;grind
def qgQ(g:laidOutB P=true){t}(d:isVar P t=true){fs:Array Field}(e:P.underlying t=some (.struct fs)) :
 (∀(i:Nat) f,fs[i]?=some f->isVar P f.type=true)/\P.cellsOf t=(fs.toList.map λf=>P.cellsOf f.type).sum/\∀(i:Nat) f,fs[i]?=some f->f.offset=((fs.toList.take i).map λf=>P.cellsOf f.type).sum:=by
 have h:=N3 g d;unfold rowFine at h;rw[d,e] at h;simp only[Bool.not_true,xZ,wd,vm] at h;obtain⟨⟨r,o⟩,k⟩:=h;refine⟨λi f a=>wD.1 r f (by rw[Array.mem_toList_iff];exact xn a),o,λi f a=>?_⟩;have j:i<fs.toList.length:=by
  rcases wu i fs.size with q|q
  .simpa using q
  .simp[q] at a
 have:=wD.1 k i (by simpa using j);grind
def qih(f:laidOutB P=true){t e}{n:Nat}(a:isVar P t=true)(d:P.underlying t=some (.array n e)):isVar P e=true/\P.cellsOf t=n*P.cellsOf e:=by
 have h:=N3 f a;unfold rowFine at h;rw[a,d] at h;grind
def qii(f:laidOutB P=true){t e}(a:isVar P t=true)(d:P.underlying t=some (.slice e)):isVar P e=true:=by
 have h:=N3 f a;unfold rowFine at h;rw[a,d] at h;grind
def cells?_some{a}{n}{l}(h:w.cells? base a n=some l):l.length=n/\∀i,i<n->w.cell? (a.add i)=l[i]?:=by
 unfold World.cells? at h;split at h
 .exact⟨by simpa using mapM_some_length h,λi d=>mapM_some_get h i i (by simp[d])⟩
 .cases h
def ke{α β}{R:Nat->α->β->Prop}:∀(l:List α),(∀(i:Nat) a,l[i]?=some a->∃b,R i a b)->∃m:List β,m.length=l.length/\∀(i:Nat) a b,l[i]?=some a->m[i]?=some b->R i a b
 |[],_=>⟨[],rfl,λi a b h=>rx⟩
 |x::l,h=>by
  obtain⟨b,g⟩:=h 0 x rfl;obtain⟨m,e,hr⟩:=ke (R:=λi=>R (i+1)) l λi a d=>h (i+1) a (by simpa using d);refine⟨b::m,by simp[e],λi a c d f=>?_⟩;grind
def qlz{d}{t}{cs}{x:DataW H×List MemPlace}(a:GB (P.underlying t)=true)(h:DataW.trod enc P w base spare held d t cs=some x):∃v,cs=[v]/\v.oneCell'=true:=by
 cases d with
 |zero=>simp[DataW.trod] at h
 |succ n =>
  unfold DataW.trod at h;split at h<;>rename_i e<;>first
   |exact⟨_,rfl,rfl⟩
   |(rw[e] at a;simp[GB] at a)
   |cases h
def qij{a}{t}{cs}{x}(h:DataW.trod enc P w base spare held a t cs=some x):P.underlying t≠none:=by
 intro e;cases a with
 |zero=>simp[DataW.trod] at h
 |succ n =>
  unfold DataW.trod at h;rw[e] at h;grind
def Uc(hl:laidOutB P=true)(Y:∀b,spare b=true):∀(eA:Nat) (t:TypeId) (cs:List Value) (x:DataW H×List MemPlace),isVar P t=true->DataW.trod enc P w base spare held eA t cs=some x →
 ∃ts,CT P t ts x.1/\bO w (λb=>b<w.heap.size) ts cs:=by
 intro eA
 induction eA with
 |zero=>intro t cs x _ h;simp[DataW.trod] at h
 |succ n ih =>
  intro t cs x hv h;cases g:P.underlying t with
  |none=>exact absurd g (qij h)
  |some de =>
   have N4:GB (P.underlying t)=true->∃ts,CT P t ts x.1/\bO w (λb=>b<w.heap.size) ts cs:=λD=>by
    obtain⟨v,rfl,L⟩:=qlz D h;exact⟨[.undef],.Bh t _ D,.one (.undef _) L⟩
   cases de with
   |bool =>
    unfold DataW.trod at h;rw[g] at h;split at h<;>rename_i e<;>simp at e
    .obtain rfl:=we h;exact⟨_,.bool t _ g,.one (.bool _) rfl⟩
    .cases h
   |int k =>
    unfold DataW.trod at h;rw[g] at h;split at h<;>rename_i e<;>simp at e
    .subst e;split at h
     .rename_i hc;obtain⟨rfl,hwf⟩:=hc;obtain rfl:=we h;exact⟨_,.int t _ _ g hwf,.one (.int _ _) rfl⟩
     .cases h
    .cases h
   |string =>
    unfold DataW.trod at h;rw[g] at h;split at h<;>rename_i e<;>simp at e
    .split at h
     .rename_i s hc;obtain rfl:=we h;exact⟨_,.str t _ g (by simp_all),.one (.str _ s rfl) rfl⟩
     .cases h
    .cases h
   |struct fs =>
    obtain⟨M,m,O,rfl,aY,uQ,fA⟩:=DataW.trod_struct g h;obtain rfl:n=m:=by omega
    obtain⟨q1,B,q3⟩:=qgQ hl hv g;obtain⟨parts,U,S⟩:=ke (α:=Field) (β:=t7) (R:=λi f p=>∃y,M[i]?=some y/\CT P f.type p y.1/\bO w (λb=>b<w.heap.size) p ((cs.drop f.offset).take (P.cellsOf f.type))) fs.toList (λi f hf=>by
     grind)
    refine⟨parts.flatten,.struct t fs parts _ g (by omega) rx (λi f p d hf J V=>?_),?_⟩
    .grind
    ·have DV:=jz (fs.toList.map λf=>P.cellsOf f.type) cs (by rw[aY,B]);rw[←DV];refine bO.flatten (by simp[U]) λi p q J C=>?_;have E:i<fs.size:=by
      rcases wu i parts.length with r|r
      ·simpa [U] using r
      ·simp[r] at J
     obtain⟨y,r1,_,Z⟩:=S i fs[i] p (by simp[E]) J;simp only[wW,wE,xz] at C;rw[xc E] at C;simp only[xg,wj] at C;rw[←C];have l6:=q3 i fs[i] (by simp[E]);simp_all
   |array k e =>
    obtain⟨M,m,O,rfl,aY,uQ,fA⟩:=DataW.trod_array g h;obtain rfl:n=m:=by omega
    obtain⟨q1,B⟩:=qih hl hv g;obtain⟨parts,U,S⟩:=ke (α:=DataW H×List MemPlace) (β:=t7) (R:=λi y p=>CT P e p y.1/\bO w (λb=>b<w.heap.size) p ((cs.drop (i*P.cellsOf e)).take (P.cellsOf e))) M (λi y N=>by
     grind)
    refine⟨parts.flatten,.array t e k parts _ g ab rx (λi p d J V=>?_),?_⟩
    .rw[wE,wT] at V;grind
    ·have DV:=jz (List.replicate k (P.cellsOf e)) cs (by rw[aY,B];simp);rw[←DV];refine bO.flatten rx λi p q J C=>?_;have E:i<k:=by
      grind
     have N:M[i]?=some M[i]:=wi ab;have Z:=(S i _ p N J).2;simp only[List.length_replicate,wE] at C;rw[xc E] at C;simp only[xg,wj] at C;rw[←C];have N5:(List.replicate k (P.cellsOf e)).getD i 0=P.cellsOf e:=by simp[E]
     have N6:(List.take i (List.replicate k (P.cellsOf e))).sum=i*P.cellsOf e:=by
      rw[List.take_replicate];simp[uf (Nat.le_of_lt E)]
     rw[N5,N6];exact Z
   |slice e =>
    rcases vY (P.cellsOf e) with hz|hz
    ·have DI:∃v,cs=[v]/\v.oneCell'=true:=by
      rcases DataW.trod_slice g h with⟨rfl,_⟩|⟨a,len,cap,X,u,m,O,rfl,_⟩
      ·exact⟨_,rfl,rfl⟩
      ·exact⟨_,rfl,rfl⟩
     obtain⟨v,rfl,L⟩:=DI;exact⟨[.undef],.thin t e _ g hz,.one (.undef _) L⟩
    rcases DataW.trod_slice g h with⟨rfl,rfl⟩|⟨a,len,cap,X,u,m,O,rfl,rfl,hb,bz,fJ,bH,fA,tn,_⟩
    .exact⟨[.ae],.ae t e g,.one .ae rfl⟩
    .obtain rfl:n=m:=by omega
     have hve:=qii hl hv g;have fB:∀(j:Nat) y,X[j]?=some y->∃l,w.cells? base (a.add (j*P.cellsOf e)) (P.cellsOf e)=some l/\DataW.trod enc P w base spare held n e l=some y:=by
      intro j y N;have Q:j<len:=by
       grind
      have:=fA j Q;rw[N] at this;exact Option.bind_eq_some_iff.1 this
     obtain⟨parts,U,S⟩:=ke (α:=DataW H×List MemPlace) (β:=t7) (R:=λj y p=>CT P e p y.1/\∃l,w.cells? base (a.add (j*P.cellsOf e)) (P.cellsOf e)=some l/\bO w (λb=>b<w.heap.size) p l) X (λj y N=>by
      grind)
     have Am:∀j,j<len->∃y l,parts[j]?=some (parts.getD j [])/\X[j]?=some y/\CT P e (parts.getD j []) y.1/\w.cells? base (a.add (j*P.cellsOf e)) (P.cellsOf e)=some l/\bO w (λb=>b<w.heap.size) (parts.getD j []) l:=by
      grind
     have An:0<len->a.spot=none/\a.block<w.heap.size:=λW=>by
      obtain⟨y,l,_,_,_,I,_⟩:=Am 0 W;obtain⟨_,B⟩:=cells?_some I;have:=B 0 hz;have F7:∃v,w.cell? ((a.add (0*P.cellsOf e)).add 0)=some v:=by
       rw[this];exact⟨_,wi (by rw[(cells?_some I).1];exact hz)⟩
      obtain⟨v,A⟩:=F7;unfold World.cell? at A;have N7:((a.add (0*P.cellsOf e)).add 0).block=a.block:=by simp[Addr.add]
      rw[N7] at A;have lF:((a.add (0*P.cellsOf e)).add 0).spot=a.spot:=by
       simp[Addr.add]
      split at A
      .rename_i hh;refine⟨?_,?_⟩
       .cases Y:a.spot with
        |none=>rfl
        |some q=>rw[lF,Y] at A;simp at A
       .rcases wu a.block w.heap.size with r|r
        .exact r
        .simp[r] at hh
      grind
     have DW:0<cap->a.spot=none:=λW=>by
      rcases vY len with L|L
      ·obtain⟨Tt,BY⟩:=tn (Y _);have hr:=BY 0 ab;have iY:u[0]?=some u[0]:=wi ab;rw[iY] at hr;obtain⟨l,I,_⟩:=Option.bind_eq_some_iff.1 hr;obtain⟨_,B⟩:=cells?_some I;have:=B 0 hz;obtain⟨v,A⟩:∃v,w.cell? ((a.add ((len+0)*P.cellsOf e)).add 0)=some v:=by
        rw[this];exact⟨_,wi (by rw[(cells?_some I).1];exact hz)⟩
       unfold World.cell? at A;have lF:((a.add ((len+0)*P.cellsOf e)).add 0).spot=none->a.spot=none:=λh=>by simpa [Addr.add,L] using h
       split at A
       .apply lF;split at A
        .cases A
        .rename_i q;simpa using q
       .cases A
      grind
     refine⟨[.view (P.cellsOf e) len (λj=>parts.getD j []) (some cap)],.view t e len cap _ _ _ g rx rx bz fJ (λj d V=>?_),.one ?_ rfl⟩
     ·rw[wE,wT] at V;grind
     .refine .view (P.cellsOf e) len _ (some cap) a cap (λj o=>(w.cell? ⟨a.block,a.off+j*P.cellsOf e+o,none⟩).getD Go.undef) DW (λm O=>we O) bz (λW _=>(An W).2) (λj Q=>?_) (λj o c Q D=>?_) (λj o c Q D=>?_)
      all_goals obtain⟨y,l,r1,I,Z,r4,r5⟩:=Am j Q
      all_goals obtain⟨q1,B⟩:=cells?_some r4
      .rw[r5.1,q1]
      all_goals
       have ru:o<P.cellsOf e:=by
        rcases wu o (parts.getD j []).length with q|q
        .have:=r5.1;omega
        .rw[wz q] at D;cases D
       obtain⟨v,s1,s2,s3⟩:=r5.2 o c D;have N8:(a.add (j*P.cellsOf e)).add o=⟨a.block,a.off+j*P.cellsOf e+o,none⟩:=by
        have:=(An ab).1;cases a with|mk b o s=>dsimp only at this;subst this;rw[QQ,QQ]
       have N9:w.cell? ⟨a.block,a.off+j*P.cellsOf e+o,none⟩ = some v:=by rw[←N8,B o ru,s1]
      .rw[N9];exact⟨N9,s3⟩
      grind
   |_=>exact N4 (by rw[g];rfl)
def Bi(P:Program)(t:TypeId)(ts:t7):T:=if ZQ P t then .agg ts else ts.headD .undef
def ATs(P:Program):List TypeId->t7->List (DataW H)->Prop
 |[],[],[]=>True
 |t::l,x::e,d::ds=>(∃a,CT P t a d/\x=Bi P t a)/\ATs P l e ds
 |_,_,_=>False
def CT.single{t}{ts}{d:DataW H}(h:CT P t ts d)(f:ZQ P t=false):∃x,ts=[x]:=by
 cases h with
 |bool=>grind
 |int=>grind
 |str=>grind
 |ae=>grind
 |view=>grind
 |thin=>grind
 |struct _ fs _ _ a=>simp[ZQ,a] at f
 |array _ e n _ _ a=>simp[ZQ,a] at f
 |Bh=>grind
def qfy{t}{v}{r}{i}(h:Value.okWide P w r i t v)(f:ZQ P t=false):v.cells = #[v]:=by
 have j:∀u:Value,(∀a,u≠.agg a)->(∀a,u≠.tuple a)->u.cells = #[u]:=λu k g=>by
  cases u<;>first|rfl|grind|exact absurd rfl (g _)
 unfold ZQ at f;unfold Value.okWide at h;refine j v (λa e=>?_) (λa e=>?_)
 all_goals
  subst e;split at h
  .grind
  .grind
  .unfold Cell.okWide at h;split at h
   all_goals first
    |contradiction
    |(rename_i d;cases d)
    |(unfold Cell.ok at h;split at h<;>first|contradiction|(rename_i d;cases d))
def qik{t}{v}{r}{d}(h:Value.okWide P w r d t v)(a:ZQ P t=true):∃cs,v = .agg cs:=by
 unfold ZQ at a;unfold Value.okWide at h;grind
def qpP{U}{t:TypeId}{v:Value}{ts:t7}{d:DataW H}{r:Reach}{C:Nat}(j:CT P t ts d)(a:bO w U ts v.cells.toList)(s:Value.okWide P w r C t v):VI w U (Bi P t ts) v:=by
 unfold Bi;cases k:ZQ P t with
 |true =>
  obtain⟨f,rfl⟩:=qik s k;have E:(Value.agg f).cells.toList=f.toList:=rfl;rw[E] at a;have D:ts.length=f.size:=by simpa using a.1
  simp only[vZ];refine VI.dh D (λi u A=>?_) (λi c g=>?_)
  ·have g:i<ts.length:=by
    rcases wu i f.size with q|q
    ·omega
    ·simp[q] at A
   obtain⟨v,o,_,J⟩:=a.2 i ts[i] (by simp[g]);grind
  .obtain⟨v,o,B,_⟩:=a.2 i c g;grind
 |false =>
  obtain⟨x,rfl⟩:=j.single k;have e:=qfy s k;rw[e] at a;obtain⟨I,o,B,_⟩:=a.2 0 x rfl;grind
def Ud(u:laidOutB P=true)(o:∀b,spare b=true):∀(e:List TypeId) (args:List Value) (ds:List (DataW H)) (ps:List MemPlace),(∀t∈e,isVar P t=true) →
 (∀(j:Nat) t v,e[j]?=some t->args[j]?=some v->Value.okWide P w .any base t v)->DataW.TrodAll enc P w 0 spare held e args ds ps →
 ∃xs,ATs P e xs ds/\xs.length=args.length/\∀(i:Nat) x,xs[i]?=some x->∃v,args[i]?=some v/\VI w (λb=>b<w.heap.size) x v
 |[],args,ds,ps,_,_,h=>by
  obtain⟨rfl,rfl,rfl⟩:=trodAll_nil h;exact⟨[],trivial,rfl,λi x hx=>rx⟩
 |t::e,args,ds,ps,f,A,h=>by
  obtain⟨v,B,d,C,a,b,rfl,rfl,rfl,g,J⟩:=trodAll_cons h;obtain⟨L,g⟩:=g;obtain⟨k,r,I⟩:=Uc u o L t _ _ (f t aq) g;obtain⟨xs,E,D,M⟩:=Ud u o e B C b (λt s=>f t (by simp[s])) (λj t v s f=>A (j+1) t v rx rx) J;refine⟨Bi P t k::xs,⟨⟨k,r,rfl⟩,E⟩,by simp[D],λi x hx=>?_⟩;cases i with
  |zero =>
   simp only[wO,wj] at hx;subst hx;exact⟨v,rfl,qpP r I (A 0 t v rfl rfl)⟩
  |succ i=>grind
def J4(P:Program):Nat->TypeId->DataW H->Option t7
 |0,_,_=>none
 |n+1,t,d=>match P.underlying t,d with
  |some .bool,.lit (.bool b)=>some [.bool b]
  |some (.int _),.lit (.int k m)=>some [.int k m]
  |some .string,.lit (.string s)=>some [.str s]
  |some (.array _ e),.agg ds=>(ds.mapM (J4 P n e)).map List.flatten
  |_,_=>none
def Ue:∀(n:Nat) {t:TypeId} {ts j:t7} {d:DataW H},J4 P n t d=some j->CT P t ts d->ts=j
 |0,t,ts,j,d,h,_=>by cases h
 |n+1,t,ts,j,d,h,I=>by
  unfold J4 at h;cases I with
  |bool _ b f=>grind
  |int _ k m f=>grind
  |str _ s f=>grind
  |ae _ e f=>grind
  |view _ e m c g l L f=>grind
  |thin _ e _ f=>grind
  |struct _ fs a ds f=>grind
  |array _ e m a ds f N M C =>
   simp only[f,wT] at h;obtain⟨l,r,rfl⟩:=h;have D:=mapM_some_length r;congr 1;apply List.ext_getElem?;intro i;rcases wu i m with E|E
   .have B:a[i]?=some a[i]:=wi ab;have A:ds[i]?=some ds[i]:=wi ab;have x:=mapM_some_get r i _ A;have u:l[i]?=some l[i]:=wi ab;rw[u] at x;rw[B,u,Ue n x (C i _ _ B A)]
   grind
  |Bh _ _ f =>
   exfalso;cases o:P.underlying t with
   |none=>rw[o] at h;cases h
   |some J =>
    rw[o] at h f;cases J<;>simp[GB] at f h
def qfz{e}{ps}(h:DataW.LaidVars P w e ps){a:String}{d:DataW Unit}(i:(a,d)∈e) :
 ∃g t cs f p,P.globalNamed a=some g/\(P.globals[g]?).map (·.type)=some t/\w.var? P a=some cs/\DataW.trod (λ_=>()) P w 0 (λ_=>true) false f t cs.toList=some (d,p):=by
 induction e generalizing ps with
 |nil=>cases i
 |cons x l j =>
  obtain⟨n,A⟩:=x;obtain⟨g,t,cs,f,p,q,u,s,r,o,k,_⟩:=h;grind
def J6:List (Nat×t7)->Nat->Option t7
 |[],_=>none
 |(g,c)::l,x=>bif x==g then some c else J6 l x
def GL(P:Program)(e:List (String×DataW Unit)):List (Nat×t7)->Prop
 |[]=>True
 |(g,c)::l=>(∃a d t,P.globalNamed a=some g/\(P.globals[g]?).map (·.type)=some t/\isVar P t=true/\(a,d)∈e/\J4 P 8 t d=some c)/\GL P e l
def qeB(B:laidOutB P=true){a:List (String×DataW Unit)}(A:laidMet P a w):∀{l:List (Nat×t7)},GL P a l->yl (J6 l) w (λb=>b<w.heap.size)
 |[],_=>λg c h=>by cases h
 |(g,c)::l,⟨⟨u,d,t,X,W,V,U,S⟩,hr⟩=>λC cells h=>by
  simp only[J6] at h;rcases qw h with⟨he,j⟩|⟨_,j⟩
  .clear hr h;have he:C=g:=by simpa using he
   subst he;obtain rfl:=we j;obtain⟨ps,ET,_,_⟩:=A;obtain⟨f,t',e,Z,p,s,N,M,L⟩:=qfz ET U;obtain rfl:=we (s.symm.trans X);obtain rfl:=we (W.symm.trans N);obtain⟨E,J,k⟩:=Uc B (λ_=>rfl) Z t e.toList _ V L;obtain rfl:=Ue 8 S J;have D:∀(i:Nat) v,e[i]?=some v->w.cell? ⟨f,i,none⟩ = some v:=λi v O=>World.var?_cell s M i |>.trans O;refine .vp _ ⟨f,0,none⟩ (λo=>e.getD o Go.undef) rfl (λY=>?_) (λo c x=>?_) (λo c x=>?_)
   .obtain⟨v,s1,_,_⟩:=k.2 0 E[0] (by simp[Y]);have:=D 0 v (by simpa using s1);unfold World.cell? at this;split at this
    .rename_i Q;rcases wu f w.heap.size with r|r
     .exact r
     .simp[r] at Q
    .cases this
   all_goals
    obtain⟨v,s1,s2,I⟩:=k.2 o c x;have s1:e[o]?=some v:=by simpa using s1
    have R:e.getD o Go.undef=v:=by simp[wG,s1]
    rw[R]
   .exact⟨by simpa using D o v s1,I⟩
   omega
  .exact qeB B A hr C cells j
def Jr(g:laidOutB P=true){W k}(i:RowKit.Below W.heap.size W k) :
 ∀{e:List TypeId} {args:List Value} {ds:List (DataW H)} {ps:List MemPlace},(∀t∈e,P.readableRec t=true/\t<P.types.size)->(∀x∈ps,x.block<W.heap.size) →
  DataW.TrodAll enc P W 0 (λ_=>true) true e args ds ps->DataW.TrodAll enc P k 0 (λb=>decide (b<W.heap.size)) true e args ds ps
 |[],_,_,_,_,_,h=>by
  obtain⟨rfl,rfl,rfl⟩:=trodAll_nil h;rfl
 |t::e,_,_,_,f,j,h=>by
  obtain⟨v,u,d,A,a,b,rfl,rfl,rfl,s,r⟩:=trodAll_cons h;refine trodAll_cons_mk (Below.trod g (f t aq).1 (f t aq).2 s i λx hx=>j x (by simp[hx])) (Jr g i (λt o=>f t (by simp[o])) (λx hx=>j x (by simp[hx])) r)
def qgR{G:t9}(_hm:P.follows .mixedOrders=true)(_hn:QN P=true)(E:laidOutB P=true){f:FuncId}{fn:Func}{spec:ChangeSpec}(O:spec.vars=[])
 (s:∀ds:List (DataW H),ds.length=fn.params.size->spec.fn H ds = { results:=[.lit (.bool true)],args:=ds }) {tb:TypeId} (bL:fn.resultTypes = #[tb]) (r:P.underlying tb=some .bool)
 (A:∀t∈fn.params.toList,isVar P t=true/\P.readableRec t=true) {W:World} {args:Array Value} {ds gs:List (DataW H)} {a:List MemPlace}
 (g:∀(j:Nat) t v,fn.params[j]?=some t->args[j]?=some v->Value.okWide P W .any base t v)
 (hW:DataW.Whole enc P fn.params.toList spec.vars false W args.toList ds gs a) (hG:yl G W (λb=>b<W.heap.size))
 (Ob:∀xs,ATs P fn.params.toList xs ds->∃o,cH xs o/\aD P G f o (.bool true)) :
 Calls P f args W λe L=>∃v,e = .returned v/\spec.post enc P fn false true false false W args v L:=by
 have N:=hW;obtain⟨p,q,J,I,rfl,Y,iO⟩:=hW;have u:gs=[]/\q=[]:=by
  rw[O] at I;exact trodVars_none I
 obtain⟨rfl,rfl⟩:=u;obtain⟨xs,h1,h2,h3⟩:=Ud E (λ_=>rfl) fn.params.toList args.toList ds p (λt k=>(A t k).1) (λj t v k D=>g j t v rx rx) J;obtain⟨o,C,GD⟩:=Ob xs h1;refine(GD.calls W _ args (λb Z=>Z) hG ⟨by rw[←C.1];omega,λi x hx=>?_⟩).mono λe L ⟨v,he,DJ⟩=>⟨v,he,?_⟩
 .obtain⟨y,U,V⟩:=C.get hx;obtain⟨v,q1,R⟩:=h3 i y U;exact⟨v,rx,V _ _ _ R⟩
 ·obtain⟨⟨Q,_⟩,U',X,_,_,_,_,M⟩:=DJ;obtain rfl:v = .bool true:=by
   simp only[oV,mj] at M;cases M with
   |vi _ _ D=>cases D;rfl
  have aY:ds.length=fn.params.size:=by
   have:∀(params:List TypeId) (xs:t7) (ds:List (DataW H)),ATs P params xs ds->ds.length=params.length:=by
    intro params
    induction params with
    |nil=>intro xs ds h;cases xs<;>cases ds<;>simp_all [ATs]
    |cons t l S =>
     intro xs ds h;cases xs with
     |nil=>cases ds<;>simp[ATs] at h
     |cons x xs =>
      cases ds with
      |nil=>simp[ATs] at h
      |cons d ds=>simp only[vc];rw[S xs ds h.2]
   grind
  have B:=s (ds++[]) rx;have aM:=N.lt;refine⟨ds,[],p++[],[],p,[],N,?_,?_,?_,Q.frame _,λh=>by cases h⟩
  .rw[B,bL];exact trodAll_cons_mk (shut_bool r true) trodAll_mk0
  .rw[B];simp only[vu];exact Jr E Q (λt k=>⟨(A t k).2,by have:=(A t k).1;simp only[isVar,wd,wm] at this;grind⟩) (λx hx=>aM x rx) J
  .rw[O,B];rfl
end
section
variable {P:Program} {H:Type} {t:TypeId} {ts:t7} {d:DataW H}
def B0(P:Program):List TypeId->List t7->List (DataW H)->Prop
 |[],[],[]=>True
 |t::l,p::ps,d::ds=>CT P t p d/\B0 P l ps ds
 |_,_,_=>False
def Uh:∀(l:List TypeId) (parts:List t7) (ds:List (DataW H)),parts.length=l.length->ds.length=l.length →
 (∀(i:Nat) t p d,l[i]?=some t->parts[i]?=some p->ds[i]?=some d->CT P t p d)->B0 P l parts ds
 |[],[],[],_,_,_=>trivial
 |t::l,p::ps,d::ds,f,e,h=>⟨h 0 t p d rfl rfl rfl,Uh l ps ds rx rx λi t p d a b c=>h (i+1) t p d rx rx rx⟩
 |[],_::_,_,f,_,_=>by grind
 |[],[],_::_,_,e,_=>by grind
 |_::_,[],_,f,_,_=>by grind
 |_::_,_::_,[],_,e,_=>rx
def B0.cons{t:TypeId}{l:List TypeId}{a:List t7}{ds:List (DataW H)}(h:B0 P (t::l) a ds) :
 ∃p ps d e,a=p::ps/\ds=d::e/\CT P t p d/\B0 P l ps e:=by
 match a,ds,h with
 |p::ps,d::e,h=>exact⟨p,ps,d,e,rfl,rfl,h.1,h.2⟩
def B0.nil{a:List t7}{ds:List (DataW H)}(h:B0 P [] a ds):a=[]/\ds=[]:=by
 match a,ds,h with
 |[],[],_=>grind
def CT.B1{k:IntKind}(e:P.underlying t=some (.int k))(h:CT P t ts d):∃n,ts=[.int k n]/\d = .lit (.int k n)/\(Lit.int k n).wf=true:=by
 cases h with
 |int _ g n a hn =>
  rw[e] at a;grind
 |Bh _ _ f=>rw[e] at f;cases f
 |bool _ _ a=>rw[e] at a;cases a
 |str _ _ a=>rw[e] at a;cases a
 |ae _ _ a=>rw[e] at a;cases a
 |view _ _ _ _ _ _ _ a=>rw[e] at a;cases a
 |thin _ _ _ a=>rw[e] at a;cases a
 |struct _ _ _ _ a=>rw[e] at a;cases a
 |array _ _ _ _ _ a=>rw[e] at a;cases a
def CT.oE{e:TypeId}(f:P.underlying t=some (.slice e))(hz:P.cellsOf e≠0)(h:CT P t ts d):(ts=[.ae]/\d = .nil) ∨
 ∃n c g i spare,ts=[.view (P.cellsOf e) n g (some c)]/\d = .slice i spare/\i.length=n/\spare.length=c-n/\n<=c/\c<=maxLen/\∀j d,i[j]?=some d->CT P e (g j) d:=by
 cases h with
 |ae _ _ a=>grind
 |view _ o n c g i spare a he r hn u s =>
  rw[f] at a;obtain rfl:e=o:=by cases a;rfl
  grind
 |thin _ o _ a x =>
  rw[f] at a;grind
 |Bh _ _ k=>rw[f] at k;cases k
 |bool _ _ a=>rw[f] at a;cases a
 |int _ _ _ a=>rw[f] at a;cases a
 |str _ _ a=>rw[f] at a;cases a
 |struct _ _ _ _ a=>rw[f] at a;cases a
 |array _ _ _ _ _ a=>rw[f] at a;cases a
def CT.sL{fs:Array Field}(f:P.underlying t=some (.struct fs))(h:CT P t ts d):∃parts ds,ts=parts.flatten/\d = .agg ds/\B0 P (fs.toList.map (·.type)) parts ds:=by
 cases h with
 |struct _ g parts ds e o k r =>
  rw[f] at e;obtain rfl:fs=g:=by cases e;rfl
  refine⟨parts,ds,rfl,rfl,Uh _ _ _ (by simpa using o) (by simpa using k) λi t p d a b c=>?_⟩;rw[wE,wT] at a;grind
 |Bh _ _ j=>rw[f] at j;cases j
 |bool _ _ e=>rw[f] at e;cases e
 |int _ _ _ e=>rw[f] at e;cases e
 |str _ _ e=>rw[f] at e;cases e
 |ae _ _ e=>rw[f] at e;cases e
 |view _ _ _ _ _ _ _ e=>rw[f] at e;cases e
 |thin _ _ _ e=>rw[f] at e;cases e
 |array _ _ _ _ _ e=>rw[f] at e;cases e
def ATs.cons{l:List TypeId}{xs:t7}{ds:List (DataW H)}(h:ATs P (t::l) xs ds) :
 ∃x e d a ts,xs=x::e/\ds=d::a/\CT P t ts d/\x=Bi P t ts/\ATs P l e a:=by
 match xs,ds,h with
 |x::e,d::a,h=>exact⟨x,e,d,a,h.1.choose,rfl,rfl,h.1.choose_spec.1,h.1.choose_spec.2,h.2⟩
def ATs.nil{xs:t7}{ds:List (DataW H)}(h:ATs P [] xs ds):xs=[]/\ds=[]:=by
 match xs,ds,h with
 |[],[],_=>grind
def qrF{n:Int}(h:(Lit.int .u8 n).wf=true):0<=n/\n<=255:=by
 simp[Lit.wf,IntKind.min,IntKind.max,IntKind.signed,IntKind.bits] at h;omega
end
def Qv{x:Int}(h1:-9223372036854775808<=x)(h2:x<=9223372036854775807):IntKind.i64.wrap x=x:=by
 grind[IntKind.bits,IntKind.signed,IntKind.wrap]
def nY{x:Int}(h1:0<=x)(h2:x<=255):IntKind.u8.wrap x=x:=by
 grind[IntKind.bits,IntKind.signed,IntKind.wrap]
def qux{x:Int}(h1:0<=x)(h2:x<=4294967295):IntKind.u32.wrap x=x:=by
 grind[IntKind.bits,IntKind.signed,IntKind.wrap]
def quy{x:Int}(h1:0<=x)(h2:x<=65535):IntKind.u16.wrap x=x:=by
 grind[IntKind.bits,IntKind.signed,IntKind.wrap]
def qR{a b:Nat}(h:a<=b):Nat.ble a b=true:=by rw[Nat.ble_eq];exact h
def ZE{a b:Nat}(h:b<a):Nat.ble a b=false:=by rw[←xv,Nat.ble_eq];omega
def qN{a b:Nat}(h:a<b):Nat.blt a b=true:=qR h
def QZ{a b:Nat}(h:b<=a):Nat.blt a b=false:=ZE ab
def dT{p:Prop}[Decidable p](h:p):decide p=true:=wt h
def dF{p:Prop}[Decidable p](h:¬p):decide p=false:=vJ h
def qj{R:Type}{c:Bool}{x y r:R}(a:c=true)(h1:x=r):(bif c then x else y)=r:=by rw[a];exact h1
def cA(k:Nat):T->Bool
 |.own i _ _ _ _=>Nat.blt i k
 |.ptr i _ _ _=>Nat.blt i k
 |.mp i _=>Nat.blt i k
 |x=>zV x
def low(k:Nat):T->Bool
 |.agg l=>l.all (cA k)
 |.ag l=>l.all (cA k)
 |.fn _ a=>a.all (cA k)
 |x=>cA k x
def J8(k:Nat)(b:ap):Bool:=b.flat || (Nat.ble b.n 8&&(List.range b.n).all λj=>(b.get j).all (cA k))
def EU(k:Nat)(vs:t7)(h:qa):Bool:=vs.all (low k)&&(h.take k).all (J8 k)
section
variable {w:World} {g:Gh} {h:qa} {k:Nat}
def VR.cA{x:T}{v}(hx:g.VR h w x v)(a:Ab.cA k x=true):g.VR (h.take k) w x v:=by
 cases x with
 |own i aj B len cap =>
  obtain⟨b,e,u,r,s⟩:=hx.dK;have d:i<k:=Qe a;exact .own _ _ _ _ _ b _ (by rw[vG d];exact e) u r s
 |ptr i aj j o =>
  obtain⟨b,e,u,r,s⟩:=hx.dL;have d:i<k:=Qe a;exact .ptr _ _ _ _ b _ (by rw[vG d];exact e) u r s
 |mp i aj =>
  obtain⟨b,e,u,r,s⟩:=hx.iD;have d:i<k:=Qe a;exact .mp _ _ b _ (by rw[vG d];exact e) u r s
 |agg l=>simp[Ab.cA,zV] at a
 |ag l=>exact absurd hx VR.eo
 |aJ l=>simp[Ab.cA,zV] at a
 |iface t x=>simp[Ab.cA,zV] at a
 |fresh=>exact absurd hx VR.tP
 |fn f H =>
  simp only[Ab.cA,zV,ua] at a;subst a;obtain⟨E,rfl,C,D⟩:=hx.gZ;exact VR.ow C (λi c d=>rx)
 |_=>exact .aF _ _ (yf (by first|rfl|simpa [Ab.cA,zV,aF] using a) hx)
def VR.low{x:T}{v}(hx:g.VR h w x v)(e:Ab.low k x=true):g.VR (h.take k) w x v:=by
 cases x with
 |agg l =>
  obtain⟨s,rfl,o,r,j⟩:=hx.bN;refine VR.dh o r (λi c a=>?_);obtain⟨u,d,hr⟩:=j i c a;exact⟨u,d,hr.cA (wD.1 e c (wx a))⟩
 |ag l=>exact absurd hx VR.eo
 |fn f B =>
  obtain⟨s,rfl,o,j⟩:=hx.gZ;refine VR.ow o (λi c a=>?_);obtain⟨u,d,hr⟩:=j i c a;exact⟨u,d,hr.cA (wD.1 e c (wx a))⟩
 |_=>exact VR.cA hx e
def Gh.cut(g:Gh)(k:Nat):Gh:={ g with own:=λb=>match g.own b with|some (.inl i)=>if i<k then some (.inl i) else none|o=>o }
def J9{b:Nat}(h:g.own b=none):(g.cut k).own b=none:=by simp only[Gh.cut,h]
def Ui{b t:Nat}(h:g.own b=some (.inr t)):(g.cut k).own b=some (.inr t):=by simp only[Gh.cut,h]
def Oc{b i:Nat}(h:g.own b=some (.inl i))(a:i<k):(g.cut k).own b=some (.inl i):=by simp only[Gh.cut,h,wl a]
def Od{b:Nat}{o}(h:(g.cut k).own b=some o):g.own b=some o/\∀i,o = .inl i->i<k:=by
 grind[Gh.cut]
def HR.take(hr:HR g h w)(L:(h.take k).all (J8 k)=true):HR (g.cut k) (h.take k) w:=by
 refine⟨λi b a N=>?_,λb a=>⟨(hr.u b a).1,J9 (hr.u b a).2⟩,λb o d=>hr.own b o (Od d).1,hr.base,λb o d=>hr.cells b o (Od d).1,λb i d=>by
  have x:=Od d;have H:=hr.lt b i x.1;have E:=x.2 i rfl;rw[vL];omega,λi b m a J=>by
  have r:i<k:=by
   rcases wu i k with q|q
   .exact q
   .rw[wz (by simp;omega)] at a;cases a
  have B:h[i]?=some b:=by rw[vG r] at a;exact a
  exact hr.fh B J rfl (λc M=>Oc M r) λ_ _ _=>rfl⟩
 have r:i<k:=by
  rcases wu i k with q|q
  .exact q
  .rw[wz (by simp;omega)] at a;cases a
 have B:h[i]?=some b:=by rw[vG r] at a;exact a
 rcases hr.dS i b B N with⟨cb,I,C,e,f⟩|q
 rotate_left
 .exact .inr q
 refine .inl ?_;have s:J8 k b=true:=wD.1 L b (wx a);refine⟨cb,I,C,e,f.φ,Oc f.own r,f.heap,f.room,f.len,λj o c D d=>?_,f.flat⟩;obtain⟨v,x,H,E⟩:=f.cell j o c D d;refine⟨v,x,H,VR.cA (g:=g) E ?_⟩;unfold J8 at s;rcases vI _ _▸s with s|s
 .have O:=f.flat s j D c (wx d);cases c<;>simp_all [qK,Ab.cA,zV]
 grind
end
section
variable {P:Program} {Gl:t9} {aa:t8} {nt:Nat}
def SR.take{g:Gh}{l:t8}{vs}{h:qa}{a:Act}{w:World}{k:Nat}(j:SR Gl aa nt g (qJ l vs h) a w)(f:EU k vs h=true):SR Gl aa nt (g.cut k) (qJ l vs (h.take k)) a w:=by
 simp only[EU,wd] at f;obtain⟨s,U⟩:=f;have eF:∀t,(qJ l vs (h.take k)).at t=(qJ l vs h).at t:=λt=>rfl;have J:∀t,Ab.low k ((qJ l vs h).at t)=true:=by
  intro t;unfold St.at
  cases V:Nat.blt t 1024 with
  |false=>rfl
  |true =>
   simp only[wp];have key:∀(l:t8) (vs:t7) (e:Tr),vs.all (Ab.low k)=true->(∀t,t<1024->Ab.low k (Tr.get QS e t)=true)->∀t,t<1024->Ab.low k (Tr.get QS (ya l vs e) t)=true:=by
    intro l
    induction l with
    |nil=>grind[ya]
    |cons i l R =>
     intro vs e s he;cases vs with
     |nil=>grind[ya]
     |cons x vs =>
      simp only[xS,wd] at s;simp only[ya];refine R vs _ s.2 (λt f=>?_);cases S:Nat.blt i 1024 with
      |false=>grind
      |true =>
       simp only[wp];have H:Tr.get QS (Tr.set QS e i x) t=if t=i then x else Tr.get QS e t:=Tr.fb 10 e i t x (by have:=Qe S;omega) f;rw[H];grind
   exact key l vs .nil s (λt _=>by rfl) t (Qe V)
 refine⟨j.hr.take U,by
  obtain⟨O,Q,m1,N,B⟩:=j.defers;exact⟨O,Q,m1,N,λD E=>⟨(B D E).1,J9 (B D E).2.1,(B D E).2.2⟩⟩,j.size,j.nt,λt f=>?_,λt f cells C=>?_,λd t o h=>(by cases h),j.eQ,λd t o h=>(by cases h)⟩
 .rw[eF];exact VR.low (j.tmps t f) (J t)
 .rw[eF] at C;obtain⟨cb,I,e,r⟩:=j.eW t f cells C;refine⟨cb,I,e,r.ptr,Ui r.own,r.heap,r.len,λo c L=>?_⟩;obtain⟨u,H,X,W⟩:=r.cell o c L;have M:=J t;rw[C] at M;exact⟨u,H,X,W.cA (wD.1 M c (wx L))⟩
def dy.take{g0 g:Gh}{h0 h:qa}{w0 w:World}{k:Nat}(j:HR g0 h0 w0)(a:dy g0 h0 w0 g h w)(r:h0.length<=k):dy g0 h0 w0 (g.cut k) (h.take k) w:=by
 refine⟨⟨a.av.u,λi b f=>?_,a.av.rm⟩,a.size,λb f=>by
  have e:=a.own b f;cases d:g.own b with
  |none=>rw[J9 d,←e,d]
  |some o =>
   cases o with
   |inr t=>rw[Ui d,←e,d]
   |inl i=>rw[Oc d (vg (j.lt b i (by rw[←e];exact d)) r),←e,d],a.os,a.tape,a.output,a.same,a.bs,a.u,a.u'⟩
 obtain⟨D,C,B,x⟩:=a.av.dZ i b f;have s:i<k:=by
  grind
 exact⟨D,by rw[vG s];exact C,B,x⟩
def oZ(g g2:Gh):Prop:=∀b,g.own b=none->g2.own b=none/\(g2.U b->g.U b)
def oZ.refl(g:Gh):oZ g g:=λ_ h=>⟨h,λh=>h⟩
def oZ.trans{g d g2}(a:oZ g d)(b:oZ d g2):oZ g g2:=λx h=>⟨(b x (a x h).1).1,λe=>(a x h).2 ((b x (a x h).1).2 e)⟩
def oZ.cut(g:Gh)(k:Nat):oZ g (g.cut k):=λ_ h=>⟨J9 h,λh=>h⟩
def ak(Gl:t9)(aa:t8)(nt:Nat)(l:t8)(k:Nat)(vs:t7)(h:qa)(dN:t7)(h2:qa):Prop :=
 ∀(g:Gh) (a:Act) (w:World) (g0:Gh) (d:qa) (e:World),d.length<=k->HR g0 d e->dy g0 d e g h w->SR Gl aa nt g (qJ l vs h) a w->∃f,SR Gl aa nt f (qJ l dN h2) a w/\dy g0 d e f h2 w/\oZ g f
def ak.refl{l}{k}(vs)(h):ak Gl aa nt l k vs h vs h:=λg _ _ _ _ _ _ _ d a=>⟨g,a,d,.refl g⟩
def ak.trans{l}{k}{vs dM dN:t7}{h h1 h2:qa}(a:ak Gl aa nt l k vs h dM h1)(b:ak Gl aa nt l k dM h1 dN h2):ak Gl aa nt l k vs h dN h2:=by
 intro g i w g0 f d e hr C B;obtain⟨E,r,o,j⟩:=a g i w g0 f d e hr C B;obtain⟨D,x,u,s⟩:=b E i w g0 f d e hr o r;exact⟨D,x,u,j.trans s⟩
def ai(h h2:qa):Prop:=h2.length=h.length/\∀(i:Nat) b a,h[i]?=some b->h2[i]?=some a->a.mp=b.mp/\a.aj=b.aj/\a.sz=b.sz/\a.n=b.n/\(a.flat=true->b.flat=true∨∀j,j<b.n->(b.get j).all qK=true)/\∀j,j<b.n->a.get j=b.get j
def ai.at{h h2}(a:ai h h2){i:Nat}{b:ap}(d:h[i]?=some b):∃b2,h2[i]?=some b2/\b2.mp=b.mp/\b2.aj=b.aj/\b2.sz=b.sz/\b2.n=b.n/\(b2.flat=true->b.flat=true∨∀j,j<b.n->(b.get j).all qK=true)/\∀j,j<b.n->b2.get j=b.get j:=by
 have f:=qC d;have e:h2[i]?=some (h2[i]'(by rw[a.1];exact f)):=wi _;exact⟨_,e,a.2 i b _ d e⟩
def ai.back{h h2}(a:ai h h2){i:Nat}{b2:ap}(d:h2[i]?=some b2):∃b,h[i]?=some b/\b2.mp=b.mp/\b2.aj=b.aj/\b2.sz=b.sz/\b2.n=b.n/\(b2.flat=true->b.flat=true∨∀j,j<b.n->(b.get j).all qK=true)/\∀j,j<b.n->b2.get j=b.get j:=by
 have f:=qC d;have e:h[i]?=some (h[i]'(by rw[←a.1];exact f)):=wi _;exact⟨_,e,a.2 i _ b2 e d⟩
def ai.av{h h2}(a:ai h h2)(w:World)(U:Nat->Prop)(φ:Nat->Option (Nat×Nat)):gw w U φ h w U φ h2 :=
 ⟨.refl _ _,λi b d=>by
  obtain⟨r,o,_,j,f,e,_⟩:=a.at d;grind,λ_ _ hr=>hr⟩
def HR.same{g}{h h2:qa}{w:World}(hr:HR g h w)(d:ai h h2):HR g h2 w:=by
 refine⟨λi V C M=>?_,hr.u,hr.own,hr.base,hr.cells,λb i f=>by rw[d.1];exact hr.lt b i f,λi V m C N=>by
  obtain⟨b,D,B,_⟩:=d.back C;exact hr.fh D (B▸N) rfl (λ_ r=>r) λ_ _ _=>rfl⟩
 obtain⟨b,D,B,Y,x,L,J,s⟩:=d.back C;have U:b.mp=none:=B▸M;rcases hr.dS i b D U with⟨cb,I,E,e,a⟩|⟨X,W⟩
 rotate_left
 .grind
 refine .inl ⟨cb,I,E,e,a.φ,a.own,a.heap,by rw[x,L];exact a.room,λj H=>?_,λj o c H f=>?_,λO j H c r=>?_⟩
 .rw[s j ab,x];exact a.len j ab
 .rw[s j ab] at f;obtain⟨v,S,R,Q⟩:=a.cell j o c ab f;rw[x];exact⟨v,S,R,Q.av (d.av _ _ _)⟩
 .rw[s j ab] at r;rcases J O with q|q
  .exact a.flat q j ab c r
  grind
def ak.same{l}{k:Nat}{vs:t7}{h h2:qa}(x:ai h h2):ak Gl aa nt l k vs h vs h2:=by
 intro g a w g0 L J _ _ D f;have r:=x.av w g.U g.φ;refine⟨g,⟨f.hr.same x,f.defers,f.size,f.nt,λt j=>(f.tmps t j).av r,λt j cells E=>?_,λd t o h=>(by cases h),f.eQ,λd t o h=>(by cases h)⟩,D.trans ⟨r,wc _,λ_ _=>rfl,rfl,rfl,.refl _,λ_ _ _=>rfl,rfl,λ_ h=>.inl h,λ_ h=>h⟩,.refl g⟩;obtain⟨cb,s,e,i⟩:=f.eW t j cells E;refine⟨cb,s,e,i.ptr,i.own,i.heap,i.len,λo c C=>?_⟩;obtain⟨u,I,B,H⟩:=i.cell o c C;exact⟨u,I,B,H.av r⟩
def aG.Oe{c}{l}{vs dN}{h h2:qa}{e:Ex}{s':St}(j:aG P Gl aa nt c (qJ l dN h2) e s')(hw:ak Gl aa nt l h.length vs h dN h2):aG P Gl aa nt c (qJ l vs h) e s':=by
 intro ro n x g a w d Q hn;obtain⟨s,i,f,_⟩:=hw g a w g h w (wc _) d.hr (.refl _ _ _) d;exact j ro n x s a w i Q λB w' u r h2 o=>hn B w' u r (f.trans h2) o
variable {K:bv} {A:FuncId->cW}
def qil(V:P.follows .mixedOrders=true){f}{r:Nat}(ha:jy P f r=true)
 {an:cW} {h:qa} (I:Nat->t7->qa->Prop) {e1:Ex} {dM:t7} {h1:qa} {fn:Func} (J:P.funcs[f]?=some fn) (X:fn.ntmps<=1024)
 (round:∀n vs h0,I n vs h0->∃(A:FuncId->cW) (K:bv) (m:Nat) (l:List (Nat×(t7->qa->LT))),aS P Gl K/\(A f).aa=an.aa/\(A f).live r=an.live r/\(∀p∈l,ax P Gl (A f) f p.1 p.2) ∧
  ∃e aW h',QO P Gl A K m f l r vs h0=some (e,aW,h')/\((e = .normal/\∃j dN h2,j<n/\ak Gl an.aa fn.ntmps (an.live r false) h.length aW h' dN h2/\I j dN h2) ∨
   (e≠.normal/\e=e1/\ak Gl an.aa fn.ntmps (an.live r true) h.length aW h' dM h1)))
 {n:Nat} {vs:t7} (L:I n vs h) :
 aG P Gl an.aa fn.ntmps (yc (ym P f r)) (qJ (an.live r false) vs h) e1 (qJ (an.live r true) dM h1):=by
 obtain⟨I9,c,hb,n7,bK,Of⟩:=qkn ha J;rw[Of];intro ro nn cV g0 Y o S Q hn;refine yA (λj a w=>∃aW h' g,I j aW h'/\SR Gl an.aa fn.ntmps g (qJ (an.live r false) aW h') a w/\dy g0 h o g h' w/\(qv (ym P f r)=false->a.defers=Y.defers)) (λj a w hJ=>?_) n Y o ⟨vs,h,g0,L,S,dy.refl _ _ _,λ_=>rfl⟩;obtain⟨aW,h',g,L,hs,R,rK⟩:=hJ;obtain⟨A,K,m,l,W,hp,Z,hl,e,dN,h2,C,E⟩:=round j aW h' L;unfold QO at C;rw[J] at C;dsimp only at C;have bw:=YP (A:=A) I9 (YO P Gl A K m f) (jQ V W m f) hl fn c J hb X;obtain⟨e',s',d,U⟩:=zf V W X bw (ym P f r) (λb dR=>QA c n7 dR) C;rw[hp,Z] at U;rw[Z] at d;refine U ro nn (λhh=>cV (by simpa [qv] using hh)) g a w hs _ λB w' M N O lQ=>?_;have H:HR g0 h o:=S.hr;cases e' with
 |normal =>
  simp only[wj,wA] at d;obtain⟨rfl,rfl,rfl⟩:=d;rcases E with⟨_,i,vs3,h3,hi,hw,BX⟩|⟨D,_⟩
  .obtain⟨x,u,s,_⟩:=hw M B w' g0 h o (wc _) H (R.trans O) (N.only _);exact⟨i,hi,_,_,x,BX,u,s,λh=>(lQ h).trans (rK h)⟩
  grind
 |exit i =>
  simp only[wj,wA] at d;obtain⟨rfl,rfl,rfl⟩:=d;rcases E with⟨D,_⟩|⟨_,rfl,hw⟩
  .cases D
  .obtain⟨x,u,s,_⟩:=hw M B w' g0 h o (wc _) H (R.trans O) (N.only _);exact hn B w' x u s (λh=>by grind[qv])
 |ret =>
  simp only[wj,wA] at d;obtain⟨rfl,rfl,rfl⟩:=d;rcases E with⟨D,_⟩|⟨_,rfl,hw⟩
  .cases D
  .obtain⟨x,u,s,_⟩:=hw M B w' g0 h o (wc _) H (R.trans O) (N.only _);exact hn B w' x u s (λh=>by grind[qv])
end
def Og(x:T)(v:Value):Prop:=∀w U,VI w U x v
def EV(l:t7)(vs:Array Value):Prop:=l.length=vs.size/\∀(i:Nat) x,l[i]?=some x->∃v,vs[i]?=some v/\Og x v
structure nq(X:Nat->Prop)(W:World)(X':Nat->Prop)(W':World):Prop where
 size:W.heap.size<=W'.heap.size
 same:∀b,b<W.heap.size->¬X b->W'.heap[b]?=W.heap[b]?
 sub:∀b,X b->X' b
 new:∀b,X' b->X b∨W.heap.size<=b
 lt:∀b,X' b->b<W'.heap.size
 os:W'.os=W.os
 tape:W'.tape=W.tape
 output:fi W' W
 rm:∀b n,room W b n->room W' b n
structure dU(R X:Nat->Prop)(W W':World):Prop where
 size:W.heap.size<=W'.heap.size
 same:∀b,X b∨R b->W'.heap[b]?=W.heap[b]?
 df:∀(b:Nat) (ds:Option (List Deferred)),W.heap[b]?=some (Obj.deferred ds)->W'.heap[b]?=W.heap[b]?
 os:W'.os=W.os
 tape:W'.tape=W.tape
 output:fi W' W
 rm:∀b n,room W b n->room W' b n
def La(J:Nat->(Nat->Prop)->World->Prop):Prop:=∀i X W a d,J i X W->nq X W a d->J i a d
def quz(P:Program)(k:FuncId)(j:Array Value)(N:Nat)(xs:Nat->t7)(R:Nat->Prop)(g:World):Prop :=
 ∀(l:Nat) (J f:Nat->(Nat->Prop)->World->Prop),La J->La f →
  (∀i X W a,i<N->J i X W->EV (xs i) a->YieldAt (QM none) 0 P l a W λe d=>dU R X W d ∧
   ((e = .returned (.bool true)/\J (i+1) X d)∨(e = .returned (.bool false)/\f i X d))) →
  ∀W,g.heap.size<=W.heap.size->(∀b,R b->W.heap[b]?=g.heap[b]?)->J 0 (λ_=>False) W →
  CallsIn (QM none) 0 P k (#[.func (.yield l) #[] #[]]++j) W λe d=>(∃v,e = .returned v)/\((∃X,J N X d)∨(∃i X,i<N/\f i X d))
structure nr(P:Program)(Gl:t9)(gf:FuncId)(aH:t7)(N:Nat)(xs:Nat->t7):Prop where
 enters:∃fn,P.funcs[gf]?=some fn/\fn.body.isNone=false/\(fn.name=="runtime.NumGoroutine")=false
 it:∀(w:World) (U:Nat->Prop) (lb:Array Value),(∀b,U b->b<w.heap.size)->yl Gl w U->IZ w U aH lb->quz P gf lb N xs U w
section
variable {P:Program} {Gl:t9} {aa:t8} {nt:Nat} {K:bv} {A:FuncId->cW}
def Oh:∀{l m:t8},l.map Ja=m.map Ja->l=m
 |[],[],_=>rfl
 |[],_::_,h=>by grind
 |_::_,[],h=>by grind
 |a::l,b::m,h=>by
  simp at h;have:a=b:=by
   have:=h.1;simp only[Ja,Deferred.mk.injEq,Target.collected.injEq] at this;omega
  rw[this,Oh h.2]
def dy.Oi{g}{h}{w w'}(hr:HR g h w)(o:w.heap.size<=w'.heap.size)(d:∀b,b<w.heap.size->w'.heap[b]?=w.heap[b]?)(h1:w'.os=w.os)(h2:w'.tape=w.tape)(r:fi w' w):dy g h w g h w':=by
 refine⟨⟨λb a=>⟨a,d b (hr.u b a).1⟩,λi b a=>⟨b,a,wc _,λ_=>⟨rfl,rfl,rfl⟩⟩,λb n a=>?_⟩,o,λ_ _=>rfl,h1,h2,r,λb a _=>d b a,rfl,λ_ h=>.inl h,λ_ h=>h⟩;obtain⟨f,e,j,k⟩:=a;exact⟨f,e,(d b (QY j)).trans j,k⟩
def SR.slot{g}{l}{vs}{h}{a}{w}(f:SR Gl aa nt g (qJ l vs h) a w)(j:l.length=vs.length){t}(r:t<nt){x:T}{v}(hx:g.VR h w x v) :
 SR Gl aa nt g (qJ (l++[t]) (vs++[x]) h) { a with tmps:=a.tmps.setIfInBounds t v } w:=by
 have k:=f.done r (h':=h) (v:=v) (w':=w) (g':=g) f.hr hx (.refl _ _ _ _) (mF.refl _ _ λb o s=>(f.hr.own b o s).2) (hp:=none) rfl rfl;have u:(qJ l vs h).lay t x none=qJ (l++[t]) (vs++[x]) h:=by
  have key:∀(l:t8) (vs:t7) (e:Tr),l.length=vs.length->ya (l++[t]) (vs++[x]) e=(ya l vs e).set QS t x:=by
   intro l
   induction l with
   |nil =>
    intro vs e j;cases vs with
    |nil =>
     have:Nat.blt t 1024=true:=by have:=f.nt;grind[Nat.blt_eq]
     simp[ya,this]
    |cons _ _=>grind
   |cons i l B =>
    intro vs e j;cases vs with
    |nil=>grind
    |cons y vs=>simp only[up,ya];grind
  simp only[qJ,dJ.eP,Iu,Yq,yu,Option.getD_none,St.mk.injEq,and_true];refine⟨(key l vs .nil j).symm,?_⟩;funext e;cases e==t<;>rfl
 rw[u] at k;exact k
def SR.CQ{g}{h}{w:World}:∀(ps:t8) (xs:t7) (args:List Value) {l:t8} {vs:t7} {a:Act},SR Gl aa nt g (qJ l vs h) a w->l.length=vs.length->ps.length=xs.length->xs.length=args.length →
 (∀t∈ps,t<nt)->(∀(i:Nat) x,xs[i]?=some x->∃v,args[i]?=some v/\g.VR h w x v) →
 SR Gl aa nt g (qJ (l++ps) (vs++xs) h) { a with tmps:=(ps.zip args).foldl (λt (p,v)=>t.setIfInBounds p v) a.tmps } w
 |[],[],[],l,vs,a,d,_,_,_,_,_=>by simp_all
 |t::ps,x::xs,v::args,l,vs,a,d,f,E,D,e,hx=>by
  obtain⟨j,o,k⟩:=hx 0 x rfl;obtain rfl:v=j:=by simpa using o
  have:=SR.CQ ps xs args (d.slot f (e t aq) k) (by simp[f]) (by simpa using E) (by simpa using D) (λt B=>e t (by simp[B])) (λi x C=>by
   obtain⟨u,s,r⟩:=hx (i+1) x (by simpa using C);exact⟨u,by simpa using s,r⟩)
  simp_all
 |[],_::_,_,_,_,_,_,_,h,_,_,_=>by grind
 |_::_,[],_,_,_,_,_,_,h,_,_,_=>by grind
 |[],[],_::_,_,_,_,_,_,_,h,_,_=>by grind
 |_::_,_::_,[],_,_,_,_,_,_,h,_,_=>rx
end
section
variable {P:Program} {Gl:t9} {aa:t8} {nt:Nat}
structure m8(P:Program)(Gl:t9)(aa:t8)(nt:Nat)(live:t8)(vs:t7)(a':Act)(g0:Gh)(h0:qa)(w:World)(hh:qa)(lp:Loop)(X:Nat->Prop)(W:World)(g:Gh):Prop where
 sr:SR Gl aa nt g (qJ live vs hh) a' W
 fr:dy g0 h0 w g hh W
 own:g.own (w.heap.size+1)=none
 u:¬g.U (w.heap.size+1)
 lp:W.heap[w.heap.size+1]?=some (.loop lp)
 x:∀b,X b->b<W.heap.size/\g.own b=none/\¬g.U b/\w.heap.size+2<=b
def Marks.it{g}{W i}{ds}{l0:t8}{B:Nat}{X E:Nat->Prop}(h:Marks g W ds)(s:ds=l0.map Ja)(r:∀D∈l0,D<B)(hx:∀b,X b->B<=b)(d:nq X W E i):Marks g i ds:=by
 obtain⟨C,l,f,A,x⟩:=h;refine⟨wM C d.size,l,f,A,λD e=>?_⟩;obtain⟨o,k,j,a⟩:=x D e;obtain rfl:l=l0:=Oh (f.symm.trans s);refine⟨o,k,j,(d.same D (QY a) λu=>?_).trans a⟩;have:=r D e;have:=hx D u;omega
def m8.step{live}{vs}{j}{g0 g}{h0 A}{w W k}{lp}{X C}{l0:t8}(J:j.defers=l0.map Ja)(I:∀D∈l0,D<w.heap.size+2)
 (h:m8 P Gl aa nt live vs j g0 h0 w A lp X W g) (d:nq X W C k):m8 P Gl aa nt live vs j g0 h0 w A lp C k g:=by
 have B:∀b,g.U b∨g.own b≠none->k.heap[b]?=W.heap[b]?:=by
  intro b a;have H:b<W.heap.size:=by
   rcases a with a|a
   .exact(h.sr.hr.u b a).1
   .cases f:g.own b with
    |none=>exact absurd f a
    |some o=>exact(h.sr.hr.own b o f).2
  refine d.same b H λe=>?_;obtain⟨_,s,r,_⟩:=h.x b e;grind
 have N:=h.sr.world (w':=k) (ds:=j.defers) d.size B d.rm (h.sr.defers.it J I (λb a=>(h.x b a).2.2.2) d);have M:=QY h.lp;refine⟨N,?_,h.own,h.u,(d.same _ M λe=>by have:=(h.x _ e).2.2.2;omega).trans h.lp,λb a=>?_⟩
 ·refine⟨h.fr.av.trans ⟨λb a=>⟨a,B b (.inl a)⟩,λi b a=>⟨b,a,wc _,λ_=>⟨rfl,rfl,rfl⟩⟩,d.rm⟩,wM h.fr.size d.size,h.fr.own,d.os.trans h.fr.os,d.tape.trans h.fr.tape,d.output.trans h.fr.output,
   λb a hn=>?_,h.fr.bs,h.fr.u,h.fr.u'⟩
  rw[d.same b (by have:=h.fr.size;omega) λe=>by have:=(h.x b e).2.2.2;omega];exact h.fr.same b a hn
 .rcases d.new b a with e|e
  .obtain⟨O,s,r,E⟩:=h.x b e;exact⟨d.lt b a,s,r,E⟩
  .refine⟨d.lt b a,?_,λL=>?_,ab⟩
   .cases f:g.own b with
    |none=>rfl
    |some o=>have:=(h.sr.hr.own b o f).2;omega
   .have:=(h.sr.hr.u b L).1;omega
def m8.dA{live}{vs}{j}{g0 g}{h0 A}{w W}{lp lp'}{X}{l0:t8}(J:j.defers=l0.map Ja)(I:∀D∈l0,D≠w.heap.size+1)
 (h:m8 P Gl aa nt live vs j g0 h0 w A lp X W g):m8 P Gl aa nt live vs j g0 h0 w A lp' X (W.putObj (w.heap.size+1) (.loop lp')) g:=by
 have L:=QY h.lp;have s:∀b n,room W b n->room (W.putObj (w.heap.size+1) (.loop lp')) b n:=by
  rintro b n ⟨k,e,d,f⟩;refine⟨k,e,?_,f⟩;rw[World.putObj_heap_other (by rintro rfl;rw[h.lp] at d;cases d)];exact d
 have E:∀b,g.U b∨g.own b≠none->(W.putObj (w.heap.size+1) (.loop lp')).heap[b]?=W.heap[b]?:=by
  intro b a;refine World.putObj_heap_other ?_;rintro rfl;rcases a with a|a
  .exact h.u a
  .exact a h.own
 have H:Marks g (W.putObj (w.heap.size+1) (.loop lp')) j.defers:=by
  obtain⟨h0,l,C,N,M⟩:=h.sr.defers;refine⟨by simp_all,l,C,N,λD B=>?_⟩;obtain⟨d,f,r,o⟩:=M D B;obtain rfl:l=l0:=Oh (C.symm.trans J);exact⟨d,f,r,(World.putObj_heap_other (I D B)).trans o⟩
 refine⟨h.sr.world aq E s H,?_,h.own,h.u,World.putObj_heap_same L,λb a=>?_⟩
 ·refine⟨h.fr.av.trans ⟨λb a=>⟨a,E b (.inl a)⟩,λi b a=>⟨b,a,wc _,λ_=>⟨rfl,rfl,rfl⟩⟩,s⟩,by have:=h.fr.size;simp_all,h.fr.own,h.fr.os,h.fr.tape,h.fr.output,
   λb a hn=>?_,h.fr.bs,h.fr.u,h.fr.u'⟩
  rw[World.putObj_heap_other ab];exact h.fr.same b a hn
 .obtain⟨d,f,r,o⟩:=h.x b a;simp_all
def Ex.code:Ex->Option Code
 |.normal=>none
 |.exit i=>some (.exit i)
 |.ret=>some .ret
def Ex.st:Ex->LoopState
 |.normal=>.ready
 |_=>.done
def Oj{V}{L}{i g}(j:V.heap[L]?=some (.loop g)):∀b n,room V b n->room (V.putObj L (.loop i)) b n:=by
 rintro b n ⟨a,e,f,d⟩;refine⟨a,e,?_,d⟩;rw[World.putObj_heap_other rx];exact f
def Ol{V:World}{L}{a}{gg:Gh}(d:gg.own L=none)(f:¬gg.U L):∀b,gg.U b∨gg.own b≠none->(V.putObj L (.loop a)).heap[b]?=V.heap[b]?:=by
 intro b e;refine World.putObj_heap_other ?_;grind
structure ut(L:Nat)(g:Gh)(h:qa)(w:World)(g':Gh)(h':qa)(w':World):Prop where
 av:Zn g h w g' h' w'
 size:w.heap.size<=w'.heap.size
 own:∀b,b<w.heap.size->g'.own b=g.own b
 os:w'.os=w.os
 tape:w'.tape=w.tape
 output:fi w' w
 same:∀b,b<w.heap.size->b≠L->g.own b=none->w'.heap[b]?=w.heap[b]?
 bs:g'.bs=g.bs
 u:∀b,g'.U b->g.U b∨w.heap.size<=b
 u':∀b,g.U b->g'.U b
def dy.Uk{g g'}{h h'}{w w'}(L)(f:dy g h w g' h' w'):ut L g h w g' h' w':=⟨f.av,f.size,f.own,f.os,f.tape,f.output,λb a _ hn=>f.same b a hn,f.bs,f.u,f.u'⟩
def ut.trans{L}{g j g2}{h h1 h2}{w f e}(a:ut L g h w j h1 f)(b:ut L j h1 f g2 h2 e):ut L g h w g2 h2 e:=by
 refine⟨a.av.trans b.av,wM a.size b.size,λk d=>(b.own k (by have:=a.size;omega)).trans (a.own k d),b.os.trans a.os,b.tape.trans a.tape,b.output.trans a.output,λk d i hn=>?_,b.bs.trans a.bs,λk d=>?_,λk d=>b.u' k (a.u' k d)⟩
 .rw[b.same k (by have:=a.size;omega) i (by rw[a.own k d];exact hn),a.same k d i hn]
 .rcases b.u k d with h1|h1
  .exact a.u k h1
  .exact .inr (wM a.size h1)
def ut.dA{L:Nat}{g:Gh}{h}{V:World}{e d:Loop}(j:V.heap[L]?=some (.loop d))(f:g.own L=none)(k:¬g.U L):ut L g h V g h (V.putObj L (.loop e)) :=
 ⟨⟨λb a=>⟨a,Ol f k b (.inl a)⟩,λi b a=>⟨b,a,wc _,λ_=>⟨rfl,rfl,rfl⟩⟩,Oj j⟩,aq,λ_ _=>rfl,rfl,rfl,⟨rfl,wc _⟩,λb _ a _=>World.putObj_heap_other a,rfl,λ_ h=>.inl h,λ_ h=>h⟩
def m8.round(M:P.follows .mixedOrders=true){live ps:t8}{vs xs:t7}{A:Act}{g0 g:Gh}{h0 r h2:qa}{w W:World}{X:Nat->Prop}{l0:t8}{lp:Loop}{ia ib:Code}{s1 s2:St}{e:Ex}
 (hd:A.defers=l0.map Ja) (hl:∀D∈l0,D<w.heap.size+1) (ET:live.length=vs.length) (uR:∀t∈live,t∉aa)
 (hlp:lp.state = .ready) (Lb:lp.pending=none) (htm:lp.tmps=A.tmps) (BZ:lp.params.toList=ps) (has:lp.assign=ia) (hbo:lp.body=ib) (Lc:∀t∈ps,t<nt)
 (ha:qv ia=false) (j:qv ib=false)
 (g1:aG P Gl aa nt ia (qJ (live++ps) (vs++xs) r) .normal s1) (g2:aG P Gl aa nt ib s1 e s2)
 (GG:ak Gl aa nt live h0.length vs s2.h vs h2) (iY:HR g0 h0 w)
 (h:m8 P Gl aa nt live vs A g0 h0 w r lp X W g) {args:Array Value} (hx:EV xs args) (uQ:ps.length=xs.length) :
 YieldAt (QM none) 0 P (w.heap.size+1) args W λe' W'=>dU g0.U X W W'/\e' = .returned (.bool (match e with|.normal=>true|_=>false)) ∧
  ∃g',m8 P Gl aa nt live vs A g0 h0 w h2 { lp with state:=e.st,pending:=e.code } X W' g':=by
 refine⟨_,_,_,_,run_yield h.lp ?_,roundIn_of_wpIn trivial ?_⟩
 .have:=vA List.length BZ;simp only[xz] at this;rw[this,←hx.1];omega
 have lF:SR Gl aa nt g (qJ live vs r) { A with defers:=[] } W:=h.sr.world (wc _) (λ_ _=>rfl) (λ_ _ h=>h) (Marks.nil h.sr.defers.1);have fc:=SR.CQ ps xs args.toList lF ET uQ (by simpa using hx.1) Lc (λi x hi=>by
  obtain⟨v,q1,Y⟩:=hx.2 i x hi;exact⟨v,rx,.aF _ _ (Y _ _)⟩)
 have etm:(Array.foldl (λ(tmps:Array Value) (x:Tmp×Value)=>match x with|(t,a)=>tmps.setIfInBounds t a) lp.tmps (lp.params.zip args))=(ps.zip args.toList).foldl (λt (p,v)=>t.setIfInBounds p v) A.tmps:=by
  rw[←BZ,htm,←Array.foldl_toList,Array.toList_zip]
 subst has;subst hbo;rw[etm];refine g1 (some (w.heap.size+1)) 0 (λr=>by rw[ha] at r;cases r) g _ W fc _ λa1 O H q1 f1 _=>?_;have hL:=QY h.lp;have GH:O.heap[w.heap.size+1]?=some (.loop lp):=(f1.same _ hL h.own).trans h.lp;have o1:H.own (w.heap.size+1)=none:=(f1.own _ hL).trans h.own;have u1:¬H.U (w.heap.size+1):=λs=>by
  rcases f1.u _ s with q|q
  .exact h.u q
  .omega
 refine⟨_,run_beginRound GH hlp,?_⟩;have q1':=q1.world (w':=O.putObj (w.heap.size+1) (.loop { lp with state:=.busy })) (ds:=a1.defers) aq (Ol o1 u1) (Oj GH) (by
  obtain⟨p0,l,p1,p2,p3⟩:=q1.defers;refine⟨by simpa using p0,l,p1,p2,λD hD=>?_⟩;simp_all)
 refine g2 (some (w.heap.size+1)) 0 (λr=>by rw[j] at r;cases r) H _ _ q1' _ λa2 B k Y f2 _=>?_;have DZ:=QY GH;have Q:B.heap[w.heap.size+1]?=some (.loop { lp with state:=.busy }):=(f2.same _ (by simp_all) o1).trans (World.putObj_heap_same DZ);have Om:=QY Q;have Z:k.own (w.heap.size+1)=none:=(f2.own _ (by simp_all)).trans o1;have u2:¬k.U (w.heap.size+1):=λs=>by
  rcases f2.u _ s with q|q
  .grind
  .simp at q;omega
 have E:∀(W4:World),W4=B.putObj (w.heap.size+1) (.loop { lp with state:=e.st,pending:=e.code })->dU g0.U X W W4/\∃g',m8 P Gl aa nt live vs A g0 h0 w h2 { lp with state:=e.st,pending:=e.code } X W4 g':=by
  rintro W4 rfl;have t1:ut (w.heap.size+1) g r W H s1.h O:=f1.Uk _;have t2:ut (w.heap.size+1) H s1.h O H s1.h (O.putObj (w.heap.size+1) (.loop { lp with state:=.busy })):=ut.dA GH o1 u1;have t3:ut (w.heap.size+1) H s1.h (O.putObj (w.heap.size+1) (.loop { lp with state:=.busy })) k s2.h B:=f2.Uk _;have t4:ut (w.heap.size+1) k s2.h B k s2.h (B.putObj (w.heap.size+1) (.loop { lp with state:=e.st,pending:=e.code })):=ut.dA Q Z u2;have f:=((t1.trans t2).trans t3).trans t4;have bK:dy g0 h0 w k s2.h (B.putObj (w.heap.size+1) (.loop { lp with state:=e.st,pending:=e.code })):=by
   refine⟨h.fr.av.trans f.av,wM h.fr.size f.size,λb j=>(f.own b (by have:=h.fr.size;omega)).trans (h.fr.own b j),f.os.trans h.fr.os,f.tape.trans h.fr.tape,f.output.trans h.fr.output,λb j hn=>?_,f.bs.trans h.fr.bs,λb j=>?_,λb j=>f.u' b (h.fr.u' b j)⟩
   .rw[f.same b (by have:=h.fr.size;omega) ab ((h.fr.own b j).trans hn)];exact h.fr.same b j hn
   .rcases f.u b j with q|q
    .exact h.fr.u b q
    omega
  have q2':=Y.world (w':=B.putObj (w.heap.size+1) (.loop { lp with state:=e.st,pending:=e.code })) (ds:=[]) aq (Ol Z u2) (Oj Q) (Marks.nil (by simpa using Y.defers.1));have dg:SR Gl aa nt k (qJ live vs s2.h) A (B.putObj (w.heap.size+1) (.loop { lp with state:=e.st,pending:=e.code })):=by
   refine⟨q2'.hr,?_,h.sr.size,h.sr.nt,λt L=>(h.sr.tmps t L).av f.av,λt L cells N=>?_,λd t o hl=>(by cases hl),λgl cells hg=>(h.sr.eQ gl cells hg).av f.av.u,λd t o hl=>(by cases hl)⟩
   .obtain⟨p0,l,p1,p2,p3⟩:=h.sr.defers;refine⟨by rw[show k.low=g.low from vA Prod.snd f.bs];exact wM p0 f.size,l,p1,p2,λD hD=>?_⟩;obtain⟨J,I,r3,C⟩:=p3 D hD;have Ul:=QY C;refine⟨by rw[show k.low=g.low from vA Prod.snd f.bs];exact J,(f.own D Ul).trans I,λs=>?_,(f.same D Ul ?_ I).trans C⟩
    .rcases f.u D s with q|q
     .grind
     .omega
    .rintro rfl;rw[h.lp] at C;cases C
   ·exfalso;have:∀(l:t8) (vs:t7) (e:Tr),t∉l->t<1024->Tr.get QS (ya l vs e) t=Tr.get QS e t:=by
     intro l
     induction l with
     |nil=>grind[ya]
     |cons i l ih =>
      intro vs e M L;cases vs with
      |nil=>rfl
      |cons y vs =>
       simp only[wJ,not_or] at M;simp only[ya];rw[ih vs _ M.2 L];cases hi:Nat.blt i 1024 with
       |false=>rfl
       |true =>
        simp only[wp];have h1:Tr.get QS (Tr.set QS e i y) t=if t=i then y else Tr.get QS e t:=Tr.fb 10 e i t y (by have:=Qe hi;omega) L;rw[h1,wh M.1]
    rcases wu t 1024 with q|q
    .rw[Gf q] at N;simp only[qJ] at N;rw[this live vs .nil (λM=>uR t M L) q] at N;cases N
    .rw[CF ab] at N;cases N
  obtain⟨g3,w1,w2,V⟩:=GG k A _ g0 h0 w (wc _) iY bK dg;refine⟨⟨f.size,λb j=>?_,λb ds j=>?_,f.os,f.tape,f.output,f.av.rm⟩,g3,w1,w2,(V _ Z).1,λs=>u2 ((V _ Z).2 s),World.putObj_heap_same Om,λb j=>?_⟩
  .rcases j with j|j
   .obtain⟨J,I,r3,C⟩:=h.x b j;exact f.same b J ab I
   .exact(f.av.u b (h.fr.u' b j)).2
  .refine f.same b (QY j) (by rintro rfl;rw[h.lp] at j;cases j) ?_;cases ho:g.own b with
   |none=>rfl
   |some o =>
    rcases h.sr.hr.cells b o ho with⟨arr,e,q⟩|⟨i,es,c,_,q⟩
    .rw[j] at q;cases q
    grind
  .obtain⟨J,I,r3,C⟩:=h.x b j;have ob:k.own b=none:=(f.own b J).trans I;refine⟨vg J f.size,(V b ob).1,λs=>?_,C⟩;rcases f.u b ((V b ob).2 s) with q|q
   .grind
   .omega
 cases e with
 |normal =>
  obtain⟨S,R⟩:=E _ rfl;exact⟨_,_,run_endRound none Q,S,rfl,R⟩
 |exit i =>
  obtain⟨S,R⟩:=E _ rfl;exact⟨_,_,run_endRound (some (.exit i)) Q,S,rfl,R⟩
 |ret =>
  obtain⟨S,R⟩:=E _ rfl;exact⟨_,_,run_endRound (some .ret) Q,S,rfl,R⟩
end
section
variable {P:Program} {Gl:t9} {aa:t8} {nt:Nat}
def qgS{n}{f}{args}{w}{R}(h:CallsIn (QM none) 0 P f args w R):CallsIn (QM none) n P f args w R:=callsIn_wide.2 (callsIn_wide.1 h)
def qfD{f}(h:∃fn,P.funcs[f]?=some fn/\fn.body.isNone=false/\(fn.name=="runtime.NumGoroutine")=false)(args)(w):(callFunc f args).run P w = .ok (.enter f args) w:=by
 obtain⟨fn,d,i,g⟩:=h
 have e:¬fn.name = "runtime.NumGoroutine":=by grind
 have a:¬fn.body=none:=by grind
 simp[callFunc,d,a,e]
def qim(hm:P.follows .mixedOrders=true){live ps}{t}{vs}{ia ib}{psa}(ET:live.length=vs.length)(uR:∀t∈live,t∉aa)(On:t∉aa)(BZ:psa.toList=ps)(Lc:∀t∈ps,t<nt)
 (ha:qv ia=false) (f:qv ib=false) {M:FuncId} {aH:t7} (Oo:aH.all zV=true) {N:Nat} {xs:Nat->t7} (GI:nr P Gl M aH N xs) (uQ:∀i,i<N->ps.length=(xs i).length)
 (st:Nat->qa) (hg:(qJ live vs (st 0)).at t = .fn M aH) {n:Nat} (hn:n<=N) {e1:Ex} {h1:qa}
 (round:∀i,i<n->∃s1 s2,aG P Gl aa nt ia (qJ (live++ps) (vs++xs i) (st i)) .normal s1/\aG P Gl aa nt ib s1 .normal s2/\ak Gl aa nt live (st 0).length vs s2.h vs (st (i+1)))
 (last:(n=N/\e1 = .normal/\h1=st N)∨(n<N/\e1≠.normal/\∃s1 s2,aG P Gl aa nt ia (qJ (live++ps) (vs++xs n) (st n)) .normal s1/\aG P Gl aa nt ib s1 e1 s2/\ak Gl aa nt live (st 0).length vs s2.h vs h1)) :
 aG P Gl aa nt (.rangeFunc (.tmp t) psa ia ib) (qJ live vs (st 0)) e1 (qJ live vs h1):=by
 intro ro nn cV g0 a w L Q hQ;obtain rfl:=cV rfl;have hv:=L.tmps t On;rw[hg] at hv;obtain⟨R,iv,nX,Bc⟩:=hv.gZ;have DU:a.eval (.tmp t) = .func (.func M) #[] R:=iv;refine wpIn_rangeFunc λfnm _=>?_;obtain⟨s,d⟩:∃s:Loop,s = { state:=.ready,pending:=none,fn:=fnm,tmps:=a.tmps,params:=psa,assign:=ia,body:=ib,defers:=w.heap.size }:=⟨_,rfl⟩;obtain⟨j,A⟩:∃j,(w.alloc (.deferred (some []))).alloc (.loop s)=j:=⟨_,rfl⟩;refine⟨w.heap.size+1,[Ja w.heap.size],j,{ target:=.fn (.func M) R,args:=#[.func (.yield (w.heap.size+1)) #[] #[]] },j,M,
  #[.func (.yield (w.heap.size+1)) #[] #[]]++R,j,?_,?_,λ_ _=>trivial,?_,(λhd=>by simp[QM] at hd),?_⟩
 .rw[←A,d];exact run_enterLoop_outer _ _ _ _ _
 .simp only[Go.resolve,DU];simp[go_sem]
 .simp[invoke,go_sem,qfD GI.enters]
 have dY:j.heap.size=w.heap.size+2:=by rw[←A];simp
 have eU:∀b,b<w.heap.size->j.heap[b]?=w.heap[b]?:=λb f=>by
  rw[←A];exact(RowKit.Below.heap_alloc _ _ _ (by simp;omega)).trans (RowKit.Below.heap_alloc _ _ _ f)
 have hL:j.heap[w.heap.size+1]?=some (.loop s):=by
  rw[←A];have:=World.alloc_heap_new (w.alloc (.deferred (some []))) (.loop s);rwa[World.size_alloc] at this
 have hD:j.heap[w.heap.size]?=some (.deferred (some [])):=by
  rw[←A];exact(RowKit.Below.heap_alloc _ _ _ aq).trans (World.alloc_heap_new w _)
 have C:HR g0 (st 0) w:=L.hr;have GJ:dy g0 (st 0) w g0 (st 0) j:=dy.Oi C ab eU (by rw[←A];rfl) (by rw[←A];rfl) (by rw[←A];exact⟨rfl,wc _⟩);obtain⟨oX,l0,F7,iO,pR⟩:=L.defers;have CS:∀b,w.heap.size<=b->g0.own b=none:=λb f=>by
  cases ho:g0.own b with
  |none=>rfl
  |some o=>have:=(C.own b o ho).2;omega
 have Um:∀b,w.heap.size<=b->¬g0.U b:=λb f hU=>by have:=(C.u b hU).1;omega
 have B:([Ja w.heap.size]++a.defers)=(w.heap.size::l0).map Ja:=by rw[F7];rfl
 have tO:Marks g0 j ([Ja w.heap.size]++a.defers):=by
  refine⟨ab,w.heap.size::l0,B,xu.2 ⟨λh=>by have:=QY (pR _ h).2.2.2;omega,iO⟩,λD r=>?_⟩;grind
 have Oq:=L.world (w':=j) (ds:=[Ja w.heap.size]++a.defers) ab (λb f=>eU b (by
  grind)) GJ.av.rm tO
 have I:∀D∈(w.heap.size::l0),D<w.heap.size+1:=λD r=>by
  grind
 let J:Nat->(Nat->Prop)->World->Prop:=λi X W=>i<=n/\∃g,m8 P Gl aa nt live vs { a with defers:=[Ja w.heap.size]++a.defers } g0 (st 0) w (st i) s X W g
 let Jx:Nat->(Nat->Prop)->World->Prop:=λi X W=>e1≠.normal/\∃g,m8 P Gl aa nt live vs { a with defers:=[Ja w.heap.size]++a.defers } g0 (st 0) w h1 { s with state:=e1.st,pending:=e1.code } X W g
 have hJ:La J:=λi X W X' W' ⟨h1,g,k⟩ io=>⟨h1,g,k.step B (λD r=>by have:=I D r;omega) io⟩;have CU:La Jx:=λi X W X' W' ⟨h1,g,k⟩ io=>⟨h1,g,k.step B (λD r=>by have:=I D r;omega) io⟩;have sj:=GI.it w g0.U R (λb f=>(C.u b f).1) L.eQ ⟨nX,λi x H=>by
  obtain⟨v,q1,q2⟩:=Bc i x H;exact⟨v,q1,jN (wD.1 Oo x (wx H)) q2⟩⟩ (w.heap.size+1) J Jx hJ CU (λi X W args H hj hx=>?_) j ab (λb f=>eU b (C.u b f).1)
  ⟨wN _,g0,Oq,GJ,CS _ ab,Um _ ab,hL,λb f=>f.elim⟩
 .refine qgS (sj.mono ?_);rintro e W ⟨⟨v,rfl⟩,⟨X,lC,g,k⟩|⟨i,X,H,bh,g,k⟩⟩
  .obtain rfl:n=N:=by omega
   rcases last with⟨_,rfl,rfl⟩|⟨aM,_⟩
   .have E:=k.dA (lp':={ s with state:=.exhausted }) B (λD r=>by have:=I D r;omega);refine⟨none,_,?_,hQ _ _ g E.sr E.fr λh=>by cases h⟩;have:=run_endLoop (P:=P) k.lp (by rw[d];simp);rw[this,d]
   .omega
  .have E:=k.dA (lp':={ s with state:=.exhausted,pending:=e1.code }) B (λD r=>by have:=I D r;omega);have Ah:=run_endLoop (P:=P) k.lp (by cases e1<;>simp[Ex.st]);cases e1 with
   |normal=>grind
   |exit id=>exact⟨_,_,Ah,wpIn_exit (hQ _ _ g E.sr E.fr λh=>by cases h)⟩
   |ret=>exact⟨_,_,Ah,wpIn_ret (hQ _ _ g E.sr E.fr λh=>by cases h)⟩
 .obtain⟨lC,g,k⟩:=hj;rcases wu i n with aM|oz
  .obtain⟨s1,s2,k1,k2,k3⟩:=round i aM;obtain⟨Ot,Ou,Ov,Ow,V,S⟩:=k.round hm B I ET uR (by rw[d]) (by rw[d]) (by rw[d]) (by rw[d];exact BZ) (by rw[d]) (by rw[d]) Lc ha f k1 k2 k3 C hx (uQ i H);refine⟨Ot,Ou,Ov,Ow,V,S.mono λe W' ⟨Z,Y,g',O⟩=>⟨Z,.inl ⟨Y,ab,g',?_⟩⟩⟩;rw[d] at O ⊢;exact O
  .obtain rfl:i=n:=by omega
   rcases last with⟨h2,_⟩|⟨_,bh,s1,s2,k1,k2,k3⟩
   .omega
   .obtain⟨Ot,Ou,Ov,Ow,V,S⟩:=k.round hm B I ET uR (by rw[d]) (by rw[d]) (by rw[d]) (by rw[d];exact BZ) (by rw[d]) (by rw[d]) Lc ha f k1 k2 k3 C hx (uQ i H);refine⟨Ot,Ou,Ov,Ow,V,S.mono λe W' ⟨Z,Y,g',O⟩=>⟨Z,.inr ⟨?_,bh,g',O⟩⟩⟩;rw[Y];simp_all
end
section
variable {P:Program} {Gl:t9}
end
def Ox:T->Bool
 |.agg l=>l.all qK
 |x=>qK x
section
variable {P:Program} {Gl:t9} {K:bv} {aa:t8} {nt:Nat}
def VR.rZ{w}{U}{φ}{h}{l}{v}(hx:Ab.VR w U φ h (.rZ l) v):v = .func (.yield l) #[] #[]:=by cases hx with|aF _ _ a=>cases a;rfl
def Un{g:Gh}{h}{w}{x:T}{v}(hp:qK x=true)(hx:g.VR h w x v):Og x v:=λw' U=>by
 cases x with
 |undef=>exact .undef v
 |bool b=>rw[hx.bool];exact .bool b
 |int k n=>rw[hx.int];exact .int k n
 |str s=>obtain⟨b,rfl,a⟩:=hx.str;exact .str s b a
 |_=>cases hp
def qfE{g:Gh}{h}{w:World}{x:T}{v:Value}(hp:Ox x=true)(hx:g.VR h w x v):Og x v:=by
 cases x with
 |agg l =>
  obtain⟨k,rfl,e,j,f⟩:=hx.bN;intro w' U;refine VI.dh e j (λi c a=>?_);obtain⟨u,d,hr⟩:=f i c a;exact⟨u,d,Un (wD.1 hp c (wx a)) hr w' U⟩
 |_=>exact Un hp hx
structure It(Gl:t9)(aa:t8)(nt:Nat)(R:Nat->Prop)(J:(Nat->Prop)->World->Prop)(X:Nat->Prop)(g:Gh)(s:St)(a:Act)(W:World):Prop where
 sr:SR Gl aa nt g s a W
 own:∀b,g.own b≠none->X b
 u:∀b,g.U b->X b∨R b
 lt:∀b,X b->b<W.heap.size
 j:J X W
 nd:a.defers=[]
def Ar(J:(Nat->Prop)->World->Prop):Prop:=∀X W a d,J X W->nq X W a d->J a d
def It.Ld{R}{J}{X}{g g'}{s s'}{a r}{W f}(B:Ar J)(h:It Gl aa nt R J X g s a W)(i:SR Gl aa nt g' s' r f)(e:dy g s.h W g' s'.h f)(x:r.defers=a.defers) :
 It Gl aa nt R J (λb=>X b∨(W.heap.size<=b/\b<f.heap.size)) g' s' r f:=by
 refine⟨i,λb d=>?_,λb d=>?_,λb d=>?_,B X W _ f h.j ⟨e.size,λb d A=>e.same b d ?_,λb d=>.inl d,λb d=>?_,λb d=>?_,e.os,e.tape,e.output,e.av.rm⟩,x.trans h.nd⟩
 .rcases wu b W.heap.size with q|q
  .rw[e.own b q] at d;exact .inl (h.own b d)
  .cases k:g'.own b with
   |none=>grind
   |some o=>exact .inr ⟨q,(i.hr.own b o k).2⟩
 .rcases e.u b d with q|q
  .rcases h.u b q with q|q
   .exact .inl (.inl q)
   grind
  .exact .inl (.inr ⟨q,(i.hr.u b d).1⟩)
 .rcases d with q|q
  .exact vg (h.lt b q) e.size
  omega
 .cases k:g.own b with
  |none=>rfl
  |some o=>exact absurd (h.own b (by rw[k];simp)) A
 .grind
 .rcases d with q|q
  .exact vg (h.lt b q) e.size
  omega
def It.code{R}{J}{X}{g}{s s'}{a}{W}{c}{e}{n}{Q:Exit->Act->World->Prop}(r:Ar J)(h:It Gl aa nt R J X g s a W)(k:aG P Gl aa nt c s e s')(i:qv c=false)
 (o:∀A g' d f,It Gl aa nt R J A g' s' d f->Q e.out d f):c.wpIn (QM none) n P Q a W :=
 k none n (λ_=>rfl) g a W h.sr Q λd f g' u x j=>o _ g' d f (h.Ld r u x (j i))
def dG.As(o:aS P Gl K){ops}{l l2}{s s'}{fH}(h:dG P K Gl aa nt ops.toList l s s' fH):∀{g:Gh} {a:Act} {w:World},SR Gl aa nt g s a w →
 ∀(ro:Option Nat) (n:Nat) (Q:Exit->Act->World->Prop),(∀d w' g',SR Gl aa nt g' s' d w'->dy g s.h w g' s'.h w'->d.defers=a.defers->wpListIn (QM ro) n P ops Q l2 d w')->wpListIn (QM ro) n P ops Q (l++l2) a w:=by
 induction h with
 |nil s=>exact λe ro n Q hn=>hn _ _ _ e (dy.refl _ _ _) rfl
 |cons r E k =>
  intro g a w e ro n Q hn;rw[up];unfold wpListIn;have:=r.goes o e ro n (wpListIn (QM ro) n P ops Q _) Q (λd w' g' A B j=>k A ro n Q λC f x u i D=>hn C f x u (B.trans i) (D.trans j));split at this
  .grind
  .rename_i hw;rw[wh hw];exact⟨λ_ _=>trivial,this⟩
def It.round{R}{J r}{X}{g}{s}{a}{W f}{d}{b}(h:It Gl aa nt R J X g s a W)(Q:d<nt)(L:s.used d=false)(hr:dU R X W f)(O:r X f) :
 It Gl aa nt R r X g (s.lay d (.bool b) none) (a.put (some d) (.bool b)) f:=by
 have V:∀k,g.U k∨g.own k≠none->f.heap[k]?=W.heap[k]?:=λk e=>hr.same k (by
  rcases e with e|e
  .exact h.u k e
  .exact .inl (h.own k e))
 have N:Marks g f a.defers:=by
  obtain⟨I,l,m1,H,E⟩:=h.sr.defers;refine⟨wM I hr.size,l,m1,H,λD S=>?_⟩;obtain⟨C,B,A,j⟩:=E D S;exact⟨C,B,A,(hr.df D _ j).trans j⟩
 have i:=h.sr.world (w':=f) (ds:=a.defers) hr.size V hr.rm N;have:=i.done (d:=d) Q (x:=.bool b) (h':=s.h) (v:=.bool b) (w':=f) (g':=g) i.hr (.aF _ _ (.bool b)) (.refl _ _ _ _) (mF.refl _ _ λb o M=>(i.hr.own b o M).2) (hp:=none) rfl L;exact⟨this,h.own,h.u,λk e=>vg (h.lt k e) hr.size,O,(zd _ _ _).trans h.nd⟩
def qgT{o}{a:Act}{ty l}{d}{ts}{W}{args}{x}(f:o.op = .call { callee:=.value (.tmp ty),args:=d,argTypes:=ts })(i:a.eval (.tmp ty) = .func (.yield l) #[] #[])
 (g:d.map a.eval=args) (e:(Instr.yield l args).run P W = .ok x W):(execOp a.eval o).run P W = .ok x W:=by
 unfold execOp;rw[f];simp only[Sem.run_bind,Go.resolve,i,Deferred.ofValue];simp[invoke,g,e]
def Lf(aa:t8)(ops:List Oper)(y:Oper)(s:St):Bool:=match y.guard with
 |none=>true
 |some (j,want)=>match ZJ ops j with
  |some a=>!(aa.contains a)&&(match s.at a with|.bool b=>(bif b then want else !want)|_=>false)
  |none=>false
def qca{ops:Array Oper}{y}{s}{g}{a}{W:World}(h:Lf aa ops.toList y s=true)(x:SR Gl aa nt g s a W):Region.wanted y (yielded ops a.tmps)=true:=by
 unfold Lf at h;cases o:y.guard with
 |none=>simp[Region.wanted,o]
 |some p =>
  obtain⟨j,d⟩:=p;rw[o] at h;dsimp only at h;cases i:ZJ ops.toList j with
  |none=>rw[i] at h;cases h
  |some f =>
   rw[i] at h;simp only[wd,wR] at h;obtain⟨B,h⟩:=h;cases eF:s.at f with
   |bool b =>
    rw[eF] at h;dsimp only at h;have e:=x.tmps f rx;rw[eF] at e;have e:=e.bool;have u:yielded ops a.tmps j=some b:=by
     have A:(ops[j]?).bind (·.dst)=some f:=by
      unfold ZJ at i;rw[vD] at i;grind
     unfold yielded;rw[A];simp only[Option.bind_some];have r:f<a.tmps.size:=by
      rcases wu f a.tmps.size with k|k
      .exact k
      .rw[wG,xm k] at e;cases e
     rw[wG,wK r] at e;rw[wK r];simp only[xw] at e;rw[e]
    have hw:Region.wanted y (yielded ops a.tmps)=(b==d):=by simp[Region.wanted,o,u]
    rw[hw,←Nv b d];exact h
   |_=>rw[eF] at h;cases h
def It.region(D:aS P Gl K){R:Nat->Prop}{J Z Y:(Nat->Prop)->World->Prop}{X:Nat->Prop}{g:Gh}{s s1:St}{sb:Bool->St}{a:Act}{W:World}{ops:Array Oper}{pre post:List Oper}{y:Oper}{id d ty l n:Nat}{I:Array Operand}{ts:Array TypeId}
 {fH:List FP} {fpb:Bool->List FP} {xs:t7} {Q:Exit->Act->World->Prop} (hJ:Ar J) (Oz:Ar Z) (OA:Ar Y) (h:It Gl aa nt R J X g s a W)
 (D0:ops.toList=pre++y::post) (hy:y.op = .call { callee:=.value (.tmp ty),args:=I,argTypes:=ts }) (hd:y.dst=some d) (DX:Lf aa ops.toList y s1=true)
 (mH:dG P K Gl aa nt ops.toList pre { s with loc:=λ_=>none,used:=λ_=>false } s1 fH) (OB:s1.at ty = .rZ l) (On:ty∉aa) (Uo:d<nt) (Ad:s1.used d=false)
 (b6:I.toList.map (ev Gl aa s1)=xs) (n9:xs.all Ox=true)
 (CV:∀b,dG P K Gl aa nt ops.toList post (s1.lay d (.bool b) none) (sb b) (fpb b))
 (sN:∀X W args,J X W->EV xs args->YieldAt (QM none) 0 P l args W λe f=>dU R X W f/\((e = .returned (.bool true)/\Z X f)∨(e = .returned (.bool false)/\Y X f)))
 (OC:∀N g' o f,It Gl aa nt R Z N g' (sb true) o f->Q .normal o f) (OD:∀N g' o f,It Gl aa nt R Y N g' (sb false) o f->Q .normal o f) :
 (Code.region id ops false).wpIn (QM none) n P Q a W:=by
 refine wpIn_region_list ?_;rw[D0];have lF:=h.sr.bare s.env (λt=>.inl rfl);refine mH.As D lF none n Q λM W1 g1 r iq iJ=>?_;have E:=h.Ld (s':=s1) (g':=g1) hJ r iq iJ;unfold wpListIn;rw[wl (qca DX r)];refine⟨λ_ _=>trivial,?_⟩;have Oy:M.eval (.tmp ty) = .func (.yield l) #[] #[]:=by
  have:=r.tmps ty On;rw[OB] at this;exact this.rZ
 have A:EV xs (I.map M.eval):=by
  refine⟨by rw[←b6];simp,λi x B=>?_⟩;rw[←b6] at B;rw[wE,wT] at B;obtain⟨o0,q1,rfl⟩:=B;rw[vD] at q1;refine⟨M.eval o0,by simp[q1],qfE ?_ (r.ev o0)⟩;grind
 obtain⟨fn,tm,as,bo,y1,y2⟩:=sN _ W1 _ E.j A;rw[Yk (qgT hy Oy rfl y1) aq,Oper.uponIn_round];refine⟨(λC=>by simp[QM] at C),?_⟩;have y3:RoundIn (QM none) (n-1) P l fn tm as bo W1 _:=⟨y2.1,λc cs _=>y2.2 c cs (λ_ C=>by simp[QM] at C)⟩;refine y3.mono ?_;rintro e W2 ⟨r1,⟨rfl,u⟩|⟨rfl,u⟩⟩
 .have k:=E.round Uo Ad r1 u (b:=true);rw[hd];have:=(CV true).As (l2:=[]) D k.sr none n Q λL O H V U S=>OC _ H L O (k.Ld Oz V U S);grind
 .have k:=E.round Uo Ad r1 u (b:=false);rw[hd];have:=(CV false).As (l2:=[]) D k.sr none n Q λL O H V U S=>OD _ H L O (k.Ld OA V U S);grind
end
section
variable (P:Program) (K:bv) (G:t9) (aa:t8) (nt:Nat)
def Up(m:Nat)(c:Code)(l:t8)(vs:t7)(h:qa)(l':t8):Option (Ex×t7×qa) :=
 ic P K G aa nt (λ_ _=>[]) (kT P K G aa nt (λ_ _=>[]) m) c (qJ l vs h) λe s=>some (e,Za s l',s.h)
def Uq(ops:Array Oper)(k:Nat)(l:t8)(vs:t7)(h:qa)(l':t8):Option (Nat×t7×(t7×qa)×(t7×qa)) :=
 match ops.toList[k]? with
 |some y=>match y.op,y.dst with
  |.call { callee:=.value (.tmp a),args:=g,.. },some d=>bif !(aa.contains a)&&Nat.blt d nt then
   y5 P K G aa nt ops.toList (ops.toList.take k) (qJ l vs h) λs1 _=>match s1.at a with
    |.rZ n=>bif !(s1.used d)&&Lf aa ops.toList y s1 then
     y5 P K G aa nt ops.toList (ops.toList.drop (k+1)) (s1.lay d (.bool true) none) λe _=>y5 P K G aa nt ops.toList (ops.toList.drop (k+1)) (s1.lay d (.bool false) none) λf _ =>
      some (n,g.toList.map (ev G aa s1),(Za e l',e.h),(Za f l',f.h))
     else none
    |_=>none
   else none
  |_,_=>none
 |none=>none
end
section
variable {P:Program} {Gl:t9} {K:bv} {aa:t8} {nt:Nat}
def It.only{R}{J}{X}{g}{s}{a}{W}(h:It Gl aa nt R J X g s a W)(l):It Gl aa nt R J X g (qJ l (Za s l) s.h) a W :=
 ⟨h.sr.only l,h.own,h.u,h.lt,h.j,h.nd⟩
def It.Bj(k:P.follows .mixedOrders=true)(o:aS P Gl K)(r:nt<=1024){m n}{c}{l l'}{vs aW}{h h'}{e}{R}{J}{X}{g}{a}{W}{Q}
 (d:Up P K Gl aa nt m c l vs h l'=some (e,aW,h')) (s:qv c=false) (B:Ar J) (x:It Gl aa nt R J X g (qJ l vs h) a W)
 (A:∀j g' f i,It Gl aa nt R J j g' (qJ l' aW h') f i->Q e.out f i):c.wpIn (QM none) n P Q a W:=by
 unfold Up at d;obtain⟨D,s1,d,u⟩:=zf k o r ((I7 k o r m).mono (S:=λ_=>True)) c (λ_ _=>trivial) d;simp only[wj,wA] at d;obtain⟨rfl,rfl,rfl⟩:=d;exact x.code B u s λj g' f i C=>A j g' f i (C.only l')
def It.yield(U:aS P Gl K){k n id l0:Nat}{ops}{l l'}{vs vsT vsF xs}{h hT hF}{R}{J C B}{X}{g}{a}{W}{Q}
 (f:Uq P K Gl aa nt ops k l vs h l'=some (l0,xs,(vsT,hT),(vsF,hF))) (M:xs.all Ox=true) (V:Ar J) (Oz:Ar C) (OA:Ar B) (O:It Gl aa nt R J X g (qJ l vs h) a W)
 (I:∀X W args,J X W->EV xs args->YieldAt (QM none) 0 P l0 args W λe i=>dU R X W i/\((e = .returned (.bool true)/\C X i)∨(e = .returned (.bool false)/\B X i)))
 (OC:∀o g' j i,It Gl aa nt R C o g' (qJ l' vsT hT) j i->Q .normal j i) (OD:∀o g' j i,It Gl aa nt R B o g' (qJ l' vsF hF) j i->Q .normal j i) :
 (Code.region id ops false).wpIn (QM none) n P Q a W:=by
 unfold Uq at f;split at f
 .rename_i y r;split at f
  .rename_i ty aV ts d E S;obtain⟨A,f⟩:=qo f;simp only[wd,wR] at A;obtain⟨s1,D,f,N⟩:=k9 _ f;split at f
   ·rename_i n' OB;obtain⟨s,f⟩:=qo f;simp only[wd] at s;obtain⟨s,DX⟩:=s;obtain⟨H,Z,f,u⟩:=k9 _ f;obtain⟨L,fF,f,x⟩:=k9 _ f;simp only[wj,wA] at f;obtain⟨rfl,rfl,⟨rfl,rfl⟩,rfl,rfl⟩:=f;have D0:ops.toList=ops.toList.take k++y::ops.toList.drop (k+1):=by
     have aM:k<ops.toList.length:=by
      rcases wu k ops.toList.length with q|q
      .exact q
      .rw[wz q] at r;cases r
     have OH:ops.toList[k]=y:=by rw[wi aM] at r;exact we r
     rw[←OH,List.getElem_cons_drop,xE]
    refine It.region U V Oz OA O D0 E S DX (s1:=s1) (fH:=D) (sb:=λb=>bif b then H else L) (fpb:=λb=>bif b then Z else fF) ?_ OB (by simpa using A.1) (Qe A.2) (by simpa using s) rfl M ?_ I (λo g' j i q=>OC o g' j i (q.only l')) (λo g' j i q=>OD o g' j i (q.only l'))
    .exact N
    .intro b;cases b
     .exact x
     .exact u
   .cases f
  .cases f
 grind
def qpQ(Gl:t9)(aa:t8)(nt:Nat)(R:Nat->Prop)(J d:Nat->(Nat->Prop)->World->Prop)(N:Nat)(e:Exit)(a:Act)(W:World):Prop :=
 (e = .normal∨e = .ret)/\∃X g s,It Gl aa nt R (J N) X g s a W∨∃i,i<N/\It Gl aa nt R (d i) X g s a W
def qlE{I}{fn}{c}(E:P.funcs[I]?=some fn)(d:fn.body=some c)(B:(fn.name=="runtime.NumGoroutine")=false)(bL:fn.results = #[])(bp:fn.ntmps<=1024){C}(bz:C.length+1<=fn.ntmps){N:Nat}{xs:Nat->t7}
 (h:∀(l:Nat) (R:Nat->Prop) (J u:Nat->(Nat->Prop)->World->Prop),(∀i,Ar (J i))->(∀i,Ar (u i)) →
  (∀i X W args,i<N->J i X W->EV (xs i) args->YieldAt (QM none) 0 P l args W λe f=>dU R X W f/\((e = .returned (.bool true)/\J (i+1) X f)∨(e = .returned (.bool false)/\u i X f))) →
  ∀X g a W,It Gl aa fn.ntmps R (J 0) X g (enter (.rZ l::C) []) a W->c.wpIn (QM none) 0 P (qpQ Gl aa fn.ntmps R J u N) a W):nr P Gl I C N xs:=by
 refine⟨⟨fn,E,by rw[d];rfl,B⟩,λw U lb V di H l J u Y CU Q W dY c9 OI=>?_⟩;refine callsIn_of_wp E d trivial (wpIn_mono (h l U J u (λi X W D f=>Y i X W D f) (λi X W D f=>CU i X W D f) Q (λ_=>False) { U:=U,φ:=λ_=>none,own:=λ_=>none,base:=W.heap.size,low:=W.heap.size } _ W ?_) ?_) rfl
 .have M:eR w U W U:=λb d=>⟨d,c9 b d⟩;refine⟨SR.enter (wc _) ⟨λi b d=>(by cases d),λb d=>⟨vg (V b d) dY,rfl⟩,λb o A=>(by cases A),wc _,λb o A=>(by cases A),λb i A=>(by cases A),λi b m d=>rx⟩ (λZ cells S=>(di Z cells S).av M) ⟨by simp[H.1];omega,λi x r=>?_⟩ bp (by omega),λb d=>absurd rfl d,λb d=>.inr d,λb d=>d.elim,OI,rfl⟩;cases i with
  |zero =>
   simp at r;subst r;exact⟨.func (.yield l) #[] #[],by rw[uc aq];rfl,.aF _ _ (.rZ l)⟩
  |succ i =>
   simp at r;obtain⟨v,q1,O⟩:=H.2 i x r;refine⟨v,?_,.aF _ _ (O.av M)⟩;rw[Array.getElem?_append_right aq];grind
 ·rintro e L f ⟨he,X,g,s,k⟩;have key:bodyPost P fn (λe f=>(∃v,e = .returned v)/\((∃X,J N X f)∨(∃i X,i<N/\u i X f))) .ret L f:=by
   have hr:(results fn L.tmps).run P f = .ok (.tuple #[]) f:=by
    rw[T6,bL];simp
   rcases k with k|⟨i,r,k⟩
   ·exact⟨k.nd,_,hr,⟨_,rfl⟩,.inl ⟨X,k.j⟩⟩
   ·exact⟨k.nd,_,hr,⟨_,rfl⟩,.inr ⟨i,X,r,k.j⟩⟩
  rcases he with rfl|rfl
  .exact key
  omega
end
def ai.refl(h:qa):ai h h:=⟨rfl,λi b e d a=>by rw[d] at a;grind⟩
def ai.nil:ai [] []:=.refl []
def ai.cons{b b2:ap}{h h2:qa}(e:b2.aj=b.aj/\b2.sz=b.sz/\b2.n=b.n/\(b2.flat=true->b.flat=true)/\∀j,j<b.n->b2.get j=b.get j)(a:ai h h2)(d:b2.mp=b.mp:=by rfl):ai (b::h) (b2::h2):=by
 refine⟨by simp[a.1],λi x y g f=>?_⟩;cases i with
 |zero=>grind
 |succ i=>exact a.2 i x y rx rx
def LT.At{c:Bool}{e e':Ex}{vs aW:t7}{h h':qa}(a:(LT.ite c (.ret e vs h) .none).run (λe vs h=>some (e,vs,h))=some (e',aW,h')):c=true/\e=e'/\vs=aW/\h=h':=by
 simp only[LT.run] at a;grind
section
variable {P:Program} {Gl:t9}
def ak.GK{aa:t8}{nt:Nat}{l:t8}{k m:Nat}{vs:t7}{h:qa}(a:k<=m)(e:EU m vs h=true):ak Gl aa nt l k vs h vs (h.take m) :=
 λg _ _ _ _ _ i d j f=>⟨_,f.take e,j.take d (wM i a),.cut g m⟩
def Lg(P:Program)(Gl:t9)(an:cW)(f r:Nat)(vs:t7)(h:qa)(e:Ex)(aW:t7)(h':qa):Prop :=
 ∃(A:FuncId->cW) (K:bv) (m:Nat) (l:List (Nat×(t7->qa->LT))),aS P Gl K/\(A f).aa=an.aa/\(A f).live r=an.live r/\(∀p∈l,ax P Gl (A f) f p.1 p.2)/\QO P Gl A K m f l r vs h=some (e,aW,h')
def qlF(o:P.follows .mixedOrders=true){f r:Nat}(u:jy P f r=true){an:cW}{fn:Func}(s:P.funcs[f]?=some fn)(B:fn.ntmps<=1024)(vs:Nat->t7)(a:Nat->qa){n:Nat}{e1:Ex}{dM:t7}{h1:qa}
 (round:∀i,i<n->∃aW h',Lg P Gl an f r (vs i) (a i) .normal aW h'/\ak Gl an.aa fn.ntmps (an.live r false) (a 0).length aW h' (vs (i+1)) (a (i+1)))
 (last:e1≠.normal/\∃aW h',Lg P Gl an f r (vs n) (a n) e1 aW h'/\ak Gl an.aa fn.ntmps (an.live r true) (a 0).length aW h' dM h1) :
 aG P Gl an.aa fn.ntmps (yc (ym P f r)) (qJ (an.live r false) (vs 0) (a 0)) e1 (qJ (an.live r true) dM h1):=by
 refine qil o u (λm v h=>∃i,i<=n/\m=n-i/\v=vs i/\h=a i) s B (λm v h x=>?_) (n:=n) ⟨0,ab,ab,rfl,rfl⟩;obtain⟨i,E,rfl,rfl,rfl⟩:=x;rcases wu i n with C|D
 .obtain⟨aW,h',⟨A,K,m,l,k,j,g,e,d⟩,hw⟩:=round i C;exact⟨A,K,m,l,k,j,g,e,.normal,aW,h',d,.inl ⟨rfl,n-(i+1),_,_,ab,hw,i+1,ab,rfl,rfl,rfl⟩⟩
 .obtain rfl:i=n:=by omega
  obtain⟨H,aW,h',⟨A,K,m,l,k,j,g,e,d⟩,hw⟩:=last;grind
noncomputable def KU(vs:t7)(h:qa)(a:t7)(h0:qa):Bool:=@decide (∀(Gl:t9) (aa:t8) (nt:Nat) (l:t8),ak Gl aa nt l h.length vs h a h0) (Classical.propDecidable _)
def Us{vs a:t7}{h h0:qa}:KU vs h a h0=true↔∀(Gl:t9) (aa:t8) (nt:Nat) (l:t8),ak Gl aa nt l h.length vs h a h0:=by simp[KU]
def YQ{vs a:t7}{h h0:qa}(q:vs=a/\ai h h0):KU vs h a h0=true:=Us.2 λGl aa nt l=>by
 rw[q.1];exact ak.same q.2
noncomputable def Qx(d:t7)(h0:qa)(e:Ex)(dM:t7)(h1:qa):t7->qa->LT:=λa h=>.ite (KU a h d h0) (.ret e dM h1) .none
def ax.lit{an:cW}{f r:Nat}{a dM:t7}{h0 h1:qa}{e:Ex}
 (g:∀fn,P.funcs[f]?=some fn->fn.ntmps<=1024->aG P Gl an.aa fn.ntmps (yc (ym P f r)) (qJ (an.live r false) a h0) e (qJ (an.live r true) dM h1)):ax P Gl an f r (Qx a h0 e dM h1):=by
 intro fn i k o h s u h' d;unfold Qx at d;obtain⟨j,rfl,rfl,rfl⟩:=LT.At d;exact aG.Oe (g fn i k) (Us.1 j _ _ _ _)
def Qo{an:cW}{f r:Nat}{s:t7->qa->LT}(h:ax P Gl an f r s):∀p∈[(r,s)],ax P Gl an f p.1 p.2:=λp a=>by
 grind
def Ut{an:cW}{f r:Nat}{s:t7->qa->LT}{l:List (Nat×(t7->qa->LT))}(h:ax P Gl an f r s)(d:∀p∈l,ax P Gl an f p.1 p.2):∀p∈(r,s)::l,ax P Gl an f p.1 p.2:=λp a=>by
 grind
end
section
variable {P:Program} {Gl:t9} {A:FuncId->cW}
structure aR(P:Program)(Gl:t9)(f:FuncId)(args:t7)(h:qa)(r:T)(h':qa):Prop where
 enters:∃fn,P.funcs[f]?=some fn/\fn.body.isNone=false/\(fn.name=="runtime.NumGoroutine")=false
 calls:∀(g:Gh) (w:World) (aE:Array Value),HR g h w->JK g->yl Gl w g.U->dz g h w args aE →
  Calls P f aE w λe w'=>∃v,e = .returned v/\ij g h w r h' v w'
def Uu(P:Program)(G:t9)(A:FuncId->cW)(K:bv)(m:Nat)(f:FuncId)(l:List (Nat×(t7->qa->LT)))(args:t7)(h:qa):Option (T×qa) :=
 jf P G A K (Yd l (Cu P G A K m f)) f args h λv h'=>some (v,h')
def qio(a:P.follows .mixedOrders=true)(hn:QN P=true){K:bv}(e:aS P Gl K){m:Nat}{f:FuncId}(j:QP P f=true){l:List (Nat×(t7->qa->LT))}
 (i:∀p∈l,ax P Gl (A f) f p.1 p.2) {args:t7} {h:qa} {r:T} {h':qa} (d:Uu P Gl A K m f l args h=some (r,h')):aR P Gl f args h r h' :=
 ⟨ZN hn d,λ_ _ _ hr g k o=>KB a e (YP j (YO P Gl A K m f) (jQ a e m f) i) d hr g k o⟩
inductive l7 where
 |none
 |ret (v:T) (h:qa)
 |ite (c:Bool) (x y:l7)
def l7.run{R:Type}:l7->(T->qa->Option R)->Option R
 |.none,_=>Option.none
 |.ret v h,k=>k v h
 |.ite c x y,k=>bif c then x.run k else y.run k
def l7.Al:∀t:l7,cZ (A:=T×qa) λR k=>t.run (R:=R) λv h=>k (v,h)
 |.none=>qk
 |.ret v h=>qp (v,h)
 |.ite c x y=>qQ c x.Al y.Al
def bv.bW(K:bv)(f:FuncId)(d:t7->qa->l7):bv where
 cJ e:=bif e==f then true else K.cJ e
 val:=K.val
 ref e a h R k:=bif e==f then(d a h).run k else K.ref e a h R k
 dv:=K.dv
 dw e a h:=qQ _ (d a h).Al (K.dw e a h)
 ro e:=bif e==f then false else K.ro e
def qA{x:bv}(i:aS P Gl x){f:FuncId}{d:t7->qa->l7}(o:∀args h r h',(d args h).run (λv h=>some (v,h))=some (r,h')->aR P Gl f args h r h'):aS P Gl (x.bW f d):=by
 refine⟨λe hx=>?_,i.val,λe args h r h' hx g w aE hr k u s=>?_,λe j args h r h' hx=>?_⟩
 .rcases hx with hx|⟨args,h,⟨r,h'⟩,hx⟩
  .exact i.enters e (.inl hx)
  .simp only[bv.bW] at hx;rcases qw hx with⟨he,a⟩|⟨_,a⟩
   .have he:e=f:=by grind
    subst he;exact(o args h r h' a).enters
   .exact i.enters e (.inr ⟨args,h,_,a⟩)
 .simp only[bv.bW] at hx;rcases qw hx with⟨he,a⟩|⟨_,a⟩
  .have he:e=f:=by grind
   subst he;exact(o args h r h' a).calls g w aE hr k u s
  .exact i.ref e args h r h' a g w aE hr k u s
 .simp only[bv.bW] at j hx;rcases qw hx with⟨he,a⟩|⟨he,a⟩
  .rw[he] at j;cases j
  .rw[he] at j;exact i.ro e j args h r h' a
def bv.inl(K:bv)(P:Program)(Gl:t9)(A:FuncId->cW)(K0:bv)(m:Nat)(f:FuncId):bv where
 cJ e:=bif e==f then true else K.cJ e
 val:=K.val
 ref e a h R k:=bif e==f then jf P Gl A K0 (Cu P Gl A K0 m f) f a h k else K.ref e a h R k
 dv:=K.dv
 dw e a h:=qQ _ (N0 (YO P Gl A K0 m f) f a h) (K.dw e a h)
 ro e:=bif e==f then false else K.ro e
def Uv(o:P.follows .mixedOrders=true)(hn:QN P=true){x K0:bv}(i:aS P Gl x)(h0:aS P Gl K0){m:Nat}{f:FuncId}:aS P Gl (x.inl P Gl A K0 m f):=by
 refine⟨λe hx=>?_,i.val,λe a h r h' hx g w aE hr k u s=>?_,λe j a h r h' hx=>?_⟩
 .rcases hx with hx|⟨a,h,⟨r,h'⟩,hx⟩
  .exact i.enters e (.inl hx)
  .simp only[bv.inl] at hx;rcases qw hx with⟨he,d⟩|⟨_,d⟩
   .have he:e=f:=by grind
    subst he;exact ZN hn d
   .exact i.enters e (.inr ⟨a,h,_,d⟩)
 .simp only[bv.inl] at hx;rcases qw hx with⟨he,d⟩|⟨_,d⟩
  .have he:e=f:=by grind
   subst he;exact KB o h0 (jQ o h0 m e) d hr k u s
  .exact i.ref e a h r h' d g w aE hr k u s
 .simp only[bv.inl] at j hx;rcases qw hx with⟨he,d⟩|⟨he,d⟩
  .rw[he] at j;cases j
  .rw[he] at j;exact i.ro e j a h r h' d
end
def qB{R:Type}{c:Bool}{x y r:R}(a:¬c=true)(h1:y=r):(bif c then x else y)=r:=rx
def quA{a b:Nat}:((a==b)=true)=(a=b):=by simp
def quB{a b:Nat}:(Nat.blt a b=true)=(a<b):=by simp_all
def quC{a b:Nat}:(Nat.ble a b=true)=(a<=b):=by simp_all
def zu(n:Nat):Int.ofNat n=(n:Int):=rfl
def qpR(n:Nat):(n:Int).toNat=n:=rfl
def qnB(n:Nat):((n:Int)+1).toNat=n+1:=rfl
section
variable {P:Program} {Gl:t9}
def Step(P:Program)(Gl:t9)(an:cW)(f r k:Nat)(vs:t7)(h:qa)(aW:t7)(h':qa):Prop :=
 ∃a d,Lg P Gl an f r vs h .normal a d/\∀nt,ak Gl an.aa nt (an.live r false) k a d aW h'
def bM(P:Program)(Gl:t9)(an:cW)(f r k:Nat)(vs:t7)(h:qa)(e:Ex)(aW:t7)(h':qa):Prop :=
 e≠.normal/\∃a d,Lg P Gl an f r vs h e a d/\∀nt,ak Gl an.aa nt (an.live r true) k a d aW h'
def Uw{aa:t8}{nt:Nat}{l:t8}{k:Nat}{vs:t7}{h1 h':qa}(a:Nat)(f:k<=a)(d:EU a vs h1=true)(e:ai (h1.take a) h'):ak Gl aa nt l k vs h1 vs h' :=
 .trans (.GK f d) (.same e)
def Step.mk{an:cW}{A:FuncId->cW}{K:bv}{f r m k:Nat}{l:List (Nat×(t7->qa->LT))}{vs aW:t7}{h h1 h':qa}(o:aS P Gl K)(hp:(A f).aa=an.aa)(g:(A f).live r=an.live r)(j:∀p∈l,ax P Gl (A f) f p.1 p.2)
 (a:Nat) (i:k<=a) (hr:QO P Gl A K m f l r vs h=some (.normal,aW,h1)) (d:EU a aW h1=true) (e:ai (h1.take a) h'):Step P Gl an f r k vs h aW h' :=
 ⟨aW,h1,⟨A,K,m,l,o,hp,g,j,hr⟩,λ_=>Uw a i d e⟩
def Step.dO{an:cW}{A:FuncId->cW}{K:bv}{f r m k:Nat}{l:List (Nat×(t7->qa->LT))}{vs aW:t7}{h h1 h':qa}(g:aS P Gl K)(hp:(A f).aa=an.aa)(d:(A f).live r=an.live r)(e:∀p∈l,ax P Gl (A f) f p.1 p.2)
 (hr:QO P Gl A K m f l r vs h=some (.normal,aW,h1)) (a:ai h1 h'):Step P Gl an f r k vs h aW h' :=
 ⟨aW,h1,⟨A,K,m,l,g,hp,d,e,hr⟩,λ_=>.same a⟩
def bM.dO{an:cW}{A:FuncId->cW}{K:bv}{f r m k:Nat}{l:List (Nat×(t7->qa->LT))}{vs aW:t7}{h h1 h':qa}{e:Ex}(i:aS P Gl K)(hp:(A f).aa=an.aa)(d:(A f).live r=an.live r)(g:∀p∈l,ax P Gl (A f) f p.1 p.2)
 (he:e≠.normal) (hr:QO P Gl A K m f l r vs h=some (e,aW,h1)) (a:ai h1 h'):bM P Gl an f r k vs h e aW h' :=
 ⟨he,aW,h1,⟨A,K,m,l,i,hp,d,g,hr⟩,λ_=>.same a⟩
def bM.mk{an:cW}{A:FuncId->cW}{K:bv}{f r m k:Nat}{l:List (Nat×(t7->qa->LT))}{vs aW:t7}{h h1 h':qa}{e:Ex}(s:aS P Gl K)(hp:(A f).aa=an.aa)(i:(A f).live r=an.live r)(o:∀p∈l,ax P Gl (A f) f p.1 p.2)
 (he:e≠.normal) (a:Nat) (j:k<=a) (hr:QO P Gl A K m f l r vs h=some (e,aW,h1)) (d:EU a aW h1=true) (g:ai (h1.take a) h'):bM P Gl an f r k vs h e aW h' :=
 ⟨he,aW,h1,⟨A,K,m,l,s,hp,i,o,hr⟩,λ_=>Uw a j d g⟩
def QC(j:P.follows .mixedOrders=true){f r:Nat}(s:jy P f r=true){an:cW}(vs:Nat->t7)(a:Nat->qa){n:Nat}{e1:Ex}{dM:t7}{h1:qa}
 (round:∀i,i<n->Step P Gl an f r (a 0).length (vs i) (a i) (vs (i+1)) (a (i+1))) (last:bM P Gl an f r (a 0).length (vs n) (a n) e1 dM h1):ax P Gl an f r (Qx (vs 0) (a 0) e1 dM h1) :=
 .lit λfn o u=>qlF j s o u vs a (n:=n) (λi k=>by
  obtain⟨d,h1,g,e⟩:=round i k;grind) (by
  obtain⟨he,d,h1,g,e⟩:=last;grind)
def qW{an:cW}{f:Nat}:∀p∈([]:List (Nat×(t7->qa->LT))),ax P Gl an f p.1 p.2:=λp a=>by cases a
end
def qip{α:Type}{d x:α}{l:List α}{j:Nat}(q:j<l.length):(l++[x]).getD j d=l.getD j d:=by
 rw[wg,wg,wy q]
def qiq{α:Type}{d x:α}{l:List α}:(l++[x]).getD l.length d=x:=by
 rw[wg,wH (wc _),va];rfl
def qnC{α:Type}{enc:α->t7}{d x:α}{l:List α}{g2:Nat->t7}(h2:g2 0=enc x){j:Nat}(a:j<l.length+1) :
 enc ((l++[x]).getD j d)=(bif Nat.blt j l.length then enc (l.getD (0+j) d) else g2 (j-l.length)):=by
 rw[wo];by_cases q:j<l.length
 .rw[qN q,qip q];rfl
 .obtain rfl:j=l.length:=by omega
  rw[QZ (wc _),va,wq,h2,qiq]
def QW:t8->Nat->Option Nat
 |[],_=>none
 |a::l,i=>bif a==i then some 0 else(QW l i).map (·+1)
def ZF:∀{l:t8} {i j:Nat},QW l i=some j->l[j]?=some i
 |[],i,j,h=>by cases h
 |a::l,i,j,h=>by
  simp only[QW] at h;cases q:a==i with
  |true =>
   rw[q] at h;grind
  |false =>
   rw[q] at h;simp at h;obtain⟨k,d,rfl⟩:=h;rw[xj];exact ZF d
def Ux:∀{l:t8} {i:Nat},QW l i=none->i∉l
 |[],i,_=>by simp
 |a::l,i,h=>by
  simp only[QW] at h;cases q:a==i with
  |true=>rw[q] at h;cases h
  |false =>
   rw[q] at h;simp at h;have:a≠i:=by grind
   simp;exact⟨λe=>this e.symm,Ux h⟩
def kf:∀{l:t8} {i j:Nat},zW l=true->l[j]?=some i->QW l i=some j
 |[],i,j,_,h=>by grind
 |a::l,i,j,hn,h=>by
  simp only[zW,wd,wR] at hn;cases j with
  |zero=>simp at h;subst h;simp[QW]
  |succ j =>
   have d:l[j]?=some i:=by grind
   have g:a≠i:=λe=>by
    have:=wx d;rw[←e] at this;have f:l.contains a=true:=List.contains_iff_mem.2 this;rw[f] at hn;grind
   simp only[QW,xA.2 g,wq,kf hn.2 d];rfl
def qO(σ:t8)(h:qa)(x:T):T :=
 match x with
 |.own i aj a len cap=>match QW σ i with|some j=>.own j aj a len cap|none=>resolve 4 σ h x
 |.ptr i aj j o=>match QW σ i with|some d=>.ptr d aj j o|none=>resolve 4 σ h x
 |.mp i aj=>match QW σ i with|some j=>.mp j aj|none=>resolve 4 σ h (.mp i aj)
 |x=>bif aF x then x else resolve 4 σ h x
def nO(σ:t8)(h:qa)(x:T):T :=
 match x with
 |.agg l=>.agg (l.map (qO σ h))
 |.fn f a=>.fn f (a.map (qO σ h))
 |.ag l=>.ag (l.map (qO σ h))
 |x=>qO σ h x
def QG(σ:t8)(h:qa)(b:ap):ap:=bif b.flat then b else { b with get:=λj=>(b.get j).map (qO σ h) }
def uv(σ:t8)(h:qa):qa:=σ.filterMap λi=>(h[i]?).map (QG σ h)
def zA(k:Nat)(σ:t8)(h:qa):Bool:=(List.range k).all (λi=>match σ[i]? with|some j=>j==i|none=>false)&&zW σ&&σ.all λi=>Nat.blt i h.length
def yC{α β}{f:α->Option β}:∀{l:List α},(∀a∈l,∃b,f a=some b)->(l.filterMap f).length=l.length/\∀i:Nat,(l.filterMap f)[i]?=(l[i]?).bind f
 |[],_=>⟨rfl,λi=>by simp⟩
 |a::l,h=>by
  obtain⟨b,d⟩:=h a aq;obtain⟨j,g⟩:=yC (l:=l) λa e=>h a (by simp[e]);grind
def D1:T->Bool
 |.ag _=>true
 |_=>false
def yE(d)(ex)(h)(x:T):D1 (resolve (d+1) ex h x)=false:=by
 cases x with
 |own i aj a len cap =>
  simp only[resolve];cases ex.contains i with
  |true=>rfl
  |false =>
   cases h[i]? with
   |none=>rfl
   |some b=>cases e:(b.mp.isNone&&(b.aj==aj&&Nat.ble (a+len) b.n))<;>simp only[wq,e,wp]<;>rfl
 |ptr i aj j o =>
  simp only[resolve];cases ex.contains i with
  |true=>rfl
  |false =>
   cases h[i]? with
   |none=>rfl
   |some b=>cases e:(b.mp.isNone&&(b.aj==aj&&Nat.blt j b.n))<;>simp only[wq,e,wp]<;>rfl
 |agg l=>rfl
 |aJ l=>rfl
 |fn f g=>rfl
 |iface t v=>rfl
 |ag l=>rfl
 |_=>simp[resolve,D1,zV]
def qir{σ}{h}{x:T}(hx:D1 x=false):D1 (qO σ h x)=false:=by
 have Bh:D1 (bif aF x then x else resolve 4 σ h x)=false:=by
  cases aF x with
  |true=>exact hx
  |false=>exact yE 3 σ h x
 cases x with
 |own i aj a len cap=>simp only[qO];cases QW σ i with
  |none=>exact yE 3 σ h _
  |some j=>rfl
 |ptr i aj j o=>simp only[qO];cases QW σ i with
  |none=>exact yE 3 σ h _
  |some j=>rfl
 |mp i aj=>simp only[qO];cases QW σ i with
  |none=>rfl
  |some j=>rfl
 |_=>exact Bh
def qnD{σ}{h}{x:T}{cells:t7}(hx:nO σ h x = .ag cells):∃m,x = .ag m/\cells=m.map (qO σ h):=by
 have Bh:D1 x=false->nO σ h x=qO σ h x->False:=λd a=>by
  have:=qir (σ:=σ) (h:=h) d;rw[←a,hx] at this;cases this
 cases x with
 |ag m=>grind[T.ag.injEq,nO]
 |agg l=>cases hx
 |fn f e=>cases hx
 |_=>exact absurd (Bh rfl rfl) id
section
variable {P:Program} {Gl:t9} {aa:t8} {nt:Nat}
def zF(f)(j:f .undef = .undef)(l:t8)(vs:t7)(h h2:qa)(t:Nat):(qJ l (vs.map f) h2).at t=f ((qJ l vs h).at t):=by
 unfold St.at
 cases o:Nat.blt t 1024 with
 |false=>simp[j]
 |true =>
  simp only[wp];have key:∀(l:t8) (vs:t7) (e a:Tr),(∀t,t<1024->Tr.get QS a t=f (Tr.get QS e t))->∀t,t<1024->Tr.get QS (ya l (vs.map f) a) t=f (Tr.get QS (ya l vs e) t):=by
   intro l
   induction l with
   |nil=>grind[ya]
   |cons i l k =>
    intro vs e a he;cases vs with
    |nil=>grind[ya]
    |cons x vs =>
     simp only[xt,ya];refine k vs _ _ (λt d=>?_);cases g:Nat.blt i 1024 with
     |false=>grind
     |true =>
      simp only[wp];have r:Tr.get QS (Tr.set QS e i x) t=if t=i then x else Tr.get QS e t:=Tr.fb 10 e i t x (by have:=Qe g;omega) d;have h2:Tr.get QS (Tr.set QS a i (f x)) t=if t=i then f x else Tr.get QS a t:=Tr.fb 10 a i t (f x) (by have:=Qe g;omega) d;rw[r,h2];grind
  exact key l vs .nil .nil (λt _=>by show T.undef=f .undef;rw[j]) t (Qe o)
def ak.Au{l:t8}{k:Nat}{vs:t7}{h:qa}(σ:t8)(A:zA k σ h=true):ak Gl aa nt l k vs h (vs.map (nO σ h)) (uv σ h):=by
 simp only[zA,wd] at A;obtain⟨⟨mH,iO⟩,aM⟩:=A;have mH:∀i,i<k->σ[i]?=some i:=by
  intro i B;have:=wD.1 mH i (xk.2 B);cases R:σ[i]? with
  |none=>rw[R] at this;cases this
  |some j=>rw[R] at this;rw[show j=i by simpa using this]
 have aM:∀i,i∈σ->i<h.length:=λi B=>Qe (wD.1 aM i B);intro g a w g0 h0 w0 hk iY N R;have hr:=R.hr;simp only[qJ] at hr;obtain⟨hHl,Uy⟩:=yC (l:=σ) (f:=λi=>(h[i]?).map (QG σ h)) λi B=>⟨_,by rw[wi (aM i B)];rfl⟩;have tv:∀(j i:Nat) (b:ap),σ[j]?=some i->h[i]?=some b->(uv σ h)[j]?=some (QG σ h b):=λj i b H W=>by
  show(σ.filterMap _)[j]?=_;rw[Uy,H];simp[W]
 have Av:∀(j:Nat) (b2:ap),(uv σ h)[j]?=some b2->∃(i:Nat) (b:ap),σ[j]?=some i/\h[i]?=some b/\b2=QG σ h b:=by
  intro j b2 r;have r:(σ.filterMap λi=>(h[i]?).map (QG σ h))[j]?=some b2:=r;rw[Uy] at r;obtain⟨i,H,W⟩:=Option.bind_eq_some_iff.1 r;obtain⟨b,h3,h4⟩:=wT.1 W;exact⟨i,b,H,h3,h4.symm⟩
 have gr:∀cb i,g.own cb=some (.inl i)->k<=i->w0.heap.size<=cb:=by
  intro cb i A B;rcases wu cb w0.heap.size with q|q
  .rw[N.own cb q] at A;have:=iY.lt cb i A;omega
  .exact q
 have GM:∀i,QW σ i=none->k<=i:=λi B=>by
  rcases wu i k with q|q
  .exact absurd (wx (mH i q)) (Ux B)
  .exact q
 let fr:Nat->Prop:=λcb=>∃i,i∉σ/\g.own cb=some (.inl i)/\∃(b:ap) (S:Nat),h[i]?=some b/\g.φ i=some (cb,S)
 let O:Gh:={ g with
  U:=λb=>g.U b∨fr b
  φ:=λj=>(σ[j]?).bind g.φ
  own:=λb=>match g.own b with|some (.inl i)=>(QW σ i).map .inl|o=>o }
 have gO:∀b i,g.own b=some (.inl i)->O.own b=(QW σ i).map .inl:=λb i r=>by simp only[O,r]
 have fR:∀b,g.own b=none->O.own b=none:=λb r=>by simp only[O,r]
 have nP:∀b t,g.own b=some (.inr t)->O.own b=some (.inr t):=λb t r=>by simp only[O,r]
 have hU:∀b,g.U b->O.U b:=λb r=>.inl r;have iG:Reads g h w σ O.U:=⟨hU,λi b cb S r B hφ=>by
  exact .inr ⟨i,B,hr.mE r hφ,b,S,r,hφ⟩⟩
 have B2:eR w g.U w O.U:=λb r=>⟨hU b r,rfl⟩;have iX:∀x v,g.VR h w x v->O.VR (uv σ h) w (qO σ h x) v:=by
  intro x v hx;have other:qO σ h x=(bif aF x then x else resolve 4 σ h x)->O.VR (uv σ h) w (qO σ h x) v:=λe=>by
   rw[e];cases B:aF x with
   |true=>exact .aF _ _ ((yf B hx).av B2)
   |false=>exact .aF _ _ (Zg hr iG 4 x v hx)
  cases x with
  |own i aj V len cap =>
   cases J:QW σ i with
   |none =>
    have e:qO σ h (.own i aj V len cap)=resolve 4 σ h (.own i aj V len cap):=by simp only[qO,J]
    rw[e];exact .aF _ _ (Zg hr iG 4 _ v hx)
   |some j =>
    have e:qO σ h (.own i aj V len cap) = .own j aj V len cap:=by simp only[qO,J]
    rw[e];obtain⟨b,r,aC,H,C⟩:=hx.dK;have I:=ZF J;have s:(QG σ h b).aj=b.aj/\(QG σ h b).sz=b.sz/\(QG σ h b).n=b.n:=by unfold QG;cases b.flat<;>exact⟨rfl,rfl,rfl⟩
    refine .own _ _ _ _ _ (QG σ h b) _ (tv j i b I r) (by rw[s.1];exact aC) H λev=>?_;rcases C (by rw[←s.1];exact ev) with⟨cb,S,c,ad,e1,e2,es,sD,e3,e4,e5,e6,e7⟩|⟨q1,Y,q3⟩
    rotate_left
    .exact .inr ⟨by show(σ[j]?).bind g.φ=_;rw[I];exact q1,by rw[s.2.2];exact Y,q3⟩
    exact .inl ⟨cb,S,c,ad,by show(σ[j]?).bind g.φ=_;rw[I];exact e1,e2,es,by rw[s.2.1];exact sD,e3,by rw[s.2.2];exact e4,by rw[s.2.2];exact e5,by rw[s.2.1];exact e6,by rw[s.2.2];exact e7⟩
  |ptr i aj jj o =>
   cases J:QW σ i with
   |none =>
    have e:qO σ h (.ptr i aj jj o)=resolve 4 σ h (.ptr i aj jj o):=by simp only[qO,J]
    rw[e];exact .aF _ _ (Zg hr iG 4 _ v hx)
   |some j =>
    have e:qO σ h (.ptr i aj jj o) = .ptr j aj jj o:=by simp only[qO,J]
    rw[e];obtain⟨b,r,aC,H,C⟩:=hx.dL;have I:=ZF J;have s:(QG σ h b).aj=b.aj/\(QG σ h b).sz=b.sz/\(QG σ h b).n=b.n:=by unfold QG;cases b.flat<;>exact⟨rfl,rfl,rfl⟩
    refine .ptr _ _ _ _ (QG σ h b) _ (tv j i b I r) (by rw[s.1];exact aC) H λev=>?_;obtain⟨cb,S,e1,e2⟩:=C (by rw[←s.1];exact ev);exact⟨cb,S,by show(σ[j]?).bind g.φ=_;rw[I];exact e1,by rw[s.2.1];exact e2⟩
  |mp i aj =>
   cases J:QW σ i with
   |none =>
    have e:qO σ h (.mp i aj)=resolve 4 σ h (.mp i aj):=by simp only[qO,J]
    rw[e];exact .aF _ _ (Zg hr iG 4 _ v hx)
   |some j =>
    have e:qO σ h (.mp i aj) = .mp j aj:=by simp only[qO,J]
    rw[e];obtain⟨b,r,aC,H,C⟩:=hx.iD;have I:=ZF J;have s:(QG σ h b).aj=b.aj:=by unfold QG;cases b.flat<;>rfl
    refine .mp _ _ (QG σ h b) _ (tv j i b I r) (by rw[s];exact aC) H λev=>?_;obtain⟨cb,e1,e2⟩:=C (by rw[←s];exact ev);exact⟨cb,by show(σ[j]?).bind g.φ=_;rw[I];exact e1,e2⟩
  |_=>exact other rfl
 have hv:∀x v,g.VR h w x v->O.VR (uv σ h) w (nO σ h x) v:=by
  intro x v hx;cases x with
  |agg m =>
   obtain⟨cs,rfl,hl,H,L⟩:=hx.bN;refine VR.dh (by simpa using hl) H (λi c B=>?_);obtain⟨c0,h0,rfl⟩:=QE B;obtain⟨u,Z,dq⟩:=L i c0 h0;exact⟨u,Z,iX _ _ dq⟩
  |fn f m =>
   obtain⟨cs,rfl,hl,L⟩:=hx.gZ;refine VR.ow (by simpa using hl) (λi c B=>?_);obtain⟨c0,h0,rfl⟩:=QE B;obtain⟨u,Z,dq⟩:=L i c0 h0;exact⟨u,Z,iX _ _ dq⟩
  |ag m=>exact absurd hx VR.eo
  |_=>exact iX _ _ hx
 have BY:HR O (uv σ h) w:=by
  have lX:∀b:ap,(QG σ h b).mp=b.mp:=λb=>by unfold QG;cases b.flat<;>rfl
  refine⟨λj b2 s iK=>?_,λb r=>?_,λb o A=>?_,hr.base,λb o A=>?_,λb j A=>?_,λj b2 m s hm=>?_⟩
  .obtain⟨i,b,I,r,rfl⟩:=Av j b2 s;have cG:b.mp=none:=(lX b).symm.trans iK;have M:(QG σ h b).sz=b.sz/\(QG σ h b).n=b.n/\(QG σ h b).flat=b.flat:=by unfold QG;cases Q:b.flat<;>simp[Q]
   rcases hr.dS i b r cG with⟨cb,S,arr,e,C⟩|⟨q1,Y⟩
   rotate_left
   .exact .inr ⟨by show(σ[j]?).bind g.φ=_;rw[I];exact q1,by rw[M.2.1];exact Y⟩
   refine .inl ⟨cb,S,arr,e,by show(σ[j]?).bind g.φ=_;rw[I];exact C.φ,by rw[gO cb i C.own,kf iO I];rfl,C.heap,by rw[M.1,M.2.1];exact C.room,λq Q=>?_,λq o c Q L=>?_,λcE q Q c L=>?_⟩
   .rw[M.2.1] at Q;rw[M.1,←C.len q Q];unfold QG;cases b.flat<;>simp
   .rw[M.2.1] at Q;rw[M.1];cases cE:b.flat with
    |true =>
     have:(QG σ h b).get q=b.get q:=by unfold QG;rw[cE];rfl
     rw[this] at L;obtain⟨v,H,W,h3⟩:=C.cell q o c Q L;exact⟨v,H,W,.aF _ _ (yk (C.flat cE q Q c (wx L)) h3)⟩
    |false =>
     have:(QG σ h b).get q=(b.get q).map (qO σ h):=by unfold QG;rw[cE];rfl
     rw[this] at L;obtain⟨c0,o9,rfl⟩:=QE L;obtain⟨v,H,W,h3⟩:=C.cell q o c0 Q o9;exact⟨v,H,W,iX _ _ h3⟩
   .rw[M.2.2] at cE;rw[M.2.1] at Q;have:(QG σ h b).get q=b.get q:=by unfold QG;rw[cE];rfl
    rw[this] at L;exact C.flat cE q Q c L
  .rcases r with r|⟨i,B,A,_⟩
   .exact⟨(hr.u b r).1,fR b (hr.u b r).2⟩
   .refine⟨(hr.own b _ A).2,?_⟩;rw[gO b i A];cases J:QW σ i with
    |none=>rfl
    |some j=>exact absurd (wx (ZF J)) B
  .cases E:g.own b with
   |none=>rw[fR b E] at A;cases A
   |some o'=>exact hr.own b o' E
  .cases E:g.own b with
   |none=>rw[fR b E] at A;cases A
   |some o' =>
    rcases hr.cells b o' E with q|⟨i,es,c,rfl,q⟩
    .exact .inl q
    .rw[gO b i E] at A;obtain⟨j',_,e⟩:=wT.1 A;exact .inr ⟨j',es,c,e.symm,q⟩
  .cases E:g.own b with
   |none=>rw[fR b E] at A;cases A
   |some o' =>
    cases o' with
    |inr t=>rw[nP b t E] at A;cases A
    |inl i =>
     rw[gO b i E] at A;obtain⟨j',iP,e⟩:=wT.1 A;obtain rfl:j'=j:=by simpa using e
     have OJ:(uv σ h).length=σ.length:=hHl;rw[OJ];exact qC (ZF iP)
  .obtain⟨i,b,I,r,rfl⟩:=Av j b2 s;obtain⟨cb,o1,o2,o3⟩:=hr.mp i b m r ((lX b).symm.trans hm);exact⟨cb,by show(σ[j]?).bind g.φ=_;rw[I];exact o1,by rw[gO cb i o2,kf iO I];rfl,o3⟩
 refine⟨O,⟨BY,?_,R.size,R.nt,λt ht=>?_,λt ht cells L=>?_,λd t o hh=>(by cases hh),λgl cells hg=>(R.eQ gl cells hg).av B2,λd t o hh=>(by cases hh)⟩,?_,λb r=>⟨fR b r,λZ=>?_⟩⟩
 .obtain⟨m0,l0,m1,m2,m3⟩:=R.defers;refine⟨m0,l0,m1,m2,λD hD=>?_⟩;obtain⟨q1,Y,q3,q4⟩:=m3 D hD;refine⟨q1,fR D Y,λZ=>?_,q4⟩;rcases Z with Z|⟨i,_,A,_⟩
  .exact q3 Z
  .rw[Y] at A;cases A
 .rw[zF (nO σ h) rfl l vs h];exact hv _ _ (R.tmps t ht)
 .rw[zF (nO σ h) rfl l vs h] at L;have bq:=qnD L;obtain⟨m,hx,rfl⟩:=bq;obtain⟨cb,arr,e,C⟩:=R.eW t ht m hx;refine⟨cb,arr,e,C.ptr,nP cb t C.own,C.heap,by rw[wW];exact C.len,λo c pP=>?_⟩;obtain⟨c0,o9,rfl⟩:=QE pP;obtain⟨u,H,W,h3⟩:=C.cell o c0 o9;exact⟨u,H,W,iX _ _ h3⟩
 .refine⟨⟨λb r=>⟨hU b (N.av.u b r).1,(N.av.u b r).2⟩,λi b r=>?_,N.av.rm⟩,N.size,λb r=>?_,N.os,N.tape,N.output,N.same,N.bs,λb r=>?_,λb r=>hU b (N.u' b r)⟩
  .obtain⟨X,dR,q1,Y⟩:=N.av.dZ i b r;have B:i<k:=vg (qC r) hk;have M:(QG σ h X).aj=X.aj/\(QG σ h X).sz=X.sz/\(QG σ h X).n=X.n:=by unfold QG;cases X.flat<;>exact⟨rfl,rfl,rfl⟩
   refine⟨QG σ h X,tv i i X (mH i B) dR,by rw[M.1];exact q1,λev=>?_⟩;rw[M.1] at ev;obtain⟨r1,r2,r3⟩:=Y ev;exact⟨by rw[M.2.1];exact r1,by rw[M.2.2];exact r2,by show(σ[i]?).bind g.φ=_;rw[mH i B];exact r3⟩
  .have:=N.own b r;cases E:g.own b with
   |none=>rw[fR b E,←this,E]
   |some o =>
    cases o with
    |inr t=>rw[nP b t E,←this,E]
    |inl i =>
     have GN:i<k:=vg (iY.lt b i (by rw[←this];exact E)) hk;rw[gO b i E,kf iO (mH i GN),←this,E];rfl
  .rcases r with r|⟨i,B,A,_⟩
   .exact N.u b r
   .refine .inr (gr b i A (GM i ?_));cases J:QW σ i with
    |none=>rfl
    |some j=>exact absurd (wx (ZF J)) B
 grind
def bU(x y:T):Prop:=x=y∨(aF x=true/\mV x y/\D1 y=false)
def bU.refl(x:T):bU x x:=.inl rfl
def VR.B3{w}{U}{φ}{h}{x y:T}{v}(a:bU x y)(hx:VR w U φ h x v):VR w U φ h y v:=by
 rcases a with rfl|⟨d,a,_⟩
 .exact hx
 .exact .aF _ _ (a _ _ _ (yf (g:={ U:=U,φ:=φ,own:=λ_=>none,base:=0,low:=0 }) d hx))
def eX(l m:t7):Prop:=l.length=m.length/\∀(i:Nat) a b,l[i]?=some a->m[i]?=some b->bU a b
def eX.refl(l):eX l l:=⟨rfl,λi a b e d=>by rw[e] at d;cases d;exact .refl _⟩
def eX.nil:eX [] []:=.refl _
def eX.cons{x y:T}{l m}(h:bU x y)(d:eX l m):eX (x::l) (y::m):=by
 refine⟨by simp[d.1],λi a b f e=>?_⟩;cases i with
 |zero=>grind
 |succ i=>exact d.2 i a b rx rx
def eX.get{l m}(h:eX l m){i:Nat}{b:T}(d:m[i]?=some b):∃a,l[i]?=some a/\bU a b:=by
 have f:=qC d;have e:l[i]?=some (l[i]'(by rw[h.1];exact f)):=wi _;exact⟨_,e,h.2 i _ _ e d⟩
def nQ(x y:T):Prop:=bU x y∨(∃l m,x = .ag l/\y = .ag m/\eX l m)∨∃l m,x = .agg l/\y = .agg m/\eX l m
def nQ.refl(x:T):nQ x x:=.inl (.refl x)
def VR.OK{w:World}{U:Nat->Prop}{φ:Nat->Option (Nat×Nat)}{h:qa}{x y:T}{v:Value}(d:nQ x y)(hx:VR w U φ h x v):VR w U φ h y v:=by
 rcases d with d|⟨l,m,rfl,rfl,d⟩|⟨l,m,rfl,rfl,d⟩
 .exact hx.B3 d
 .exact absurd hx VR.eo
 .obtain⟨A,rfl,f,o,j⟩:=hx.bN;refine VR.dh (by rw[←d.1];exact f) o (λi c g=>?_);obtain⟨a,k,s⟩:=d.get g;obtain⟨u,e,r⟩:=j i a k;exact⟨u,e,r.B3 s⟩
def Ka{R:T->T->Prop}:∀(l:t8) (vs dN:t7) (e d:Tr),vs.length=dN.length->(∀(i:Nat) x y,vs[i]?=some x->dN[i]?=some y->R x y)->(∀t,t<1024->R (Tr.get QS e t) (Tr.get QS d t)) →
 ∀t,t<1024->R (Tr.get QS (ya l vs e) t) (Tr.get QS (ya l dN d) t)
 |[],_,_,e,d,_,_,he=>by grind[ya]
 |i::l,[],[],e,d,_,_,he=>by grind[ya]
 |i::l,x::vs,y::dN,e,d,k,f,he=>by
  simp only[ya];refine Ka l vs dN _ _ rx (λj x y a b=>f (j+1) x y rx rx) (λt g=>?_);cases o:Nat.blt i 1024 with
  |false=>grind
  |true =>
   simp;have s:Tr.get QS (Tr.set QS e i x) t=if t=i then x else Tr.get QS e t:=Tr.fb 10 e i t x (by have:=Qe o;omega) g;have r:Tr.get QS (Tr.set QS d i y) t=if t=i then y else Tr.get QS d t:=Tr.fb 10 d i t y (by have:=Qe o;omega) g;rw[s,r];by_cases q:t=i
   .rw[wl q,wl q];exact f 0 x y rfl rfl
   grind
 |i::l,[],_::_,_,_,k,_,_=>by grind
 |i::l,x::vs,[],_,_,k,_,_=>rx
def qko{l:t8}{vs dN}(h h2)(e:vs.length=dN.length)(a:∀(i:Nat) x y,vs[i]?=some x->dN[i]?=some y->nQ x y)(t:Nat):nQ ((qJ l vs h).at t) ((qJ l dN h2).at t):=by
 unfold St.at
 cases d:Nat.blt t 1024 with
 |false=>exact .refl _
 |true =>
  simp only[wp];exact Ka l vs dN .nil .nil e a (λ_ _=>.refl _) t (Qe d)
def bg(h h2:qa):Prop:=h2.length=h.length/\∀(i:Nat) b a,h[i]?=some b->h2[i]?=some a->a.mp=b.mp/\a.aj=b.aj/\a.sz=b.sz/\a.n=b.n/\(a.flat=true->b.flat=true∨∀j,j<b.n->(b.get j).all qK=true)/\(∀j,j<b.n->eX (b.get j) (a.get j))/\(a.flat=true->∀j,j<b.n->a.get j=b.get j)
def bg.nil:bg [] []:=⟨rfl,λi b a h=>rx⟩
def bg.cons{b b2}{h h2:qa}(h1:b2.aj=b.aj/\b2.sz=b.sz/\b2.n=b.n)(g:b2.flat=true->b.flat=true/\∀j,j<b.n->b2.get j=b.get j)(k:∀j,j<b.n->eX (b.get j) (b2.get j))(a:bg h h2)(f:b2.mp=b.mp:=by rfl):bg (b::h) (b2::h2):=by
 refine⟨by simp[a.1],λi x y e d=>?_⟩;cases i with
 |zero=>grind
 |succ i=>exact a.2 i x y rx rx
def bg.at{h h2}(a:bg h h2){i:Nat}{b:ap}(e:h[i]?=some b):∃b2,h2[i]?=some b2:=by
 have d:=qC e;exact⟨_,wi (by rw[a.1];exact d)⟩
def bg.back{h h2}(a:bg h h2){i:Nat}{b2:ap}(e:h2[i]?=some b2):∃b,h[i]?=some b:=by
 have d:=qC e;exact⟨_,wi (by rw[←a.1];exact d)⟩
def bg.av{h h2}(d:bg h h2)(w:World)(U:Nat->Prop)(φ:Nat->Option (Nat×Nat)):gw w U φ h w U φ h2 :=
 ⟨.refl _ _,λi b e=>by
  obtain⟨f,a⟩:=d.at e;obtain⟨_,k,j,g,_⟩:=d.2 i b f e a;grind,λ_ _ hr=>hr⟩
def HR.pt{g}{h h2:qa}{w:World}(hr:HR g h w)(d:bg h h2):HR g h2 w:=by
 refine⟨λi A f N=>?_,hr.u,hr.own,hr.base,hr.cells,λb i x=>by rw[d.1];exact hr.lt b i x,λi A m f O=>by
  obtain⟨b,k⟩:=d.back f;exact hr.fh k ((d.2 i b A k f).1▸O) rfl (λ_ r=>r) λ_ _ _=>rfl⟩
 obtain⟨b,k⟩:=d.back f;obtain⟨M,Y,s,L,J,C,q6⟩:=d.2 i b A k f;rcases hr.dS i b k (M▸N) with⟨cb,I,B,e,a⟩|⟨X,W⟩
 rotate_left
 .grind
 refine .inl ⟨cb,I,B,e,a.φ,a.own,a.heap,by rw[s,L];exact a.room,λj D=>?_,λj o c D x=>?_,λE j D c r=>?_⟩
 .rw[←(C j ab).1,s];exact a.len j ab
 .obtain⟨V,U,H⟩:=(C j ab).get x;obtain⟨v,S,R,Q⟩:=a.cell j o V ab U;rw[s];exact⟨v,S,R,VR.B3 H (Q.av (d.av _ _ _))⟩
 .rw[q6 E j ab] at r;rcases J E with q|q
  .exact a.flat q j ab c r
  grind
def ak.nR{l}{k:Nat}{vs dN:t7}{h h2:qa}(V:vs.length=dN.length)(Q:∀(i:Nat) x y,vs[i]?=some x->dN[i]?=some y->nQ x y)(E:bg h h2):ak Gl aa nt l k vs h dN h2:=by
 intro g a w g0 h0 w0 _ _ W f;have s:=E.av w g.U g.φ;have H:=qko (l:=l) h h2 V Q;refine⟨g,⟨f.hr.pt E,f.defers,f.size,f.nt,λt r=>VR.OK (H t) ((f.tmps t r).av s),λt r cells A=>?_,λd t o h=>(by cases h),f.eQ,λd t o h=>(by cases h)⟩,W.trans ⟨s,wc _,λ_ _=>rfl,rfl,rfl,.refl _,λ_ _ _=>rfl,rfl,λ_ h=>.inl h,λ_ h=>h⟩,.refl g⟩;have bq:∃m,(qJ l vs h).at t = .ag m/\eX m cells:=by
  rcases H t with (e|⟨_,_,e⟩)|⟨m,N,I,B,D⟩|⟨m,N,I,B,D⟩
  .rw[A] at e;exact⟨cells,e,.refl _⟩
  .rw[A] at e;cases e
  .rw[A] at B;obtain rfl:=T.ag.inj B;exact⟨m,I,D⟩
  grind
 obtain⟨m,S,J⟩:=bq;obtain⟨cb,C,e,j⟩:=f.eW t r m S;refine⟨cb,C,e,j.ptr,j.own,j.heap,by rw[←J.1];exact j.len,λo c R=>?_⟩;obtain⟨Z,M,O⟩:=J.get R;obtain⟨u,Y,L,X⟩:=j.cell o Z M;exact⟨u,Y,L,VR.B3 O (X.av s)⟩
end
def eX.rg{x:T}{l m}(h:eX l m):eX (x::l) (x::m):=.cons (.refl _) h
def mV.eZ(sz)(g){cap}(a:cap=none∨cap=some 0):mV .ae (.view sz 0 g cap):=by
 intro w U v h;cases h;exact .fg sz g cap a
def Ax:T->T
 |.fresh true sz _ g len cap=>.new (.view sz len g cap)
 |.fresh false sz _ g len cap=>.view sz len g cap
 |x=>x
def CW:T->T
 |.agg l=>.agg (l.map Ax)
 |x=>Ax x
def iQ:T->T
 |.aJ l=>.aJ (l.map CW)
 |x=>CW x
section
variable {w:World} {B:Nat} {U:Nat->Prop}
def g4.mono{r}(f:∀b,U b->r b){x:T}{v}{X}(h:g4 w B U x v X):g4 w B r x v X:=by
 cases h with
 |vi x v d=>exact .vi _ _ (d.av λb a=>⟨f b a,rfl⟩)
 |nw x v d=>exact .nw _ _ (d.av λb a=>⟨⟨f b a.1,a.2⟩,rfl⟩)
 |x7 m cb J=>exact .x7 m cb J
 |CE flat sz g cap i=>exact .CE flat sz g cap i
 |fresh flat sz n g len cap cb s cc ad k e es W V i S R N C A L Q O =>
  exact .fresh flat sz n g len cap cb s cc ad k e es W V i S R N C A L (λj o c M I=>by
   obtain⟨u,H,E,D⟩:=Q j o c M I;exact⟨u,H,E,D.av λb a=>⟨f b a,rfl⟩⟩) O
def D2(w:World)(B:Nat)(U:Nat->Prop)(Q:(Nat->Prop)->t8->Prop)(X:t8):Prop :=
 ∃d Y,X.Perm (d++Y)/\∀a:Nat->Prop,(∀b,U b->a b)->(∀b,b∈Y->a b/\B<=b)->Q a d
def Uz{flat:Bool}{sz n}{gg}{len}{cap}{cb sh cc}{ad}{arr:Array Value}{e:TypeId}{g:Nat->Prop}
 (es:ad.spot=none) (i:0<cc->ad=⟨cb,sh,none⟩) (L:len<=cc) (J:∀m,cap=some m->cc=m/\m<=n) (N:len<=n) (H:w.heap[cb]?=some (.cells arr e (0,0)))
 (E:∀j,j<n->(gg j).length=sz) (I:∀j o c,j<n->(gg j)[o]?=some c->∃u,arr[sh+j*sz+o]?=some u/\u.oneCell'=true/\VI w g c u) (A:g cb):VI w g (.view sz len gg cap) (.slice (some ad) len cc):=by
 let f:Nat->Nat->Value:=λj o=>(arr[sh+j*sz+o]?).getD Go.undef
 have k:∀j o c,j<len->(gg j)[o]?=some c->cellAt w ad.block (ad.off+j*sz+o) (f j o)/\VI w g c (f j o):=by
  intro j o c d a;obtain⟨u,x,s,r⟩:=I j o c ab a;have C:f j o=u:=by grind
  rw[C,i ab];exact⟨⟨by simp[World.cell?,H,x],s⟩,r⟩
 exact .view sz len gg cap ad cc f (λ_=>es) (λm D=>(J m D).1) L (λM _=>by rw[i ab];exact A) (λj d=>E j ab) (λj o c d a=>(k j o c d a).1) (λj o c d a=>(k j o c d a).2)
def g4.iQ{x:T}{v:Value}{X:t8}(h:g4 w B U x v X):D2 w B U (λa C=>g4 w B a (Ax x) v C) X:=by
 have same:Ax x=x->D2 w B U (λa C=>g4 w B a (Ax x) v C) X:=λe=>⟨X,[],aq,λa i _=>by rw[e];exact h.mono i⟩;cases h with
 |vi x v E=>exact same (by cases E<;>rfl)
 |nw x v E=>exact same rfl
 |x7 m cb hm=>exact same rfl
 |CE flat sz S cap A =>
  have d:cap=none∨cap=some 0:=by
   cases cap with
   |none=>grind
   |some c=>grind
  refine⟨[],[],aq,λa i L=>?_⟩;cases flat with
  |true=>exact .nw _ _ (.fg _ _ _ d)
  |false=>exact .vi _ _ (.fg _ _ _ d)
 |fresh flat sz n S len cap cb W cc ad V e es N M A d e7 I Z Y H J Q =>
  refine⟨[],[cb],aq,λa i L=>?_⟩;obtain⟨D,O⟩:=L cb aq;cases flat with
  |true =>
   exact .nw _ _ (Uz (flat:=true) (n:=n) es N M A d I H (λj o c g f=>by
    obtain⟨u,s,r,k⟩:=J j o c g f;exact⟨u,s,r,NF (Q rfl j g c (wx f)) k⟩) ⟨D,O⟩)
  |false =>
   exact .vi _ _ (Uz (flat:=false) (n:=n) es N M A d I H (λj o c g f=>by
    obtain⟨u,s,r,k⟩:=J j o c g f;exact⟨u,s,r,k.av λb R=>⟨i b R,rfl⟩⟩) D)
def nk.iQ{Q:(Nat->Prop)->T->Value->t8->Prop}{f:T->T}{l:t7}{vs:List Value}{X:t8}(h:nk (Q U) l vs X)
 (r:∀x v X,Q U x v X->D2 w B U (λa d=>Q a (f x) v d) X):D2 w B U (λa d=>nk (Q a) (l.map f) vs d) X:=by
 induction h with
 |nil=>exact⟨[],[],aq,λ_ _ _=>.nil⟩
 |cons x v X l vs Y hx E o =>
  obtain⟨A,u,D,k⟩:=r x v X hx;obtain⟨d,s,C,j⟩:=o;refine⟨A++d,u++s,?_,λa i g=>.cons _ _ _ _ _ _ (k a i λb e=>g b (by simp[e])) (j a i λb e=>g b (by simp[e]))⟩;grind
def qis{x:T}(h:∀l,x≠.agg l):∀l,Ax x≠.agg l:=by
 cases x with
 |agg m=>grind
 |fresh flat=>cases flat<;>simp[Ax]
 |_=>simp[Ax]
def g4.OL{x:T}{v}{X}(h:g4 w B U x v X)(hx:∀l,x≠.agg l):mj w B U x v X:=by
 cases x with
 |agg l=>grind
 |_=>exact h
def mj.iQ{x:T}{v:Value}{X:t8}(h:mj w B U x v X):D2 w B U (λd a=>mj w B d (CW x) v a) X:=by
 cases x with
 |agg l =>
  obtain⟨k,rfl,j,i⟩:=h;obtain⟨a,Y,p,q⟩:=nk.iQ (w:=w) (B:=B) (Q:=λU=>g4 w B U) (f:=Ax) i λx v X h=>h.iQ;exact⟨a,Y,p,λd g e=>⟨k,rfl,j,q d g e⟩⟩
 |_ =>
  obtain⟨a,Y,p,q⟩:=g4.iQ (show g4 w B U _ v X from h);exact⟨a,Y,p,λd g e=>(q d g e).OL (qis (λl=>by simp))⟩
def mj.OM{x:T}{v}{X}(h:mj w B U x v X)(hx:∀l,x≠.aJ l):oV w B U x v X:=by
 cases x with
 |aJ l=>grind
 |_=>exact h
def qit{x:T}(h:∀l,x≠.aJ l):∀l,CW x≠.aJ l:=by
 cases x with
 |aJ m=>grind
 |fresh flat=>cases flat<;>simp[CW,Ax]
 |_=>simp[CW,Ax]
def oV.EL{x:T}{v}{X}(h:oV w B U x v X)(hx:∀l,x≠.aJ l):mj w B U x v X:=by
 cases x with
 |aJ l=>grind
 |_=>exact h
def qnE{x:T}(hx:∀l,x≠.aJ l):Ab.iQ x=CW x:=by
 cases x with
 |aJ l=>grind
 |_=>rfl
def oV.iQ{x:T}{v:Value}{X:t8}(h:oV w B U x v X):D2 w B U (λd a=>oV w B d (Ab.iQ x) v a) X:=by
 have k:(∀l,x≠.aJ l)->D2 w B U (λd a=>oV w B d (Ab.iQ x) v a) X:=λhx=>by
  obtain⟨a,Y,p,q⟩:=(h.EL hx).iQ;refine⟨a,Y,p,λd g e=>?_⟩;rw[qnE hx];exact(q d g e).OM (qit hx)
 cases x with
 |aJ l =>
  obtain⟨j,rfl,i⟩:=h;obtain⟨a,Y,p,q⟩:=nk.iQ (w:=w) (B:=B) (Q:=λU=>mj w B U) (f:=CW) i λx v X h=>h.iQ;exact⟨a,Y,p,λd g e=>⟨j,rfl,q d g e⟩⟩
 |_=>exact k (λl=>by simp)
def RV.iQ{r:T}{v}{w'}(h:RV w U r v w'):RV w U (Ab.iQ r) v w':=by
 obtain⟨s,u,X,o,k,j,f,i⟩:=h;obtain⟨d,Y,p,q⟩:=i.iQ;have g:(d++Y).Nodup:=p.nodup_iff.1 j;have e:∀b,b∈d++Y->b∈X:=λb a=>p.mem_iff.2 a;refine⟨s,λb=>u b∨b∈Y,d,λb a=>.inl (o b a),λb a=>?_,(xq.1 g).1,λb a=>?_,q _ (λb a=>.inl a) λb a=>⟨.inr a,(f b (e b (by simp[a]))).1⟩⟩
 .rcases a with a|a
  .exact k b a
  .have:=f b (e b (by simp[a]));exact⟨.inr this.1,this.2.1⟩
 grind
end
section
variable {P:Program} {Gl:t9}
def aD.iQ{f}{args}{r:T}(t:aD P Gl f args r):aD P Gl f args (Ab.iQ r) :=
 ⟨t.enters,λw U aE i j g=>(t.calls w U aE i j g).mono λe w' ⟨v,d,a⟩=>⟨v,d,a.iQ⟩⟩
def UA(u:P.follows .mixedOrders=true){f r}(M:jy P f r=true){an}{k:Nat}(I:Nat->t7->qa->Prop)(s:Ex->t7->qa->Prop)
 (round:∀n vs h,I n vs h->(∃m aW h',m<n/\Step P Gl an f r k vs h aW h'/\I m aW h')∨(∃e aW h',bM P Gl an f r k vs h e aW h'/\s e aW h'))
 {n:Nat} {vs:t7} {h:qa} (C:h.length=k) (A:I n vs h):∃e dM h1,s e dM h1/\ax P Gl an f r (Qx vs h e dM h1):=by
 have key:∀n vs h,I n vs h->∃(N:Nat) (V:Nat->t7) (H:Nat->qa) (e:Ex) (dM:t7) (h1:qa),V 0=vs/\H 0=h/\s e dM h1/\(∀i,i<N->Step P Gl an f r k (V i) (H i) (V (i+1)) (H (i+1)))/\bM P Gl an f r k (V N) (H N) e dM h1:=by
  intro n
  induction n using Nat.strongRecOn with
  |_ n D =>
   intro vs h A;rcases round n vs h A with⟨m,aW,h',u,E,O⟩|⟨e,aW,h',L,J⟩
   .obtain⟨N,V,H,e,dM,h1,o,a,j,g,d⟩:=D m u aW h' O;refine⟨N+1,λi=>match i with|0=>vs|i+1=>V i,λi=>match i with|0=>h|i+1=>H i,e,dM,h1,rfl,rfl,j,λi x=>?_,d⟩;cases i with
    |zero=>show Step P Gl an f r k vs h (V 0) (H 0);rw[o,a];exact E
    |succ i=>exact g i ab
   .exact⟨0,λ_=>vs,λ_=>h,e,aW,h',rfl,rfl,J,λi x=>ab,L⟩
 obtain⟨N,V,H,e,dM,h1,o,a,j,g,d⟩:=key n vs h A;refine⟨e,dM,h1,j,?_⟩;have:=QC (an:=an) u M V H (n:=N) (e1:=e) (dM:=dM) (h1:=h1) (λi x=>by rw[a,C];exact g i x) (by rw[a,C];exact d);rw[o,a] at this;omega
end
section
variable {P:Program} {Gl:t9}
def Step.mkC{an}{A}{K}{f r m k}{l}{vs v1 v2 aW}{h h1 h2 h':qa}(j:aS P Gl K)(hp:(A f).aa=an.aa)(e:(A f).live r=an.live r)(i:∀p∈l,ax P Gl (A f) f p.1 p.2)
 (σ:t8) (hr:QO P Gl A K m f l r vs h=some (.normal,v1,h1)) (d:zA k σ h1=true) (a:v1.map (nO σ h1)=v2) (g:uv σ h1=h2) (hw:∀nt,ak Gl an.aa nt (an.live r false) k v2 h2 aW h'):Step P Gl an f r k vs h aW h' :=
 ⟨v1,h1,⟨A,K,m,l,j,hp,e,i,hr⟩,λnt=>.trans (.Au σ d) (by rw[a,g];grind)⟩
end
inductive b8:T->T->Prop
 |refl (x:T):b8 x x
 |eZ (sz:Nat) (g:Nat->t7) (cap:Option Nat) (hc:cap=none∨cap=some 0):b8 .ae (.view sz 0 g cap)
 |Ay (sz:Nat) (g:Nat->t7) (cap:Option Nat) (hc:cap=none∨cap=some 0):b8 .ae (.new (.view sz 0 g cap))
 |GP (flat:Bool) (sz:Nat) (g:Nat->t7) (cap:Option Nat) (hc:cap=none∨cap=some 0):b8 .ae (.fresh flat sz 0 g 0 cap)
 |sO (x:T):b8 (.new x) x
 |new {x y:T} (h:mV x y):b8 (.new x) (.new y)
 |fresh {flat:Bool} {sz n:Nat} {g:Nat->t7} {len:Nat} {cap:Option Nat} {n':Nat} {g':Nat->t7} (h1:len<=n') (h2:n'<=n) (h3:∀m,cap=some m->m<=n') (h4:∀j,j<n'->g' j=g j):b8 (.fresh flat sz n g len cap) (.fresh flat sz n' g' len cap)
 |view {sz n:Nat} {g:Nat->t7} {cap:Option Nat} {v7 n':Nat} {g':Nat->t7} {GQ:Option Nat} (h:mV (.view sz n g cap) (.view v7 n' g' GQ)):b8 (.view sz n g cap) (.view v7 n' g' GQ)
section
variable {w:World} {B:Nat} {U:Nat->Prop} {P:Program} {Gl:t9}
def b8.sP{x y:T}(h:b8 x y){v}{X}(hx:g4 w B U x v X):g4 w B U y v X:=by
 cases h with
 |refl=>exact hx
 |eZ sz g cap d=>cases hx with|vi _ _ a=>cases a;exact .vi _ _ (.fg sz g cap d)
 |Ay sz g cap d=>cases hx with|vi _ _ a=>cases a;exact .nw _ _ (.fg sz g cap d)
 |sO=>cases hx with
  |vi _ _ a=>cases a
  |nw _ _ a=>exact .vi _ _ (a.av λb L=>⟨L.1,rfl⟩)
 |GP flat sz g cap d=>cases hx with|vi _ _ a=>cases a;exact .CE _ _ _ _ λm f=>by rcases d with q|q<;>rw[q] at f<;>cases f;rfl
 |new h=>cases hx with
  |vi _ _ a=>cases a
  |nw _ _ a=>exact .nw _ _ (h _ _ _ a)
 |view h=>cases hx with|vi _ _ a=>exact .vi _ _ (h _ _ _ a)
 |fresh N r M k=>cases hx with
  |vi _ _ a=>cases a
  |CE flat sz W cap s =>
   obtain rfl:=Nat.le_zero.1 r;exact .CE _ _ _ _ s
  |fresh _ _ _ _ _ _ cb C cc ad u e es R Q s Y O I E D V d J =>
   refine .fresh _ _ _ _ _ _ cb C cc ad u e es R Q (λm f=>⟨(s m f).1,M m f⟩) N (λd=>wM r (O d)) I (wM (Nat.add_le_add_left (wI _ r) _) E) D (λj i=>by rw[k j i];grind) (λj o c i H=>d j o c ab (by rw[←k j i];exact H)) λS j i c A=>J S j ab c (by rw[←k j i];exact A)
def b8.rt1{x y:T}(h:b8 x y){v}{X}(hx:mj w B U x v X):mj w B U y v X:=by
 cases h with
 |refl=>exact hx
 |eZ sz g cap a=>exact(b8.eZ sz g cap a).sP (w:=w) (B:=B) (U:=U) hx
 |Ay sz g cap a=>exact(b8.Ay sz g cap a).sP (w:=w) (B:=B) (U:=U) hx
 |sO=>exact((b8.sO y).sP (w:=w) (B:=B) (U:=U) hx).EL
 |GP flat sz g cap a=>exact(b8.GP flat sz g cap a).sP (w:=w) (B:=B) (U:=U) hx
 |new h=>exact(b8.new h).sP (w:=w) (B:=B) (U:=U) hx
 |view h=>exact(b8.view h).sP (w:=w) (B:=B) (U:=U) hx
 |fresh i f e d=>exact(b8.fresh i f e d).sP (w:=w) (B:=B) (U:=U) hx
def b8.rt2{x y:T}(h:b8 x y){v}{X}(hx:oV w B U x v X):oV w B U y v X:=by
 cases h with
 |refl=>exact hx
 |eZ sz g cap a=>exact(b8.eZ sz g cap a).sP (w:=w) (B:=B) (U:=U) hx
 |Ay sz g cap a=>exact(b8.Ay sz g cap a).sP (w:=w) (B:=B) (U:=U) hx
 |sO=>exact((b8.sO y).sP (w:=w) (B:=B) (U:=U) hx).EL.Tw
 |GP flat sz g cap a=>exact(b8.GP flat sz g cap a).sP (w:=w) (B:=B) (U:=U) hx
 |new h=>exact(b8.new h).sP (w:=w) (B:=B) (U:=U) hx
 |view h=>exact(b8.view h).sP (w:=w) (B:=B) (U:=U) hx
 |fresh i f e d=>exact(b8.fresh i f e d).sP (w:=w) (B:=B) (U:=U) hx
inductive fS:t7->t7->Prop
 |nil:fS [] []
 |cons {x y:T} {l m:t7} (h:b8 x y) (hl:fS l m):fS (x::l) (y::m)
def fS.rtl{l m:t7}(h:fS l m):∀{vs:List Value} {X:t8},nk (mj w B U) l vs X->nk (mj w B U) m vs X:=by
 induction h with
 |nil=>grind
 |cons h f a =>
  intro vs X hx;cases hx with
  |cons _ _ _ _ _ _ e d=>exact .cons _ _ _ _ _ _ (h.rt1 e) (a d)
def fS.GR{l m:t7}(h:fS l m):∀{vs:List Value} {X:t8},nk (g4 w B U) l vs X->nk (g4 w B U) m vs X:=by
 induction h with
 |nil=>grind
 |cons h f a =>
  intro vs X hx;cases hx with
  |cons _ _ _ _ _ _ e d=>exact .cons _ _ _ _ _ _ (h.sP e) (a d)
def aD.Az{f}{args}{l m}(t:aD P Gl f args (.agg l))(h:fS l m):aD P Gl f args (.agg m) :=
 ⟨t.enters,λw U aE i A g=>(t.calls w U aE i A g).mono λe w' ⟨v,d,a⟩=>⟨v,d,by
  obtain⟨x,D,X,u,s,r,o,C,rfl,j,k⟩:=a;exact⟨x,D,X,u,s,r,o,C,rfl,j,h.GR k⟩⟩⟩
def aD.ma{f:FuncId}{args}{r a:T}(t:aD P Gl f args r)(h:b8 r a):aD P Gl f args a :=
 ⟨t.enters,λw U aE j C i=>(t.calls w U aE j C i).mono λe w' ⟨v,g,d⟩=>⟨v,g,by
  obtain⟨A,D,X,x,u,s,o,k⟩:=d;exact⟨A,D,X,x,u,s,o,h.rt2 k⟩⟩⟩
def aD.oF{f}{args}{l m}(t:aD P Gl f args (.aJ l))(h:fS l m):aD P Gl f args (.aJ m) :=
 ⟨t.enters,λw U aE i x g=>(t.calls w U aE i x g).mono λe w' ⟨v,d,a⟩=>⟨v,d,by
  obtain⟨u,C,X,s,r,o,k,A,rfl,j⟩:=a;exact⟨u,C,X,s,r,o,k,A,rfl,h.rtl j⟩⟩⟩
end
section
variable {P:Program} {Gl:t9}
end
def fS.rg{x:T}{l m}(h:fS l m):fS (x::l) (x::m):=.cons (.refl _) h
variable {P:Program} {Gl:t9}
def CX:(∀{x:Int},-9223372036854775808<=x->x<=9223372036854775807->IntKind.i64.wrap x=x)/\(∀{x:Int},0<=x->x<=255->IntKind.u8.wrap x=x)/\(∀{x:Int},0<=x->x<=65535->IntKind.u16.wrap x=x)/\(∀{x:Int},0<=x->x<=4294967295->IntKind.u32.wrap x=x) ∧
 (∀n:Nat,Int.ofNat n=(n:Int))/\(∀n:Nat,(n:Int).toNat=n)/\(∀n:Nat,((n:Int)+1).toNat=n+1)/\(∀a b:Bool,((a&&b)=true)=(a=true/\b=true))/\(∀a b:Bool,((a || b)=true)=(a=true∨b=true))/\(∀b:Bool,((!b)=true)=(b=false)) ∧
 (∀(p:Prop) [Decidable p],(decide p=true)=p)/\(∀(p:Prop) [Decidable p],(decide p=false) = ¬p)/\(∀a b:Nat,(Nat.ble a b=true)=(a<=b))/\(∀a b:Nat,(Nat.blt a b=true)=(a<b))/\(∀a b:Nat,((a==b)=true)=(a=b)) ∧
 (∀n:Nat,0+n=n)/\(∀n:Nat,n+0=n)/\(∀n:Int,0+n=n)/\(∀n:Int,n+0=n)/\(∀p:Prop,(True/\p)=p)/\(∀p:Prop,(p/\True)=p)/\∀p:Prop,(p/\p)=p :=
 ⟨Qv,nY,quy,qux,zu,qpR,qnB,λ_ _=>wd _ _,λ_ _=>vI _ _,λ_=>wR _,λ_=>wm,λ_=>by simp,λ_ _=>quC,λ_ _=>quB,λ_ _=>quA,wo,Nat.add_zero,Int.zero_add,Int.add_zero,true_and,and_true,and_self⟩
def BT{R:Type}{c:Bool}{x y r:R}(h1:x=r)(a:c=true:=by first|assumption|omega|(simp (disch:=omega) only[CX,vc,vM,Nat.reduceAdd];done)|(simp (disch:=omega) only[CX,vc,vM,Nat.reduceAdd];omega)):(bif c then x else y)=r:=qj a h1
def BF{R:Type}{c:Bool}{x y r:R}(h1:y=r)(a:¬c=true:=by first|with_reducible assumption|(simp (disch:=omega) only[CX,vc,vM,Nat.reduceAdd];done)|(simp (disch:=omega) only[CX,vc,vM,Nat.reduceAdd];omega)|(simp;done)|fail):(bif c then x else y)=r:=qB a h1
def BG{R:Type}{c:Bool}{x y r:R}(h1:y=r)(a:¬c=true:=by first|assumption|(simp (disch:=omega) only[CX,vc,vM,Nat.reduceAdd];done)|(simp (disch:=omega) only[CX,vc,vM,Nat.reduceAdd];omega)):(bif c then x else y)=r:=qB a h1
def ak.cu{Gl:t9}{aa:t8}{nt:Nat}{l:t8}{k:Nat}{vs aW:t7}{h h2 h':qa}(σ:t8)(e:zA k σ h=true)(a:vs.map (nO σ h)=aW)(f:uv σ h=h2)(d:ai h2 h'):ak Gl aa nt l k vs h aW h' :=
 .trans (.Au σ e) (by rw[a,f];exact .same d)
section
variable {P:Program} {Gl:t9}
noncomputable def qx(q:Prop):Bool:=@decide q (Classical.propDecidable _)
def qU{q:Prop}:qx q=true↔q:=by simp[qx]
noncomputable def qH(p:t7->T->Prop)(F:t7->Option T)(args:t7):oY:=match F args with
 |some r=>.ite (qx (p args r)) (.ret r) .none
 |none=>.none
def qn{f:FuncId}{p:t7->T->Prop}{F:t7->Option T}(hp:p=aD P Gl f):∀args r,(qH p F args).run some=some r->aD P Gl f args r:=by
 intro args r hr;unfold qH at hr;split at hr
 .simp only[oY.run] at hr;obtain⟨a,hr⟩:=qo hr;obtain rfl:=we hr;have:=qU.1 a;rw[hp] at this;omega
 .cases hr
def qu{f:FuncId}{p:t7->T->Prop}(hp:p=aD P Gl f){a:t7}{r:T}(t:aD P Gl f a r):qx (p a r)=true:=qU.2 (by rw[hp];exact t)
noncomputable def kH(p:t7->qa->T->qa->Prop)(F:t7->qa->Option (T×qa))(args:t7)(h:qa):l7:=match F args h with
 |some (r,h')=>.ite (qx (p args h r h')) (.ret r h') .none
 |none=>.none
def Qy{f:FuncId}{p:t7->qa->T->qa->Prop}{F:t7->qa->Option (T×qa)}(hp:p=aR P Gl f):∀args h r h',(kH p F args h).run (λv h=>some (v,h))=some (r,h')->aR P Gl f args h r h':=by
 intro args h r h' hr;unfold kH at hr;split at hr
 .simp only[l7.run] at hr;obtain⟨a,hr⟩:=qo hr;simp only[wj,wA] at hr;obtain⟨rfl,rfl⟩:=hr;have:=qU.1 a;rw[hp] at this;omega
 .cases hr
def QR{f:FuncId}{p:t7->qa->T->qa->Prop}(hp:p=aR P Gl f){a:t7}{h:qa}{r:T}{h':qa}(t:aR P Gl f a h r h'):qx (p a h r h')=true:=qU.2 (by rw[hp];exact t)
def ZY(P:Program)(Gl:t9)(f:FuncId):∃p:t7->qa->T->qa->Prop,p=aR P Gl f:=⟨_,rfl⟩
def qz(P:Program)(Gl:t9)(f:FuncId):∃p:t7->T->Prop,p=aD P Gl f:=⟨_,rfl⟩
end
section
variable {P:Program} {Gl:t9}
noncomputable def Zy(q:t7->qa->Ex->t7->qa->Prop):LT->t7->qa->LT
 |.none,_,_=>.none
 |.ret e d h',a,h=>.ite (qx (q a h e d h')) (.ret e d h') .none
 |.ite c x y,a,h=>.ite c (Zy q x a h) (Zy q y a h)
def QU(P:Program)(Gl:t9)(an:cW)(f r:Nat):∃q:t7->qa->Ex->t7->qa->Prop,q=λvs h e aW h'=>ax P Gl an f r (Qx vs h e aW h'):=⟨_,rfl⟩
def qX{an:cW}{f r:Nat}{q:t7->qa->Ex->t7->qa->Prop}(i:q=λvs h e aW h'=>ax P Gl an f r (Qx vs h e aW h')):∀t:LT,ax P Gl an f r (Zy q t)
 |.none,fn,d,g,vs,h,e,aW,h',a=>by cases a
 |.ret s j o,fn,d,g,vs,h,e,aW,h',a=>by
  simp only[Zy,LT.run] at a;obtain⟨k,a⟩:=qo a;simp only[wj,wA] at a;obtain⟨rfl,rfl,rfl⟩:=a;have:=qU.1 k;rw[i] at this;refine this fn d g vs h s j o ?_;unfold Qx;simp only[LT.run];rw[YQ ⟨rfl,.refl _⟩];rfl
 |.ite c x y,fn,d,g,vs,h,e,aW,h',a=>by
  simp only[Zy,LT.run] at a;cases c
  .exact qX i y fn d g vs h e aW h' a
  .exact qX i x fn d g vs h e aW h' a
def Yo{an:cW}{f r:Nat}{q:t7->qa->Ex->t7->qa->Prop}(a:q=λvs h e aW h'=>ax P Gl an f r (Qx vs h e aW h')){vs dM:t7}{h h1:qa}{e:Ex}(l:ax P Gl an f r (Qx vs h e dM h1)):qx (q vs h e dM h1)=true:=qU.2 (by rw[a];exact l)
def qL(g:Nat->Bool):Nat->Bool
 |0=>true
 |n+1=>qL g n&&g n
def qI(g:Nat->Bool):∀n,qL g n=true↔∀i,i<n->g i=true
 |0=>⟨λ_ i h=>ab,λ_=>rfl⟩
 |n+1=>by
  have a:=qI g n;grind[qL]
def KD(p:Nat->Bool)(n:Nat):qL p n=true∨∃I,I<n/\p I=false/\∀i,i<I->p i=true:=by
 induction n with
 |zero=>exact .inl rfl
 |succ n a =>
  rcases a with h|⟨I,f,e,d⟩
  .cases q:p n
   .exact .inr ⟨n,ab,q,(qI p n).1 h⟩
   .exact .inl (by unfold qL;rw[h,q];rfl)
  grind
def YR(p:Nat->Bool)(n:Nat):qL p n=false↔∃i,i<n/\p i=false:=by
 constructor
 .intro h;rcases KD p n with q|⟨I,f,e,_⟩
  .rw[q] at h;cases h
  grind
 .rintro⟨i,d,a⟩;cases q:qL p n
  .rfl
  .rw[(qI p n).1 q i d] at a;cases a
def ZO(k:P.follows .mixedOrders=true){f r:Nat}(o:jy P f r=true){an:cW}(vs:Nat->t7)(a:Nat->qa)(cC:Nat->Bool){n:Nat}{e1 s:Ex}{v1 v2:t7}{h1 h2:qa}
 (step:∀i,i<n->(∀j,j<i->cC j=true)->cC i=true->Step P Gl an f r (a 0).length (vs i) (a i) (vs (i+1)) (a (i+1)))
 (e:∀i,i<n->(∀j,j<i->cC j=true)->cC i=false->bM P Gl an f r (a 0).length (vs i) (a i) s v2 h2)
 (last:(∀i,i<n->cC i=true)->bM P Gl an f r (a 0).length (vs n) (a n) e1 v1 h1) :
 (qL cC n=true->ax P Gl an f r (Qx (vs 0) (a 0) e1 v1 h1))/\(qL cC n=false->ax P Gl an f r (Qx (vs 0) (a 0) s v2 h2)):=by
 constructor
 .intro h;have h:=(qI cC n).1 h;exact QC k o vs a (n:=n) (λi d=>step i d (λj u=>h j ab) (h i d)) (last h)
 .intro h;rcases KD cC n with q|⟨I,A,x,g⟩
  .rw[q] at h;cases h
  .exact QC k o vs a (n:=I) (λi d=>step i ab (λj u=>g j ab) (g i d)) (e I A g x)
def YS(s:P.follows .mixedOrders=true){f r:Nat}(u:jy P f r=true){an:cW}(vs:Nat->t7)(a:Nat->qa)(cC:Nat->Bool){n:Nat}{e1:Ex}{v1:t7}{h1:qa}(o:Ex->t7->qa->Prop)
 (step:∀i,i<n->(∀j,j<i->cC j=true)->cC i=true->Step P Gl an f r (a 0).length (vs i) (a i) (vs (i+1)) (a (i+1)))
 (g:∀i,i<n->(∀j,j<i->cC j=true)->cC i=false->∃d v2 h2,o d v2 h2/\bM P Gl an f r (a 0).length (vs i) (a i) d v2 h2)
 (last:(∀i,i<n->cC i=true)->bM P Gl an f r (a 0).length (vs n) (a n) e1 v1 h1) :
 (qL cC n=true->ax P Gl an f r (Qx (vs 0) (a 0) e1 v1 h1))/\(qL cC n=false->∃d v2 h2,o d v2 h2/\ax P Gl an f r (Qx (vs 0) (a 0) d v2 h2)):=by
 constructor
 .intro h;have h:=(qI cC n).1 h;exact QC s u vs a (n:=n) (λi e=>step i e (λj B=>h j ab) (h i e)) (last h)
 .intro h;rcases KD cC n with q|⟨I,D,C,k⟩
  .rw[q] at h;cases h
  .obtain⟨d,v2,h2,A,x⟩:=g I D k C;exact⟨d,v2,h2,A,QC s u vs a (n:=I) (λi e=>step i ab (λj B=>k j ab) (k i e)) x⟩
end
section
variable {P:Program} {Gl:t9}
def QF{f:FuncId}{p:t7->T->Prop}(hp:p=aD P Gl f){a:t7}{r:T}(t:aD P Gl f a r):p a r:=by rw[hp];exact t
def qpS{f:FuncId}{p:t7->qa->T->qa->Prop}(hp:p=aR P Gl f){a:t7}{h:qa}{r:T}{h':qa}(t:aR P Gl f a h r h'):p a h r h':=by rw[hp];exact t
def qnF{an:cW}{f r:Nat}{q:t7->qa->Ex->t7->qa->Prop}(a:q=λvs h e aW h'=>ax P Gl an f r (Qx vs h e aW h')){vs dM:t7}{h h1:qa}{e:Ex}(l:ax P Gl an f r (Qx vs h e dM h1)):q vs h e dM h1:=by rw[a];exact l
end
def BS{R:Type}{c:Bool}{x y r:R}(h1:x=r) (a:c=true:=by
 first
 |(with_reducible refine qU.2 ?_);first|exact QF (by assumption) (by assumption)|exact qnF (by assumption) (by assumption)|exact qpS (by assumption) (by assumption)
 |(with_reducible refine YQ ?_);exact⟨rfl,.refl _⟩
 |with_reducible assumption
 |omega
 |(simp (disch:=omega) only[CX,vc,vM,Nat.reduceAdd];done)
 |(simp (disch:=omega) only[CX,vc,vM,Nat.reduceAdd];omega)):(bif c then x else y)=r:=qj a h1
def dH{i:Nat}(h:i<=1000000):IntKind.i64.wrap (Int.ofNat i+1)=Int.ofNat (i+1):=by rw[Qv rx rx];rfl
def ST{R:Type}{x r:R}(h:x=r:=by
  (repeat (first|refine BS ?_|refine BF ?_))
  rfl):x=r:=h
def ON:Code->Code
 |.seq a _=>a
 |c=>c
def OP:Code->Code
 |.seq _ b=>b
 |c=>c
def Lh(P:Program)(G:t9)(A:FuncId->cW)(K:bv)(m:Nat)(f:FuncId)(a:List (Nat×(t7->qa->LT)))(pick:Code->Code)(l:t8)(vs:t7)(h:qa)(l':t8):Option (Ex×t7×qa) :=
 match P.funcs[f]? with
 |some fn=>match fn.body with
  |some c=>ic P K G (A f).aa fn.ntmps (A f).live (Yd a (Cu P G A K m f) fn) (pick c) (qJ l vs h) λe s=>some (e,Za s l',s.h)
  |none=>none
 |none=>none
section
variable {P:Program} {Gl:t9} {K:bv} {A:FuncId->cW}
def qkp(c:Code):∀b∈qF (ON c),b∈qF c:=by
 intro b a;cases c with
 |seq x y=>simp only[ON,qF,wS] at *;grind
 |_=>exact a
def qkq(c:Code):∀b∈qF (OP c),b∈qF c:=by
 intro b a;cases c with
 |seq x y=>simp only[OP,qF,wS] at *;grind
 |_=>exact a
end
section
variable {P:Program} {Gl:t9} {aa:t8} {nt:Nat}
def qiu{K:bv}{A:FuncId->cW}(j:P.follows .mixedOrders=true)(r:aS P Gl K){m:Nat}{f:FuncId}{fn:Func}{c:Code}(k:P.funcs[f]?=some fn)(o:fn.body=some c)(u:fn.ntmps<=1024)(H:QP P f=true){i:List (Nat×(t7->qa->LT))}(I:∀p∈i,ax P Gl (A f) f p.1 p.2)
 (pick:Code->Code) {s:Code} (E:pick c=s) (B:∀b∈qF (pick c),b∈qF c) {l l':t8} {vs aW:t7} {h h':qa} {e:Ex}
 (d:Lh P Gl A K m f i pick l vs h l'=some (e,aW,h')):aG P Gl (A f).aa fn.ntmps s (qJ l vs h) e (qJ l' aW h'):=by
 subst E;unfold Lh at d;rw[k] at d;dsimp only at d;rw[o] at d;dsimp only at d;have N:=YP (A:=A) H (YO P Gl A K m f) (jQ j r m f) I fn c k o u;obtain⟨S,s1,d,C⟩:=zf j r u N (pick c) B d;simp only[wj,wA] at d;obtain⟨rfl,rfl,rfl⟩:=d;exact λro n M g a w D Q hn=>C ro n M g a w D Q λR w' J L O x=>hn R w' J (L.only l') O x
end
def Li:Code->Code
 |.block _ c=>c
 |.loop c=>c
 |.scope c=>c
 |c=>c
def qkr(c:Code):∀b∈qF (Li c),b∈qF c:=by
 intro b a;cases c with
 |loop x=>simp only[Li,qF,wJ] at *;grind
 |_=>exact a
section
variable {P:Program} {Gl:t9} {aa:t8} {nt:Nat} {K:bv} {A:FuncId->cW}
def Qp(P:Program)(Gl:t9)(aa:t8)(nt:Nat)(h0:qa)(c:Code)(s:St)(e:Ex)(s':St):Prop :=
 ∀(ro:Option Nat) (n:Nat),(qv c=true->ro=none)->∀(g0:Gh) (d:World) (g:Gh) (a:Act) (w:World),HR g0 h0 d->dy g0 h0 d g s.h w->SR Gl aa nt g s a w->∀Q:Exit->Act->World->Prop,
  (∀f w' i,SR Gl aa nt i s' f w'->dy g0 h0 d i s'.h w'->(qv c=false->f.defers=a.defers)->Q e.out f w')->c.wpIn (QM ro) n P Q a w
def qlH{h0:qa}{c:Code}{s s':St}{e:Ex}(h:aG P Gl aa nt c s e s'):Qp P Gl aa nt h0 c s e s' :=
 λro n o _ _ g a w _ i f Q hn=>h ro n o g a w f Q λu w' j k r d=>hn u w' j k (i.trans r) d
def qks{h0:qa}{c:Code}{s':St}{e:Ex}{l:t8}{vs dN:t7}{h h2:qa}(hw:ak Gl aa nt l h0.length vs h dN h2)(j:Qp P Gl aa nt h0 c (qJ l dN h2) e s'):Qp P Gl aa nt h0 c (qJ l vs h) e s' :=
 λro n s g0 d g a w hr o k Q hn=>by
  obtain⟨r,i,f,_⟩:=hw g a w g0 h0 d (wc _) hr o k;exact j ro n s g0 d r a w hr f i Q hn
def OQ{c:Code}{s s':St}{e:Ex}(h:Qp P Gl aa nt s.h c s e s'):aG P Gl aa nt c s e s' :=
 λro n f g a w d Q hn=>h ro n f g w g a w d.hr (.refl _ _ _) d Q hn
def qkt(hn:QN P=true){f:FuncId}{fn:Func}{c:Code}(g:P.funcs[f]?=some fn)(a:fn.body=some c){args:t7}(H:(Nat.ble fn.ntmps 1024&&Nat.ble args.length fn.ntmps)=true){s':St}(ik:aG P Gl aa fn.ntmps c (enter args []) .ret s'){r:T}(bL:YX P Gl aa fn s' (λv=>some (kQ s'.h v))=some r):aD P Gl f args r:=by
 obtain⟨rv,DJ,AA⟩:=qM (I8 (P:=P) (Gl:=Gl) (aa:=aa) fn s') bL;obtain rfl:=we DJ;simp only[wd] at H;have bp:=Qr H.1;have bz:=Qr H.2;refine⟨⟨fn,g,by rw[a];rfl,?_⟩,λw U aE hU di Q=>?_⟩
 .have:=Array.all_eq_true'.1 hn fn (xn g);rw[a] at this;grind
 let g0:Gh:={ U:=U,φ:=λ_=>none,own:=λ_=>none,base:=w.heap.size,low:=0 }
 have hr:HR g0 [] w:=⟨λi b a=>rx,λb a=>⟨hU b a,rfl⟩,λb o j=>(by cases j),wc _,λb o j=>(by cases j),λb i j=>(by cases j),λi b m a=>rx⟩;have OR:dz g0 [] w args aE:=⟨Q.1,λi x hi=>by
  obtain⟨v,E,C⟩:=Q.2 i x hi;exact⟨v,E,.aF _ _ C⟩⟩
 have lF:=SR.enter (Gl:=Gl) (aa:=aa) (wc _) (hr.hZ w.heap.size) di OR bp bz;rw[←callsIn_wide (n:=0)];refine callsIn_of_wp_marks g a trivial (ik none 0 (λ_=>rfl) _ _ w lF _ λS w' k R d _=>?_) rfl;obtain⟨pO,l,W,V,N⟩:=R.defers;obtain⟨t1,t2,t3,t4,s⟩:=jP l w';have l6:∀b,k.U b∨k.own b≠none->b∉l:=by
  grind
 have Z:∀b n,room w' b n->room (dA l w') b n:=by
  rintro b n ⟨M,e,J,I⟩;refine⟨M,e,?_,I⟩;rw[s b λO=>?_]
  .exact J
  grind
 have L:=R.world (w':=dA l w') (ds:=[]) ab (λb a=>s b (l6 b a)) Z (Marks.nil ab);obtain⟨x,hk,v,J,I⟩:=YN L (AA T some);obtain rfl:=we hk;show LeavesInM Fence.wide 0 P fn S.tmps (λe w'=>∃v,e = .returned v/\RV w U (kQ s'.h x) v w') S.defers .returning w';rw[W];refine Zr l w' V (λD hD=>(N D hD).2.2.2) ⟨v,J,v,rfl,?_⟩;have fO:k.base=w.heap.size:=d.base;obtain⟨X,E,C,Y⟩:=JJ L.hr (B:=w.heap.size) ab I;refine⟨⟨⟨t2.trans d.os,t3.trans d.tape,(t4.trans d.output).1,by have:=d.size;omega,λb a=>?_⟩,(t4.trans d.output).2⟩,YL k (dA l w') w.heap.size (ZP x),X,λb a=>.inl ((d.av.u b a).1),λb a=>?_,C,Y,E⟩
 .rw[s b λO=>by have:=(N b O).1;have h4:k.low=w.heap.size:=d.low;omega];exact d.same b a rfl
 .rcases a with a|a
  .exact⟨d.u b a,(L.hr.u b a).1⟩
  omega
end
section
variable {P:Program} {Gl:t9} {aa:t8} {nt:Nat} {K:bv} {A:FuncId->cW}
end
end Go.Ab
