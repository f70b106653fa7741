/- A part of the proof: nothing is assumed. -/
import Derived.Test.YtifccdcnhibceaaGreatDoorP2
import Derived.Test.YtifccdcnhibceaaGreatDoorP1
set_option linter.all false
namespace Go.Ab
def nS(H:qa)(a:Nat)(x y:T):Prop:=x=y∨(x = .ae/\∃k b cap,a<=k/\H[k]?=some b/\b.n=0/\(∀m,cap=some m->m=0)/\y = .own k b.aj 0 0 cap)
def nS.refl{H}{a}(x:T):nS H a x x:=.inl rfl
def nS.own{H}{a k}{b}(d:a<=k)(e:H[k]?=some b)(hn:b.n=0):nS H a .ae (.own k b.aj 0 0 none):=.inr ⟨rfl,k,b,none,d,e,hn,λ_ h=>(by cases h),rfl⟩
def mI(H:qa)(d:Nat)(l m:t7):Prop:=l.length=m.length/\∀(i:Nat) a b,l[i]?=some a->m[i]?=some b->nS H d a b
def mI.refl{H}{e}(l):mI H e l l:=⟨rfl,λi a b f d=>by rw[f] at d;cases d;exact .refl _⟩
def mI.cons{H}{d}{x y:T}{l m}(h:nS H d x y)(e:mI H d l m):mI H d (x::l) (y::m):=by
 refine⟨by simp[e.1],λi a b j f=>?_⟩;cases i with
 |zero=>grind
 |succ i=>exact e.2 i a b rx rx
def mI.get{H}{d}{l m:t7}(h:mI H d l m){i:Nat}{b:T}(e:m[i]?=some b):∃a,l[i]?=some a/\nS H d a b:=by
 have j:=qC e;have f:l[i]?=some (l[i]'(by rw[h.1];exact j)):=wi _;exact⟨_,f,h.2 i _ _ f e⟩
def oe(H:qa)(a:Nat)(x y:T):Prop:=nS H a x y∨(∃l m,x = .ag l/\y = .ag m/\mI H a l m)∨∃l m,x = .agg l/\y = .agg m/\mI H a l m
def oe.refl{H}{a}(x:T):oe H a x x:=.inl (.refl x)
def oe.ag{H}{a}{l m}(h:mI H a l m):oe H a (.ag l) (.ag m):=.inr (.inl ⟨l,m,rfl,rfl,h⟩)
inductive cT(H:qa)(lo:Nat):qa->qa->Prop
 |nil:cT H lo [] []
 |same (b:ap) {h h2:qa} (hs:cT H lo h h2):cT H lo (b::h) (b::h2)
 |Lj {b b2:ap} {h h2:qa} (e:b2.mp=b.mp/\b2.aj=b.aj/\b2.sz=b.sz/\b2.n=b.n) (hf:b2.flat=false) (hc:∀j,j<b.n->mI H lo (b.get j) (b2.get j)) (hs:cT H lo h h2):cT H lo (b::h) (b2::h2)
def cT.refl{H:qa}{a:Nat}:∀h:qa,cT H a h h
 |[]=>.nil
 |b::h=>.same b (cT.refl h)
def cT.at{H}{k:Nat}{h h2}(a:cT H k h h2):h2.length=h.length/\∀(i:Nat) b b2,h[i]?=some b->h2[i]?=some b2->(b2.mp=b.mp/\b2.aj=b.aj/\b2.sz=b.sz/\b2.n=b.n)/\(b2.flat=true->b=b2)/\∀j,j<b.n->mI H k (b.get j) (b2.get j):=by
 induction a with
 |nil=>grind
 |same b a o =>
  refine⟨rx,λi x y f d=>?_⟩;cases i with
  |zero=>simp at f d;subst f;subst d;exact⟨⟨rfl,rfl,rfl,rfl⟩,λ_=>rfl,λj _=>.refl _⟩
  |succ i=>grind
 |Lj e r s a o =>
  grind
section
variable {g:Gh} {h:qa} {w:World}
def HR.oH:∀(bs:qa) {g:Gh} {h:qa},HR g h w->(∀b,b∈bs->b.n=0/\b.mp=none) →
 ∃g',(∀k,h.length<=k->k<h.length+bs.length->g'.φ k=none)/\(∀k,k<h.length->g'.φ k=g.φ k)/\g'.U=g.U/\g'.bs=g.bs/\g'.own=g.own/\HR g' (h++bs) w/\Zn g h w g' (h++bs) w
 |[],g,h,hr,_=>⟨g,λk D i=>rx,λ_ _=>rfl,rfl,rfl,rfl,by rw[vu];exact hr,by rw[vu];exact .refl _ _ _ _⟩
 |b::bs,g,h,hr,a=>by
  obtain⟨I,C,H,B,A,u,q6,q7⟩:=hr.nM (a b aq).1 (a b aq).2;obtain⟨E,s,r,o,j,r5,d,r7⟩:=HR.oH bs q6 (λx hx=>a x (by simp[hx]));have e:h++[b]++bs=h++b::bs:=by simp
  rw[e] at d r7;refine⟨E,λk D i=>?_,λk f=>?_,o.trans B,j.trans A,r5.trans u,d,q7.trans r7⟩
  .by_cases f:k=h.length
   .subst f;exact(r _ aq).trans C
   .exact s k (by simp;omega) (by simp at i ⊢;omega)
  grind
def nS.vr{H}{a}{x y:T}{v}(e:∀k b,a<=k->H[k]?=some b->g.φ k=none)(r:nS H a x y)(hx:g.VR H w x v):g.VR H w y v:=by
 rcases r with rfl|⟨rfl,k,b,cap,j,d,i,f,rfl⟩
 .exact hx
 .obtain rfl:=hx.ae;exact .own _ _ _ _ _ b _ d (wc _) rfl λ_=>.inr ⟨e k b j d,i,rfl,rfl,f,rfl⟩
def cT.av{H}{f}{h h2:qa}(d:cT H f h h2)(w:World)(U)(φ:Nat->Option (Nat×Nat)):gw w U φ h w U φ h2 :=
 ⟨.refl _ _,λi b e=>by
  have j:=qC e;have a:h2[i]?=some (h2[i]'(by rw[d.at.1];exact j)):=wi _;obtain⟨⟨_,r,o,k⟩,_⟩:=d.at.2 i b _ e a;grind,λ_ _ hr=>hr⟩
def HR.GS{H h2:qa}{I:Nat}(hr:HR g H w)(r:cT h2 I H h2)(S:∀k b,I<=k->h2[k]?=some b->g.φ k=none):HR g h2 w:=by
 have back:∀i a,h2[i]?=some a->∃b,H[i]?=some b:=λi a f=>⟨_,wi (by rw[←r.at.1];grind)⟩;refine⟨λi a f R=>?_,hr.u,hr.own,hr.base,hr.cells,λb i A=>by rw[r.at.1];exact hr.lt b i A,λi a m f U=>by
  obtain⟨b,s⟩:=back i a f;exact hr.fh s ((r.at.2 i b a s f).1.1▸U) rfl (λ_ C=>C) λ_ _ _=>rfl⟩
 obtain⟨b,s⟩:=back i a f;obtain⟨⟨Q,q1,x,O⟩,N,E⟩:=r.at.2 i b a s f;rcases hr.dS i b s (Q▸R) with⟨cb,M,D,e,d⟩|⟨w1,w2⟩
 rotate_left
 .grind
 refine .inl ⟨cb,M,D,e,d.φ,d.own,d.heap,by rw[x,O];exact d.room,λj B=>?_,λj o c B A=>?_,λJ j B c C=>?_⟩
 .rw[←(E j ab).1,x];exact d.len j ab
 .obtain⟨Z,Y,L⟩:=(E j ab).get A;obtain⟨v,X,W,V⟩:=d.cell j o Z ab Y;rw[x];exact⟨v,X,W,L.vr S (V.av (r.av _ _ _))⟩
 .obtain rfl:=N J;exact d.flat J j B c C
end
section
variable {P:Program} {Gl:t9} {aa:t8} {nt:Nat}
def ak.CY{l:t8}{k:Nat}{vs dN:t7}{h h2:qa}(bs:qa)(EK:∀b,b∈bs->b.n=0/\b.mp=none)(I:vs.length=dN.length)
 (hv:∀(i:Nat) x y,vs[i]?=some x->dN[i]?=some y->oe h2 h.length x y) (L:cT h2 h.length (h++bs) h2):ak Gl aa nt l k vs h dN h2:=by
 intro g a w g0 h0 w0 _ _ hf s;obtain⟨r,r1,r2,R,Z,r5,Y,r7⟩:=HR.oH bs s.hr EK;have D:∀k b,h.length<=k->h2[k]?=some b->r.φ k=none:=λk b B E=>r1 k B (by have:=qC E;rw[L.at.1,wC] at this;exact this);have lZ:=L.av w r.U r.φ;have J:Zn g h w r h2 w:=r7.trans lZ;have M:∀c,g.U c↔r.U c:=λc=>by rw[R]
 have S:∀t,oe h2 h.length ((qJ l vs h).at t) ((qJ l dN h2).at t):=by
  intro t;unfold St.at
  cases A:Nat.blt t 1024 with
  |false=>exact .refl _
  |true =>
   simp only[wp];exact Ka l vs dN .nil .nil I hv (λ_ _=>.refl _) t (Qe A)
 have N:∀x y v,oe h2 h.length x y->r.VR h2 w x v->r.VR h2 w y v:=by
  intro x y v j hx;rcases j with j|⟨l,m,rfl,rfl,j⟩|⟨l,m,rfl,rfl,j⟩
  .exact j.vr D hx
  .exact absurd hx VR.eo
  .obtain⟨cs,rfl,I,B,f⟩:=hx.bN;refine VR.dh (by rw[←j.1];exact I) B (λi c hi=>?_);obtain⟨a,ha,Aw⟩:=j.get hi;obtain⟨u,H,cX⟩:=f i a ha;exact⟨u,H,Aw.vr D cX⟩
 have W:dy g h w r h2 w:=⟨J,wc _,λ_ _=>by rw[r5],rfl,rfl,.refl _,λ_ _ _=>rfl,Z,λc f=>.inl ((M c).2 f),λc f=>(M c).1 f⟩;refine⟨r,⟨Y.GS L D,W.marks s.defers,s.size,s.nt,λt A=>N _ _ _ (S t) ((s.tmps t A).av J),λt A cells f=>?_,λd t o h=>(by cases h),λgl cells hg=>by rw[R];exact s.eQ gl cells hg,λd t o h=>(by cases h)⟩,hf.trans W,λc f=>⟨by rw[r5];exact f,λH=>(M c).2 H⟩⟩;have bq:∃m,(qJ l vs h).at t = .ag m/\mI h2 h.length m cells:=by
  rcases S t with (e|⟨_,_,_,_,_,_,_,_,e⟩)|⟨m,m2,V,O,j⟩|⟨m,m2,V,O,j⟩
  .rw[f] at e;exact⟨cells,e,.refl _⟩
  .rw[f] at e;cases e
  .rw[f] at O;obtain rfl:=T.ag.inj O;exact⟨m,V,j⟩
  grind
 obtain⟨m,hm,X⟩:=bq;obtain⟨cb,Q,e,C⟩:=s.eW t A m hm;refine⟨cb,Q,e,C.ptr,by rw[r5];exact C.own,C.heap,by rw[←X.1];exact C.len,λo c ho=>?_⟩;obtain⟨c0,o9,lF⟩:=X.get ho;obtain⟨u,B,E,h3⟩:=C.cell o c0 o9;exact⟨u,B,E,lF.vr D (h3.av J)⟩
end
def rL(H:qa)(x y:T):Prop:=x=y∨∃i aj a len c b,x = .own i aj a len (some c)/\y = .own i aj a len none/\H[i]?=some b/\b.n<=a+c
def rL.refl{H:qa}(x:T):rL H x x:=.inl rfl
section
variable {P:Program} {Gl:t9} {aa:t8} {nt:Nat}
def ak.GU{l}{k}{vs dN}{h}(R:vs.length=dN.length)(Q:∀(i:Nat) x y,vs[i]?=some x->dN[i]?=some y->rL h x y):ak Gl aa nt l k vs h dN h:=by
 intro g a w g0 Z Y _ _ S f;have I:∀t,rL h ((qJ l vs h).at t) ((qJ l dN h).at t):=by
  intro t;unfold St.at
  cases j:Nat.blt t 1024 with
  |false=>exact .refl _
  |true =>
   simp only[wp];exact Ka l vs dN .nil .nil R Q (λ_ _=>.refl _) t (Qe j)
 refine⟨g,⟨f.hr,f.defers,f.size,f.nt,λt j=>?_,λt j cells U=>?_,λd t o h=>(by cases h),f.eQ,λd t o h=>(by cases h)⟩,S,.refl g⟩
 .have hx:=f.tmps t j;rcases I t with e|⟨i,aj,B,len,c,b,L,J,H,hn⟩
  .rw[←e];exact hx
  ·rw[L] at hx;rw[J];obtain⟨N,M,X,V,W⟩:=hx.dK;obtain rfl:b=N:=by
    have D:h[i]?=some N:=M;rw[H] at D;grind
   refine .own _ _ _ _ _ b _ M X V λev=>?_;rcases W ev with⟨cb,O,cc,ad,A,u,s,r,E,q6,q7,q8,q9⟩|⟨A,u,s,r,E,q6⟩
   .obtain rfl:=(q6 c rfl).1;exact .inl ⟨cb,O,cc,ad,A,u,s,r,E,λ_ C=>(by cases C),q7,q8,λ_=>hn⟩
   .exact .inr ⟨A,u,s,r,λ_ C=>(by cases C),q6⟩
 .rcases I t with e|⟨i,aj,B,len,c,b,L,J,H,hn⟩
  .exact f.eW t j cells (e.trans U)
  grind
end
def mI.rg{H}{a}{x:T}{l m}(h:mI H a l m):mI H a (x::l) (x::m):=.cons (.refl _) h
def UB:Code->Code
 |.cond _ a _=>a
 |c=>c
def UC:Code->Code
 |.cond _ _ b=>b
 |c=>c
def Bk:Nat->Code->Code
 |0,c=>Li c
 |1,c=>ON c
 |2,c=>OP c
 |3,c=>UB c
 |_,c=>UC c
def mo:t8->Code->Code
 |[],c=>c
 |k::p,c=>Bk k (mo p c)
def qiv(k)(c):∀b∈qF (Bk k c),b∈qF c:=by
 intro b a
 match k with
 |0=>exact qkr c b a
 |1=>exact qkp c b a
 |2=>exact qkq c b a
 |3 =>
  cases c with
  |cond o x y=>simp only[Bk,UB,qF,wS] at *;grind
  |_=>exact a
 |k+4 =>
  cases c with
  |cond o x y=>simp only[Bk,UC,qF,wS] at *;grind
  |_=>exact a
def UD:∀(p:t8) (c:Code),∀b∈qF (mo p c),b∈qF c
 |[],_,_,a=>a
 |k::p,c,b,a=>UD p c b (qiv k _ b a)
def ZG(P:Program)(f:Nat)(p:t8)(t:Code->Bool):Bool:=match P.funcs[f]? with
 |some fn=>match fn.body with
  |some c=>t (mo p c)
  |none=>false
 |none=>false
def yn{P:Program}{f:Nat}{p}{t}(h:ZG P f p t=true){fn:Func}{c:Code}(a:P.funcs[f]?=some fn)(d:fn.body=some c):t (mo p c)=true:=by
 unfold ZG at h;rw[a] at h;grind
def Lk:Code->Bool
 |.seq _ _=>true
 |_=>false
def OT(id:Nat):Code->Bool
 |.block i _=>i==id
 |_=>false
def Ll:Code->Bool
 |.loop b=>!(qv b)
 |_=>false
section
variable {P:Program} {G:t9} {aa:t8} {nt:Nat} {A:FuncId->cW} {f:FuncId}
def qku{h0}{b}(L:qv b=false){lin lout}(I:Nat->t7->qa->Prop)(u:Ex->t7->qa->Prop)
 (round:∀n vs h,I n vs h->(∃m aW h',m<n/\Qp P G aa nt h0 b (qJ lin vs h) .normal (qJ lin aW h')/\I m aW h')∨∃e aW h',e≠.normal/\Qp P G aa nt h0 b (qJ lin vs h) e (qJ lout aW h')/\u e aW h')
 {n:Nat} {vs:t7} {h:qa} (B:I n vs h):∃e dM h1,u e dM h1/\Qp P G aa nt h0 (.loop b) (qJ lin vs h) e (qJ lout dM h1):=by
 have key:∀n vs h,I n vs h->∃(N:Nat) (V:Nat->t7) (H:Nat->qa) (e:Ex) (dM:t7) (h1:qa),V 0=vs/\H 0=h/\u e dM h1/\(∀i,i<N->Qp P G aa nt h0 b (qJ lin (V i) (H i)) .normal (qJ lin (V (i+1)) (H (i+1))))/\e≠.normal/\Qp P G aa nt h0 b (qJ lin (V N) (H N)) e (qJ lout dM h1):=by
  intro n
  induction n using Nat.strongRecOn with
  |_ n ih =>
   intro vs h B;rcases round n vs h B with⟨m,aW,h',hm,x,BX⟩|⟨e,aW,h',bh,hl,hp⟩
   .obtain⟨N,V,H,e,dM,h1,S,R,r,O,o⟩:=ih m hm aW h' BX;refine⟨N+1,λi=>match i with|0=>vs|i+1=>V i,λi=>match i with|0=>h|i+1=>H i,e,dM,h1,rfl,rfl,r,λi X=>?_,o⟩;grind
   .exact⟨0,λ_=>vs,λ_=>h,e,aW,h',rfl,rfl,hp,λi X=>ab,bh,hl⟩
 obtain⟨N,V,H,e,dM,h1,S,R,r,O,bh,o⟩:=key n vs h B;refine⟨e,dM,h1,r,?_⟩;subst S R;intro ro U Z C k g0 a0 ww W GF lF Q hn;refine yA (λj a w=>∃i g,i<=N/\j=N-i/\SR G aa nt g (qJ lin (V i) (H i)) a w/\dy C h0 k g (H i) w/\a.defers=a0.defers) (λj a w hJ=>?_) N a0 ww ⟨0,g0,wN _,rfl,lF,GF,rfl⟩;obtain⟨i,g,X,rfl,x,Y,M⟩:=hJ;rcases wu i N with q|q
 .refine O i q ro U (λhh=>Z rx) C k g a w W Y x _ λa' w' D E J s=>?_;exact⟨N-(i+1),ab,i+1,D,ab,rfl,E,J,(s L).trans M⟩
 .obtain rfl:i=N:=by omega
  refine o ro U (λhh=>Z rx) C k g a w W Y x _ λa' w' D E J s=>?_;have d:=hn a' w' D E J (λh=>(s L).trans M);cases e with
  |normal=>grind
  |exit i=>exact d
  |ret=>exact d
def qiw{h0}{c}{id}{s s1}{e e'}(he:e'=match e with|.exit i=>bif i==id then .normal else .exit i|e=>e)(h1:Qp P G aa nt h0 c s e s1):Qp P G aa nt h0 (.block id c) s e' s1:=by
 subst he;intro ro n D g0 k g a w hr x u Q hn;refine wpIn_block (h1 ro n (λh=>D (by simp[qv,h])) g0 k g a w hr x u _ λE j B C o r=>?_);have d:=hn E j B C o λh=>r (by grind[qv]);cases e with
 |normal=>exact d
 |ret=>exact d
 |exit i =>
  grind[Exit.inBlock,Ex.out]
def qkv{h0}{c d}{s s1 s'}{e}(h1:Qp P G aa nt h0 c s .normal s1)(h2:Qp P G aa nt h0 d s1 e s'):Qp P G aa nt h0 (.seq c d) s e s' :=
 λro n j g0 i g a w hr B x Q hn=>wpIn_seq (h1 ro n (λh=>j (by simp[qv,h])) g0 i g a w hr B x _ λJ o E H u L=>h2 ro n (λh=>j (by simp[qv,h])) g0 i E J o hr u H Q λI k D C r M=>hn I k D C r λh=>by simp only[qv,vf] at h;grind)
def qkw{h0}{c d}{s s'}{e}(he:e≠.normal)(h1:Qp P G aa nt h0 c s e s'):Qp P G aa nt h0 (.seq c d) s e s' :=
 λro n D g0 o g a w hr x u Q hn=>wpIn_seq (h1 ro n (λh=>D (by simp[qv,h])) g0 o g a w hr x u _ λE k B C r H=>by
  have j:=hn E k B C r λh=>by simp only[qv,vf] at h;grind
  cases e with
  |normal=>grind
  |exit i=>exact j
  |ret=>exact j)
def qkx{h0}{c}{s}{e}{l}{vs dN}{h h2}(x:Qp P G aa nt h0 c s e (qJ l vs h))(hw:ak G aa nt l h0.length vs h dN h2):Qp P G aa nt h0 c s e (qJ l dN h2) :=
 λro n I g0 i g a w hr C B Q hn=>x ro n I g0 i g a w hr C B Q λj d E H r u=>by
  obtain⟨D,o,k,_⟩:=hw E j d g0 h0 i (wc _) hr r H;exact hn j d D o k u
def Pz(P:Program)(G:t9)(A:FuncId->cW)(f:FuncId)(h0:qa)(p:t8)(l:t8)(vs:t7)(h:qa)(e:Ex)(l':t8)(aW:t7)(h':qa):Prop :=
 ∀fn c,P.funcs[f]?=some fn->fn.body=some c->Qp P G (A f).aa fn.ntmps h0 (mo p c) (qJ l vs h) e (qJ l' aW h')
def Wk(G:t9)(A:FuncId->cW)(f:FuncId)(k:Nat)(l:t8)(vs:t7)(h:qa)(dN:t7)(h2:qa):Prop:=∀nt,ak G (A f).aa nt l k vs h dN h2
variable {h0:qa} {p:t8} {l l1 l2:t8} {vs v1 v2:t7} {h h1 h2:qa} {e:Ex}
def Pz.seq(r:ZG P f p Lk=true)(a:Pz P G A f h0 (1::p) l vs h .normal l1 v1 h1)(b:Pz P G A f h0 (2::p) l1 v1 h1 e l2 v2 h2):Pz P G A f h0 p l vs h e l2 v2 h2:=by
 intro fn c j o;have k:=yn r j o;have g:=a fn c j o;have i:=b fn c j o;simp only[mo,Bk] at g i;revert k g i;generalize mo p c=d;intro k g i;cases d with
 |seq x y=>exact qkv g i
 |_=>cases k
def Pz.OU(o:ZG P f p Lk=true)(he:e≠.normal)(a:Pz P G A f h0 (1::p) l vs h e l1 v1 h1):Pz P G A f h0 p l vs h e l1 v1 h1:=by
 intro fn c j k;have i:=yn o j k;have g:=a fn c j k;simp only[mo,Bk] at g;revert i g;generalize mo p c=d;intro i g;cases d with
 |seq x y=>exact qkw he g
 |_=>cases i
def Pz.dZ{id:Nat}{e':Ex}(r:ZG P f p (OT id)=true)(he:e'=match e with|.exit i=>bif i==id then .normal else .exit i|e=>e)(a:Pz P G A f h0 (0::p) l vs h e l1 v1 h1):Pz P G A f h0 p l vs h e' l1 v1 h1:=by
 intro fn c k o;have g:=yn r k o;have j:=a fn c k o;simp only[mo,Bk] at j;revert g j;generalize mo p c=d;intro g j;cases d with
 |block i x =>
  obtain rfl:i=id:=by simpa [OT] using g
  exact qiw he j
 |_=>cases g
def Pz.post(a:Pz P G A f h0 p l vs h e l1 v1 h1)(w:Wk G A f h0.length l1 v1 h1 v2 h2):Pz P G A f h0 p l vs h e l1 v2 h2 :=
 λfn c d g=>qkx (a fn c d g) (w _)
def Pz.pre(w:Wk G A f h0.length l vs h v1 h1)(a:Pz P G A f h0 p l v1 h1 e l2 v2 h2):Pz P G A f h0 p l vs h e l2 v2 h2 :=
 λfn c d g=>qks (w _) (a fn c d g)
def Pz.only(a:Pz P G A f h0 p l vs h e l1 v1 h1)(o:Za (qJ l1 v1 h1) l2=v2):Pz P G A f h0 p l vs h e l2 v2 h1:=by
 intro fn c s u ro n C g0 i g H w hr D r Q hn;subst o;exact a fn c s u ro n C g0 i g H w hr D r Q λE d x B j k=>hn E d x (B.only l2) j k
def Pz.loop(u:ZG P f p Ll=true)(I:Nat->t7->qa->Prop)(j:Ex->t7->qa->Prop)
 (round:∀n vs h,I n vs h->(∃m aW h',m<n/\Pz P G A f h0 (0::p) l vs h .normal l aW h'/\I m aW h')∨∃e aW h',e≠.normal/\Pz P G A f h0 (0::p) l vs h e l1 aW h'/\j e aW h')
 {n} (r:I n vs h):∃e aW h',j e aW h'/\Pz P G A f h0 p l vs h e l1 aW h':=by
 by_cases M:∃fn c,P.funcs[f]?=some fn/\fn.body=some c
 ·obtain⟨fn,c,g,o⟩:=M;have i:=yn u g o;have key:∃b,mo p c = .loop b/\qv b=false:=by
   revert i;generalize mo p c=d;intro i;cases d with
   |loop b=>exact⟨b,rfl,by simpa [Ll] using i⟩
   |_=>cases i
  obtain⟨b,k,a⟩:=key;have x:mo (0::p) c=b:=by simp only[mo,Bk,k,Li]
  obtain⟨e,O,h1,C,S⟩:=qku (P:=P) (G:=G) (aa:=(A f).aa) (nt:=fn.ntmps) (h0:=h0) a (lin:=l) (lout:=l1) I j (λn vs h r=>by
   rcases round n vs h r with⟨m,aW,h',J,E,R⟩|⟨e,aW,h',Q,L,H⟩
   .exact .inl ⟨m,aW,h',J,x▸E fn c g o,R⟩
   .exact .inr ⟨e,aW,h',Q,x▸L fn c g o,H⟩) r
  refine⟨e,O,h1,C,λN U B a=>?_⟩;rw[g] at B;grind
 .unfold ZG at u;grind
def Pz.count(g:ZG P f p Ll=true)(V:Nat->t7)(H:Nat->qa){n:Nat}(he:e≠.normal)
 (round:∀i,i<n->Pz P G A f h0 (0::p) l (V i) (H i) .normal l (V (i+1)) (H (i+1))) (last:Pz P G A f h0 (0::p) l (V n) (H n) e l1 v1 h1):Pz P G A f h0 p l (V 0) (H 0) e l1 v1 h1:=by
 obtain⟨a,d,h',⟨rfl,rfl,rfl⟩,q⟩:=Pz.loop (P:=P) (G:=G) (A:=A) (f:=f) (h0:=h0) (p:=p) (l:=l) (l1:=l1) g (λm vs h=>∃i,i<=n/\m=n-i/\vs=V i/\h=H i) (λa d h'=>a=e/\d=v1/\h'=h1) (λm vs h j=>by
  obtain⟨i,k,rfl,rfl,rfl⟩:=j;rcases wu i n with q|q
  .exact .inl ⟨n-(i+1),_,_,ab,round i q,i+1,ab,rfl,rfl,rfl⟩
  grind) (n:=n) ⟨0,wN _,rfl,rfl,rfl⟩
 exact q
def Lm(P:Program)(f:Nat):Bool:=match P.funcs[f]? with
 |some fn=>Nat.ble fn.ntmps 1024
 |none=>false
def Pz.run{K:bv}(j:P.follows .mixedOrders=true)(r:aS P G K){m}(d:(QP P f&&Lm P f)=true){g}(o:∀p∈g,ax P G (A f) f p.1 p.2)
 (k:Lh P G A K m f g (mo p) l vs h l1=some (e,v1,h1)):Pz P G A f h0 p l vs h e l1 v1 h1:=by
 intro fn c i a;simp only[wd] at d;have s:fn.ntmps<=1024:=by
  have:=d.2;unfold Lm at this;rw[i] at this;simp_all
 exact qlH (qiu j r i a s d.1 o (mo p) rfl (λb a=>UD p c b a) k)
def Pz.told(hn:QN P=true){args}{fn}(a:P.funcs[f]?=some fn)(j:(Nat.ble fn.ntmps 1024&&Nat.ble args.length fn.ntmps)=true)(o:fn.body.isSome=true)(i:enter args []=qJ l args [])
 (g:Pz P G A f [] [] l args [] .ret l1 v1 h1) {r:T} (k:YX P G (A f).aa fn (qJ l1 v1 h1) (λv=>some (kQ h1 v))=some r):aD P G f args r:=by
 obtain⟨c,d⟩:=vq.1 o;have:=g fn c a d;rw[show mo [] c=c from rfl,←i] at this;exact qkt hn a d j (OQ (s:=enter args []) this) k
end
section
variable {P:Program} {Gl:t9} {A:FuncId->cW}
def qfH(hn:QN P=true){f}{fn}{c}(B:P.funcs[f]?=some fn)(a:fn.body=some c){args:t7}{h:qa}(C:(Nat.ble fn.ntmps 1024&&Nat.ble args.length fn.ntmps)=true){s':St}
 (W:aG P Gl (A f).aa fn.ntmps c (enter args h) .ret s') {r:T} {h':qa} (o:YX P Gl (A f).aa fn s' (λv=>some (v,s'.h))=some (r,h')):aR P Gl f args h r h':=by
 simp only[wd] at C;have bp:=Qr C.1;have bz:=Qr C.2;refine⟨⟨fn,B,by rw[a];rfl,?_⟩,λg w aE hr M Z X=>?_⟩
 .have:=Array.all_eq_true'.1 hn fn (xn B);rw[a] at this;grind
 have V:=SR.enter (Gl:=Gl) (aa:=(A f).aa) (wc _) (hr.hZ w.heap.size) Z X bp bz;rw[←callsIn_wide (n:=0)];refine callsIn_of_wp_marks B a trivial (W none 0 (λ_=>rfl) _ _ w V _ λQ w' j O d _=>?_) rfl;show LeavesInM Fence.wide 0 P fn Q.tmps (λe w'=>∃v,e = .returned v/\ij g h w r h' v w') Q.defers .returning w';obtain⟨pO,l,S,R,H⟩:=O.defers;obtain⟨t1,t2,t3,t4,k⟩:=jP l w';have oX:j.low=w.heap.size:=d.low;have L:∀b,j.U b∨j.own b≠none->b∉l:=by
  grind
 have I:∀b n,room w' b n->room (dA l w') b n:=by
  rintro b n ⟨E,e,h1,h2⟩;refine⟨E,e,?_,h2⟩;rw[k b λJ=>?_]
  .exact h1
  grind
 have N:=O.world (w':=dA l w') (ds:=[]) ab (λb a=>k b (L b a)) I (Marks.nil ab);obtain⟨x,o,v,h1,h2⟩:=YN N o;simp only[wj,wA] at o;obtain⟨rfl,rfl⟩:=o;rw[S];refine Zr l w' R (λD Y=>(H D Y).2.2.2) ⟨v,h1,v,rfl,{ j with own:=λb=>match j.own b with|some (.inl i)=>some (.inl i)|_=>none,low:=g.low },(N.hr.iH).hZ g.low,h2,?_,?_⟩
 .exact d.av.trans ⟨λb a=>⟨a,k b (L b (.inl a))⟩,λi b a=>⟨b,a,wc _,λ_=>⟨rfl,rfl,rfl⟩⟩,I⟩
 .refine⟨by have:=d.size;omega,λb a=>?_,t2.trans d.os,t3.trans d.tape,t4.trans d.output,λb a hn=>?_,?_,d.u,λb a t=>by dsimp only;split<;>simp⟩
  .dsimp only;rw[d.own b a];dsimp only;cases s:g.own b with
   |none=>rfl
   |some q =>
    cases q with
    |inl i=>rfl
    |inr t=>exact absurd s (M b t)
  .rw[k b λJ=>by have:=(H b J).1;omega];refine d.same b a ?_;dsimp only;cases s:g.own b with
   |none=>rfl
   |some q =>
    cases q with
    |inl i=>grind
    |inr t=>exact absurd s (M b t)
  .have:=d.base;simp only[Gh.bs,this]
def Pz.fG(hn:QN P=true){f}{args}{h}{fn}(a:P.funcs[f]?=some fn)(j:(Nat.ble fn.ntmps 1024&&Nat.ble args.length fn.ntmps)=true)(o:fn.body.isSome=true){l l1:t8}{v1:t7}{h1:qa}(i:enter args h=qJ l args h)
 (g:Pz P Gl A f h [] l args h .ret l1 v1 h1) {r:T} {h':qa} (k:YX P Gl (A f).aa fn (qJ l1 v1 h1) (λv=>some (v,h1))=some (r,h')):aR P Gl f args h r h':=by
 obtain⟨c,d⟩:=vq.1 o;have:=g fn c a d;rw[show mo [] c=c from rfl,←i] at this;exact qfH (A:=A) hn a d j (OQ (s:=enter args h) this) k
end
section
variable{P:Program}{G:t9}{A:FuncId->cW}{f:FuncId}{h0:qa}{p l l1 l2:t8}{vs v1 v2:t7}{h h1 h2:qa}{e:Ex}
def ao(a:Pz P G A f h0 (1::p) l vs h .normal l1 v1 h1)(b:Pz P G A f h0 (2::p) l1 v1 h1 e l2 v2 h2)(d:ZG P f p Lk=true:=by kernel_rfl):Pz P G A f h0 p l vs h e l2 v2 h2:=Pz.seq d a b
def ed(a:Pz P G A f h0 (1::p) l vs h e l1 v1 h1)(d:ZG P f p Lk=true:=by kernel_rfl)(he:e≠.normal:=by intro h;cases h):Pz P G A f h0 p l vs h e l1 v1 h1:=Pz.OU d he a
def exB(id:Nat):Ex->Ex|.exit i=>bif i==id then .normal else .exit i|e=>e
def cO{e' e:Ex}(id)(a:Pz P G A f h0 (0::p) l vs h e l1 v1 h1)(d:ZG P f p (OT id)=true:=by kernel_rfl)(he:e'=exB id e:=by exact rfl):Pz P G A f h0 p l vs h e' l1 v1 h1:=Pz.dZ d (he.trans (by cases e<;>rfl)) a
end
section
variable {P:Program} {Gl:t9} {A:FuncId->cW}
def qd3(hn:QN P=true){f:FuncId}{fn:Func}{c:Code}(B:P.funcs[f]?=some fn)(a:fn.body=some c){args:t7}{h:qa}(C:(Nat.ble fn.ntmps 1024&&Nat.ble args.length fn.ntmps)=true){s':St}
 (Y:aG P Gl (A f).aa fn.ntmps c (enter args h) .normal s') {r:T} {h':qa} (o:YX P Gl (A f).aa fn s' (λv=>some (v,s'.h))=some (r,h')):aR P Gl f args h r h':=by
 simp only[wd] at C;have bp:=Qr C.1;have bz:=Qr C.2;refine⟨⟨fn,B,by rw[a];rfl,?_⟩,λg w aE hr O di Z=>?_⟩
 .have:=Array.all_eq_true'.1 hn fn (xn B);rw[a] at this;grind
 have X:=SR.enter (Gl:=Gl) (aa:=(A f).aa) (wc _) (hr.hZ w.heap.size) di Z bp bz;rw[←callsIn_wide (n:=0)];refine callsIn_of_wp_marks B a trivial (Y none 0 (λ_=>rfl) _ _ w X _ λS w' j R d _=>?_) rfl;show LeavesInM Fence.wide 0 P fn S.tmps (λe w'=>∃v,e = .returned v/\ij g h w r h' v w') S.defers .returning w';obtain⟨pO,l,W,V,J⟩:=R.defers;obtain⟨t1,t2,t3,t4,k⟩:=jP l w';have oX:j.low=w.heap.size:=d.low;have N:∀b,j.U b∨j.own b≠none->b∉l:=by
  grind
 have L:∀b n,room w' b n->room (dA l w') b n:=by
  rintro b n ⟨I,e,H,E⟩;refine⟨I,e,?_,E⟩;rw[k b λM=>?_]
  .exact H
  grind
 have Q:=R.world (w':=dA l w') (ds:=[]) ab (λb a=>k b (N b a)) L (Marks.nil ab);obtain⟨x,o,v,H,E⟩:=YN Q o;simp only[wj,wA] at o;obtain⟨rfl,rfl⟩:=o;rw[W];refine Zr l w' V (λD hD=>(J D hD).2.2.2) ⟨v,H,v,rfl,{ j with own:=λb=>match j.own b with|some (.inl i)=>some (.inl i)|_=>none,low:=g.low },(Q.hr.iH).hZ g.low,E,?_,?_⟩
 .exact d.av.trans ⟨λb a=>⟨a,k b (N b (.inl a))⟩,λi b a=>⟨b,a,wc _,λ_=>⟨rfl,rfl,rfl⟩⟩,L⟩
 .refine⟨by have:=d.size;omega,λb a=>?_,t2.trans d.os,t3.trans d.tape,t4.trans d.output,λb a hn=>?_,?_,d.u,λb a t=>by dsimp only;split<;>simp⟩
  .dsimp only;rw[d.own b a];dsimp only;cases s:g.own b with
   |none=>rfl
   |some q =>
    cases q with
    |inl i=>rfl
    |inr t=>exact absurd s (O b t)
  .rw[k b λM=>by have:=(J b M).1;omega];refine d.same b a ?_;dsimp only;cases s:g.own b with
   |none=>rfl
   |some q =>
    cases q with
    |inl i=>grind
    |inr t=>exact absurd s (O b t)
  .have:=d.base;simp only[Gh.bs,this]
def Pz.rM(hn:QN P=true){f:Nat}{args:t7}{h:qa}{fn:Func}(a:P.funcs[f]?=some fn)(i:(Nat.ble fn.ntmps 1024&&Nat.ble args.length fn.ntmps)=true)(k:fn.body.isSome=true){l l1:t8}{v1:t7}{h1:qa}(g:enter args h=qJ l args h)
 (e:Pz P Gl A f h [] l args h .normal l1 v1 h1) {r:T} {h':qa} (j:YX P Gl (A f).aa fn (qJ l1 v1 h1) (λv=>some (v,h1))=some (r,h')):aR P Gl f args h r h':=by
 obtain⟨c,d⟩:=vq.1 k;have:=e fn c a d;rw[show mo [] c=c from rfl,←g] at this;exact qd3 (A:=A) hn a d i (OQ (s:=enter args h) this) j
end
def Ln(t:Nat):Code->Bool
 |.cond (.tmp u) _ _=>u==t
 |_=>false
section
variable {P:Program} {G:t9} {A:FuncId->cW} {f:FuncId}
variable {h0:qa} {p:t8} {l l1:t8} {vs v1:t7} {h h1:qa} {e:Ex}
def qix{aa:t8}{nt:Nat}{h0:qa}{c:Operand}{x y:Code}{s s':St}{e:Ex}(r:Ab.ev G aa s c = .bool true)(h1:Qp P G aa nt h0 x s e s'):Qp P G aa nt h0 (.cond c x y) s e s':=by
 intro ro n C g0 j g a w hr o d Q hn;have:=d.ev c;rw[r] at this;exact wpIn_cond_true this.bool (h1 ro n (λh=>C (by simp[qv,h])) g0 j g a w hr o d Q λD i u B k E=>hn D i u B k λh=>by simp only[qv,vf] at h;grind)
def qiy{aa:t8}{nt:Nat}{h0:qa}{c:Operand}{x y:Code}{s s':St}{e:Ex}(r:Ab.ev G aa s c = .bool false)(h1:Qp P G aa nt h0 y s e s'):Qp P G aa nt h0 (.cond c x y) s e s':=by
 intro ro n C g0 j g a w hr o d Q hn;have:=d.ev c;rw[r] at this;exact wpIn_cond_false this.bool (h1 ro n (λh=>C (by simp[qv,h])) g0 j g a w hr o d Q λD i u B k E=>hn D i u B k λh=>by simp only[qv,vf] at h;grind)
def Pz.im(t:Nat)(s:ZG P f p (Ln t)=true)(r:Ab.ev G (A f).aa (qJ l vs h) (.tmp t) = .bool true)(a:Pz P G A f h0 (3::p) l vs h e l1 v1 h1):Pz P G A f h0 p l vs h e l1 v1 h1:=by
 intro fn c j k;have g:=yn s j k;have i:=a fn c j k;simp only[mo,Bk] at i;revert g i;generalize mo p c=d;intro g i;cases d with
 |cond o x y =>
  cases o with
  |tmp u =>
   obtain rfl:u=t:=by simpa [Ln] using g
   exact qix r i
  |_=>cases g
 |_=>cases g
def Pz.fU(t:Nat)(s:ZG P f p (Ln t)=true)(r:Ab.ev G (A f).aa (qJ l vs h) (.tmp t) = .bool false)(a:Pz P G A f h0 (4::p) l vs h e l1 v1 h1):Pz P G A f h0 p l vs h e l1 v1 h1:=by
 intro fn c j k;have g:=yn s j k;have i:=a fn c j k;simp only[mo,Bk] at i;revert g i;generalize mo p c=d;intro g i;cases d with
 |cond o x y =>
  cases o with
  |tmp u =>
   obtain rfl:u=t:=by simpa [Ln] using g
   exact qiy r i
  |_=>cases g
 |_=>cases g
end
variable {P:Program} {G:t9} {A:FuncId->cW} {f:FuncId} {h0:qa} {p:t8} {l l1 l2:t8} {vs v1 v2:t7} {h h1:qa} {e:Ex}
def Pz.drop(i:Za (qJ l vs h) l2=v2)(a:Pz P G A f h0 p l2 v2 h e l1 v1 h1):Pz P G A f h0 p l vs h e l1 v1 h1:=by
 intro fn c k o ro n r g0 d g u w hr s j Q hn;subst i;exact a fn c k o ro n r g0 d g u w hr s (j.only l2) Q hn
inductive lv:t7->t7->Prop
 |nil:lv [] []
 |cons {x y:T} {l m:t7} (h:nQ x y) (t:lv l m):lv (x::l) (y::m)
def lv.refl:∀l,lv l l
 |[]=>.nil
 |x::l=>.cons (.refl x) (.refl l)
def lv.len{l m:t7}(h:lv l m):l.length=m.length:=by
 induction h with
 |nil=>rfl
 |cons _ _ a=>simp[a]
def lv.get{l m:t7}(h:lv l m):∀(i:Nat) x y,l[i]?=some x->m[i]?=some y->nQ x y:=by
 induction h with
 |nil=>grind
 |cons h _ a =>
  grind
def ak.sl{Gl:t9}{aa:t8}{nt:Nat}{l:t8}{k:Nat}{vs dN:t7}{h h2:qa}(a:lv vs dN)(d:bg h h2):ak Gl aa nt l k vs h dN h2:=.nR a.len a.get d
def bg.refl(h:qa):bg h h:=⟨rfl,λi b e d a=>by
 obtain rfl:=we (d.symm.trans a);exact⟨rfl,rfl,rfl,rfl,.inl,λ_ _=>.refl _,λ_ _ _=>rfl⟩⟩
def nQ.eZ(sz:Nat)(g:Nat->t7){cap:Option Nat}(a:cap=none∨cap=some 0):nQ .ae (.view sz 0 g cap):=.inl (.inr ⟨rfl,.eZ sz g a,rfl⟩)
inductive iL(H:qa)(lo:Nat):t7->t7->Prop
 |nil:iL H lo [] []
 |cons {x y:T} {l m:t7} (h:oe H lo x y) (t:iL H lo l m):iL H lo (x::l) (y::m)
def iL.len{H:qa}{a:Nat}{l m:t7}(h:iL H a l m):l.length=m.length:=by
 induction h with
 |nil=>rfl
 |cons _ _ d=>simp[d]
def iL.get{H:qa}{a:Nat}{l m:t7}(h:iL H a l m):∀(i:Nat) x y,l[i]?=some x->m[i]?=some y->oe H a x y:=by
 induction h with
 |nil=>grind
 |cons h _ d =>
  grind
def ak.gh{Gl:t9}{aa:t8}{nt:Nat}{l:t8}{k:Nat}{vs dN:t7}{h h2:qa}(bs:qa)(e:∀b,b∈bs->b.n=0/\b.mp=none)(a:iL h2 h.length vs dN)(d:cT h2 h.length (h++bs) h2):ak Gl aa nt l k vs h dN h2:=.CY bs e a.len a.get d
def lv.rg{x:T}{l m:List T}(h:lv l m):lv (x::l) (x::m):=.cons (.refl _) h
def iL.rg{H:qa}{a:Nat}{x:T}{l m:List T}(h:iL H a l m):iL H a (x::l) (x::m):=.cons (.refl _) h
def rR(h:qa)(x y:T):Prop:=x=y∨∃i aj a n m,(∀b,h[i]?=some b->b.n<=a+m)/\x = .own i aj a n (some m)/\y = .own i aj a n none
def rR.refl{h:qa}(x:T):rR h x x:=.inl rfl
def rR.own{h:qa}{i aj off n m:Nat}{b:ap}(d:h[i]?=some b)(e:b.n<=off+m):rR h (.own i aj off n (some m)) (.own i aj off n none):=.inr ⟨i,aj,off,n,m,λc a=>by rw[d] at a;grind,rfl,rfl⟩
def VR.Pb{w:World}{U:Nat->Prop}{φ:Nat->Option (Nat×Nat)}{h:qa}{x y:T}{v:Value}(A:rR h x y)(hx:VR w U φ h x v):VR w U φ h y v:=by
 rcases A with rfl|⟨i,aj,s,n,c,a,rfl,rfl⟩
 .exact hx
 .cases hx with
  |aF _ _ u=>cases u
  |own _ _ _ _ _ b _ o D B C =>
   refine .own _ _ _ _ _ b _ o D B λe=>?_;rcases C e with q|q
   .obtain⟨cb,r,c,ad,j,g,f,d,k,q6,q7,q8,_⟩:=q;exact .inl ⟨cb,r,c,ad,j,g,f,d,k,λm a=>(by cases a),q7,q8,λ_=>by have:=a b o;have:=(q6 _ rfl).1;omega⟩
   .obtain⟨j,g,f,d,k,q6⟩:=q;exact .inr ⟨j,g,f,d,λm a=>(by cases a),q6⟩
inductive mX(H:qa):t7->t7->Prop
 |nil:mX H [] []
 |cons {x y:T} {l m:t7} (h:rR H x y) (t:mX H l m):mX H (x::l) (y::m)
def mX.len{H:qa}{l m:t7}(h:mX H l m):l.length=m.length:=by
 induction h with
 |nil=>rfl
 |cons _ _ a=>simp[a]
def mX.get{H:qa}{l m:t7}(h:mX H l m):∀(i:Nat) x y,l[i]?=some x->m[i]?=some y->rR H x y:=by
 induction h with
 |nil=>grind
 |cons h _ a =>
  grind
def ak.cap{Gl:t9}{aa:t8}{nt:Nat}{l:t8}{k:Nat}{vs dN:t7}{h:qa}(j:mX h vs dN):ak Gl aa nt l k vs h dN h:=by
 intro g a w g0 B A _ _ s f;have r:∀t,rR h ((qJ l vs h).at t) ((qJ l dN h).at t):=by
  intro t;unfold St.at
  cases i:Nat.blt t 1024 with
  |false=>exact .refl _
  |true =>
   simp only[wp];exact Ka l vs dN .nil .nil j.len j.get (λ_ _=>.refl _) t (Qe i)
 refine⟨g,⟨f.hr,f.defers,f.size,f.nt,λt i=>VR.Pb (r t) (f.tmps t i),λt i cells u=>?_,λd t o h=>(by cases h),f.eQ,λd t o h=>(by cases h)⟩,s,.refl g⟩;have x:(qJ l vs h).at t = .ag cells:=by
  rcases r t with e|⟨_,_,_,_,_,_,_,e⟩
  .rw[e];exact u
  grind
 exact f.eW t i cells x
def mX.rg{H:qa}{x:T}{l m:List T}(h:mX H l m):mX H (x::l) (x::m):=.cons (.refl _) h
def LJ:T->T
 |.new x=>x
 |x=>x
def iH:T->T
 |.agg l=>.agg (l.map LJ)
 |x=>LJ x
def Vi(x:T):b8 x (LJ x):=by cases x<;>first|exact .sO _|exact .refl _
def Vj:∀l:t7,fS l (l.map LJ)
 |[]=>.nil
 |x::l=>.cons (Vi x) (Vj l)
def aD.iH{P:Program}{Gl:t9}{f:FuncId}{args:t7}{r:T}(t:aD P Gl f args r):aD P Gl f args (Ab.iH r):=by
 cases r with
 |agg l=>exact t.Az (Vj l)
 |_=>exact t.ma (Vi _)
def LK(o:Option T):o.bind some=o:=by cases o<;>rfl
def Bu(o:Oper):Bool:=o.guard.isNone&&match o.op with
 |.move _|.assign _|.slice ..=>true
 |.call { callee:=.builtin .len,.. }=>true
 |_=>false
def jA:Code->Bool
 |.skip=>true
 |.region _ ops _=>ops.toList.all Bu
 |.seq a b=>jA a&&jA b
 |.cond _ a b=>jA a&&jA b
 |.ret=>true
 |_=>false
section
variable {P:Program} {Gl:t9} {K:bv} {R:Type} {aa:t8} {nt:Nat} {live:Nat->Bool->t8}
def jR{len gm}{cap}{f g e}{k}{r:R}(h:Yt len gm cap f g e k=some r):∃a b c,k a b c=some r:=by
 have j:∀{x:Option T} {d:Int} {k:Int->Option R} {r:R},Kk x d k=some r->∃i,k i=some r:=by
  intro x d k r h;unfold Kk at h;split at h
  all_goals first|exact⟨_,h⟩|cases h
 unfold Yt at h;grind
def Vk{h}{i aj}{k}{r:R}(a:Qf h i aj k=some r):∃b,k b=some r:=by
 obtain⟨b,_,_,_,h⟩:=Y8 a;grind
def qg1{t:TypeId}{x:T}{f g e:Option T}{h}{k}{r:R}(d:zm P t x f g e h k=some r):∃v,k v h false=some r:=by
 unfold zm at d;split at d
 .split at d
  .obtain⟨a,b,c,q⟩:=jR (qo d).2;exact⟨_,q⟩
  .cases d
 .split at d
  .obtain⟨a,b,c,q⟩:=jR (qo d).2;exact⟨_,q⟩
  .cases d
 .split at d
  .obtain⟨a,b,c,q⟩:=jR (qo d).2;exact⟨_,(qo q).2⟩
  .cases d
 .split at d
  .obtain⟨b,q⟩:=Vk d;obtain⟨a,b,c,q⟩:=jR (qo q).2;exact⟨_,q⟩
  .cases d
 grind
def qkK{t}{x:T}{h}{k}{r:R}(a:Jz P t x h k=some r):∃v,k v h false=some r:=by
 unfold Jz at a;split at a
 .exact⟨_,(qo a).2⟩
 .exact⟨_,(qo a).2⟩
 .exact⟨_,(qo a).2⟩
 .obtain⟨b,q⟩:=Vk (qo a).2;exact⟨_,q⟩
 .split at a
  .exact⟨_,a⟩
  .cases a
 grind
def Vl{o:Oper}(f:Bu o=true){e:Operand->T}{h}{k}{r:R}(a:Qh P K o.op e h k=some r):∃v,k v h false=some r:=by
 unfold Bu at f;simp only[wd] at f;obtain⟨_,f⟩:=f;split at f
 .rename_i d;rw[d] at a;exact⟨_,a⟩
 .rename_i d;rw[d] at a;exact⟨_,a⟩
 .rename_i d;rw[d] at a;exact qg1 a
 .rename_i d;rw[d] at a;simp only[Qh,Zc] at a;split at a
  all_goals first|exact qkK a|cases a|skip
  all_goals simp_all
 grind
def qkL{A}{v:T}{k}{r:A}(a:EE v k=some r):∃v,k v=some r:=by
 rw[zE] at a;grind
def Vm{o}{s}{v:T}{rs}{rd wr}{k}{r:R}(a:done nt o s v none rs rd wr k=some r):∃f d,f.heap=none/\k f d=some r:=by
 unfold done at a;split at a
 .grind
 .obtain⟨v,q⟩:=qkL (qo a).2;grind
def Ye{o:Oper}(d:Bu o=true){s:St}{k}{r:R}(a:Qi P K Gl aa nt o s k=some r):∃f e,f.heap=none/\k f e=some r:=by
 rcases qw a with⟨_,a⟩|⟨_,a⟩
 .obtain⟨v,q⟩:=Vl d a;exact Vm q
 .obtain⟨v,q⟩:=Vl d a;obtain⟨f,e,i,g⟩:=Vm q;grind
def qkM{o}(e:Bu o=true){s}{k}{r:R}(a:zZ P K Gl aa nt o s k=some r):∃f i,f.heap=none/\k f i=some r:=by
 have g:=e;unfold Bu at e;simp only[wd] at e;obtain⟨_,e⟩:=e;unfold zZ at a;split at e
 .rename_i d;rw[d] at a;exact Ye g a
 .rename_i d;rw[d] at a;exact Ye g a
 .rename_i d;rw[d] at a;exact Ye g a
 .rename_i d;rw[d] at a;exact Ye g a
 grind
def qiE{ops}{o}(d:Bu o=true){s}{k:dJ->FP->Option R}{r:R}(a:zw P K Gl aa nt ops o s k=some r):∃f g,f.heap=none/\k f g=some r:=by
 have e:o.guard=none:=by
  unfold Bu at d;simp_all
 unfold zw at a;rw[e] at a;dsimp only at a;rcases qw a with⟨hz,a⟩|⟨_,a⟩
 .unfold Bu at d;unfold Zl at a;grind
 .exact qkM d a
def Vn{ops}:∀{l:List Oper} {s:St} {k:St->List FP->Option R} {r:R},l.all Bu=true->y5 P K Gl aa nt ops l s k=some r->∃s' fH,s'.h=s.h/\k s' fH=some r
 |[],s,k,r,_,a=>⟨s,[],rfl,a⟩
 |o::l,s,k,r,d,a=>by
  simp only[xS,wd] at d;simp only[y5] at a;obtain⟨f,u,j,i⟩:=qiE d.1 a;obtain⟨s',fH,g,e⟩:=Vn d.2 i;refine⟨s',u::fH,?_,e⟩;rw[g];show f.heap.getD s.h=s.h;rw[j];rfl
def GY{rec}:∀{c:Code} {s:St} {k:Ex->St->Option R} {r:R},jA c=true->ic P K Gl aa nt live rec c s k=some r->∃e s',s'.h=s.h/\k e s'=some r
 |.skip,s,k,r,_,d=>⟨_,s,rfl,d⟩
 |.ret,s,k,r,_,d=>⟨_,s,rfl,d⟩
 |.region id ops j,s,k,r,f,d=>by
  simp only[ic] at d;obtain⟨s',B,o,g⟩:=Vn f d;grind
 |.seq a b,s,k,r,f,d=>by
  simp only[jA,wd] at f;obtain⟨e,s',o,g⟩:=GY f.1 d;cases e with
  |normal =>
   obtain⟨e,u,A,x⟩:=GY f.2 g;grind
  |exit i=>grind
  |ret=>grind
 |.cond c a b,s,k,r,f,d=>by
  simp only[jA,wd] at f;simp only[ic] at d;split at d
  .rcases qw d with⟨_,d⟩|⟨_,d⟩
   .exact GY f.1 d
   .exact GY f.2 d
  grind
def Pk(P:Program)(f:FuncId):Bool:=match P.funcs[f]? with
 |some fn=>match fn.body with|some c=>jA c|none=>false
 |none=>false
def qnY{fn}{e}{s}{k}{r:R}(a:IG P Gl aa fn e s k=some r):∃v,k v s.h=some r:=by
 have all:∀(l:List ResultVar) {k:t7->Option R} {r:R},jd P Gl aa s l k=some r->∃d,k d=some r:=by
  intro l
  induction l with
  |nil=>intro k r h;exact⟨_,h⟩
  |cons x l f =>
   intro k r h;obtain⟨v,g,_⟩:=qM (SE P Gl aa s x) h;grind
 unfold IG at a;split at a
 .cases a
 .unfold YX at a;grind
def qnZ{A}{rec}{f}(d:Pk P f=true){args:t7}{h:qa}{r:T}{h':qa}(a:jf P Gl A K rec f args h (λv h=>some (v,h))=some (r,h')):h'=h:=by
 unfold Pk at d;unfold jf at a;split at a
 .split at a
  .rename_i fn g _ c j;rw[g] at d;dsimp only at d;rw[j] at d;dsimp only at d;unfold FW at a;obtain⟨e,s,o,k⟩:=GY d (qo a).2;obtain⟨v,i⟩:=qnY k;simp only[wj,wA] at i;rw[←i.2,o];rfl
  .cases a
 grind
end
def JO(P:Program)(Gl:t9)(sq:FuncId->t7->Option (List t7)):Prop:=∀a d l,sq a d=some l->nr P Gl a d l.length (λi=>l.getD i [])
section
variable (P:Program) (K:bv) (G:t9) (aa:t8) (nt:Nat) (live:Nat->Bool->t8)
def KE{R:Type}(rec:Rec)(lin ps:t8)(vs:t7)(ia ib:Code):List t7->qa->(Ex->qa->Option R)->Option R
 |[],h,k=>k .normal h
 |xs::l,h,k=>ic P K G aa nt live rec ia (qJ (lin++ps) (vs++xs) h) λe s=>match e with
  |.normal=>ic P K G aa nt live rec ib s λe a=>match e with
   |.normal=>KE rec lin ps vs ia ib l a.h k
   |e=>k e a.h
  |_=>none
def jC(sq:FuncId->t7->Option (List t7))(m:Nat):Rec:=λR b g h k=>match b with
 |.rangeFunc (.tmp t) a f d =>
  bif a.toList.all (λt=>Nat.blt t nt)&&!(qv f)&&!(qv d)&&(live (qD (.rangeFunc (.tmp t) a f d)) false).all (λt=>!(aa.contains t))&&!(aa.contains t)&&Nat.beq (live (qD (.rangeFunc (.tmp t) a f d)) false).length g.length then
   match (qJ (live (qD (.rangeFunc (.tmp t) a f d)) false) g h).at t with
   |.fn j i=>bif i.all zV then match sq j i with
    |some l=>bif l.all (λxs=>Nat.beq xs.length a.toList.length) then
     KE P K G aa nt live (kT P K G aa nt live m) (live (qD (.rangeFunc (.tmp t) a f d)) false) a.toList g f d l h λe h' =>
      k e (Za (qJ (live (qD (.rangeFunc (.tmp t) a f d)) false) g h) (live (qD (.rangeFunc (.tmp t) a f d)) true)) h'
     else none
    |none=>none
    else none
   |_=>none
  else none
 |b=>kT P K G aa nt live m R b g h k
def jD{rec}(a:ZW rec)(lin ps)(vs)(ia ib):∀(l:List t7) (h:qa),cZ λR k=>KE P K G aa nt live rec lin ps vs ia ib l h λe h=>k (e,h)
 |[],h=>qp (_,_)
 |xs::l,h=>by
  simp only[KE];refine zz (ZX P K G aa nt live a ia _) λe s=>?_;cases e with
  |normal =>
   refine zz (ZX P K G aa nt live a ib _) λe d=>?_;cases e with
   |normal=>exact jD a lin ps vs ia ib l d.h
   |exit i=>exact qp (_,_)
   |ret=>exact qp (_,_)
  |exit i=>exact qk
  |ret=>exact qk
def Vo(sq:FuncId->t7->Option (List t7))(m):ZW (jC P K G aa nt live sq m):=λb a h=>by
 unfold jC;split
 .refine qy _ ?_;split
  .refine qy _ ?_;split
   .exact qy _ (zz (jD P K G aa nt live (ZK P K G aa nt live m) _ _ a _ _ _ h) λe h'=>qp (_,_,_))
   .exact qk
  .exact qk
 .exact ZK P K G aa nt live m _ a h
end
section
variable {P:Program} {K:bv} {Gl:t9} {aa:t8} {nt:Nat} {live:Nat->Bool->t8}
def Vp(f:P.follows .mixedOrders=true)(g:aS P Gl K)(k:nt<=1024){rec}(j:ll P Gl aa nt live (λ_=>True) rec){lin ps}{vs}{ia ib}{e1}{h1} :
 ∀{l:List t7} {h:qa},KE P K Gl aa nt live rec lin ps vs ia ib l h (λe h=>some (e,h))=some (e1,h1) →
 ∃(st:Nat->qa) (n:Nat),st 0=h/\n<=l.length ∧
  (∀i,i<n->∃s1 s2,aG P Gl aa nt ia (qJ (lin++ps) (vs++l.getD i []) (st i)) .normal s1/\aG P Gl aa nt ib s1 .normal s2/\s2.h=st (i+1)) ∧
  ((n=l.length/\e1 = .normal/\h1=st l.length)∨(n<l.length/\e1≠.normal/\∃s1 s2,aG P Gl aa nt ia (qJ (lin++ps) (vs++l.getD n []) (st n)) .normal s1/\aG P Gl aa nt ib s1 e1 s2/\s2.h=h1))
 |[],h,a=>by
  simp only[KE,wj,wA] at a;exact⟨λ_=>h,0,rfl,wc _,λi o=>ab,.inl ⟨rfl,a.1.symm,a.2.symm⟩⟩
 |xs::l,h,a=>by
  simp only[KE] at a;obtain⟨e,s1,a,s⟩:=zf f g k j ia (λ_ _=>trivial) a;cases e with
  |normal =>
   dsimp only at a;obtain⟨e,s2,a,r⟩:=zf f g k j ib (λ_ _=>trivial) a
   have out:∀d,e=d->d≠.normal->some (d,s2.h)=some (e1,h1)->∃(st:Nat->qa) (n:Nat),st 0=h/\n<=(xs::l).length ∧
    (∀i,i<n->∃s1 s2,aG P Gl aa nt ia (qJ (lin++ps) (vs++(xs::l).getD i []) (st i)) .normal s1/\aG P Gl aa nt ib s1 .normal s2/\s2.h=st (i+1)) ∧
    ((n=(xs::l).length/\e1 = .normal/\h1=st (xs::l).length)∨(n<(xs::l).length/\e1≠.normal/\∃s1 s2,aG P Gl aa nt ia (qJ (lin++ps) (vs++(xs::l).getD n []) (st n)) .normal s1/\aG P Gl aa nt ib s1 e1 s2/\s2.h=h1)):=by
    intro d he C a;simp only[wj,wA] at a;obtain⟨rfl,rfl⟩:=a;subst he;exact⟨λ_=>h,0,rfl,aq,λi o=>ab,.inr ⟨aq,C,s1,s2,s,r,rfl⟩⟩
   cases e with
   |normal =>
    obtain⟨st,n,B,x,u,D⟩:=Vp f g k j a;refine⟨λi=>match i with|0=>h|i+1=>st i,n+1,rfl,by simpa using x,λi o=>?_,?_⟩
    .cases i with
     |zero=>exact⟨s1,s2,s,r,B.symm⟩
     |succ i=>exact u i ab
    grind
   |exit i=>exact out _ rfl aq a
   |ret=>exact out _ rfl aq a
  |exit i=>cases a
  |ret=>cases a
def jS(o:P.follows .mixedOrders=true)(D:aS P Gl K)(J:nt<=1024){sq}(R:JO P Gl sq)(m):ll P Gl aa nt live (λ_=>True) (jC P K Gl aa nt live sq m):=by
 refine⟨Vo P K Gl aa nt live sq m,λb s h e aW h' _ d=>?_⟩;unfold jC at d;split at d
 .rename_i t f j g _;obtain⟨L,d⟩:=qo d;simp only[wd,wR,wD] at L;obtain⟨⟨⟨⟨⟨a1,a2⟩,a3⟩,a4⟩,a5⟩,a6⟩:=L;split at d
  .rename_i gf aH eF;obtain⟨Oo,d⟩:=qo d;split at d
   ·rename_i l hl;obtain⟨O,d⟩:=qo d;obtain⟨⟨N,M⟩,d,aZ⟩:=qM (jD P K Gl aa nt live (ZK P K Gl aa nt live m) _ _ s _ _ _ h) (k:=λp=>some (p.1,Za (qJ (live (qD (.rangeFunc (.tmp t) f j g)) false) s h) (live (qD (.rangeFunc (.tmp t) f j g)) true),p.2)) d;simp only[wj,wA] at d;obtain⟨rfl,rfl,rfl⟩:=d;obtain⟨st,n,W,V,U,S⟩:=Vp o D J (I7 o D J m) (aZ _ some);subst W;have ik:=qim (aa:=aa) (nt:=nt) (psa:=f) (ia:=j) (ib:=g) (ps:=f.toList) o (xN a6) (λt C=>by simpa using a4 t C) (by simpa using a5) rfl (λt C=>Qe (a1 t C)) a2 a3 Oo (R gf aH l hl)
     (λi r=>by
      have:=wD.1 O (l.getD i []) (by rw[wg,wi r];exact xI r);exact(xN this).symm) st eF V (e1:=N) (h1:=M)
     (λi r=>by
      obtain⟨s1,u,I,H,E⟩:=U i r;exact⟨s1,u,I,H,E▸ak.refl _ _⟩)
     (by
      rcases S with⟨B,x,X⟩|⟨B,x,s1,u,I,H,E⟩
      .exact .inl ⟨B,x,X⟩
      .exact .inr ⟨B,x,s1,u,I,H,E▸ak.refl _ _⟩)
    rw[show yc (.rangeFunc (.tmp t) f j g) = .rangeFunc (.tmp t) f j g from rfl];intro ro Y cV g0 a w hs Q hQ;exact ik ro Y cV g0 a w hs Q λa' w' g' dE bT Z=>hQ a' w' g' (dE.only _) bT Z
   .cases d
  grind
 .exact(I7 o D J m).2 b s h e aW h' trivial d
end
section
variable (P:Program) (G:t9) (A:FuncId->cW) (sq:FuncId->t7->Option (List t7))
def LL(K:bv)(m:Nat)(f:FuncId)(fn:Func):Rec:=jC P K G (A f).aa fn.ntmps (A f).live sq m
def Vq(K:bv)(m:Nat)(f:FuncId)(args:t7):Option T:=jf P G A K (LL P G A sq K m f) f args [] λv h'=>some (kQ h' v)
end
section
variable {P:Program} {G:t9} {A:FuncId->cW} {sq:FuncId->t7->Option (List t7)}
def Vr(K:bv)(m)(f)(fn):ZW (LL P G A sq K m f fn):=Vo _ _ _ _ _ _ _ _
def Vs(d:P.follows .mixedOrders=true){K}(e:aS P G K)(a:JO P G sq)(m:Nat)(f:FuncId):ES P G A f (LL P G A sq K m f):=λ_ _ _ _ g=>(jS d e g a m).mono
def qiF(a:P.follows .mixedOrders=true)(hn:QN P=true){K:bv}(d:aS P G K)(e:JO P G sq){m}{f}{args}{r:T}(h:Vq P G A sq K m f args=some r):aD P G f args r :=
 ⟨ZN hn h,λ_ _ _ g i j=>N1 a d (Vr K m f) (Vs a d e m f) h g i j⟩
end
section
variable {P:Program} {G:t9} {A:FuncId->cW} {f:Nat} {h0:qa} {p l l1 l2:t8} {v1 v2:t7} {h1:qa} {e:Ex}
def Pz.scan(s:ZG P f p Ll=true)(V:Nat->t7)(H:Nat->qa)(g:Nat->Bool){n:Nat}(h2:Nat->qa)(he:e≠.normal)
 (cC:∀i,i<n->(∀j,j<i->g j=true)->g i=true->Pz P G A f h0 (0::p) l (V i) (H i) .normal l (V (i+1)) (H (i+1)))
 (r:∀i,i<n->(∀j,j<i->g j=true)->g i=false->Pz P G A f h0 (0::p) l (V i) (H i) .ret l2 v2 (h2 i))
 (last:(∀j,j<n->g j=true)->Pz P G A f h0 (0::p) l (V n) (H n) e l1 v1 h1) :
 (qL g n=true/\Pz P G A f h0 p l (V 0) (H 0) e l1 v1 h1)∨(qL g n=false/\∃i,i<n/\Pz P G A f h0 p l (V 0) (H 0) .ret l2 v2 (h2 i)):=by
 rcases KD g n with x|⟨i,a,u,d⟩
 .have o:=(qI _ _).1 x;exact .inl ⟨x,Pz.count s V H he (λi a=>cC i a (λj d=>o j ab) (o i a)) (last o)⟩
 .exact .inr ⟨(YR _ _).2 ⟨i,a,u⟩,i,a,Pz.count s V H aq (λk B=>cC k ab (λj C=>d j ab) (d k B)) (r i a d u)⟩
end
section
variable {P:Program} {Gl:t9}
def oi:T->Bool
 |.own j _ _ _ _=>j==0
 |.ptr j _ _ _=>j==0
 |x=>aF x
end
abbrev Df:=t7×qa
def PO{A R:Type}(f:Nat->A->(A->Option R)->Option R):t8->A->(A->Option R)->Option R
 |[],a,k=>k a
 |i::l,a,k=>f i a λa=>PO f l a k
def Dg(P:Program)(K:bv)(G:t9)(aa:t8)(nt:Nat)(ops:Array Oper)(l1:t8){R:Type}:Nat->Array Bool->St->List Df->(List Df->Option R)->Option R
 |0,listed,s,a,k=>bif (Region.ready .any ops listed).isEmpty then k ((Za s l1,s.h)::a) else none
 |n+1,listed,s,a,k=>match Region.ready .any ops listed with
  |[]=>k ((Za s l1,s.h)::a)
  |r=>PO (λi a k=>match ops[i]? with
   |some o=>zw P K G aa nt ops.toList o s λf _=>Dg P K G aa nt ops l1 n (listed.setIfInBounds i true) (f.eP s) a k
   |none=>none) r a k
def m5(P:Program)(K:bv)(G:t9)(aa:t8)(nt:Nat)(ops:Array Oper)(l1:t8)(L:List Df):Nat->Array Bool->St->Prop
 |0,listed,s=>Region.ready .any ops listed=[]/\(Za s l1,s.h)∈L
 |n+1,listed,s=>(Region.ready .any ops listed=[]->(Za s l1,s.h)∈L)/\∀i∈Region.ready .any ops listed,∃o f a,ops[i]?=some o/\ey P K G aa nt ops.toList o s f a/\m5 P K G aa nt ops l1 L n (listed.setIfInBounds i true) (f.eP s)
def YV(P:Program)(f:Nat)(p:t8):Array Oper:=match P.funcs[f]? with
 |some fn=>match fn.body with
  |some c=>match mo p c with
   |.region _ ops _=>ops
   |_=>#[]
  |none=>#[]
 |none=>#[]
def Ha(P:Program)(f:Nat):Nat:=match P.funcs[f]? with
 |some fn=>fn.ntmps
 |none=>0
def qqD:Code->Bool
 |.region _ _ a=>a
 |_=>false
section
variable {P:Program} {K:bv} {G:t9}
def m5.mono{aa}{nt}{ops}{l1}{L d}(a:∀x∈L,x∈d):∀{n:Nat} {listed:Array Bool} {s:St},m5 P K G aa nt ops l1 L n listed s->m5 P K G aa nt ops l1 d n listed s
 |0,_,_,h=>⟨h.1,a _ h.2⟩
 |n+1,_,_,h=>⟨λq=>a _ (h.1 q),λi e=>by
  obtain⟨o,f,r,k,j,g⟩:=h.2 i e;exact⟨o,f,r,k,j,m5.mono a g⟩⟩
def Wh{A R}{f}{I:Nat->A->Prop}{Le:A->A->Prop}(hr:∀a,Le a a)(g:∀a b c,Le a b->Le b c->Le a c)(o:∀i a b,Le a b->I i a->I i b)
 {r:R} (e:∀i d k,f i d k=some r->∃a,k a=some r/\Le d a/\I i a):∀(l:t8) (d:A) (k:A->Option R),PO f l d k=some r->∃a,k a=some r/\Le d a/\∀i∈l,I i a
 |[],d,k,h=>⟨d,h,hr d,λi s=>by cases s⟩
 |j::l,d,k,h=>by
  obtain⟨a,u,E,D⟩:=e j d _ h;obtain⟨b,C,B,x⟩:=Wh hr g o e l a k u;grind
def Wi{aa:t8}{nt:Nat}{ops:Array Oper}{l1:t8}{R:Type}{r:R}:∀(n:Nat) (listed:Array Bool) (s:St) (d:List Df) (k:List Df->Option R),Dg P K G aa nt ops l1 n listed s d k=some r →
 ∃L,k L=some r/\(∀x∈d,x∈L)/\m5 P K G aa nt ops l1 L n listed s
 |0,listed,s,d,k,h=>by
  unfold Dg at h;obtain⟨M,h⟩:=qo h;exact⟨_,h,λx hx=>wX _ hx,ua.1 M,vO⟩
 |n+1,listed,s,d,k,h=>by
  unfold Dg at h;cases hr:Region.ready .any ops listed with
  |nil =>
   rw[hr] at h;exact⟨_,h,λx hx=>wX _ hx,λ_=>vO,λi e=>by rw[hr] at e;cases e⟩
  |cons x y =>
   rw[hr] at h;obtain⟨L,D,C,N⟩:=Wh (I:=λi L=>∃o f g,ops[i]?=some o/\ey P K G aa nt ops.toList o s f g/\m5 P K G aa nt ops l1 L n (listed.setIfInBounds i true) (f.eP s))
    (λ_ _ h=>h) (λa b c D C x hx=>C x (D x hx)) (λi a b V ⟨o,f,g,B,u,H⟩=>⟨o,f,g,B,u,H.mono V⟩) (λi d k j=>by
     cases E:ops[i]? with
     |none=>rw[E] at j;cases j
     |some o =>
      rw[E] at j;obtain⟨⟨f,g⟩,B,u⟩:=qM (jk P K G aa nt ops.toList o s) (k:=λp=>Dg P K G aa nt ops l1 n (listed.setIfInBounds i true) (p.1.eP s) d k) j;obtain⟨L,S,Q,O⟩:=Wi n _ _ _ _ B;exact⟨L,S,Q,o,f,g,rfl,λU J=>u U λp=>J p.1 p.2,O⟩) (x::y) d k h
   exact⟨L,D,C,(λq=>(by rw[hr] at q;cases q)),(λi e=>N i (by rw[hr] at e;exact e))⟩
def Wj{aa}{nt}(u:aS P G K){ops}{l1}{L}{ro}{n}{Q}{g0}{h0}{w0}{d0}
 (hn:∀o∈L,∀r w' g',SR G aa nt g' (qJ l1 o.1 o.2) r w'->dy g0 h0 w0 g' o.2 w'->r.defers=d0->Q .normal r w'):∀(d:Nat) (listed:Array Bool) {s:St} {g:Gh} {a:Act} {w:World},
 m5 P K G aa nt ops l1 L d listed s->SR G aa nt g s a w->dy g0 h0 w0 g s.h w->a.defers=d0->wpAnyIn (QM ro) n P .any ops Q d listed a w
 |0,listed,s,g,a,w,h,e,j,k=>⟨h.1,hn (Za s l1,s.h) h.2 a w g (e.only l1) j k⟩
 |d+1,listed,s,g,a,w,h,e,j,k=>by
  refine⟨λh0=>hn (Za s l1,s.h) (h.1 h0) a w g (e.only l1) j k,λi C=>?_⟩;obtain⟨o,f,J,B,E,D⟩:=h.2 i C;have:=E.goes u e ro n (wpAnyIn (QM ro) n P .any ops Q d _) Q λr w' g' H I x=>Wj u hn d _ D H (j.trans I) (x.trans k);unfold wpOpIn;rw[B];dsimp only;split at this
  .grind
  .rename_i hw;rw[wh hw];exact⟨λ_ _=>trivial,this⟩
variable {A:FuncId->cW} {f:Nat} {h0:qa} {p l l1:t8} {vs:t7} {h:qa}
def Pz.any(N:P.follows .mixedOrders=true)(O:aS P G K)(J:ZG P f p qqD=true){L}
 (s:Dg P K G (A f).aa (Ha P f) (YV P f p) l1 (YV P f p).size (Array.replicate (YV P f p).size false) (qJ l vs h) [] some=some L) {v2:t7} {h2:qa} (hw:∀o∈L,Wk G A f h0.length l1 o.1 o.2 v2 h2):Pz P G A f h0 p l vs h .normal l1 v2 h2:=by
 intro fn c x B ro m cV g0 k g a w hr d I Q hn;have i:=yn J x B;have M:∀id ops j,mo p c = .region id ops j->YV P f p=ops:=λid ops j e=>by simp only[YV,x,B,e]
 have X:Ha P f=fn.ntmps:=by simp only[Ha,x]
 rw[X] at s;revert i;cases e:mo p c with
 |region id ops j =>
  intro i;rw[M _ _ _ e] at s;obtain rfl:j=true:=i;obtain⟨Z,V,_,U⟩:=Wi _ _ _ _ _ s;obtain rfl:=we V;refine wpIn_region_any N (Wj O (L:=Z) (g0:=g0) (h0:=h0) (w0:=k) (d0:=a.defers) (λo r C w' S W Y H=>?_) _ _ U (I.drawn _) ?_ rfl)
  rotate_left
  .exact⟨⟨d.av.u,d.av.dZ,d.av.rm⟩,d.size,d.own,d.os,d.tape,⟨d.output.1,wc _⟩,d.same,d.bs,d.u,d.u'⟩
  .obtain⟨R,E,D,_⟩:=hw o r _ S C w' g0 h0 k (wc _) hr Y W;exact hn C w' R E D λ_=>H
 |_=>intro i;cases i
end
def dQ(h h2:qa):Prop:=h2.length=h.length/\∀(i:Nat) b a,h[i]?=some b->h2[i]?=some a->a.mp=b.mp/\a.aj=b.aj/\a.sz=b.sz/\a.n=b.n/\(a=b∨(a.flat=false/\∀j,j<b.n->(a.get j).length=(b.get j).length/\∀(o:Nat) c d,(b.get j)[o]?=some c->(a.get j)[o]?=some d->rL h c d))
def VR.PQ{w:World}{U:Nat->Prop}{φ:Nat->Option (Nat×Nat)}{h:qa}{x y:T}{v:Value}(s:rL h x y)(hx:VR w U φ h x v):VR w U φ h y v:=by
 rcases s with rfl|⟨i,aj,r,len,c,b,rfl,rfl,k,hn⟩
 .exact hx
 .obtain⟨B,A,D,u,C⟩:=hx.dK;obtain rfl:b=B:=by rw[k] at A;grind
  refine .own _ _ _ _ _ b _ k D u λev=>?_;rcases C ev with⟨cb,o,cc,ad,f,e,d,a,j,q6,q7,q8,q9⟩|⟨f,e,d,a,j,q6⟩
  .obtain rfl:=(q6 c rfl).1;exact .inl ⟨cb,o,cc,ad,f,e,d,a,j,λ_ g=>(by cases g),q7,q8,λ_=>hn⟩
  .exact .inr ⟨f,e,d,a,λ_ g=>(by cases g),q6⟩
def dQ.at{h h2:qa}(a:dQ h h2){i:Nat}{b:ap}(e:h[i]?=some b):∃b2,h2[i]?=some b2:=by
 have d:=qC e;exact⟨_,wi (by rw[a.1];exact d)⟩
def dQ.back{h h2:qa}(a:dQ h h2){i:Nat}{b2:ap}(e:h2[i]?=some b2):∃b,h[i]?=some b:=by
 have d:=qC e;exact⟨_,wi (by rw[←a.1];exact d)⟩
def dQ.av{h h2:qa}(d:dQ h h2)(w:World)(U:Nat->Prop)(φ:Nat->Option (Nat×Nat)):gw w U φ h w U φ h2 :=
 ⟨.refl w U,λi b e=>by
  obtain⟨f,a⟩:=d.at e;obtain⟨_,k,j,g,_⟩:=d.2 i b f e a;grind,λ_ _ h=>h⟩
def HR.sW{g:Gh}{h h2:qa}{w:World}(hr:HR g h w)(d:dQ h h2):HR g h2 w:=by
 refine⟨λi H k R=>?_,hr.u,hr.own,hr.base,hr.cells,λb i s=>by rw[d.1];exact hr.lt b i s,λi H m k S=>by
  obtain⟨b,r⟩:=d.back k;exact hr.fh r ((d.2 i b H r k).1▸S) rfl (λ_ B=>B) λ_ _ _=>rfl⟩
 obtain⟨b,r⟩:=d.back k;obtain⟨Q,X,A,O,x⟩:=d.2 i b H r k;rcases hr.dS i b r (Q▸R) with⟨cb,L,I,e,a⟩|⟨W,V⟩
 rotate_left
 .grind
 refine .inl ⟨cb,L,I,e,a.φ,a.own,a.heap,by rw[A,O];exact a.room,λj f=>?_,λj o c f s=>?_,λU j f c B=>?_⟩
 .rcases x with rfl|⟨_,q⟩
  .exact a.len j f
  .rw[(q j ab).1,A];exact a.len j ab
 .rcases x with rfl|⟨_,q⟩
  .obtain⟨v,E,D,C⟩:=a.cell j o c f s;exact⟨v,E,D,C.av (d.av _ _ _)⟩
  .obtain⟨M,N⟩:=q j ab;have J:o<(b.get j).length:=by rw[←M];grind
   obtain⟨v,E,D,C⟩:=a.cell j o (b.get j)[o] ab (wi J);rw[A];exact⟨v,E,D,(VR.PQ (N o _ c (wi J) s) C).av (d.av _ _ _)⟩
 .rcases x with rfl|⟨q,_⟩
  .exact a.flat U j f c B
  grind
section
variable {P:Program} {Gl:t9} {aa:t8} {nt:Nat}
def ak.sW{l:t8}{k:Nat}{vs:t7}{h h2:qa}(x:dQ h h2):ak Gl aa nt l k vs h vs h2:=by
 intro g a w g0 L J _ _ C f;have r:=x.av w g.U g.φ;have E:∀t,(qJ l vs h2).at t=(qJ l vs h).at t:=λt=>rfl;refine⟨g,⟨f.hr.sW x,f.defers,f.size,f.nt,λt j=>by rw[E];exact(f.tmps t j).av r,λt j cells D=>?_,λd t o h=>(by cases h),f.eQ,λd t o h=>(by cases h)⟩,C.trans ⟨r,wc _,λ_ _=>rfl,rfl,rfl,.refl _,λ_ _ _=>rfl,rfl,λ_ h=>.inl h,λ_ h=>h⟩,.refl g⟩;obtain⟨cb,s,e,i⟩:=f.eW t j cells D;refine⟨cb,s,e,i.ptr,i.own,i.heap,i.len,λo c B=>?_⟩;obtain⟨u,I,A,H⟩:=i.cell o c B;exact⟨u,I,A,H.av r⟩
end
def dQ.one{p q:qa}{b b2:ap}(h1:b2.mp=b.mp/\b2.aj=b.aj/\b2.sz=b.sz/\b2.n=b.n)(e:b2.flat=false)(f:∀j,j<b.n->(b2.get j).length=(b.get j).length/\∀(o:Nat) c a,(b.get j)[o]?=some c->(b2.get j)[o]?=some a->rL (p++b::q) c a):dQ (p++b::q) (p++b2::q):=by
 refine⟨aq,λi x y hx d=>?_⟩;grind
section
variable {P:Program} {Gl:t9}
def BB(d:Nat):T->T
 |.own i v o l c=>.own (d+i) v o l c
 |.ptr i v j o=>.ptr (d+i) v j o
 |x=>x
def Hh:T->Bool
 |.own _ _ _ _ _=>true
 |.ptr _ _ _ _=>true
 |x=>aF x
def L8(d:Nat):T->T
 |.agg l=>.agg (l.map (BB d))
 |x=>BB d x
def L9:T->Bool
 |.agg l=>l.all Hh
 |x=>Hh x
def Wt(d:Nat):T->T
 |.aJ l=>.aJ (l.map (L8 d))
 |x=>L8 d x
def Wu:T->Bool
 |.aJ l=>l.all L9
 |x=>L9 x
def zB(d:Nat)(b:ap):ap:={ b with get:=λj=>(b.get j).map (BB d) }
def Fv(b:ap):Prop:=b.mp=none/\∀j,j<b.n->(b.get j).all Hh=true
def qop{d}{x:T}(hx:aF x=true):BB d x=x:=by
 cases x<;>first|rfl|(simp[aF,zV] at hx)
def VR.AT{w}{U}{φ r}{h h2}{d:Nat}(E:∀i b,h2[i]?=some b->h[d+i]?=some (zB d b))(u:∀i,φ (d+i)=r i){x:T}{v:Value}(I:Hh x=true)(hx:VR w U r h2 x v):VR w U φ h (BB d x) v:=by
 have other:Go.Ab.aF x=true->VR w U φ h (BB d x) v:=λD=>by rw[qop D];exact .aF _ _ (yf (g:=⟨U,r,λ_=>none,0,0⟩) (h:=h2) D hx)
 cases x with
 |own j aj H len cap =>
  obtain⟨f,C,h2,B,A⟩:=hx.dK;refine .own _ _ _ _ _ (zB d f) _ (E j f C) h2 B λq=>?_;rcases A q with⟨cb,s,c,ad,e,a⟩|⟨e,a⟩
  .exact .inl ⟨cb,s,c,ad,(u j).trans e,a⟩
  .exact .inr ⟨(u j).trans e,a⟩
 |ptr j aj k o =>
  obtain⟨f,C,h2,B,A⟩:=hx.dL;refine .ptr _ _ _ _ (zB d f) _ (E j f C) h2 B λq=>?_;obtain⟨cb,s,e,a⟩:=A q;exact⟨cb,s,(u j).trans e,a⟩
 |_=>exact other I
def VR.Di{w}{U}{φ A}{h h2:qa}{d}(C:∀i b,h2[i]?=some b->h[d+i]?=some (zB d b))(B:∀i,φ (d+i)=A i){x:T}{v:Value}(s:L9 x=true)(hx:VR w U A h2 x v):VR w U φ h (L8 d x) v:=by
 cases x with
 |agg l =>
  have s:∀c∈l,Hh c=true:=wD.1 s;have key:∀(f:Nat->Value) (a:Array Value),l.length=a.size->(∀(i:Nat) (v:Value),a[i]?=some v->v.oneCell'=true)->(∀(i:Nat) (c:T),l[i]?=some c->a[i]?=some (f i))->(∀(i:Nat) (c:T),l[i]?=some c->VR w U A h2 c (f i))->VR w U φ h (.agg (l.map (BB d))) (.agg a):=λf a o j u g=>by
   refine .agg _ a f (by rw[wW];exact o) j (λi c e=>?_) (λi c e=>?_)
   .rw[wE] at e;grind
   .rw[wE] at e;cases r:l[i]? with
    |none=>rw[r] at e;cases e
    |some D =>
     rw[r] at e;obtain rfl:=we e;exact VR.AT C B (s D (wx r)) (g i D r)
  cases hx with
  |aF _ _ E=>cases E with
   |agg _ a f o j u g=>exact key f a o j u λi c e=>.aF _ _ (g i c e)
  |agg _ a f o j u g=>exact key f a o j u g
 |_ =>
  have k:=λH=>VR.AT C B H hx;exact k s
def VR.Hi{w}{U}{φ u}{h h2}{d}(B:∀i b,h2[i]?=some b->h[d+i]?=some (zB d b))(A:∀i,φ (d+i)=u i){x:T}{v:Value}(r:Wu x=true)(hx:VR w U u h2 x v):VR w U φ h (Wt d x) v:=by
 cases x with
 |aJ l =>
  have r:∀c∈l,L9 c=true:=wD.1 r;have key:∀(f:Nat->Value) (e:Array Value),l.length=e.size->(∀(i:Nat) (c:T),l[i]?=some c->e[i]?=some (f i))->(∀(i:Nat) (c:T),l[i]?=some c->VR w U u h2 c (f i))->VR w U φ h (.aJ (l.map (L8 d))) (.tuple e):=λf e j s g=>by
   refine .aJ _ e f (by rw[wW];exact j) (λi c a=>?_) (λi c a=>?_)
   .rw[wE] at a;grind
   .rw[wE] at a;cases o:l[i]? with
    |none=>rw[o] at a;cases a
    |some C =>
     rw[o] at a;obtain rfl:=we a;exact VR.Di B A (r C (wx o)) (g i C o)
  cases hx with
  |aF _ _ D=>cases D with
   |aJ _ e f j s g=>exact key f e j s λi c a=>.aF _ _ (g i c a)
  |aJ _ e f j s g=>exact key f e j s g
 |_ =>
  have k:=λE=>VR.Di B A E hx;exact k r
def aR.push{f:FuncId}{args:t7}{r:T}{I:qa}(t:aR P Gl f args [] r I)(ha:args.all aF=true)(iY:Wu r=true)(Wv:∀b∈I,Fv b)(h:qa) :
 aR P Gl f args h (Wt h.length r) (h++I.map (zB h.length)):=by
 refine⟨t.enters,λg w aE hr iu di b6=>?_⟩
 let g1:Gh:={ U:=g.U,φ:=λ_=>none,own:=λ_=>none,base:=w.heap.size,low:=g.low }
 have h1:HR g1 [] w:=⟨λi b L=>rx,λb L=>⟨(hr.u b L).1,rfl⟩,λb o O=>(by cases O),wc _,λb o O=>(by cases O),λb i O=>(by cases O),λi b m L=>rx⟩;have PT:JK g1:=λc t a=>by cases a
 have ha1:dz g1 [] w args aE:=⟨b6.1,λk x W=>by
  obtain⟨v,B,A⟩:=b6.2 k x W;exact⟨v,B,.aF _ _ (yf (g:=g) (h:=h) (wD.1 ha x (wx W)) A)⟩⟩
 refine(t.calls g1 w aE h1 PT di ha1).mono λe w' ⟨v,he,M,S,r2,r3,D⟩=>⟨v,he,?_⟩
 let d:=h.length
 let H:Gh:={ g with
  U:=M.U
  φ:=λj=>if j<d then g.φ j else M.φ (j-d)
  own:=λc=>if c<w.heap.size then g.own c else match M.own c with|some (.inl j)=>some (.inl (d+j))|_=>none }
 have J:∀c,c<w.heap.size->H.own c=g.own c:=λc a=>by grind
 have p2:∀c o,¬c<w.heap.size->H.own c=some o->∃j,o = .inl (d+j)/\M.own c=some (.inl j):=λc o a O=>by
  grind
 have p0:∀c o,M.own c=some o->¬c<w.heap.size:=λc o a q=>by
  rw[D.own c q] at a;cases a
 have p3:∀c j,M.own c=some (.inl j)->H.own c=some (.inl (d+j)):=λc j a=>by
  grind
 have f1:∀j,j<d->H.φ j=g.φ j:=λj s=>by grind
 have f2:∀j,H.φ (d+j)=M.φ j:=λj=>by simp only[H,wh (show ¬d+j<d by omega)];rw[show d+j-d=j by omega]
 have same:∀c,c<w.heap.size->w'.heap[c]?=w.heap[c]?:=λc a=>D.same c a λi q=>by cases q
 have X:∀i b,I[i]?=some b->(h++I.map (zB d))[d+i]?=some (zB d b):=λi b L=>by
  rw[wH (by omega),show d+i-h.length=i by omega,wE,L];rfl
 have mU:∀j b,(h++I.map (zB d))[j]?=some b->(j<d/\h[j]?=some b)∨∃i C,j=d+i/\I[i]?=some C/\b=zB d C:=λj b s=>by
  grind
 have W:gw w g.U g.φ h w' H.U H.φ (h++I.map (zB d)):=by
  refine⟨r3.u,λj Q s=>?_,r3.rm⟩;have Ww:j<d:=(xK.1 s).1;grind
 refine⟨H,⟨λj Q s R=>?_,λc a=>?_,λc o a=>?_,wM hr.base D.size,λc o a=>?_,λc j a=>?_,λj Q m s R=>?_⟩,?_,W,?_⟩
 .rcases mU j Q s with⟨q,s⟩|⟨i,C,rfl,hi,rfl⟩
  .rcases hr.dS j Q s R with⟨cb,sh,N,e,ok⟩|⟨B,A⟩
   rotate_left
   .grind
   have V:=(hr.own cb _ ok.own).2;exact .inl ⟨cb,sh,N,e,by rw[f1 j q];exact ok.φ,by rw[J cb V];exact ok.own,by rw[same cb V];exact ok.heap,ok.room,ok.len,λj o c s a=>by
    obtain⟨v,B,A,E⟩:=ok.cell j o c s a;exact⟨v,B,A,VR.av W E⟩,ok.flat⟩
  .obtain⟨s1,s2⟩:=Wv C (wx hi);rcases S.dS i C hi s1 with⟨cb,sh,N,e,ok⟩|⟨B,A⟩
   rotate_left
   .exact .inr ⟨by rw[f2];exact B,A⟩
   refine .inl ⟨cb,sh,N,e,by rw[f2];exact ok.φ,p3 cb i ok.own,ok.heap,ok.room,λj s=>by
    show((C.get j).map (BB d)).length=C.sz;rw[wW];exact ok.len j s,λj o c s a=>?_,λhf j s c a=>?_⟩
   .have a:((C.get j).map (BB d))[o]?=some c:=a;rw[wE] at a;cases Z:(C.get j)[o]? with
    |none=>rw[Z] at a;cases a
    |some Y =>
     rw[Z] at a;obtain rfl:=we a;obtain⟨v,B,A,E⟩:=ok.cell j o Y s Z;exact⟨v,B,A,VR.AT X f2 (wD.1 (s2 j s) Y (wx Z)) E⟩
   .obtain⟨Y,h0,rfl⟩:=wY.1 (show c∈(C.get j).map (BB d) from a);have:=ok.flat hf j s Y h0;cases Y<;>first|exact this|(simp[qK] at this)
 .obtain⟨B,A⟩:=S.u c a;refine⟨B,?_⟩;by_cases q:c<w.heap.size
  .rw[J c q];rcases D.u c a with E|E
   .exact(hr.u c E).2
   .omega
  grind
 .by_cases q:c<w.heap.size
  .rw[J c q] at a;exact⟨(hr.own c o a).1,vg q D.size⟩
  .obtain⟨j,_,A⟩:=p2 c o q a;exact⟨wM hr.base (Nat.le_of_not_lt q),(S.own c _ A).2⟩
 .by_cases q:c<w.heap.size
  .rw[J c q] at a;exact hr.fK a (same c q)
  .obtain⟨j,B,A⟩:=p2 c o q a;rcases S.cells c _ A with q|⟨k,es,cl,E,q4⟩
   .exact .inl q
   grind
 .rw[wC,wW];by_cases q:c<w.heap.size
  .rw[J c q] at a;have:=hr.lt c j a;omega
  .obtain⟨i,B,A⟩:=p2 c _ q a;obtain rfl:j=d+i:=by injection B
   have:=S.lt c i A;omega
 .rcases mU j Q s with⟨q,s⟩|⟨i,C,rfl,hi,rfl⟩
  .obtain⟨cb,B,A,E⟩:=hr.mp j Q m s R;have V:=(hr.own cb _ A).2;exact⟨cb,by rw[f1 j q];exact B,by rw[J cb V];exact A,E.of_heap (same cb V)⟩
  .rw[show(zB d C).mp=none from(Wv C (wx hi)).1] at R;cases R
 .exact VR.Hi X f2 iY r2
 ·exact⟨D.size,J,D.os,D.tape,D.output,λc a _=>same c a,rfl,λb L=>D.u b L,λc a t ht=>by
   grind⟩
end
def m9(i vi j d:Nat)(x:T):T :=
 match x with
 |.own m aj a len cap=>bif m==j then(bif aj==d then .own i (vi+1) a len cap else .undef) else .own m aj a len cap
 |.ptr m aj q o=>bif m==j then .undef else .ptr m aj q o
 |.mp m aj=>bif m==j then .undef else .mp m aj
 |x=>bif aF x then x else .undef
def ad(i vi j a:Nat)(x:T):T :=
 match x with
 |.agg l=>.agg (l.map (m9 i vi j a))
 |.ag l=>.ag (l.map (m9 i vi j a))
 |x=>m9 i vi j a x
def nA(i vi j a:Nat)(b:ap):ap:=bif b.flat then b else { b with get:=λe=>(b.get e).map (m9 i vi j a) }
def Ch(i vi j a:Nat)(b:ap):ap:={ nA i vi j a b with aj:=vi+1 }
def Rj(i vi j a:Nat)(bj:ap)(h:qa):qa:=((h.map (nA i vi j a)).set i (Ch i vi j a bj)).take j
def XF(i vi j a)(b):(nA i vi j a b).aj=b.aj/\(nA i vi j a b).sz=b.sz/\(nA i vi j a b).n=b.n/\(nA i vi j a b).flat=b.flat/\(nA i vi j a b).mp=b.mp:=by
 unfold nA;cases h:b.flat<;>simp[h]
def qq0{i vi j d}{x:T}{cells}(hx:ad i vi j d x = .ag cells):∃m,x = .ag m/\cells=m.map (m9 i vi j d):=by
 cases x with
 |ag m=>grind[T.ag.injEq,ad]
 |agg l=>cases hx
 |own m aj e len cap =>
  grind[m9,ad]
 |ptr m aj q o=>simp only[ad,m9] at hx;cases a:m==j<;>rw[a] at hx<;>cases hx
 |mp m aj=>simp only[ad,m9] at hx;cases a:m==j<;>rw[a] at hx<;>cases hx
 |_=>simp only[ad,m9] at hx;revert hx;cases aF _<;>intro hx<;>cases hx
section
variable {P:Program} {Gl:t9} {aa:t8} {nt:Nat}
def ak.rD{l:t8}{k:Nat}{vs:t7}{h:qa}(i j:Nat){bi bj:ap}(mD:i<j)(hj:j+1=h.length)(hkj:k<=j)(oB:h[i]?=some bi)(uO:h[j]?=some bj)(hm:bj.mp=none) :
 ak Gl aa nt l k vs h (vs.map (ad i bi.aj j bj.aj)) (Rj i bi.aj j bj.aj bj h):=by
 intro g a w g0 h0 w0 hk iY N W;have hr:=W.hr;simp only[qJ] at hr
 let R:=m9 i bi.aj j bj.aj
 let E:=Rj i bi.aj j bj.aj bj h
 have fA:∀m,m<j->m≠i->∀b,h[m]?=some b->E[m]?=some (nA i bi.aj j bj.aj b):=λm hm bh b f=>by
  show(((h.map _).set i _).take j)[m]?=_;rw[vG hm,vd (λe=>bh e.symm),wE,f];rfl
 have tK:E[i]?=some (Ch i bi.aj j bj.aj bj):=by
  show(((h.map _).set i _).take j)[i]?=_;rw[vG mD,wZ (by rw[wW];omega)]
 have aY:E.length=j:=by show(((h.map _).set i _).take j).length=_;rw[vL,ue,wW];omega
 have m6:∀m H,E[m]?=some H->m<j/\((m=i/\H=Ch i bi.aj j bj.aj bj)∨(m≠i/\∃b,h[m]?=some b/\H=nA i bi.aj j bj.aj b)):=λm H f=>by
  grind
 let J:Gh:={ g with
  φ:=λm=>if m=i then g.φ j else if m=j then none else g.φ m
  own:=λb=>match g.own b with|some (.inl m)=>if m=j then some (.inl i) else some (.inl m)|o=>o }
 have gO:∀b m,g.own b=some (.inl m)->J.own b=if m=j then some (.inl i) else some (.inl m):=λb m f=>by grind
 have Z:∀b,g.own b=none->J.own b=none:=λb f=>by grind
 have nP:∀b t,g.own b=some (.inr t)->J.own b=some (.inr t):=λb t f=>by grind
 have Rk:J.φ i=g.φ j:=wl rfl;have Ej:∀m,m≠i->m≠j->J.φ m=g.φ m:=λm B E=>by show(if m=i then _ else if m=j then _ else _)=_;rw[wh B,wh E]
 have B2:eR w g.U w J.U:=λb f=>⟨f,rfl⟩;have r:=XF i bi.aj j bj.aj;have C:(Ch i bi.aj j bj.aj bj).aj=bi.aj+1/\(Ch i bi.aj j bj.aj bj).sz=bj.sz/\(Ch i bi.aj j bj.aj bj).n=bj.n/\(Ch i bi.aj j bj.aj bj).flat=bj.flat/\(Ch i bi.aj j bj.aj bj).mp=bj.mp:=⟨rfl,(r bj).2.1,(r bj).2.2.1,(r bj).2.2.2.1,(r bj).2.2.2.2⟩;have iX:∀x v,g.VR h w x v->J.VR E w (R x) v:=by
  intro x v hx;have other:R x=(bif aF x then x else .undef)->J.VR E w (R x) v:=λe=>by
   rw[e];cases hi:aF x with
   |true=>exact .aF _ _ ((yf hi hx).av B2)
   |false=>exact .aF _ _ (.undef v)
  cases x with
  |own m aj O len cap =>
   obtain⟨b,f,aC,B,s⟩:=hx.dK;by_cases c:m=j
   .obtain rfl:b=bj:=by rw[c,uO] at f;grind
    by_cases d:aj=b.aj
    ·have e:R (.own m aj O len cap) = .own i (bi.aj+1) O len cap:=by
      show(bif m==j then(bif aj==b.aj then _ else _) else _)=_;rw[show(m==j)=true by grind,show(aj==b.aj)=true by grind];rfl
     rw[e];refine .own _ _ _ _ _ _ _ tK (wc _) B λ_=>?_;rcases s d.symm with⟨cb,V,cc,ad,e1,e2,es,sD,e3,e4,e5,e6,e7⟩|⟨Y,q2,q3⟩
     .exact .inl ⟨cb,V,cc,ad,by rw[Rk,←c];exact e1,e2,es,by rw[C.2.1];exact sD,e3,by rw[C.2.2.1];exact e4,by rw[C.2.2.1];exact e5,by rw[C.2.1];exact e6,by rw[C.2.2.1];exact e7⟩
     .exact .inr ⟨by rw[Rk,←c];exact Y,by rw[C.2.2.1];exact q2,q3⟩
    ·have e:R (.own m aj O len cap) = .undef:=by
      show(bif m==j then(bif aj==b.aj then _ else _) else _)=_;rw[show(m==j)=true by grind,show(aj==b.aj)=false by grind];rfl
     rw[e];exact .aF _ _ (.undef v)
   ·have e:R (.own m aj O len cap) = .own m aj O len cap:=by
     show(bif m==j then _ else _)=_;rw[show(m==j)=false by grind];rfl
    rw[e];have S:m<j:=by have:=qC f;omega
    by_cases d:m=i
    .obtain rfl:b=bi:=by rw[d,oB] at f;grind
     refine .own _ _ _ _ _ _ _ (by rw[d];exact tK) (by rw[C.1];omega) B λev=>?_;rw[C.1] at ev;omega
    .refine .own _ _ _ _ _ _ _ (fA m S d b f) (by rw[(r b).1];exact aC) B λev=>?_;rw[(r b).1] at ev;rcases s ev with⟨cb,V,cc,ad,e1,e2,es,sD,e3,e4,e5,e6,e7⟩|⟨Y,q2,q3⟩
     .exact .inl ⟨cb,V,cc,ad,by rw[Ej m d c];exact e1,e2,es,by rw[(r b).2.1];exact sD,e3,by rw[(r b).2.2.1];exact e4,by rw[(r b).2.2.1];exact e5,by rw[(r b).2.1];exact e6,by rw[(r b).2.2.1];exact e7⟩
     .exact .inr ⟨by rw[Ej m d c];exact Y,by rw[(r b).2.2.1];exact q2,q3⟩
  |ptr m aj q o =>
   obtain⟨b,f,aC,B,s⟩:=hx.dL;by_cases c:m=j
   ·have e:R (.ptr m aj q o) = .undef:=by
     show(bif m==j then _ else _)=_;rw[show(m==j)=true by grind];rfl
    rw[e];exact .aF _ _ (.undef v)
   ·have e:R (.ptr m aj q o) = .ptr m aj q o:=by
     show(bif m==j then _ else _)=_;rw[show(m==j)=false by grind];rfl
    rw[e];have S:m<j:=by have:=qC f;omega
    by_cases d:m=i
    .obtain rfl:b=bi:=by rw[d,oB] at f;grind
     refine .ptr _ _ _ _ _ _ (by rw[d];exact tK) (by rw[C.1];omega) B λev=>?_;rw[C.1] at ev;omega
    .refine .ptr _ _ _ _ _ _ (fA m S d b f) (by rw[(r b).1];exact aC) B λev=>?_;rw[(r b).1] at ev;obtain⟨cb,V,e1,e2⟩:=s ev;exact⟨cb,V,by rw[Ej m d c];exact e1,by rw[(r b).2.1];exact e2⟩
  |mp m aj =>
   obtain⟨b,f,aC,B,s⟩:=hx.iD;by_cases c:m=j
   ·have e:R (.mp m aj) = .undef:=by
     show(bif m==j then _ else _)=_;rw[show(m==j)=true by grind];rfl
    rw[e];exact .aF _ _ (.undef v)
   ·have e:R (.mp m aj) = .mp m aj:=by
     show(bif m==j then _ else _)=_;rw[show(m==j)=false by grind];rfl
    rw[e];have S:m<j:=by have:=qC f;omega
    by_cases d:m=i
    .obtain rfl:b=bi:=by rw[d,oB] at f;grind
     refine .mp _ _ _ _ (by rw[d];exact tK) (by rw[C.1];omega) B λev=>?_;rw[C.1] at ev;omega
    .refine .mp _ _ _ _ (fA m S d b f) (by rw[(r b).1];exact aC) B λev=>?_;rw[(r b).1] at ev;grind
  |_=>exact other rfl
 have hv:∀x v,g.VR h w x v->J.VR E w (ad i bi.aj j bj.aj x) v:=by
  intro x v hx;cases x with
  |agg m =>
   obtain⟨cs,rfl,hl,B,M⟩:=hx.bN;refine VR.dh (by simpa using hl) B (λe c hi=>?_);grind
  |ag m=>exact absurd hx VR.eo
  |_=>exact iX _ _ hx
 have dZ:∀(m m':Nat) (b H:ap),h[m]?=some b->b.mp=none->H.sz=b.sz->H.n=b.n->H.flat=b.flat->(H.get=(nA i bi.aj j bj.aj b).get)->J.φ m'=g.φ m->(∀cb,g.own cb=some (.inl m)->J.own cb=some (.inl m')) →
  (∃cb V Q e,mO w J E m' H cb V Q e)∨(J.φ m'=none/\H.n=0):=by
  intro m m' b H f cG z1 z2 z3 z4 z5 z6;rcases hr.dS m b f cG with⟨cb,V,Q,e,s⟩|⟨Y,q2⟩
  rotate_left
  .grind
  refine .inl ⟨cb,V,Q,e,by rw[z5];exact s.φ,z6 cb s.own,s.heap,by rw[z1,z2];exact s.room,λq L=>?_,λq o c L M=>?_,λcE q L c M=>?_⟩
  .rw[z2] at L;rw[z1,z4,←s.len q L];unfold nA;cases b.flat<;>simp
  .rw[z2] at L;rw[z1];rw[z4] at M;cases cE:b.flat with
   |true =>
    have:(nA i bi.aj j bj.aj b).get q=b.get q:=by grind[nA]
    rw[this] at M;obtain⟨v,B,E,h3⟩:=s.cell q o c L M;exact⟨v,B,E,.aF _ _ (yk (s.flat cE q L c (wx M)) h3)⟩
   |false =>
    have:(nA i bi.aj j bj.aj b).get q=(b.get q).map R:=by unfold nA;rw[cE];rfl
    rw[this] at M;obtain⟨c0,o9,rfl⟩:=QE M;obtain⟨v,B,E,h3⟩:=s.cell q o c0 L o9;grind
  .rw[z3] at cE;rw[z2] at L;rw[z4] at M;have:(nA i bi.aj j bj.aj b).get q=b.get q:=by grind[nA]
   rw[this] at M;exact s.flat cE q L c M
 have BY:HR J E w:=by
  refine⟨λm H X iK=>?_,λb f=>⟨(hr.u b f).1,Z b (hr.u b f).2⟩,λb o I=>?_,hr.base,λb o I=>?_,λb m I=>?_,λm H q X L=>?_⟩
  .obtain⟨S,⟨rfl,rfl⟩|⟨bh,b,f,rfl⟩⟩:=m6 m H X
   .exact dZ j m bj _ uO hm C.2.1 C.2.2.1 C.2.2.2.1 rfl Rk λcb I=>by rw[gO cb j I,wl rfl]
   .have e:=r b;exact dZ m m b _ f (e.2.2.2.2.symm.trans iK) e.2.1 e.2.2.1 e.2.2.2.1 rfl (Ej m bh ab) λcb I=>by rw[gO cb m I,wh ab]
  .cases A:g.own b with
   |none=>rw[Z b A] at I;cases I
   |some o'=>exact hr.own b o' A
  .cases A:g.own b with
   |none=>rw[Z b A] at I;cases I
   |some o' =>
    rcases hr.cells b o' A with q|⟨m,es,c,rfl,q⟩
    .exact .inl q
    grind
  .rw[aY];cases A:g.own b with
   |none=>rw[Z b A] at I;cases I
   |some o' =>
    cases o' with
    |inr t=>rw[nP b t A] at I;cases I
    |inl q =>
     rw[gO b q A] at I;have:=hr.lt b q A;grind
  .obtain⟨S,⟨rfl,rfl⟩|⟨bh,b,f,rfl⟩⟩:=m6 m H X
   .rw[C.2.2.2.2,hm] at L;cases L
   .obtain⟨cb,o1,o2,o3⟩:=hr.mp m b q f ((r b).2.2.2.2.symm.trans L);exact⟨cb,by rw[Ej m bh ab];exact o1,by rw[gO cb m o2,wh ab],o3⟩
 refine⟨J,⟨BY,?_,W.size,W.nt,λt ht=>?_,λt ht cells M=>?_,λd t o hh=>(by cases hh),λgl cells hg=>(W.eQ gl cells hg).av B2,λd t o hh=>(by cases hh)⟩,?_,λb f=>⟨Z b f,λhu=>hu⟩⟩
 .obtain⟨m0,l0,m1,m2,m3⟩:=W.defers;refine⟨m0,l0,m1,m2,λD hD=>?_⟩;grind
 .rw[zF (ad i bi.aj j bj.aj) rfl l vs h];exact hv _ _ (W.tmps t ht)
 .rw[zF (ad i bi.aj j bj.aj) rfl l vs h] at M;obtain⟨m,hx,rfl⟩:=qq0 M;obtain⟨cb,Q,e,s⟩:=W.eW t ht m hx;refine⟨cb,Q,e,s.ptr,nP cb t s.own,s.heap,by rw[wW];exact s.len,λo c pP=>?_⟩;obtain⟨c0,o9,rfl⟩:=QE pP;obtain⟨u,B,E,h3⟩:=s.cell o c0 o9;exact⟨u,B,E,iX _ _ h3⟩
 .refine⟨⟨λb f=>⟨(N.av.u b f).1,(N.av.u b f).2⟩,λm b f=>?_,N.av.rm⟩,N.size,λb f=>?_,N.os,N.tape,N.output,N.same,N.bs,λb f=>N.u b f,λb f=>N.u' b f⟩
  .obtain⟨b',dR,Y,q2⟩:=N.av.dZ m b f;have S:m<j:=vg (vg (qC f) hk) hkj;by_cases d:m=i
   .obtain rfl:b'=bi:=by rw[d,oB] at dR;grind
    refine⟨_,by rw[d];exact tK,by rw[C.1];omega,λev=>?_⟩;rw[C.1] at ev;omega
   .refine⟨_,fA m S d b' dR,by rw[(r b').1];exact Y,λev=>?_⟩;rw[(r b').1] at ev;grind
  .have:=N.own b f;cases A:g.own b with
   |none=>rw[Z b A,←this,A]
   |some o =>
    cases o with
    |inr t=>rw[nP b t A,←this,A]
    |inl m =>
     have GN:m<k:=vg (iY.lt b m (by rw[←this];exact A)) hk;rw[gO b m A,wh ab,←this,A]
end
def Rx(_:qa)(x y:T):Prop:=x=y∨y = .undef
def fW(h h2:qa):Prop:=h2.length=h.length/\∀(i:Nat) b a,h[i]?=some b->h2[i]?=some a->a.mp=b.mp/\a.aj=b.aj/\a.sz=b.sz/\a.n=b.n/\(a=b∨(a.flat=false/\∀j,j<b.n->(a.get j).length=(b.get j).length/\∀(o:Nat) c d,(b.get j)[o]?=some c->(a.get j)[o]?=some d->Rx h c d))
def VR.fgT{w}{U}{φ}{h}{x y:T}{v}(a:Rx h x y)(hx:VR w U φ h x v):VR w U φ h y v:=by
 rcases a with rfl|rfl
 .exact hx
 .exact .aF _ _ (.undef v)
def fW.at{h h2}(a:fW h h2){i:Nat}{b}(e:h[i]?=some b):∃b2,h2[i]?=some b2:=by
 have d:=qC e;exact⟨_,wi (by rw[a.1];exact d)⟩
def fW.back{h h2}(a:fW h h2){i:Nat}{b2}(e:h2[i]?=some b2):∃b,h[i]?=some b:=by
 have d:=qC e;exact⟨_,wi (by rw[←a.1];exact d)⟩
def fW.av{h h2}(d:fW h h2)(w:World)(U)(φ:Nat->Option (Nat×Nat)):gw w U φ h w U φ h2 :=
 ⟨.refl w U,λi b e=>by
  obtain⟨f,a⟩:=d.at e;obtain⟨_,k,j,g,_⟩:=d.2 i b f e a;grind,λ_ _ h=>h⟩
def HR.Ry{g:Gh}{h h2:qa}{w}(hr:HR g h w)(d:fW h h2):HR g h2 w:=by
 refine⟨λi H k R=>?_,hr.u,hr.own,hr.base,hr.cells,λb i s=>by rw[d.1];exact hr.lt b i s,λi H m k S=>by
  obtain⟨b,r⟩:=d.back k;exact hr.fh r ((d.2 i b H r k).1▸S) rfl (λ_ B=>B) λ_ _ _=>rfl⟩
 obtain⟨b,r⟩:=d.back k;obtain⟨Q,X,A,O,x⟩:=d.2 i b H r k;rcases hr.dS i b r (Q▸R) with⟨cb,L,I,e,a⟩|⟨W,V⟩
 rotate_left
 .grind
 refine .inl ⟨cb,L,I,e,a.φ,a.own,a.heap,by rw[A,O];exact a.room,λj f=>?_,λj o c f s=>?_,λU j f c B=>?_⟩
 .rcases x with rfl|⟨_,q⟩
  .exact a.len j f
  .rw[(q j ab).1,A];exact a.len j ab
 .rcases x with rfl|⟨_,q⟩
  .obtain⟨v,E,D,C⟩:=a.cell j o c f s;exact⟨v,E,D,C.av (d.av _ _ _)⟩
  .obtain⟨M,N⟩:=q j ab;have J:o<(b.get j).length:=by rw[←M];grind
   obtain⟨v,E,D,C⟩:=a.cell j o (b.get j)[o] ab (wi J);rw[A];exact⟨v,E,D,(VR.fgT (N o _ c (wi J) s) C).av (d.av _ _ _)⟩
 .rcases x with rfl|⟨q,_⟩
  .exact a.flat U j f c B
  grind
section
variable {P:Program} {Gl:t9} {aa:t8} {nt:Nat}
def ak.Ry{l:t8}{k:Nat}{vs}{h h2:qa}(x:fW h h2):ak Gl aa nt l k vs h vs h2:=by
 intro g a w g0 L J _ _ C f;have r:=x.av w g.U g.φ;have E:∀t,(qJ l vs h2).at t=(qJ l vs h).at t:=λt=>rfl;refine⟨g,⟨f.hr.Ry x,f.defers,f.size,f.nt,λt j=>by rw[E];exact(f.tmps t j).av r,λt j cells D=>?_,λd t o h=>(by cases h),f.eQ,λd t o h=>(by cases h)⟩,C.trans ⟨r,wc _,λ_ _=>rfl,rfl,rfl,.refl _,λ_ _ _=>rfl,rfl,λ_ h=>.inl h,λ_ h=>h⟩,.refl g⟩;obtain⟨cb,s,e,i⟩:=f.eW t j cells D;refine⟨cb,s,e,i.ptr,i.own,i.heap,i.len,λo c B=>?_⟩;obtain⟨u,I,A,H⟩:=i.cell o c B;exact⟨u,I,A,H.av r⟩
end
def fW.one{p q}{b b2}(h1:b2.mp=b.mp/\b2.aj=b.aj/\b2.sz=b.sz/\b2.n=b.n)(e:b2.flat=false)(f:∀j,j<b.n->(b2.get j).length=(b.get j).length/\∀(o:Nat) c a,(b.get j)[o]?=some c->(b2.get j)[o]?=some a->Rx (p++b::q) c a):fW (p++b::q) (p++b2::q):=by
 refine⟨aq,λi x y hx d=>?_⟩;grind
def HG(x y:T):Prop:=x=y∨∃l m,x = .ag l/\y = .ag m/\l.length=m.length/\∀(i:Nat) a b,l[i]?=some a->m[i]?=some b->a=b∨b = .undef
def HG.refl(x:T):HG x x:=.inl rfl
inductive rX:t7->t7->Prop
 |nil:rX [] []
 |cons {x y:T} {l m:t7} (h:HG x y) (t:rX l m):rX (x::l) (y::m)
def rX.len{l m}(h:rX l m):l.length=m.length:=by
 induction h with
 |nil=>rfl
 |cons _ _ a=>simp[a]
def rX.get{l m}(h:rX l m):∀(i:Nat) x y,l[i]?=some x->m[i]?=some y->HG x y:=by
 induction h with
 |nil=>grind
 |cons h _ a =>
  grind
def ak.fgR{Gl}{aa}{nt}{l}{k}{vs dN}{h}(B:rX vs dN):ak Gl aa nt l k vs h dN h:=by
 intro g a w g0 S R _ _ N f;have E:∀t,HG ((qJ l vs h).at t) ((qJ l dN h).at t):=by
  intro t;unfold St.at
  cases i:Nat.blt t 1024 with
  |false=>exact .refl _
  |true =>
   simp only[wp];exact Ka l vs dN .nil .nil B.len B.get (λ_ _=>.refl _) t (Qe i)
 refine⟨g,⟨f.hr,f.defers,f.size,f.nt,λt i=>?_,λt i cells D=>?_,λd t o h=>(by cases h),f.eQ,λd t o h=>(by cases h)⟩,N,.refl g⟩
 .rcases E t with e|⟨r,A,s,L,_⟩
  .rw[←e];exact f.tmps t i
  .exact absurd (s▸f.tmps t i) VR.eo
 .rcases E t with e|⟨r,A,s,L,J,Q⟩
  .exact f.eW t i cells (by rw[e];exact D)
  .rw[L] at D;obtain rfl:A=cells:=by grind
   obtain⟨cb,x,e,j⟩:=f.eW t i r s;refine⟨cb,x,e,j.ptr,j.own,j.heap,by rw[←J];exact j.len,λo c M=>?_⟩;have C:o<r.length:=by rw[J];grind
   obtain⟨u,I,H,O⟩:=j.cell o _ (wi C);rcases Q o _ c (wi C) M with q|q
   .exact⟨u,I,H,q▸O⟩
   .exact⟨u,I,H,by rw[q];exact .aF _ _ (.undef u)⟩
def rX.rg{x:T}{l m}(h:rX l m):rX (x::l) (x::m):=.cons (.refl _) h
def rh(i n:Nat)(x:T):T :=
 match x with
 |.own m aj a len cap=>bif m==i then(bif cap.isNone&&Nat.ble (a+len) n then .own m aj a len cap else .undef) else .own m aj a len cap
 |.ptr m aj q o=>.ptr m aj q o
 |.mp m aj=>.mp m aj
 |x=>bif aF x then x else .undef
def sk(i n:Nat)(x:T):T :=
 match x with
 |.agg l=>.agg (l.map (rh i n))
 |.ag l=>.ag (l.map (rh i n))
 |x=>rh i n x
def iz(i n:Nat)(b:ap):ap:=bif b.flat then b else { b with get:=λe=>(b.get e).map (rh i n) }
def skH(i n:Nat)(b:ap)(h:qa):qa:=(h.map (iz i n)).set i { iz i n b with n:=n }
def qjU(i n)(b):(iz i n b).aj=b.aj/\(iz i n b).sz=b.sz/\(iz i n b).n=b.n/\(iz i n b).flat=b.flat/\(iz i n b).mp=b.mp:=by
 unfold iz;cases h:b.flat<;>simp[h]
def qq3{i n}{x:T}{cells}(hx:sk i n x = .ag cells):∃m,x = .ag m/\cells=m.map (rh i n):=by
 cases x with
 |ag m=>grind[T.ag.injEq,sk]
 |agg l=>cases hx
 |own m aj a len cap =>
  grind[rh,sk]
 |ptr m aj q o=>cases hx
 |mp m aj=>cases hx
 |_=>simp only[sk,rh] at hx;revert hx;cases aF _<;>intro hx<;>cases hx
section
variable {P:Program} {Gl:t9} {aa:t8} {nt:Nat}
def ak.shrink{l:t8}{k:Nat}{vs}{h:qa}(i n:Nat){bi:ap}(hki:k<=i)(oB:h[i]?=some bi)(W:bi.mp=none)(hn:n<=bi.n) :
 ak Gl aa nt l k vs h (vs.map (sk i n)) (skH i n bi h):=by
 intro g a w g0 h0 w0 hk iY H L;have hr:=L.hr;simp only[qJ] at hr
 let A:=skH i n bi h
 have r:=qjU i n;have fA:∀m,m≠i->∀b,h[m]?=some b->A[m]?=some (iz i n b):=λm bh b f=>by
  show((h.map _).set i _)[m]?=_;rw[vd (λe=>bh e.symm),wE,f];rfl
 have tK:A[i]?=some { iz i n bi with n:=n }:=by
  show((h.map _).set i _)[i]?=_;rw[wZ (by rw[wW];grind)]
 have aY:A.length=h.length:=by show((h.map _).set i _).length=_;rw[ue,wW]
 have m6:∀m B,A[m]?=some B->(m=i/\B = { iz i n bi with n:=n })∨(m≠i/\∃b,h[m]?=some b/\B=iz i n b):=λm B f=>by
  grind
 have B2:eR w g.U w g.U:=λb f=>⟨f,rfl⟩;have iX:∀x v,g.VR h w x v->g.VR A w (rh i n x) v:=by
  intro x v hx;have other:rh i n x=(bif aF x then x else .undef)->g.VR A w (rh i n x) v:=λe=>by
   rw[e];cases hi:aF x with
   |true=>exact .aF _ _ ((yf hi hx).av B2)
   |false=>exact .aF _ _ (.undef v)
  cases x with
  |own m aj C len cap =>
   obtain⟨b,f,Q,D,j⟩:=hx.dK;by_cases c:m=i
   .obtain rfl:b=bi:=by rw[c,oB] at f;grind
    cases s:(cap.isNone&&Nat.ble (C+len) n) with
    |false =>
     have e:rh i n (.own m aj C len cap) = .undef:=by
      show(bif m==i then(bif _ then _ else _) else _)=_;rw[show(m==i)=true by grind,s];rfl
     rw[e];exact .aF _ _ (.undef v)
    |true =>
     have e:rh i n (.own m aj C len cap) = .own m aj C len cap:=by
      show(bif m==i then(bif _ then _ else _) else _)=_;rw[show(m==i)=true by grind,s];rfl
     rw[e];simp only[wd] at s;have pP:C+len<=n:=xL s.2;have hc1:cap=none:=by cases cap<;>first|rfl|grind
     refine .own _ _ _ _ _ _ _ (by rw[c];exact tK) rx D λev=>?_;have ev:(iz i n b).aj=aj:=ev;rw[(r b).1] at ev;rcases j ev with⟨cb,E,cc,ad,N,O,es,sD,e3,e4,e5,e6,e7⟩|⟨R,V,q3⟩
     .exact .inl ⟨cb,E,cc,ad,N,O,es,rx,e3,λm W=>(by rw[hc1] at W;cases W),pP,rx,λfy=>wM hn (e7 fy)⟩
     .exact .inr ⟨R,rx,q3⟩
   ·have e:rh i n (.own m aj C len cap) = .own m aj C len cap:=by
     show(bif m==i then _ else _)=_;rw[show(m==i)=false by grind];rfl
    rw[e];refine .own _ _ _ _ _ _ _ (fA m c b f) (by rw[(r b).1];exact Q) D λev=>?_;rw[(r b).1] at ev;rcases j ev with⟨cb,E,cc,ad,N,O,es,sD,e3,e4,e5,e6,e7⟩|⟨R,V,q3⟩
    .exact .inl ⟨cb,E,cc,ad,N,O,es,by rw[(r b).2.1];exact sD,e3,by rw[(r b).2.2.1];exact e4,by rw[(r b).2.2.1];exact e5,by rw[(r b).2.1];exact e6,by rw[(r b).2.2.1];exact e7⟩
    .exact .inr ⟨R,by rw[(r b).2.2.1];exact V,q3⟩
  |ptr m aj q o =>
   obtain⟨b,f,Q,D,j⟩:=hx.dL;show g.VR A w (.ptr m aj q o) v;by_cases c:m=i
   .obtain rfl:b=bi:=by rw[c,oB] at f;grind
    refine .ptr _ _ _ _ _ _ (by rw[c];exact tK) rx D λev=>?_;have ev:(iz i n b).aj=aj:=ev;rw[(r b).1] at ev;obtain⟨cb,E,N,O⟩:=j ev;exact⟨cb,E,N,rx⟩
   .refine .ptr _ _ _ _ _ _ (fA m c b f) (by rw[(r b).1];exact Q) D λev=>?_;rw[(r b).1] at ev;obtain⟨cb,E,N,O⟩:=j ev;exact⟨cb,E,N,by rw[(r b).2.1];exact O⟩
  |mp m aj =>
   obtain⟨b,f,Q,D,j⟩:=hx.iD;show g.VR A w (.mp m aj) v;by_cases c:m=i
   .obtain rfl:b=bi:=by rw[c,oB] at f;exact(we f).symm
    refine .mp _ _ _ _ (by rw[c];exact tK) (by show aj<=(iz i n b).aj;rw[(r b).1];exact Q) D λev=>?_;have ev:(iz i n b).aj=aj:=ev;rw[(r b).1] at ev;grind
   .refine .mp _ _ _ _ (fA m c b f) (by rw[(r b).1];exact Q) D λev=>?_;rw[(r b).1] at ev;grind
  |_=>exact other rfl
 have hv:∀x v,g.VR h w x v->g.VR A w (sk i n x) v:=by
  intro x v hx;cases x with
  |agg m =>
   obtain⟨cs,rfl,hl,D,s⟩:=hx.bN;refine VR.dh (by simpa using hl) D (λe c hi=>?_);grind
  |ag m=>exact absurd hx VR.eo
  |_=>exact iX _ _ hx
 have dZ:∀(m:Nat) (b B:ap),h[m]?=some b->b.mp=none->B.sz=b.sz->B.n<=b.n->B.flat=b.flat->(B.get=(iz i n b).get) →
  (∃cb E I e,mO w g A m B cb E I e)∨(g.φ m=none/\B.n=0):=by
  intro m b B f cG Z z2 z3 Y;rcases hr.dS m b f cG with⟨cb,E,I,e,j⟩|⟨R,V⟩
  rotate_left
  .grind
  refine .inl ⟨cb,E,I,e,j.φ,j.own,j.heap,by rw[Z];exact wM (Nat.add_le_add_left (wI _ z2) E) j.room,λq J=>?_,λq o c J s=>?_,λS q J c s=>?_⟩
  .rw[Z,Y,←j.len q ab];unfold iz;cases b.flat<;>simp
  .rw[Z];rw[Y] at s;cases S:b.flat with
   |true =>
    have:(iz i n b).get q=b.get q:=by grind[iz]
    rw[this] at s;obtain⟨v,D,A,X⟩:=j.cell q o c ab s;exact⟨v,D,A,.aF _ _ (yk (j.flat S q ab c (wx s)) X)⟩
   |false =>
    have:(iz i n b).get q=(b.get q).map (rh i n):=by unfold iz;rw[S];rfl
    rw[this] at s;obtain⟨c0,o9,rfl⟩:=QE s;obtain⟨v,D,A,X⟩:=j.cell q o c0 ab o9;grind
  .rw[z3] at S;rw[Y] at s;have:(iz i n b).get q=b.get q:=by grind[iz]
   rw[this] at s;exact j.flat S q ab c s
 have BY:HR g A w:=by
  refine⟨λm B M iK=>?_,hr.u,hr.own,hr.base,hr.cells,λb m ho=>by rw[aY];exact hr.lt b m ho,λm B q M J=>?_⟩
  .rcases m6 m B M with⟨rfl,rfl⟩|⟨bh,b,f,rfl⟩
   .simp_all
   .have e:=r b;exact dZ m b _ f (e.2.2.2.2.symm.trans iK) e.2.1 (by rw[e.2.2.1];omega) e.2.2.2.1 rfl
  .rcases m6 m B M with⟨rfl,rfl⟩|⟨bh,b,f,rfl⟩
   .have J:(iz m n bi).mp=some q:=J;rw[(r bi).2.2.2.2,W] at J;cases J
   .exact hr.mp m b q f ((r b).2.2.2.2.symm.trans J)
 refine⟨g,⟨BY,L.defers,L.size,L.nt,λt ht=>?_,λt ht cells s=>?_,λd t o hh=>(by cases hh),L.eQ,λd t o hh=>(by cases hh)⟩,?_,.refl g⟩
 .rw[zF (sk i n) rfl l vs h];exact hv _ _ (L.tmps t ht)
 .rw[zF (sk i n) rfl l vs h] at s;obtain⟨m,hx,rfl⟩:=qq3 s;obtain⟨cb,I,e,j⟩:=L.eW t ht m hx;refine⟨cb,I,e,j.ptr,j.own,j.heap,by rw[wW];exact j.len,λo c pP=>?_⟩;obtain⟨c0,o9,rfl⟩:=QE pP;obtain⟨u,D,A,X⟩:=j.cell o c0 o9;exact⟨u,D,A,iX _ _ X⟩
 .refine⟨⟨H.av.u,λm b f=>?_,H.av.rm⟩,H.size,H.own,H.os,H.tape,H.output,H.same,H.bs,H.u,H.u'⟩;obtain⟨b',dR,R,V⟩:=H.av.dZ m b f;have pR:m<k:=vg (qC f) hk;grind
end
def qbZ:∀(n i s:Nat),s<=i->i<s+n->QW (List.range' s n) i=some (i-s)
 |0,i,s,d,a=>by omega
 |n+1,i,s,d,a=>by
  show(bif s==i then some 0 else(QW (List.range' (s+1) n) i).map (·+1))=_;by_cases c:s=i
  .rw[show(s==i)=true by grind,c,va];rfl
  .rw[show(s==i)=false by simpa using c,qbZ n i (s+1) ab ab];grind
def RC{n i:Nat}(h:i<n):QW (List.range n) i=some i:=by
 rw[List.range_eq_range',qbZ n i 0 (wN _) ab];rfl
def RD{n:Nat}{h:qa}{x:T}(hx:cA n x=true):qO (List.range n) h x=x:=by
 cases x with
 |own i aj d len cap=>simp only[qO,RC (show i<n by simpa [cA] using hx)]
 |ptr i aj j o=>simp only[qO,RC (show i<n by simpa [cA] using hx)]
 |mp i aj=>simp only[qO,RC (show i<n by simpa [cA] using hx)]
 |fn f a =>
  have hx:a.isEmpty=true:=hx;obtain rfl:a=[]:=ua.1 hx;rfl
 |_=>first|rfl|(simp[cA,zV] at hx;done)
def qoS{n:Nat}{h:qa}{x:T}(hx:low n x=true):nO (List.range n) h x=x:=by
 have d:∀y,cA n y=true->qO (List.range n) h y=y:=λ_=>RD;have key:∀l:t7,l.all (cA n)=true->l.map (qO (List.range n) h)=l:=λl e=>by
  have:l.map (qO (List.range n) h)=l.map id:=ve λa g=>RD (wD.1 e a g);rw[this,uk]
 cases x with
 |agg l=>show T.agg _=_;rw[key l hx]
 |ag l=>show T.ag _=_;rw[key l hx]
 |fn f l=>show T.fn f _=_;rw[key l hx]
 |_=>(simp only[nO];exact d _ hx)
def fw(n:Nat)(b:ap):Prop:=b.flat=true∨∀j,j<b.n->∀c∈b.get j,cA n c=true
def ak.Em{Gl:t9}{aa:t8}{nt:Nat}{l:t8}{k:Nat}{vs aW:t7}{p z:qa}{n:Nat}(hp:p.length=n)(I:k<=n)(x:zA k (List.range n) (p++z)=true)(u:vs.map (nO (List.range n) (p++z))=aW)(E:∀b∈p,fw n b):ak Gl aa nt l k vs (p++z) aW p:=by
 refine ak.cu (List.range n) x u rfl ⟨?_,λi b e d o=>?_⟩
 .obtain⟨A,_⟩:=yC (l:=List.range n) (f:=λi=>((p++z)[i]?).map (QG (List.range n) (p++z))) λi g=>⟨_,by rw[wi (by rw[wC];have:=xk.1 g;omega)];rfl⟩;show _=(List.filterMap _ _).length;rw[A,xY,hp]
 .obtain⟨_,C⟩:=yC (l:=List.range n) (f:=λi=>((p++z)[i]?).map (QG (List.range n) (p++z))) λi g=>⟨_,by rw[wi (by rw[wC];have:=xk.1 g;omega)];rfl⟩;have g:i<n:=by have:=qC o;omega
  have d:(List.filterMap (λi=>((p++z)[i]?).map (QG (List.range n) (p++z))) (List.range n))[i]?=some b:=d;rw[C,xc g] at d;have d:((p++z)[i]?).map (QG (List.range n) (p++z))=some b:=d;rw[wy ab,o] at d;obtain rfl:QG (List.range n) (p++z) e=b:=we d;have s:=E e (wx o);unfold QG;rcases s with r|D
  .rw[r];grind
  .cases r:e.flat with
   |true=>grind
   |false =>
    refine⟨rfl,rfl,rfl,rfl,λh=>(by cases h),λj B=>?_⟩;show e.get j=(e.get j).map _;have:(e.get j).map (qO (List.range n) (p++z))=(e.get j).map id:=ve λa H=>RD (D j B a H);rw[this,uk]
def ak.En{Gl:t9}{aa:t8}{nt:Nat}{l:t8}{k:Nat}{vs:t7}{p z:qa}{n:Nat}(hp:p.length=n)(f:k<=n)(e:zA k (List.range n) (p++z)=true)(d:∀x∈vs,low n x=true)(g:∀b∈p,fw n b):ak Gl aa nt l k vs (p++z) vs p:=by
 refine ak.Em hp f e ?_ g;have:vs.map (nO (List.range n) (p++z))=vs.map id:=ve λa i=>qoS (d a i);rw[this,uk]
def my(i o n:Nat)(x:T):T :=
 match x with
 |.own m aj a len cap=>bif m==i then(bif aj==o then .own m n a len cap else .undef) else .own m aj a len cap
 |.ptr m aj q f=>bif m==i then .undef else .ptr m aj q f
 |.mp m aj=>bif m==i then .undef else .mp m aj
 |x=>bif aF x then x else .undef
def rv(i o n:Nat)(x:T):T :=
 match x with
 |.agg l=>.agg (l.map (my i o n))
 |.ag l=>.ag (l.map (my i o n))
 |x=>my i o n x
def iA(i o n:Nat)(b:ap):ap:=bif b.flat then b else { b with get:=λe=>(b.get e).map (my i o n) }
def rvH(i o n:Nat)(b:ap)(h:qa):qa:=(h.map (iA i o n)).set i { iA i o n b with aj:=n }
def qjX(i o n)(b):(iA i o n b).aj=b.aj/\(iA i o n b).sz=b.sz/\(iA i o n b).n=b.n/\(iA i o n b).flat=b.flat/\(iA i o n b).mp=b.mp:=by
 unfold iA;cases h:b.flat<;>simp[h]
def qrb{i o n}{x:T}{cells}(hx:rv i o n x = .ag cells):∃m,x = .ag m/\cells=m.map (my i o n):=by
 cases x with
 |ag m=>grind[T.ag.injEq,rv]
 |agg l=>cases hx
 |own m aj d len cap =>
  grind[my,rv]
 |ptr m aj q f=>simp only[rv,my] at hx;cases a:m==i<;>rw[a] at hx<;>cases hx
 |mp m aj=>simp only[rv,my] at hx;cases a:m==i<;>rw[a] at hx<;>cases hx
 |_=>simp only[rv,my] at hx;revert hx;cases aF _<;>intro hx<;>cases hx
section
variable {P:Program} {Gl:t9} {aa:t8} {nt:Nat}
def ak.Ds{l:t8}{k:Nat}{vs}{h}(i n){ov}{bi}(hki:k<=i)(oB:h[i]?=some bi)(hm:bi.mp=none)(hn:bi.aj=ov) :
 ak Gl aa nt l k vs h (vs.map (rv i ov n)) (rvH i ov n bi h):=by
 intro g a w g0 h0 w0 hk iY E M;have hr:=M.hr;simp only[qJ] at hr
 let C:=rvH i ov n bi h
 have s:=qjX i ov n;have fA:∀m,m≠i->∀b,h[m]?=some b->C[m]?=some (iA i ov n b):=λm bh b r=>by
  show((h.map _).set i _)[m]?=_;rw[vd (λe=>bh e.symm),wE,r];rfl
 have tK:C[i]?=some { iA i ov n bi with aj:=n }:=by
  show((h.map _).set i _)[i]?=_;rw[wZ (by rw[wW];grind)]
 have aY:C.length=h.length:=by show((h.map _).set i _).length=_;rw[ue,wW]
 have m6:∀m A,C[m]?=some A->(m=i/\A = { iA i ov n bi with aj:=n })∨(m≠i/\∃b,h[m]?=some b/\A=iA i ov n b):=λm A r=>by
  grind
 have B2:eR w g.U w g.U:=λb r=>⟨r,rfl⟩;have iX:∀x v,g.VR h w x v->g.VR C w (my i ov n x) v:=by
  intro x v hx;have other:my i ov n x=(bif aF x then x else .undef)->g.VR C w (my i ov n x) v:=λe=>by
   rw[e];cases hi:aF x with
   |true=>exact .aF _ _ ((yf hi hx).av B2)
   |false=>exact .aF _ _ (.undef v)
  cases x with
  |own m aj H len cap =>
   obtain⟨b,r,V,D,j⟩:=hx.dK;by_cases c:m=i
   .obtain rfl:b=bi:=by rw[c,oB] at r;grind
    by_cases d:aj=ov
    ·have e:my i ov n (.own m aj H len cap) = .own m n H len cap:=by
      show(bif m==i then(bif aj==ov then _ else _) else _)=_;rw[show(m==i)=true by grind,show(aj==ov)=true by grind];rfl
     rw[e];refine .own _ _ _ _ _ _ _ (by rw[c];exact tK) (wc _) D λ_=>?_;rcases j (hn.trans d.symm) with⟨cb,J,cc,ad,R,Q,es,sD,e3,e4,e5,e6,e7⟩|⟨O,W,q3⟩
     .exact .inl ⟨cb,J,cc,ad,R,Q,es,rx,e3,rx,rx,rx,rx⟩
     .exact .inr ⟨O,rx,q3⟩
    ·have e:my i ov n (.own m aj H len cap) = .undef:=by
      show(bif m==i then(bif aj==ov then _ else _) else _)=_;rw[show(m==i)=true by grind,show(aj==ov)=false by grind];rfl
     rw[e];exact .aF _ _ (.undef v)
   ·have e:my i ov n (.own m aj H len cap) = .own m aj H len cap:=by
     show(bif m==i then _ else _)=_;rw[show(m==i)=false by grind];rfl
    rw[e];refine .own _ _ _ _ _ _ _ (fA m c b r) (by rw[(s b).1];exact V) D λev=>?_;rw[(s b).1] at ev;rcases j ev with⟨cb,J,cc,ad,R,Q,es,sD,e3,e4,e5,e6,e7⟩|⟨O,W,q3⟩
    .exact .inl ⟨cb,J,cc,ad,R,Q,es,by rw[(s b).2.1];exact sD,e3,by rw[(s b).2.2.1];exact e4,by rw[(s b).2.2.1];exact e5,by rw[(s b).2.1];exact e6,by rw[(s b).2.2.1];exact e7⟩
    .exact .inr ⟨O,by rw[(s b).2.2.1];exact W,q3⟩
  |ptr m aj q f =>
   obtain⟨b,r,V,D,j⟩:=hx.dL;by_cases c:m=i
   ·have e:my i ov n (.ptr m aj q f) = .undef:=by
     show(bif m==i then _ else _)=_;rw[show(m==i)=true by grind];rfl
    rw[e];exact .aF _ _ (.undef v)
   ·have e:my i ov n (.ptr m aj q f) = .ptr m aj q f:=by
     show(bif m==i then _ else _)=_;rw[show(m==i)=false by grind];rfl
    rw[e];refine .ptr _ _ _ _ _ _ (fA m c b r) (by rw[(s b).1];exact V) D λev=>?_;rw[(s b).1] at ev;obtain⟨cb,J,R,Q⟩:=j ev;exact⟨cb,J,R,by rw[(s b).2.1];exact Q⟩
  |mp m aj =>
   obtain⟨b,r,V,D,j⟩:=hx.iD;by_cases c:m=i
   ·have e:my i ov n (.mp m aj) = .undef:=by
     show(bif m==i then _ else _)=_;rw[show(m==i)=true by grind];rfl
    rw[e];exact .aF _ _ (.undef v)
   ·have e:my i ov n (.mp m aj) = .mp m aj:=by
     show(bif m==i then _ else _)=_;rw[show(m==i)=false by simpa using c];rfl
    rw[e];refine .mp _ _ _ _ (fA m c b r) (by rw[(s b).1];exact V) D λev=>?_;rw[(s b).1] at ev;grind
  |_=>exact other rfl
 have hv:∀x v,g.VR h w x v->g.VR C w (rv i ov n x) v:=by
  intro x v hx;cases x with
  |agg m =>
   obtain⟨cs,rfl,hl,D,B⟩:=hx.bN;refine VR.dh (by simpa using hl) D (λe c hi=>?_);grind
  |ag m=>exact absurd hx VR.eo
  |_=>exact iX _ _ hx
 have dZ:∀(m:Nat) (b A:ap),h[m]?=some b->b.mp=none->A.sz=b.sz->A.n<=b.n->A.flat=b.flat->(A.get=(iA i ov n b).get) →
  (∃cb J I e,mO w g C m A cb J I e)∨(g.φ m=none/\A.n=0):=by
  intro m b A r cG Z z2 z3 Y;rcases hr.dS m b r cG with⟨cb,J,I,e,j⟩|⟨O,W⟩
  rotate_left
  .grind
  refine .inl ⟨cb,J,I,e,j.φ,j.own,j.heap,by rw[Z];exact wM (Nat.add_le_add_left (wI _ z2) J) j.room,λq L=>?_,λq o c L B=>?_,λS q L c B=>?_⟩
  .rw[Z,Y,←j.len q ab];unfold iA;cases b.flat<;>simp
  .rw[Z];rw[Y] at B;cases S:b.flat with
   |true =>
    have:(iA i ov n b).get q=b.get q:=by grind[iA]
    rw[this] at B;obtain⟨v,D,C,X⟩:=j.cell q o c ab B;exact⟨v,D,C,.aF _ _ (yk (j.flat S q ab c (wx B)) X)⟩
   |false =>
    have:(iA i ov n b).get q=(b.get q).map (my i ov n):=by unfold iA;rw[S];rfl
    rw[this] at B;obtain⟨c0,o9,rfl⟩:=QE B;obtain⟨v,D,C,X⟩:=j.cell q o c0 ab o9;grind
  .rw[z3] at S;rw[Y] at B;have:(iA i ov n b).get q=b.get q:=by grind[iA]
   rw[this] at B;exact j.flat S q ab c B
 have BY:HR g C w:=by
  refine⟨λm A N iK=>?_,hr.u,hr.own,hr.base,hr.cells,λb m ho=>by rw[aY];exact hr.lt b m ho,λm A q N L=>?_⟩
  .rcases m6 m A N with⟨rfl,rfl⟩|⟨bh,b,r,rfl⟩
   .simp_all
   .have e:=s b;exact dZ m b _ r (e.2.2.2.2.symm.trans iK) e.2.1 (by rw[e.2.2.1];omega) e.2.2.2.1 rfl
  .rcases m6 m A N with⟨rfl,rfl⟩|⟨bh,b,r,rfl⟩
   .have L:(iA m ov n bi).mp=some q:=L;rw[(s bi).2.2.2.2,hm] at L;cases L
   .exact hr.mp m b q r ((s b).2.2.2.2.symm.trans L)
 refine⟨g,⟨BY,M.defers,M.size,M.nt,λt ht=>?_,λt ht cells B=>?_,λd t o hh=>(by cases hh),M.eQ,λd t o hh=>(by cases hh)⟩,?_,.refl g⟩
 .rw[zF (rv i ov n) rfl l vs h];exact hv _ _ (M.tmps t ht)
 .rw[zF (rv i ov n) rfl l vs h] at B;obtain⟨m,hx,rfl⟩:=qrb B;obtain⟨cb,I,e,j⟩:=M.eW t ht m hx;refine⟨cb,I,e,j.ptr,j.own,j.heap,by rw[wW];exact j.len,λo c pP=>?_⟩;obtain⟨c0,o9,rfl⟩:=QE pP;obtain⟨u,D,C,X⟩:=j.cell o c0 o9;exact⟨u,D,C,iX _ _ X⟩
 .refine⟨⟨E.av.u,λm b r=>?_,E.av.rm⟩,E.size,E.own,E.os,E.tape,E.output,E.same,E.bs,E.u,E.u'⟩;obtain⟨b',dR,O,W⟩:=E.av.dZ m b r;have pR:m<k:=vg (qC r) hk;grind
end
def MT(cells:t7):ap:=⟨0,cells.length,1,λ_=>cells,cells.all qK,false,none⟩
def MU(t:Nat)(cells:t7)(s:St):St:={ env:=s.env.set QS t (.ptr s.h.length 0 0 0),loc:=λ_=>none,used:=λ_=>false,h:=s.h++[MT cells] }
def Ii(aa:t8)(t:Nat):t8:=aa.filter λx=>!(x==t)
def kq:t8->t8->t8
 |aa,[]=>aa
 |aa,t::l=>kq (Ii aa t) l
def Ij:t8->t8->St->Option St
 |_,[],s=>some s
 |aa,t::l,s=>match s.at t with
  |.ag cells=>bif aa.contains t then Ij (Ii aa t) l (MU t cells s) else none
  |_=>none
section
variable {P:Program} {Gl:t9} {aa ga:t8} {nt:Nat} {K:bv} {A:FuncId->cW}
def qb0{t u:Nat}:u∈Ii aa t↔u∈aa/\u≠t:=by simp[Ii]
def qo8{g:Gh}{s}{a}{w}(H:SR Gl aa nt g s a w){t:Nat}(ht:t∈aa){cells:t7}(C:s.at t = .ag cells) :
 ∃g',SR Gl (Ii aa t) nt g' (MU t cells s) a w/\∀g0 h0 w0,JK g0->dy g0 h0 w0 g s.h w->dy g0 h0 w0 g' (MU t cells s).h w:=by
 obtain⟨cb,O,e,B⟩:=H.eW t ht cells C;have hr:=H.hr;have W:t<1024:=by
  rcases wu t 1024 with q|q
  .exact q
  .rw[CF ab] at C;cases C
 let h:=s.h
 let L:ap:=MT cells
 let g':Gh:={ g with φ:=λk=>if k=h.length then some (cb,0) else g.φ k,own:=λk=>if k=cb then some (.inl h.length) else g.own k }
 have hU:eR w g.U w g.U:=λk r=>⟨r,rfl⟩;have Q:Zn g h w g' (h++[L]) w:=by
  refine⟨hU,λk x hx=>?_,λk n cz=>cz⟩;grind
 have bh:∀k i,g.own k=some (.inl i)->k≠cb:=by
  rintro k i r rfl;rw[B.own] at r;cases r
 have Z:(h++[L])[h.length]?=some L:=by simp
 have dq:HR g' (h++[L]) w:=by
  refine⟨λk x hx V=>?_,λk r=>?_,λk o I=>?_,hr.base,λk o I=>?_,λk j I=>?_,λk x m hx V=>?_⟩
  .rcases wu k h.length with r|r
   .rw[wy r] at hx;rcases hr.dS k x hx V with⟨S,oR,fj,e2,J⟩|⟨q1,q2⟩
    .refine .inl ⟨S,oR,fj,e2,by simp[g',vB r,J.φ],by simp[g',bh _ _ J.own,J.own],J.heap,J.room,J.len,λj o c Y C=>?_,J.flat⟩;obtain⟨v,M,E,R⟩:=J.cell j o c Y C;exact⟨v,M,E,R.av Q⟩
    grind
   ·have gK:k=h.length:=by
     grind
    subst gK;rw[Z] at hx;obtain rfl:=we hx;refine .inl ⟨cb,0,O,e,by simp[g'],by simp[g'],B.heap,by simpa [L,MT] using B.len,λj _=>rfl,λj o c Y C=>?_,λhf j _ c C=>wD.1 hf c C⟩;have OI:j=0:=by simp[L,MT] at Y;omega
    subst OI;obtain⟨v,M,E,R⟩:=B.cell o c C;exact⟨v,rx,E,R.av Q⟩
  ·obtain⟨M,E⟩:=hr.u k r;have lZ:k≠cb:=by
    rintro rfl;rw[B.own] at E;cases E
   grind
  .by_cases r:k=cb
   .subst r;exact hr.own _ _ B.own
   .simp only[g',r,vn] at I;exact hr.own k o I
  .by_cases r:k=cb
   .subst r;exact .inl ⟨O,e,B.heap⟩
   .simp only[g',r,vn] at I;exact hr.cells k o I |>.imp id λ⟨i2,es,c,M,E⟩=>⟨i2,es,c,M,E⟩
  .rw[wC,xM];by_cases r:k=cb
   .grind
   .simp only[g',r,vn] at I;have:=hr.lt k j I;grind
  .rcases wu k h.length with r|r
   .rw[wy r] at hx;obtain⟨c,M,E,R⟩:=hr.mp k x m hx V;grind
   ·have gK:k=h.length:=by
     grind
    subst gK;rw[Z] at hx;obtain rfl:=we hx;cases V
 have eF:=λu=>EM (s:=s) (s':=MU t cells s) (d:=t) (v:=.ptr h.length 0 0 0) rfl W u;refine⟨g',⟨dq,?_,H.size,H.nt,λu N=>?_,λu N cs GC=>?_,λd t o X=>(by cases X),λgl cs hg=>(H.eQ gl cs hg).av hU,λd t o X=>(by cases X)⟩,λg0 h0 w0 hn f=>?_⟩
 ·obtain⟨p0,l,p1,p2,p3⟩:=H.defers;refine⟨p0,l,p1,p2,λD hD=>?_⟩;obtain⟨r1,r2,r3,r4⟩:=p3 D hD;have hD2:D≠cb:=by
   rintro rfl;rw[B.own] at r2;cases r2
  grind
 .rw[eF];by_cases q:u=t
  .subst q;rw[wl rfl];exact .ptr _ _ _ _ L _ Z (wc _) (by rw[B.ptr];rfl) λ_=>⟨cb,0,rx,by rw[B.ptr];simp⟩
  .rw[wh q];exact(H.tmps u λhm=>N (qb0.2 ⟨hm,q⟩)).av Q
 ·rw[eF] at GC;obtain⟨N,Ik⟩:=qb0.1 N;rw[wh Ik] at GC;obtain⟨S,fj,e2,rG⟩:=H.eW u N cs GC;refine⟨S,fj,e2,rG.av Q ?_ rfl⟩;have:S≠cb:=by
   rintro rfl;have:=rG.own;rw[B.own] at this;exact Ik (by simpa using this.symm)
  grind
 ·refine⟨f.av.trans Q,f.size,λb hb=>?_,f.os,f.tape,f.output,f.same,f.bs,f.u,f.u'⟩;have:b≠cb:=by
   rintro rfl;have:=f.own b hb;rw[B.own] at this;exact hn b t this.symm
  show(if b=cb then _ else g.own b)=_;rw[wh this];exact f.own b hb
def qj1:∀(ds:t8) {aa:t8} {g:Gh} {s s2:St} {a:Act} {w:World},Ij aa ds s=some s2->SR Gl aa nt g s a w →
 ∃g',SR Gl (kq aa ds) nt g' s2 a w/\∀g0 h0 w0,JK g0->dy g0 h0 w0 g s.h w->dy g0 h0 w0 g' s2.h w
 |[],aa,g,s,s2,a,w,d,e=>by
  cases d;exact⟨g,e,λ_ _ _ _ f=>f⟩
 |t::l,aa,g,s,s2,a,w,d,e=>by
  simp only[Ij] at d;split at d
  .rename_i cells u;obtain⟨r,d⟩:=qo d;obtain⟨B,o,k⟩:=qo8 e (by simpa using r) u;obtain⟨x,j,i⟩:=qj1 l d o;exact⟨x,j,λg0 h0 w0 hn f=>i g0 h0 w0 hn (k g0 h0 w0 hn f)⟩
  grind
def zU(P:Program)(Gl:t9)(aa ga:t8)(nt:Nat)(h0:qa)(c:Code)(s:St)(e:Ex)(s':St):Prop :=
 ∀(ro:Option Nat) (n:Nat),(qv c=true->ro=none)->∀(g0:Gh) (d:World) (g:Gh) (a:Act) (w:World),HR g0 h0 d->JK g0->dy g0 h0 d g s.h w->SR Gl aa nt g s a w->∀Q:Exit->Act->World->Prop,
  (∀i w' f,SR Gl ga nt f s' i w'->dy g0 h0 d f s'.h w'->Q e.out i w')->c.wpIn (QM ro) n P Q a w
def qlf{h0}{c}{s s'}{e}(h:aG P Gl aa nt c s e s'):zU P Gl aa aa nt h0 c s e s' :=
 λro n k _ _ g a w _ _ f d Q hn=>h ro n k g a w d Q λr w' i j o _=>hn r w' i j (f.trans o)
def qlg{h0}{c d}{s s1 s'}{e}(h1:aG P Gl aa nt c s .normal s1)(h2:zU P Gl aa ga nt h0 d s1 e s'):zU P Gl aa ga nt h0 (.seq c d) s e s' :=
 λro n f g0 k g a w hr r B x Q hn=>wpIn_seq (h1 ro n (λh=>f (by simp[qv,h])) g a w x _ λJ j E H u _=>h2 ro n (λh=>f (by simp[qv,h])) g0 k E J j hr r (B.trans u) H Q λI i D C o=>hn I i D C o)
def qlh{h0}{c}{s d s'}{e}{ds}(u:Ij aa ds s=some d)(h:zU P Gl (kq aa ds) ga nt h0 c d e s'):zU P Gl aa ga nt h0 c s e s' :=
 λro n B g0 i g a w hr f r o Q hn=>by
  obtain⟨x,k,j⟩:=qj1 ds u o;exact h ro n B g0 i x a w hr f (j _ _ _ f r) k Q hn
def qi3(hn:QN P=true){f}{fn}{c}(g:P.funcs[f]?=some fn)(a:fn.body=some c){args:t7}(H:(Nat.ble fn.ntmps 1024&&Nat.ble args.length fn.ntmps)=true){s':St}(ik:zU P Gl aa ga fn.ntmps [] c (enter args []) .ret s'){r:T}(bL:YX P Gl ga fn s' (λv=>some (kQ s'.h v))=some r):aD P Gl f args r:=by
 obtain⟨rv,DJ,AA⟩:=qM (I8 (P:=P) (Gl:=Gl) (aa:=ga) fn s') bL;obtain rfl:=we DJ;simp only[wd] at H;have bp:=Qr H.1;have bz:=Qr H.2;refine⟨⟨fn,g,by rw[a];rfl,?_⟩,λw U aE hU di Q=>?_⟩
 .have:=Array.all_eq_true'.1 hn fn (xn g);rw[a] at this;grind
 let g0:Gh:={ U:=U,φ:=λ_=>none,own:=λ_=>none,base:=w.heap.size,low:=0 }
 have hr:HR g0 [] w:=⟨λi b a=>rx,λb a=>⟨hU b a,rfl⟩,λb o j=>(by cases j),wc _,λb o j=>(by cases j),λb i j=>(by cases j),λi b m a=>rx⟩;have OR:dz g0 [] w args aE:=⟨Q.1,λi x hi=>by
  obtain⟨v,E,C⟩:=Q.2 i x hi;exact⟨v,E,.aF _ _ C⟩⟩
 have lF:=SR.enter (Gl:=Gl) (aa:=aa) (wc _) (hr.hZ w.heap.size) di OR bp bz;rw[←callsIn_wide (n:=0)];refine callsIn_of_wp_marks g a trivial (ik none 0 (λ_=>rfl) _ w _ _ w (hr.hZ w.heap.size) (λb t h=>by cases h) (.refl _ _ _) lF _ λS w' k R d=>?_) rfl;obtain⟨pO,l,W,V,N⟩:=R.defers;obtain⟨t1,t2,t3,t4,s⟩:=jP l w';have l6:∀b,k.U b∨k.own b≠none->b∉l:=by
  grind
 have Z:∀b n,room w' b n->room (dA l w') b n:=by
  rintro b n ⟨M,e,J,I⟩;refine⟨M,e,?_,I⟩;rw[s b λO=>?_]
  .exact J
  grind
 have L:=R.world (w':=dA l w') (ds:=[]) ab (λb a=>s b (l6 b a)) Z (Marks.nil ab);obtain⟨x,hk,v,J,I⟩:=YN L (AA T some);obtain rfl:=we hk;show LeavesInM Fence.wide 0 P fn S.tmps (λe w'=>∃v,e = .returned v/\RV w U (kQ s'.h x) v w') S.defers .returning w';rw[W];refine Zr l w' V (λD hD=>(N D hD).2.2.2) ⟨v,J,v,rfl,?_⟩;have fO:k.base=w.heap.size:=d.base;obtain⟨X,E,C,Y⟩:=JJ L.hr (B:=w.heap.size) ab I;refine⟨⟨⟨t2.trans d.os,t3.trans d.tape,(t4.trans d.output).1,by have:=d.size;omega,λb a=>?_⟩,(t4.trans d.output).2⟩,YL k (dA l w') w.heap.size (ZP x),X,λb a=>.inl ((d.av.u b a).1),λb a=>?_,C,Y,E⟩
 .rw[s b λO=>by have:=(N b O).1;have h4:k.low=w.heap.size:=d.low;omega];exact d.same b a rfl
 .rcases a with a|a
  .exact⟨d.u b a,(L.hr.u b a).1⟩
  omega
end
section
variable (P:Program) (G:t9) (A:FuncId->cW) (sq:FuncId->t7->Option (List t7))
def FJ(K:bv)(aa:t8)(nt:Nat)(live:Nat->Bool->t8)(rec:Rec):Nat->Code->St->Option (St×Code)
 |0,c,s=>some (s,c)
 |n+1,.seq a b,s=>match ic P K G aa nt live rec a s (λe s=>some (e,s)) with
  |some (.normal,d)=>FJ K aa nt live rec n b d
  |_=>none
 |_,_,_=>none
end
section
variable {P:Program} {Gl:t9} {A:FuncId->cW} {sq:FuncId->t7->Option (List t7)}
def jI(k:P.follows .mixedOrders=true){K}(o:aS P Gl K){aa ga}{nt:Nat}(u:nt<=1024){live:Nat->Bool->t8}{rec:Rec}(r:ll P Gl aa nt live (λ_=>True) rec){h0:qa}{e:Ex}{g:St} :
 ∀(n:Nat) {c d:Code} {s s1:St},FJ P Gl K aa nt live rec n c s=some (s1,d)->zU P Gl aa ga nt h0 d s1 e g->zU P Gl aa ga nt h0 c s e g
 |0,c,d,s,s1,f,j=>by
  simp only[FJ,wj,wA] at f;grind
 |n+1,c,d,s,s1,f,j=>by
  cases c with
  |seq a b =>
   simp only[FJ] at f;split at f
   .rename_i C hx;obtain⟨D,B,i,x⟩:=zf k o u r a (λ_ _=>trivial) hx;simp only[wj,wA] at i;obtain⟨rfl,rfl⟩:=i;exact qlg x (jI k o u r n f j)
   grind
  |_=>cases f
end
section
def bv.tN(K:bv)(P:Program)(Gl:t9)(A:FuncId->cW)(m:Nat)(f:FuncId):bv where
 cJ e:=bif e==f then false else K.cJ e
 val e a R k:=bif e==f then(QK P Gl A K m f a).bind k else K.val e a R k
 ref:=K.ref
 dv e a:=qQ _ (match QK P Gl A K m f a with|some r=>.inr ⟨r,λ_ _=>rfl⟩|none=>.inl λ_ _=>rfl) (K.dv e a)
 dw:=K.dw
 ro:=K.ro
def qnl{P}{Gl}{A}(o:P.follows .mixedOrders=true)(hn:QN P=true){K:bv}(g:aS P Gl K){m:Nat}{f:FuncId}:aS P Gl (K.tN P Gl A m f):=by
 have key:∀a r,(QK P Gl A K m f a).bind some=some r->aD P Gl f a r:=λa r h=>by
  rw[LK] at h;exact qE o hn g h
 refine⟨λe hx=>?_,λe a r hx w U aE j k i=>?_,g.ref,g.ro⟩
 .rcases hx with⟨a,r,hx⟩|hx
  .simp only[bv.tN] at hx;rcases qw hx with⟨he,d⟩|⟨_,d⟩
   .have he:e=f:=by grind
    subst he;exact(key a r d).enters
   .exact g.enters e (.inl ⟨a,r,d⟩)
  .exact g.enters e (.inr hx)
 .simp only[bv.tN] at hx;rcases qw hx with⟨he,d⟩|⟨_,d⟩
  .have he:e=f:=by grind
   subst he;exact(key a r d).calls w U aE j k i
  .exact g.val e a r d w U aE j k i
def MV(P:Program)(Gl:t9)(A:FuncId->cW)(m:Nat):List FuncId->bv->bv
 |[],K=>K
 |f::l,K=>MV P Gl A m l (K.tN P Gl A m f)
def R9{P:Program}{Gl:t9}{A:FuncId->cW}(a:P.follows .mixedOrders=true)(hn:QN P=true){m:Nat}:∀(l:List FuncId) {K:bv},aS P Gl K->aS P Gl (MV P Gl A m l K)
 |[],_,h=>h
 |f::l,K,h=>R9 a hn l (qnl a hn h)
end
section
variable {P:Program} {Gl:t9} {aa ga:t8} {nt:Nat}
def qhN{h0}{c}{s s'}{e}(l)(σ)(o:zA h0.length σ s.h=true)(h:zU P Gl aa ga nt h0 c (qJ l ((Za s l).map (nO σ s.h)) (uv σ s.h)) e s'):zU P Gl aa ga nt h0 c s e s' :=
 λro n x g0 d g a w hr j r k Q hn=>by
  obtain⟨u,i,f,_⟩:=ak.Au (Gl:=Gl) (aa:=aa) (nt:=nt) (l:=l) (vs:=Za s l) σ o g a w g0 h0 d (wc _) hr r (k.only l);exact h ro n x g0 d u a w hr j f i Q hn
end
structure s6 where
 n1:Nat
 ds:t8
 n2:Nat
 l:t8
 σ:St->t8
 fs:List FuncId
section
variable (P:Program) (G:t9) (A:FuncId->cW) (sq:FuncId->t7->Option (List t7))
def Sa(K:bv)(m:Nat)(p:s6)(f:FuncId)(args:t7):Option T:=match P.funcs[f]? with
 |some fn=>match fn.body with
  |some c=>bif Nat.ble fn.ntmps 1024&&Nat.ble args.length fn.ntmps then
   match FJ P G K (A f).aa fn.ntmps (A f).live (jC P K G (A f).aa fn.ntmps (A f).live sq m) p.n1 c (enter args []) with
   |some (s1,j)=>match Ij (A f).aa p.ds s1 with
    |some g=>match FJ P G K (kq (A f).aa p.ds) fn.ntmps (A f).live (jC P K G (kq (A f).aa p.ds) fn.ntmps (A f).live sq m) p.n2 j g with
     |some (a,i)=>bif zA 0 (p.σ a) a.h then
      match ic P (MV P G A m p.fs K) G (kq (A f).aa p.ds) fn.ntmps (A f).live (jC P (MV P G A m p.fs K) G (kq (A f).aa p.ds) fn.ntmps (A f).live sq m) i (qJ p.l ((Za a p.l).map (nO (p.σ a) a.h)) (uv (p.σ a) a.h)) (λe s=>some (e,s)) with
      |some (.ret,d)=>YX P G (kq (A f).aa p.ds) fn d λv=>some (kQ d.h v)
      |_=>none
      else none
     |none=>none
    |none=>none
   |none=>none
   else none
  |none=>none
 |none=>none
end
section
variable {P:Program} {Gl:t9} {A:FuncId->cW} {sq:FuncId->t7->Option (List t7)}
def qi4(a:P.follows .mixedOrders=true)(hn:QN P=true){K:bv}(d:aS P Gl K)(i:JO P Gl sq){m:Nat}{p:s6}{f:FuncId}{args:t7}{r:T}(h:Sa P Gl A sq K m p f args=some r):aD P Gl f args r:=by
 unfold Sa at h;split at h
 .rename_i fn j;split at h
  .rename_i c B;obtain⟨o,h⟩:=qo h;have g:=Qr (wd _ _▸o).1;split at h
   .rename_i s1 N H;split at h
    .rename_i M E;split at h
     .rename_i s I D;obtain⟨x,h⟩:=qo h;split at h
      .rename_i L C;obtain⟨e,J,k,u⟩:=zf a (R9 a hn p.fs d) g (jS a (R9 a hn p.fs d) g i m) I (λ_ _=>trivial) C;simp only[wj,wA] at k;obtain⟨rfl,rfl⟩:=k;exact qi3 hn j B o (jI a d g (jS a d g i m) p.n1 H (qlh E (jI a d g (jS a d g i m) p.n2 D (qhN p.l (p.σ s) x (qlf u))))) h
      .cases h
     .cases h
    .cases h
   .cases h
  .cases h
 .cases h
end
section
def KX(P:Program)(G:t9)(A:FuncId->cW)(sq:FuncId->t7->Option (List t7))(Z:FuncId->Option s6)(K:bv)(m:Nat)(f:FuncId)(args:t7):Option T :=
 match Z f with
 |none=>Vq P G A sq K m f args
 |some p=>Sa P G A sq K m p f args
def zK{P}{G}{A}{sq}{Z}(d:P.follows .mixedOrders=true)(hn:QN P=true){K:bv}(e:aS P G K)(a:JO P G sq){m:Nat}{f:FuncId}{args:t7}{r:T}(h:KX P G A sq Z K m f args=some r):aD P G f args r:=by
 unfold KX at h;split at h
 .exact qiF d hn e a h
 .exact qi4 d hn e a h
end
def K1(P:Program)(G:t9)(A:FuncId->cW)(sq:FuncId->t7->Option (List t7))(Z:FuncId->Option s6)(B C D:FuncId->Bool)(m:Nat)(K0:bv):Nat->bv
 |0=>K0
 |n+1=>{ cJ:=λe=>bif D e then K0.cJ e else !(B e),val:=λe a _ k=>bif D e then K0.val e a _ k else(bif B e then(bif C e then(KX P G A sq Z (K1 P G A sq Z B C D m K0 n) m e a).map (λr=>iH (iQ r)) else KX P G A sq Z (K1 P G A sq Z B C D m K0 n) m e a) else none).bind k,ref:=λe a h R k=>bif D e then K0.ref e a h R k else jf P G A (K1 P G A sq Z B C D m K0 n) (LL P G A sq (K1 P G A sq Z B C D m K0 n) m e) e a h k,dv:=λe a=>qQ _ (K0.dv e a) (match bif B e then(bif C e then(KX P G A sq Z (K1 P G A sq Z B C D m K0 n) m e a).map (λr=>iH (iQ r)) else KX P G A sq Z (K1 P G A sq Z B C D m K0 n) m e a) else none with|some r=>.inr ⟨r,λ_ _=>rfl⟩|none=>.inl λ_ _=>rfl),dw:=λe a h=>qQ _ (K0.dw e a h) (N0 (Vr (K1 P G A sq Z B C D m K0 n) m e) e a h),ro:=λe=>bif D e then K0.ro e else Pk P e }
def qj2{P}{G}{A}{sq}{Z}{B C D:FuncId->Bool}(i:P.follows .mixedOrders=true)(hn:QN P=true)(o:JO P G sq)(m:Nat){K0:bv}(f:aS P G K0):∀n,aS P G (K1 P G A sq Z B C D m K0 n)
 |0=>f
 |n+1=>by
  have s:=qj2 (G:=G) (A:=A) (Z:=Z) (B:=B) (C:=C) (D:=D) i hn o m f n;have key:∀e a r,D e=false->(K1 P G A sq Z B C D m K0 (n+1)).val e a T some=some r->aD P G e a r:=λe a r d hx=>by
   simp only[K1,d,wq] at hx;rw[LK] at hx;cases E:B e with
   |false=>rw[E,wq] at hx;cases hx
   |true =>
    rw[E,wp] at hx;cases x:C e with
    |false=>rw[x,wq] at hx;exact zK i hn s o hx
    |true =>
     rw[x,wp] at hx;obtain⟨J,I,rfl⟩:=wT.1 hx;exact(zK i hn s o I).iQ.iH
  refine⟨λe hx=>?_,λe a r hx w U aE H k j=>?_,λe a h r h' hx g w aE hr u k j=>?_,λe he a h r h' hx=>?_⟩
  .cases d:D e with
   |true =>
    simp only[K1,d,wp] at hx;exact f.enters e hx
   |false =>
    rcases hx with⟨a,r,hx⟩|⟨a,h,⟨r,h'⟩,hx⟩
    .exact(key e a r d hx).enters
    .simp only[K1,d,wq] at hx;exact ZN hn hx
  .cases d:D e with
   |true=>simp only[K1,d,wp] at hx;exact f.val e a r hx w U aE H k j
   |false=>exact(key e a r d hx).calls w U aE H k j
  .cases d:D e with
   |true=>simp only[K1,d,wp] at hx;exact f.ref e a h r h' hx g w aE hr u k j
   |false=>simp only[K1,d,wq] at hx;exact KB i s (Vs i s o m e) hx hr u k j
  .cases d:D e with
   |true=>simp only[K1,d,wp] at he hx;exact f.ro e he a h r h' hx
   |false =>
    simp only[K1,d,wq] at he hx;exact qnZ he hx
def vw(sz:Nat)(cap:Option Nat)(l:List t7):T:=.view sz l.length (λj=>l.getD j []) cap
def ii(n:Int):T:=.int .i64 n
def uu(n:Int):T:=.int .u8 n
def sW(c:Option Nat):Option Nat->Bool
 |none=>true
 |some m=>match c with|some k=>Nat.beq k m|none=>false
def BJ(p:T->T->Bool):t7->t7->Bool
 |[],[]=>true
 |a::l,b::m=>p a b&&BJ p l m
 |_,_=>false
def MW:T->T->Bool
 |_,.undef=>true
 |.bool a,.bool b=>a==b
 |.int k a,.int d b=>decide (k=d)&&decide (a=b)
 |.str a,.str b=>decide (a=b)
 |.ae,.ae=>true
 |.lz,.lz=>true
 |.eO,.eO=>true
 |.iV,.iV=>true
 |.mB,.mB=>true
 |.ae,.view _ 0 _ none=>true
 |.ae,.view _ 0 _ (some 0)=>true
 |_,_=>false
def pt:Nat->T->T->Bool
 |0,x,y=>MW x y
 |d+1,x,y=>match x,y with
  |.view sz n g c,.view a e f i=>Nat.beq n e&&Nat.beq sz a&&sW c i&&(List.range n).all λj=>BJ (pt d) (g j) (f j)
  |.agg l,.agg m=>BJ (pt d) l m
  |x,y=>MW x y
def j7{p:T->T->Bool}(h:∀a b,p a b=true->mV a b):∀{l m:t7},BJ p l m=true->cH l m
 |[],[],_=>.nil
 |[],_::_,d=>by cases d
 |_::_,[],d=>by cases d
 |a::l,b::m,d=>by
  simp only[BJ,wd] at d;exact .cons (h a b d.1) (j7 h d.2)
def qeX(x y:T)(h:MW x y=true):mV x y:=by
 unfold MW at h;split at h
 .exact .undef _
 .obtain rfl:=eq_of_beq h;exact .refl _
 .simp at h;obtain⟨rfl,rfl⟩:=h;exact .refl _
 .obtain rfl:=xX h;exact .refl _
 .exact .refl _
 .exact .refl _
 .exact .refl _
 .exact .refl _
 .exact .refl _
 .intro w U v a;cases a;exact .fg _ _ _ (.inl rfl)
 .intro w U v a;cases a;exact .fg _ _ _ (.inr rfl)
 .cases h
def jJ:∀(d:Nat) (x y:T),pt d x y=true->mV x y
 |0,x,y,h=>qeX x y h
 |d+1,x,y,h=>by
  simp only[pt] at h;split at h
  .rename_i sz n g c o r s u;simp only[wd] at h;obtain⟨⟨⟨k,i⟩,a⟩,f⟩:=h;obtain rfl:=xN k;obtain rfl:=xN i;refine .view ?_ λj e=>j7 (jJ d) (wD.1 f j (xk.2 e));unfold sW at a;split at a
   .grind
   .split at a
    .exact .inl (by rw[xN a])
    grind
  .exact .agg (j7 (jJ d) h)
  .exact qeX _ _ h
def MX:T->Bool
 |.fresh ..|.iC _|.new _=>false
 |_=>true
def Il(d:Nat):T->T->Bool
 |.new x,y=>pt d x y&&MX y
 |x,y=>MX x&&MX y&&pt d x y
def Io(d:Nat)(x y:T):Bool:=match x with
 |.agg l=>(match y with|.agg m=>BJ (Il d) l m|_=>false)
 |x=>(match y with|.agg _=>false|y=>Il d x y)
def uL(d:Nat)(x y:T):Bool:=match x with
 |.aJ l=>(match y with|.aJ m=>BJ (Io d) l m|_=>false)
 |x=>(match y with|.aJ _=>false|y=>Io d x y)
section
variable {w:World} {B:Nat} {U:Nat->Prop} {P:Program} {Gl:t9}
def g4.aF{x:T}{v}{X}(a:MX x=true)(h:g4 w B U x v X):VI w U x v/\X=[]:=by
 cases h with
 |vi _ _ d=>grind
 |_=>cases a
def qhR{d}{x y:T}(h:Il d x y=true){v}{X:t8}(hx:g4 w B U x v X):g4 w B U y v X:=by
 unfold Il at h;split at h
 .simp only[wd] at h;cases hx with
  |vi _ _ a=>cases a
  |nw _ _ a=>exact .vi _ _ (jJ d _ _ h.1 _ _ _ (a.av λb e=>⟨e.1,rfl⟩))
 .simp only[wd] at h;obtain⟨f,rfl⟩:=hx.aF h.1.1;exact .vi _ _ (jJ d _ _ h.2 _ _ _ f)
def Sb{Q:T->Value->t8->Prop}{p:T->T->Bool}(hp:∀x y v X,p x y=true->Q x v X->Q y v X):∀{l m:t7} {vs:List Value} {X:t8},BJ p l m=true->nk Q l vs X->nk Q m vs X
 |[],[],vs,X,_,h=>h
 |[],_::_,_,_,h,_=>by cases h
 |_::_,[],_,_,h,_=>by cases h
 |a::l,b::m,vs,X,h,hx=>by
  simp only[BJ,wd] at h;cases hx with
  |cons _ _ _ _ _ _ e d=>exact .cons _ _ _ _ _ _ (hp _ _ _ _ h.1 e) (Sb hp h.2 d)
def qnn{d}{x y:T}(hx:∀l,x≠.agg l)(a:∀l,y≠.agg l):Io d x y=Il d x y:=by
 cases x<;>cases y<;>first|rfl|exact absurd rfl (hx _)|exact absurd rfl (a _)
def qo9{d}{x y:T}(hx:∀l,x≠.aJ l)(a:∀l,y≠.aJ l):uL d x y=Io d x y:=by
 cases x<;>cases y<;>first|rfl|exact absurd rfl (hx _)|exact absurd rfl (a _)
def qno{x:T}{v}{X}(hx:∀l,x≠.agg l):mj w B U x v X=g4 w B U x v X:=by
 cases x<;>first|rfl|grind
def qnp{x:T}{v}{X}(hx:∀l,x≠.aJ l):oV w B U x v X=mj w B U x v X:=by
 cases x<;>first|rfl|grind
def isAgg(x:T):(∃l,x = .agg l)∨∀l,x≠.agg l:=by
 cases x<;>first|exact .inl ⟨_,rfl⟩|exact .inr λl h=>by cases h
def qpJ(x:T):(∃l,x = .aJ l)∨∀l,x≠.aJ l:=by
 cases x<;>first|exact .inl ⟨_,rfl⟩|exact .inr λl h=>by cases h
def qhS{d}{x y:T}(h:Io d x y=true){v:Value}{X:t8}(hx:mj w B U x v X):mj w B U y v X:=by
 rcases isAgg x with⟨l,rfl⟩|f<;>rcases isAgg y with⟨m,rfl⟩|e
 .obtain⟨k,j,i,g⟩:=hx;exact⟨k,j,i,Sb (Q:=g4 w B U) (λ_ _ _ _ a b=>qhR a b) h g⟩
 .cases y<;>first|cases h|grind
 .cases x<;>first|cases h|grind
 .rw[qnn f e] at h;rw[qno f] at hx;rw[qno e];exact qhR h hx
def qpa{d}{x y:T}(h:uL d x y=true){v:Value}{X:t8}(hx:oV w B U x v X):oV w B U y v X:=by
 rcases qpJ x with⟨l,rfl⟩|f<;>rcases qpJ y with⟨m,rfl⟩|e
 .obtain⟨j,i,g⟩:=hx;exact⟨j,i,Sb (Q:=mj w B U) (λ_ _ _ _ a b=>qhS a b) h g⟩
 .cases y<;>first|cases h|grind
 .cases x<;>first|cases h|grind
 .rw[qo9 f e] at h;rw[qnp f] at hx;rw[qnp e];exact qhS h hx
def aD.uL{f}{args}{d}{r a:T}(t:aD P Gl f args r)(h:Ab.uL d r a=true):aD P Gl f args a :=
 ⟨t.enters,λw U aE k D j=>(t.calls w U aE k D j).mono λe w' ⟨v,i,g⟩=>⟨v,i,by
  obtain⟨C,E,X,A,x,u,s,o⟩:=g;exact⟨C,E,X,A,x,u,s,qpa h o⟩⟩⟩
def Kg{f}{args}{o:Option T}(e:∀r,o=some r->aD P Gl f args r){d:Nat}{a:T}(h:(match o with|some r=>Ab.uL d r a|none=>false)=true):aD P Gl f args a:=by
 cases o with
 |some r=>exact(e r rfl).uL h
 |none=>cases h
end
abbrev Ez:=List (FuncId×t7×T)
def Ip(d:Nat):Ez->FuncId->t7->Option T
 |[],_,_=>none
 |(f,a,r)::l,g,b=>bif Nat.beq f g&&BJ (pt d) b a then some r else Ip d l g b
def MY(P:Program)(Gl:t9):Ez->Prop
 |[]=>True
 |(f,a,r)::l=>aD P Gl f a r/\MY P Gl l
def Sc{P}{Gl}{d}:∀{l:Ez} {f:FuncId} {b:t7} {r:T},MY P Gl l->Ip d l f b=some r->aD P Gl f b r
 |[],_,_,_,_,h=>by cases h
 |(f,a,x)::l,g,b,r,j,h=>by
  simp only[Ip] at h;rcases qw h with⟨e,i⟩|⟨_,i⟩
  .simp only[wd] at e;obtain rfl:=xN e.1;obtain rfl:=we i;exact j.1.J3 (j7 (jJ d) e.2)
  .exact Sc j.2 i
def Iq(l:Ez)(f:FuncId):Bool:=l.any λe=>Nat.beq e.1 f
def Jw(d:Nat)(l:Ez)(K:bv):bv where
 cJ e:=bif Iq l e then false else K.cJ e
 val e a R k:=bif Iq l e then(Ip d l e a).bind k else K.val e a R k
 ref e a h R k:=bif Iq l e then none else K.ref e a h R k
 dv e a:=qQ _ (match Ip d l e a with|some r=>.inr ⟨r,λ_ _=>rfl⟩|none=>.inl λ_ _=>rfl) (K.dv e a)
 dw e a h:=qQ _ (.inl λ_ _=>rfl) (K.dw e a h)
 ro e:=bif Iq l e then false else K.ro e
def qnr{P:Program}{Gl}{d}{l:Ez}{K:bv}(o:MY P Gl l)(j:aS P Gl K):aS P Gl (Jw d l K):=by
 refine⟨λe hx=>?_,λe a r hx w U aE s k i=>?_,λe a h r h' hx g w aE hr u k i=>?_,λe he a h r h' hx=>?_⟩
 all_goals cases f:Iq l e
 .simp only[Jw,f,wq] at hx;exact j.enters e hx
 .simp only[Jw,f,wp] at hx;rcases hx with⟨a,r,hx⟩|⟨a,h,r,hx⟩
  .rw[LK] at hx;exact(Sc o hx).enters
  grind
 .simp only[Jw,f,wq] at hx;exact j.val e a r hx w U aE s k i
 .simp only[Jw,f,wp] at hx;rw[LK] at hx;exact(Sc o hx).calls w U aE s k i
 .simp only[Jw,f,wq] at hx;exact j.ref e a h r h' hx g w aE hr u k i
 .simp only[Jw,f,wp] at hx;cases hx
 .simp only[Jw,f,wq] at he hx;exact j.ro e he a h r h' hx
 .simp only[Jw,f,wp] at he;cases he
end Go.Ab
